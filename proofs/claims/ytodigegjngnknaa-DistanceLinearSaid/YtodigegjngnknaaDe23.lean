/- Plain facts and contracts of functions of the program, out of walks. Their conditions stand ahead of each. -/
import Derived.Test.YtodigegjngnknaaDe10
import Derived.Test.YtodigegjngnknaaDe21
import Derived.Below
import Derived.BigQuiet
import Derived.Deep.Draws
import Derived.Deep.QuietTactic
import Derived.Deep.RegionHeld3
import Derived.Laws.CopyOwn
import Derived.Laws.NewBlocks
import Derived.Laws.OwnMore
import Derived.Laws.Pointers
import Derived.Laws.Rows
import Derived.Lib.BitFns
import Derived.Lib.Hide
import Derived.Lib.ItoaNum
import Derived.LoopIn
import Derived.LoopNIn
import Derived.Maps.AppendAt
import Derived.OwnWalk
import Derived.OwnWalkIn
import Derived.RangeFuncBound
import Derived.RangeFuncBox
import Derived.RangeFuncCalls
import Derived.RangeFuncLeaves
import Derived.RangeFuncNested
import Derived.RowKit3
import Derived.Shelf.Abstract
import Derived.Shelf.RegionOpen
import Derived.StillTactics
import Derived.StillTailTactics
import Derived.TacticsInMore
import Derived.Test.YtodigegjngnknaaProg
import Derived.WalkKit
import Derived.WalkLawsBesides
import Derived.WalkSpells
set_option linter.unusedVariables false
set_option linter.unusedSimpArgs false
namespace Go.Proofs.Ytodigegjngnknaa
open Go.RowKit GW NL
set_option maxRecDepth 20000 in
set_option maxHeartbeats 4000000 in
theorem take_any (b o k cr : Nat) (out : List Nat) (A2 : Option Addr) (cd : Nat) (d : List Nat) (t : Nat) (w : World) (hb : w.heap[b]? = some (.cells (u32s out).toArray 82 (0, 0))) (hk : o + k ≤ out.length) (hcr : k ≤ cr) (hcr2 : cr ≤ 140737488355328)
    (hok : Ok out) (h2 : SlW w A2 cd d) (hap : Apart A2 b) (hdk : d.length < k) (ht : t < 4294967296) (hl : out.length ≤ 1000000000) :
    Calls Try.prog 109 #[.slice (some ⟨b, o, none⟩) k cr, .slice A2 d.length cd, .int .u32 (t : Int)] w fun e w' => ∃ x out', e = .returned (.bool x) ∧ Chg [b] w w' ∧ w'.heap[b]? = some (.cells (u32s out').toArray 82 (0, 0)) ∧ TkR out d o k t x out' := by
  have hd := h2.but hap
  refine calls_m hb fun g => ?_
  have hsl : SlW g.w (some ⟨b, o, none⟩) cr ((out.drop o).take k) := (sl_seg hk hcr hcr2 hok).at (blkF_sub g.blk0)
  have hlen := seg_len hk
  have CC : Hid (∀ w, SlW w (some ⟨b, o, none⟩) cr ((out.drop o).take k) → Calls Try.prog 106 #[.slice (some ⟨b, o, none⟩) k cr] w fun e w' => ∃ A c F, e = .returned (.slice A k c) ∧ F.Sl A c ((out.drop o).take k) ∧ New w w' F) := Lib.hid (fun w h => by
    have := clone_any (some ⟨b, o, none⟩) cr ((out.drop o).take k) w h (by omega)
    unfold RLim at this
    simp only [hlen] at this
    exact this)
  have hko : k ≤ 1000000000 := by omega
  have TS := Lib.hid (Tk.start (out := out) (d := d) (o := o) (t := t) hok)
  have HL := Lib.hid hlen
  clear hlen
  go_enter Try.func109, Try.ntmps109
  go_wp2_with (with_reducible refine G.any_mark _ ?_; (try generalize Array.size (World.heap (G.w _)) = bk); (try dsimp only [List.set_cons_zero, List.set_cons_succ]); (try clear g); intro g)
  refine (CC.out _ hsl).mono ?_
  rintro e w1 ⟨Aw, cw, Fw, rfl, hsw, hn⟩
  obtain ⟨g1, rfl⟩ := G.new_ex _ hn
  clear hn hsl g
  revert g1
  intro g
  go_wp2_with (with_reducible refine G.any_mark _ ?_; (try generalize Array.size (World.heap (G.w _)) = bk); (try dsimp only [List.set_cons_zero, List.set_cons_succ]); (try clear g); intro g)
  rename_i mb _ _
  go_loopw [19] (fun i wr => ∃ (k' c1 c2 : Nat) (out' : List Nat), i = .int .i64 k' ∧ k' ≤ k ∧ out.length ≤ out'.length ∧ out'.length ≤ out.length ∧ Hid (Tk out d o t k' c1 c2 out') ∧ ∃ g : G w [b] [(bk, 116, [.int .u32 (c2 : Int)]), (mb, 116, [.int .u32 (c1 : Int)]), (b, 82, u32s out')] [Fw, heapBut w b], wr = g.w) (fun i _ => k - (intOf i).toNat)
  case atStart => exact ⟨0, 0, 0, out, rfl, Nat.zero_le _, Nat.le_refl _, Nat.le_refl _, TS, g, rfl⟩
  case round =>
    clear g CC TS
    obtain ⟨sb, rfl⟩ : ∃ sb : Nat, sb = bk := ⟨_, rfl⟩
    obtain ⟨k', c1, c2, out', rfl, hk', hl1, hl2, TK, g, rfl⟩ := hrel
    by_cases hk2 : k' < k
    · have hpl := u32s_getD (l := out') (j := o + k') (by omega)
      have hx : out'.getD (o + k') 0 < 4294967296 := TK.out.ok.getD _
      have hxe := TK.out.off (o + k') (.inr (Nat.le_refl _))
      have hy := h2.ok.getD k'
      have hc1 := TK.out.carry h2.ok ht
      have hc2 := TK.out.hc2
      have ST := Lib.hid (TK.out.step h2.ok ht (by omega))
      rw [← hxe] at ST
      clear hxe
      have CL := Lib.hid (fun w (hw : SlW w A2 cd d) => limb_any A2 cd d k' w hw (by omega))
      have CM := fun w => cmul_any mb c1 (d.getD k' 0) t 0 hy ht (by decide) hc1 w
      rw [show ((0 : Nat) : Int) = 0 from rfl] at CM
      replace CM := Lib.hid CM
      have hm : (d.getD k' 0 * t + 0 + c1) % 4294967296 < 4294967296 := Nat.mod_lt _ (by decide)
      have CS := Lib.hid (fun w => csub_any sb c2 (out'.getD (o + k') 0) ((d.getD k' 0 * t + 0 + c1) % 4294967296) hx hm hc2 w)
      have hs := Lib.hid (u32s_set out' (o + k') ((out'.getD (o + k') 0 + 4294967296 - (d.getD k' 0 * t + 0 + c1) % 4294967296 - c2) % 4294967296))
      have hll : (out'.set (o + k') ((out'.getD (o + k') 0 + 4294967296 - (d.getD k' 0 * t + 0 + c1) % 4294967296 - c2) % 4294967296)).length = out'.length := List.length_set ..
      generalize (out'.getD (o + k') 0 + 4294967296 - (d.getD k' 0 * t + 0 + c1) % 4294967296 - c2) % 4294967296 = r at *
      generalize brw (out'.getD (o + k') 0) ((d.getD k' 0 * t + 0 + c1) % 4294967296) c2 = c2' at *
      generalize (d.getD k' 0 * t + 0 + c1) % 4294967296 = m at *
      generalize (d.getD k' 0 * t + 0 + c1) / 4294967296 = c1' at *
      generalize out'.getD (o + k') 0 = x at *
      generalize d.getD k' 0 = y at *
      have hl3 := Nat.le_of_eq hll
      have hl4 := Nat.le_of_eq hll.symm
      clear hll TK
      go_wp2_with (with_reducible refine G.any_mark _ ?_; (try generalize Array.size (World.heap (G.w _)) = bk); (try dsimp only [List.set_cons_zero, List.set_cons_succ]); (try clear g); intro g)
      go_region_with (first | (go_at_call 83; refine (CL.out _ (G.sl _ (by simp) hd)).mono ?_; rintro e w1 ⟨rfl, rfl⟩) | (go_at_call 103; refine (CM.out _ (G.blk1 _)).mono ?_; rintro e w1 ⟨rfl, hch, hcb⟩; obtain ⟨g1, rfl⟩ := G.mut1 _ (cs' := [.int .u32 ((c1' : Nat) : Int)]) hch hcb; clear hch hcb; (try clear g); revert g1; intro g) | (go_at_call 120; refine (CS.out _ (G.blk0 _)).mono ?_; rintro e w1 ⟨rfl, hch, hcb⟩; obtain ⟨g1, rfl⟩ := G.mut0 _ (cs' := [.int .u32 ((c2' : Nat) : Int)]) hch hcb; clear hch hcb; (try clear g); revert g1; intro g))
      all_goals ((try simp only [G.drew_eq, G.drewN_eq]); (refine G.any_mark _ ?_; (try generalize Array.size (World.heap (G.w _)) = bk); (try dsimp only [List.set_cons_zero, List.set_cons_succ]); (try clear g); intro g))
      all_goals go_wp2_with (with_reducible refine G.any_mark _ ?_; (try generalize Array.size (World.heap (G.w _)) = bk); (try dsimp only [List.set_cons_zero, List.set_cons_succ]); (try clear g); intro g)
      all_goals obtain ⟨g2, hg2⟩ := g.as (by rw [hs.out])
      all_goals
        exact ⟨⟨k' + 1, c1', c2', out'.set (o + k') r, by go_num, by omega, by omega, by omega, ST, g2, hg2⟩, by simp [intOf]; omega⟩
    · obtain rfl : k' = k := by omega
      have FIN := TK.out.stop h2.ok ht hdk hok
      have hlb := lay_back TK.out.len hk TK.out.off
      have hok' := TK.out.ok
      have hoff := TK.out.off
      have hle := TK.out.len
      rcases FIN with ⟨rfl, f1, f2⟩ | ⟨rfl, f1⟩
      · have HF := Lib.hid f1
        have HF2 := Lib.hid f2
        have HO := Lib.hid hoff
        have HE := Lib.hid hle
        clear f1 f2 hoff hle hlb TK
        go_wp2_with (with_reducible refine G.any_mark _ ?_; (try generalize Array.size (World.heap (G.w _)) = bk); (try dsimp only [List.set_cons_zero, List.set_cons_succ]); (try clear g); intro g)
        go_ret
        exact ⟨false, out', rfl, g.chg, g.blk2, .inr ⟨rfl, HF.out, HE.out, hok', HO.out, HF2.out⟩⟩
      · have HF := Lib.hid f1
        have HB := Lib.hid hlb
        clear f1 hoff hle hlb TK
        have hL := HL.out
        obtain ⟨bw, ow, rfl, _⟩ := lim_cells hsw.lim (by omega)
        have hnews := Lib.hid (lim_news g (by simp) hsw.lim)
        have hspl := Lib.hid (splice_u32s out' o ((out.drop o).take k'))
        rw [hL, HB.out] at hspl
        have hcl : (u32s ((out.drop o).take k')).length = k' := by rw [u32s_len, hL]
        have h1c := Lib.hid (u32s_one ((out.drop o).take k'))
        have hul : o + (u32s ((out.drop o).take k')).length ≤ (u32s out').length := by rw [u32s_len, u32s_len]; omega
        have HCL := Lib.hid (hcl.trans (Nat.min_self k').symm)
        have HUL := Lib.hid hul
        clear hcl hul hL
        generalize u32s ((out.drop o).take k') = cs at *
        go_wp2_with (first | (with_reducible refine G.any_mark _ ?_; (try generalize Array.size (World.heap (G.w _)) = bk); (try dsimp only [List.set_cons_zero, List.set_cons_succ]); (try clear g); intro g) | ((with_reducible show wpList _ _ _ _ _ _); refine wpList_copy_g (o := ⟨some 45, _, _, _, _, _⟩) rfl _ _ 65 65 rfl 82 Try.underlying65 (by kernel_rfl) _ _ k' cr k' cw rfl rfl g 2 rfl o cs HCL.out (fun _ => ⟨rfl, _, rfl, hnews.out⟩) HUL.out h1c.out ?_; clear hnews g; dsimp only [List.set_cons_zero, List.set_cons_succ]; intro g))
        go_ret
        refine ⟨true, out, rfl, g.chg, ?_, .inl ⟨rfl, HF.out, rfl⟩⟩
        exact g.blk2.trans (by rw [hspl.out])
end Go.Proofs.Ytodigegjngnknaa
