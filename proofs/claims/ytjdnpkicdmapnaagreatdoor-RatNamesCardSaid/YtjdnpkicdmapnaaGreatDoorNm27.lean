/- Plain facts and contracts of functions of the program, out of walks. Their conditions stand ahead of each. -/
import Derived.Test.YtjdnpkicdmapnaaGreatDoorNm1
import Derived.Test.YtjdnpkicdmapnaaGreatDoorNm21
import Derived.Test.YtjdnpkicdmapnaaGreatDoorNm26
import Derived.Below
import Derived.BigQuiet
import Derived.Deep.Draws
import Derived.Deep.LoopGhost
import Derived.Deep.QuietTactic
import Derived.Deep.RegionHeld3
import Derived.Defers
import Derived.Laws.BytesString
import Derived.Laws.Cells
import Derived.Laws.CopyOwn
import Derived.Laws.IdiomStrings
import Derived.Laws.NewBlocks
import Derived.Laws.OwnMore
import Derived.Laws.Pointers
import Derived.Laws.Rows
import Derived.Lib.BitFns
import Derived.Lib.Hide
import Derived.Lib.ItoaNum
import Derived.LoopIn
import Derived.LoopNIn
import Derived.Maps.AppendAt
import Derived.OrdersIn
import Derived.OwnWalk
import Derived.OwnWalkIn
import Derived.RangeFuncBound
import Derived.RangeFuncBox
import Derived.RangeFuncCalls
import Derived.RangeFuncLeaves
import Derived.RangeFuncNested
import Derived.RowKit3
import Derived.Shelf.Abstract
import Derived.Shelf.RegionOpen
import Derived.StillTactics
import Derived.StillTailTactics
import Derived.TacticsInMore
import Derived.Test.YtjdnpkicdmapnaaGreatDoorProg
import Derived.WalkKit
import Derived.WalkLawsBesides
import Derived.WalkMore
import Derived.WalkSpells
set_option linter.unusedVariables false
set_option linter.unusedSimpArgs false
set_option exponentiation.threshold 10000
namespace Go.Proofs.YtjdnpkicdmapnaaGreatDoor
open Go.RowKit GW NL
/-- the bytes of a text -/
def bl (s : ByteArray) : List Nat := s.data.toList.map UInt8.toNat
theorem bl_len (s : ByteArray) : (bl s).length = s.size := by simp [bl]
theorem bl_lt (s : ByteArray) : ∀ x ∈ bl s, x < 256 := by
  intro x hx
  obtain ⟨u, _, rfl⟩ := List.mem_map.1 hx
  exact u.toNat_lt
/-- In part F, block b reads as the bytes l. -/
def ByL (F : Frag) (b : Nat) (l : List Nat) : Prop := ∃ cs T f, F b = some (.cells cs T f) ∧ ∀ j, j < l.length → cs[j]? = some (.int .u8 ((l.getD j 0 : Nat) : Int))
theorem ByL.cell {F : Frag} {b : Nat} {l : List Nat} (h : ByL F b l) {w0 : World} {X : List Nat} {M : List Blk} {I : List Frag} (g : G w0 X M I) (hF : F ∈ I) {j : Nat} (hj : j < l.length) : g.w.cell? ⟨b, j, none⟩ = some (.int .u8 ((l.getD j 0 : Nat) : Int)) := by
  obtain ⟨cs, T, f, hb, hc⟩ := h
  have := g.sub F hF b _ hb
  simp [World.cell?, this, hc j hj]
theorem bytesRow_get (s : ByteArray) (c : Nat) (j : Nat) (hj : j < (bl s).length) : (bytesRow s c)[j]? = some (.int .u8 (((bl s).getD j 0 : Nat) : Int)) := by
  have hj' : j < s.data.toList.length := by simpa [bl] using hj
  have hj2 : j < s.data.size := by simpa using hj'
  unfold bytesRow
  rw [Array.getElem?_append_left (by simpa using hj2), Array.getElem?_map, Array.getElem?_eq_getElem hj2]
  unfold bl
  rw [List.getD_eq_getElem?_getD, List.getElem?_map, List.getElem?_eq_getElem hj']
  rfl
/-- a text turned to bytes -/
theorem conv_ex (s : ByteArray) : ∃ (capOf : World → Nat) (cvW : World → World) (fr : World → Frag), ∀ w, (convert 9 96 (.string s)).run Tryz.prog w = .ok (.slice (some ⟨w.heap.size, 0, none⟩) s.size (capOf w)) (cvW w) ∧ New w (cvW w) (fr w) ∧ ByL (fr w) w.heap.size (bl s) := by
  refine ⟨fun w => grownCap w s.size 0 5, fun w => w.drew.alloc (.cells (bytesRow s (grownCap w s.size 0 5)) 5 ((bytesRow s (grownCap w s.size 0 5)).size, (bytesRow s (grownCap w s.size 0 5)).size + 1)),
    fun w => blkF w.heap.size (.cells (bytesRow s (grownCap w s.size 0 5)) 5 ((bytesRow s (grownCap w s.size 0 5)).size, (bytesRow s (grownCap w s.size 0 5)).size + 1)), fun w => ⟨run_bytes_of_string w _ _ _ s Tryz.underlying9 Tryz.underlying96 Tryz.underlying5, ?_, ?_⟩⟩
  · refine ⟨⟨rfl, rfl, rfl, ?_, fun k hk => ?_⟩, blkF_sub ?_, fun k o hk => ?_⟩
    · show w.heap.size ≤ (w.heap.push _).size
      simp
    · show (w.heap.push _)[k]? = w.heap[k]?
      rw [Array.getElem?_push, if_neg (by omega)]
    · show (w.heap.push _)[w.heap.size]? = _
      simp
    · rw [blkF_at hk]; exact Nat.le_refl _
  · exact ⟨bytesRow s (grownCap w s.size 0 5), 5, _, if_pos rfl, fun j hj => bytesRow_get s _ j hj⟩
theorem digit_any (x : Nat) (hx : x < 256) (w : World) : Calls Tryz.prog 150 #[.int .u8 (x : Int)] w fun e w' => e = .returned (.bool (decide (x < 48 ∨ 57 < x))) ∧ w = w' := by
  by_cases h1 : x < 48
  · have h1i : (x : Int) < 48 := by omega
    rw [decide_eq_true (Or.inl h1)]
    go_enter Tryz.func150, Tryz.ntmps150
    go_wp2_with fail
    go_ret
    exact ⟨rfl, rfl⟩
  · have h1i : ¬ ((x : Int) < 48) := by omega
    have h1j : decide ((x : Int) < 48) = false := decide_eq_false h1i
    by_cases h2 : 57 < x
    · have h2i : (57 : Int) < (x : Int) := by omega
      rw [decide_eq_true (Or.inr h2)]
      clear h1 h2
      go_enter Tryz.func150, Tryz.ntmps150
      go_wp2_with fail
      go_ret
      exact ⟨rfl, rfl⟩
    · have h2j : decide ((57 : Int) < (x : Int)) = false := decide_eq_false (by omega)
      have h2i : ¬ ((57 : Int) < (x : Int)) := by omega
      rw [decide_eq_false (by omega)]
      clear h1 h2
      go_enter Tryz.func150, Tryz.ntmps150
      go_wp2_with fail
      go_ret
      exact ⟨rfl, rfl⟩
/-- no digit -/
def NoDig (x : Nat) : Prop := x < 48 ∨ 57 < x
instance (x : Nat) : Decidable (NoDig x) := by unfold NoDig; infer_instance
theorem index_any (b n cap : Nat) (l : List Nat) (w : World) (hn : l.length = n) (hn9 : n ≤ 1000000000) (hl : ∀ x ∈ l, x < 256) (hc : ∀ j, j < n → w.cell? ⟨b, j, none⟩ = some (.int .u8 ((l.getD j 0 : Nat) : Int))) :
    Calls Tryz.prog 149 #[.slice (some ⟨b, 0, none⟩) n cap, .func (.func 150) #[] #[]] w fun e w' => w = w' ∧ ((∃ i, i < n ∧ NoDig (l.getD i 0) ∧ (∀ j, j < i → ¬ NoDig (l.getD j 0)) ∧ e = .returned (.int .i64 (i : Int))) ∨ ((∀ j, j < n → ¬ NoDig (l.getD j 0)) ∧ e = .returned (.int .i64 (-1)))) := by
  go_enter Tryz.func149, Tryz.ntmps149
  go_wp2_with fail
  go_loopg [8] n (fun gk s8 wr => ∃ k : Nat, k + gk = n ∧ s8 = .int .i64 (k : Int) ∧ Hid (∀ j, j < k → ¬ NoDig (l.getD j 0)) ∧ wr = w)
  case atStart => exact ⟨0, by omega, rfl, fun j hj => by omega, rfl⟩
  case round =>
    obtain ⟨k, hk, rfl, HA, rfl⟩ := hrel
    by_cases hlt : k < n
    · have e1 := hc k hlt
      have hx : l.getD k 0 < 256 := by
        rw [List.getD_eq_getElem?_getD, List.getElem?_eq_getElem (by omega)]
        exact hl _ (List.getElem_mem _)
      have C1 := Lib.hid (fun w => digit_any (l.getD k 0) hx w)
      have HAll := HA
      clear hc
      have hki : (k : Int) < (n : Int) := by omega
      by_cases hb : NoDig (l.getD k 0)
      · rw [decide_eq_true (show l.getD k 0 < 48 ∨ 57 < l.getD k 0 from hb)] at C1
        have HB := Lib.hid hb
        clear hb hl
        generalize hgx : l.getD k 0 = x at *
        have HGX := Lib.hid hgx
        clear hgx
        go_wp2_with fail
        refine (C1.out _).mono ?_
        rintro e w1 ⟨rfl, rfl⟩
        go_wp2_with fail
        go_ret
        exact ⟨rfl, .inl ⟨k, hlt, by rw [HGX.out]; exact HB.out, HA.out, rfl⟩⟩
      · rw [decide_eq_false (show ¬ (l.getD k 0 < 48 ∨ 57 < l.getD k 0) from hb)] at C1
        have HB := Lib.hid hb
        clear hb hl
        generalize hgx : l.getD k 0 = x at *
        have HGX := Lib.hid hgx
        clear hgx
        go_wp2_with fail
        refine (C1.out _).mono ?_
        rintro e w1 ⟨rfl, rfl⟩
        go_wp2_with fail
        go_roundg (gk - 1)
        case measure => omega
        case rel => exact ⟨k + 1, by omega, by go_num, fun j hj => by
          rcases Nat.lt_or_ge j k with h | h
          · exact HA.out j h
          · obtain rfl : j = k := by omega
            rw [HGX.out]; exact HB.out, rfl⟩
    · have hkn : k = n := by omega
      have hki : ¬ ((k : Int) < (n : Int)) := by omega
      clear hc hl
      go_wp2_with fail
      go_ret
      exact ⟨rfl, .inr ⟨by rw [← hkn]; exact HA.out, rfl⟩⟩
end Go.Proofs.YtjdnpkicdmapnaaGreatDoor
namespace Go.Proofs.YtjdnpkicdmapnaaGreatDoor
open Go.RowKit GW NL
/-- a number and a fault -/
def RNF (v : Nat) (er pl : Int) (w : World) (e : Ending) (w' : World) : Prop := ∃ A c F, e = .returned (.tuple #[.slice A (limbs v).length c, .agg #[.int .i64 er, .int .i64 pl]]) ∧ F.Sl A c (limbs v) ∧ New w w' F
theorem bl_first (s : ByteArray) (h : 0 < s.size) : (s[0]'h).toNat = (bl s).getD 0 0 := by
  have h' : 0 < s.data.toList.length := by simpa using h
  unfold bl
  rw [List.getD_eq_getElem?_getD, List.getElem?_map, List.getElem?_eq_getElem h']
  simp
  rfl
theorem len_digits {v k : Nat} (h : v < 10 ^ k) (hk : k ≤ 2500) : (limbs v).length ≤ 300 :=
  (limbs_len v 300).2 (Nat.lt_of_lt_of_le h (Nat.le_trans (Nat.pow_le_pow_right (by decide) hk) (Nat.le_of_ble_eq_true rfl)))
set_option maxRecDepth 20000 in
set_option maxHeartbeats 8000000 in
theorem Parse_digits (s : ByteArray) (w : World) (hn : s.size ≤ 2467) (hn0 : s.size ≠ 0) (hd : ∀ j, j < s.size → ¬ NoDig ((bl s).getD j 0)) (hz : ¬ (1 < s.size ∧ (bl s).getD 0 0 = 48)) :
    Calls Tryz.prog 133 #[.string s] w (fun e w' => (dv (bl s) s.size < 2 ^ 8192 → RNF (dv (bl s) s.size) 0 0 w e w') ∧ (¬ dv (bl s) s.size < 2 ^ 8192 → RNF 0 5 0 w e w')) := by
  refine calls_b fun g => ?_
  obtain ⟨capOf, cvW, fr, hcv⟩ := conv_ex s
  have hcv1 := fun w => (hcv w).1
  have HCV := Lib.hid (fun w => (hcv w).2)
  clear hcv
  obtain ⟨l, hl⟩ : ∃ l, bl s = l := ⟨_, rfl⟩
  have hll := bl_len s
  have hlt := bl_lt s
  rw [hl] at hll hlt hd hz
  rw [hl] at HCV ⊢
  obtain ⟨n, hsz⟩ : ∃ n, s.size = n := ⟨_, rfl⟩
  rw [hsz] at hn hn0 hd hz hll hcv1 ⊢
  have hszi : ((s.size : Nat) : Int) = (n : Int) := by omega
  have hsl : Builtin.len = Builtin.len := rfl
  have h1i : ¬ ((2467 : Int) < (n : Int)) := by omega
  have hdec : decide ((2467 : Int) < (n : Int)) = false := decide_eq_false h1i
  go_enter Tryz.func133, Tryz.ntmps133
  go_wp2_with (with_reducible refine G.any_mark _ ?_; (try generalize Array.size (World.heap (G.w _)) = bk); (try dsimp only [List.set_cons_zero, List.set_cons_succ]); (try clear g); intro g)
  obtain ⟨rc, rfl⟩ : ∃ rc : Nat, rc = bk := ⟨_, rfl⟩
  have hby := (HCV.out g.w).2
  obtain ⟨g1, hg1⟩ := g.new_ex (HCV.out g.w).1
  rw [hg1]
  clear hg1
  have CI := index_any g.w.heap.size n (capOf g.w) l g1.w hll (by omega) hlt (fun j hj => hby.cell g1 (by simp) (by omega))
  generalize capOf g.w = cc at *
  generalize fr g.w = F0 at *
  generalize g.w.heap.size = bb at *
  clear g
  revert g1
  intro g CI
  refine CI.mono ?_
  rintro e w1 ⟨rfl, ⟨i, hi, hb, _⟩ | ⟨_, rfl⟩⟩
  · exact absurd hb (hd i hi)
  clear CI hby
  have hn0i : ((n : Int) == 0) = false := by rw [beq_eq_false_iff_ne]; omega
  by_cases h1n : 1 < n
  · have h1ni : (1 : Int) < (n : Int) := by omega
    have hz' : l.getD 0 0 ≠ 48 := fun e => hz ⟨h1n, e⟩
    have hs0 : ∀ h : 0 < s.size, (((s[0]'h).toNat : Int) == 48) = false := fun h => by
      have := bl_first s h
      rw [hl] at this
      rw [beq_eq_false_iff_ne]
      omega
    clear hz hl
    go_wp2_with fail
    have hby := (HCV.out g.w).2
    obtain ⟨g1, hg1⟩ := g.new_ex (HCV.out g.w).1
    rw [hg1]
    clear hg1
    generalize capOf g.w = cc2 at *
    generalize fr g.w = F1 at *
    generalize g.w.heap.size = b2 at *
    clear g hcv1
    revert g1
    intro g
    obtain ⟨gl, hgl⟩ := g.lessI (I' := [F1, heapOf w]) (by simp)
    rw [hgl]
    clear hgl g
    obtain ⟨i0, hi, hzz0, hzz1, hzz2⟩ := info_parts infoU32
    go_loopg [40, 5] n (fun gk s40 s5 wr => ∃ k : Nat, k + gk = n ∧ s40 = .int .i64 (k : Int) ∧ Hid (dv l k < 10 ^ k) ∧ ((Hid (dv l k = 0) ∧ s5 = .slice none 0 0 ∧ ∃ g : G w [] [(rc, 41, [.int .i64 0, .int .i64 0])] [F1, heapOf w], wr = g.w) ∨ (∃ N b cap cs, Hid (dv l k = N ∧ N ≠ 0) ∧ s5 = .slice (some ⟨b, 0, none⟩) (limbs N).length cap ∧ Row 29 1 (limbs N).length (u32s (limbs N)) cap cs ∧ w.heap.size ≤ b ∧ ∃ g : G w [] [(b, 29, cs), (rc, 41, [.int .i64 0, .int .i64 0])] [F1, heapOf w], wr = g.w)))
    case atStart => exact ⟨0, by omega, rfl, Lib.hid (by rw [dv_zero]; decide), .inl ⟨dv_zero l, rfl, gl, rfl⟩⟩
    case round =>
      clear gl
      obtain ⟨ko, rfl⟩ : ∃ ko : Nat, ko = gk := ⟨_, rfl⟩
      obtain ⟨k, hkg, rfl, HLT, hcase⟩ := hrel
      by_cases hk : k < n
      · have hki : (k : Int) < (n : Int) := by omega
        have hxd := hd k hk
        obtain ⟨x, hx⟩ : ∃ x, l.getD k 0 = x := ⟨_, rfl⟩
        rw [hx] at hxd
        have hx1 : 48 ≤ x ∧ x ≤ 57 := by unfold NoDig at hxd; omega
        obtain ⟨d, hdd⟩ : ∃ d, x - 48 = d := ⟨_, rfl⟩
        have hd10 : d < 10 := by omega
        have hsub : IntKind.u8.wrap ((x : Int) - 48) = (d : Int) := by rw [IntKind.wrap_u8]; omega
        have hsub2 : (x : Int) - 48 = (d : Int) := by omega
        have hwd : IntKind.u32.wrap (d : Int) = (d : Int) := by rw [IntKind.wrap_u32]; omega
        have hwd8 : IntKind.u8.wrap (d : Int) = (d : Int) := by rw [IntKind.wrap_u8]; omega
        have HS : Hid (dv l (k + 1) = 10 * dv l k + d) := Lib.hid (by rw [dv_succ (by omega), hx, hdd])
        have HL2 : Hid (dv l (k + 1) < 10 ^ (k + 1)) := Lib.hid (by rw [HS.out, Nat.pow_succ]; have := HLT.out; omega)
        have HX := Lib.hid hx
        have hkn : k + 1 ≤ 2467 := by omega
        clear hxd hx1 hdd hd hx
        rcases hcase with ⟨HZ, rfl, g, rfl⟩ | ⟨N, b, cap, cs, HN, rfl, hrow, hb, g, rfl⟩
        · have e1 := hby.cell g (by simp) (j := k) (by omega)
          rw [HX.out] at e1
          go_wp2_with (with_reducible refine G.any_mark _ ?_; (try generalize Array.size (World.heap (G.w _)) = bk); (try dsimp only [List.set_cons_zero, List.set_cons_succ]); (try clear g); intro g)
          clear e1
          obtain ⟨kb, rfl⟩ : ∃ kb : Nat, kb = bk := ⟨_, rfl⟩
          go_loopg [51] 0 (fun gk s51 wr => s51 = .int .i64 0 ∧ ∃ g : G w [] [(kb, 172, [.int .u32 (d : Int)]), (rc, 41, [.int .i64 0, .int .i64 0])] [F1, heapOf w], wr = g.w)
          case atStart => exact ⟨rfl, g, rfl⟩
          case round =>
            clear g
            obtain ⟨rfl, g, rfl⟩ := hrel
            by_cases hd0 : d = 0
            · subst hd0
              have HZ2 : Hid (dv l (k + 1) = 0) := Lib.hid (by rw [HS.out, HZ.out])
              go_wp2_with (with_reducible refine G.any_mark _ ?_; (try generalize Array.size (World.heap (G.w _)) = bk); (try dsimp only [List.set_cons_zero, List.set_cons_succ]); (try clear g); intro g)
              obtain ⟨g2, hg2⟩ := g.less (M' := [(rc, 41, [.int .i64 0, .int .i64 0])]) (by simp)
              go_roundg (ko - 1)
              case measure => omega
              case rel => exact ⟨k + 1, by omega, by go_num, HL2, .inl ⟨HZ2, rfl, g2, hg2⟩⟩
            · have hdi : (0 : Int) < (d : Int) := by omega
              have HN2 : Hid (dv l (k + 1) = d ∧ d ≠ 0) := Lib.hid ⟨by rw [HS.out, HZ.out]; omega, hd0⟩
              have ed : limbs d = [d] := limbs_one hd0 (by omega)
              have HRW : Hid ((limbs d).length = 1 ∧ u32s (limbs d) = [.int .u32 (d : Int)]) := Lib.hid ⟨by rw [ed]; rfl, by rw [ed]; rfl⟩
              have H1 : ∀ u ∈ [Value.int .u32 (d : Int)], u.oneCell' = true := by intro u hu; rw [List.mem_singleton.1 hu]; rfl
              clear ed
              go_wp2_with (first | (with_reducible refine G.any_mark _ ?_; (try generalize Array.size (World.heap (G.w _)) = bk); (try dsimp only [List.set_cons_zero, List.set_cons_succ]); (try clear g); intro g) | (at_builtin; refine wpList_append_lit0 rfl _ _ 23 rfl 29 i0 _ 1 4 Tryz.underlying23 hi hzz0 hzz1 hzz2 rfl (by decide) g rfl 1 rfl rfl H1 (by decide) (by decide) (by decide) ?_; clear g; intro b cap cs g hb hrow))
              obtain ⟨g2, hg2⟩ := g.less (M' := [(b, 29, cs), (rc, 41, [.int .i64 0, .int .i64 0])]) (by simp)
              go_roundg (ko - 1)
              case measure => omega
              case rel => exact ⟨k + 1, by omega, by go_num, HL2, .inr ⟨d, b, cap, cs, HN2, by rw [HRW.out.1], by rw [HRW.out.1, HRW.out.2]; exact hrow, hb, g2, hg2⟩⟩
        · have e1 := hby.cell g (by simp) (j := k) (by omega)
          rw [HX.out] at e1
          have hm300 : (limbs N).length ≤ 300 := len_digits (k := k) (by rw [← HN.out.1]; exact HLT.out) (by omega)
          have hokN := ok_limbs N
          have TS : Hid (Ten (limbs N) d 0 d []) := Lib.hid (Ten.start (by omega))
          obtain ⟨m, hm⟩ : ∃ m, (limbs N).length = m := ⟨_, rfl⟩
          rw [hm] at hrow hm300 ⊢
          have HM := Lib.hid hm
          clear hm
          go_wp2_with (with_reducible refine G.any_mark _ ?_; (try generalize Array.size (World.heap (G.w _)) = bk); (try dsimp only [List.set_cons_zero, List.set_cons_succ]); (try clear g); intro g)
          clear e1
          obtain ⟨kb, rfl⟩ : ∃ kb : Nat, kb = bk := ⟨_, rfl⟩
          obtain ⟨g2, hg2⟩ := g.perm (List.Perm.swap _ _ _)
          rw [hg2]
          clear hg2 g
          revert g2
          intro g
          go_loopg [51] m (fun gk s51 wr => ∃ (j c : Nat) (pre : List Nat) (cs' : List Value), j + gk = m ∧ s51 = .int .i64 (j : Int) ∧ Hid (Ten (limbs N) d j c pre) ∧ Row 29 1 m (u32s (pre ++ (limbs N).drop j)) cap cs' ∧ ∃ g : G w [] [(b, 29, cs'), (kb, 172, [.int .u32 (c : Int)]), (rc, 41, [.int .i64 0, .int .i64 0])] [F1, heapOf w], wr = g.w)
          case atStart => exact ⟨0, d, [], cs, by omega, rfl, TS, hrow, g, rfl⟩
          case round =>
            clear g hrow TS
            obtain ⟨j, c, pre, cs', hjg, rfl, TJ, hrow, g, rfl⟩ := hrel
            by_cases hj : j < m
            · have hji : (j : Int) < (m : Int) := by omega
              have hle := hrow.le
              have hlenr : (pre ++ (limbs N).drop j).length = m := by rw [List.length_append, List.length_drop, TJ.out.len, HM.out]; omega
              have hcell := hrow.get hlenr hj
              rw [ten_get TJ.out.len] at hcell
              have hy := hokN.getD j
              have hc := TJ.out.lt
              have TJ2 := Lib.hid (TJ.out.step hokN)
              have CM := fun w => cmul_any kb c ((limbs N).getD j 0) 10 0 hy (by decide) (by decide) hc w
              have hlow : ((limbs N).getD j 0 * 10 + 0 + c) % 4294967296 < 4294967296 := Nat.mod_lt _ (by decide)
              have hset := ten_set (xs := limbs N) (x := ((limbs N).getD j 0 * 10 + 0 + c) % 4294967296) TJ.out.len (by rw [HM.out]; exact hj)
              generalize ((limbs N).getD j 0 * 10 + 0 + c) % 4294967296 = lo at *
              generalize ((limbs N).getD j 0 * 10 + 0 + c) / 4294967296 = hi' at *
              generalize (limbs N).getD j 0 = y at *
              rw [show ((0 : Nat) : Int) = 0 from rfl, show ((10 : Nat) : Int) = 10 from rfl] at CM
              replace CM := Lib.hid CM
              have hrow2 := hrow.set (x := lo) hj
              rw [hset] at hrow2
              have HROW := Lib.hid hrow2
              clear hset hrow hrow2 hlenr
              go_wp2_with (with_reducible refine G.any_mark _ ?_; (try generalize Array.size (World.heap (G.w _)) = bk); (try dsimp only [List.set_cons_zero, List.set_cons_succ]); (try clear g); intro g)
              refine (CM.out _ (G.blk1 _)).mono ?_
              rintro e w1 ⟨rfl, hch, hcb⟩
              obtain ⟨g1, rfl⟩ := G.mut1 g (cs' := [.int .u32 ((hi' : Nat) : Int)]) hch hcb
              clear hch hcb g
              revert g1
              intro g
              go_wp2_with (with_reducible refine G.any_mark _ ?_; (try generalize Array.size (World.heap (G.w _)) = bk); (try dsimp only [List.set_cons_zero, List.set_cons_succ]); (try clear g); intro g)
              go_roundg (gk - 1)
              case measure => omega
              case rel => exact ⟨j + 1, hi', pre ++ [lo], _, by omega, by go_num, TJ2, HROW.out, g, rfl⟩
            · obtain rfl : j = m := by omega
              have hji : ¬ ((j : Int) < (j : Int)) := by omega
              have TE := TJ.out
              rw [← HM.out] at TE
              rw [List.drop_of_length_le (by rw [HM.out]; exact Nat.le_refl _), List.append_nil] at hrow
              by_cases hc0 : c = 0
              · subst hc0
                have hpre := TE.same
                have HN2 : Hid (dv l (k + 1) = 10 * N + d ∧ 10 * N + d ≠ 0) := Lib.hid ⟨by rw [HS.out, HN.out.1], by have := HN.out.2; omega⟩
                have HLN : Hid ((limbs (10 * N + d)).length = j) := Lib.hid (by rw [← hpre, TE.len, HM.out])
                have HROW : Hid (Row 29 1 j (u32s (limbs (10 * N + d))) cap cs') := Lib.hid (by rw [← hpre]; exact hrow)
                clear hpre hrow TE TJ
                go_wp2_with (with_reducible refine G.any_mark _ ?_; (try generalize Array.size (World.heap (G.w _)) = bk); (try dsimp only [List.set_cons_zero, List.set_cons_succ]); (try clear g); intro g)
                obtain ⟨g2, hg2⟩ := g.less (M' := [(b, 29, cs'), (rc, 41, [.int .i64 0, .int .i64 0])]) (by simp)
                go_roundg (ko - 1)
                case measure => omega
                case rel => exact ⟨k + 1, by omega, by go_num, HL2, .inr ⟨10 * N + d, b, cap, cs', HN2, by rw [HLN.out], by rw [HLN.out]; exact HROW.out, hb, g2, hg2⟩⟩
              · have hci : (0 : Int) < (c : Int) := by omega
                have hpre := TE.more hc0
                have HN2 : Hid (dv l (k + 1) = 10 * N + d ∧ 10 * N + d ≠ 0) := Lib.hid ⟨by rw [HS.out, HN.out.1], by have := HN.out.2; omega⟩
                have HLN : Hid ((limbs (10 * N + d)).length = j + 1) := Lib.hid (by rw [← hpre, List.length_append, TE.len, HM.out]; rfl)
                have HAP : Hid (u32s (limbs (10 * N + d)) = u32s pre ++ [.int .u32 (c : Int)]) := Lib.hid (by rw [← hpre, u32s_append]; rfl)
                have H1 : ∀ u ∈ [Value.int .u32 (c : Int)], u.oneCell' = true := by intro u hu; rw [List.mem_singleton.1 hu]; rfl
                have H2 : j + 1 ≤ maxLen := by show j + 1 ≤ 9223372036854775807; omega
                have H3 : (j + 1) * 4 ≤ 140737488355328 := by omega
                clear hpre TE TJ
                go_wp2_with (first | (with_reducible refine G.any_mark _ ?_; (try generalize Array.size (World.heap (G.w _)) = bk); (try dsimp only [List.set_cons_zero, List.set_cons_succ]); (try clear g); intro g) | (at_builtin; refine wpList_append_lit rfl _ _ 23 rfl 29 i0 _ 1 4 Tryz.underlying23 hi hzz0 hzz1 hzz2 rfl (by decide) g hrow hb rfl 1 rfl rfl H1 (by decide) H2 H3 ?_; clear hb hrow g; intro b cap cs g hb hrow))
                obtain ⟨g2, hg2⟩ := g.less (M' := [(b, 29, cs), (rc, 41, [.int .i64 0, .int .i64 0])]) (by simp)
                go_roundg (ko - 1)
                case measure => omega
                case rel => exact ⟨k + 1, by omega, by go_num, HL2, .inr ⟨10 * N + d, b, cap, cs, HN2, by rw [HLN.out], by rw [HLN.out, HAP.out]; exact hrow, hb, g2, hg2⟩⟩
      · obtain rfl : k = n := by omega
        have hki : ¬ ((k : Int) < (k : Int)) := by omega
        rcases hcase with ⟨HZ, rfl, g, rfl⟩ | ⟨N, b, cap, cs, HN, rfl, hrow, hb, g, rfl⟩
        · have CF := fits_yes none 0 0
          rw [limbs_zero, List.length_nil] at CF
          replace CF := Lib.hid CF
          have HB0 : Hid (0 < 2 ^ 8192) := Lib.hid (Nat.two_pow_pos _)
          have hsn : SlW g.w none 0 [] := Frag.Sl.nil _ _
          go_wp2_with (with_reducible refine G.any_mark _ ?_; (try generalize Array.size (World.heap (G.w _)) = bk); (try dsimp only [List.set_cons_zero, List.set_cons_succ]); (try clear g); intro g)
          refine (CF.out _ hsn HB0.out).mono ?_
          rintro e w1 ⟨rfl, hb⟩
          obtain ⟨g1, rfl⟩ := G.call_ex _ hb
          clear hb
          (try clear g)
          revert g1
          intro g
          clear hsn
          go_wp2_with (with_reducible refine G.any_mark _ ?_; (try generalize Array.size (World.heap (G.w _)) = bk); (try dsimp only [List.set_cons_zero, List.set_cons_succ]); (try clear g); intro g)
          ((try simp only [G.drew_eq, G.drewN_eq]); (refine G.any_mark _ ?_; (try generalize Array.size (World.heap (G.w _)) = bk); (try dsimp only [List.set_cons_zero, List.set_cons_succ]); (try clear g); intro g))
          refine bodyPost_ret (v := .tuple #[.slice none 0 0, .agg #[.int .i64 0, .int .i64 0]]) (by simp [results, Tryz.f133, go_sem]) rfl ⟨fun _ => ?_, fun h => absurd (by rw [HZ.out]; exact HB0.out) h⟩
          rw [HZ.out]
          exact ⟨none, 0, (fun _ => none), by rw [limbs_zero]; rfl, by rw [limbs_zero]; exact Frag.Sl.nil _ _, g.none⟩
        · have hsl : SlW g.w (some ⟨b, 0, none⟩) cap (limbs N) := (sl_row hrow rfl (by have h300 : (limbs N).length ≤ 300 := len_digits (v := N) (k := k) (by rw [← HN.out.1]; exact HLT.out) (by omega); omega) (ok_limbs N)).at (blkF_sub g.blk0)
          have HM0 : Hid ((limbs N).length ≤ 140737488355328) := Lib.hid (by have h300 : (limbs N).length ≤ 300 := len_digits (v := N) (k := k) (by rw [← HN.out.1]; exact HLT.out) (by omega); omega)
          by_cases hN8 : N < 2 ^ 8192
          · have CF := Lib.hid (fun w h => fits_yes (some ⟨b, 0, none⟩) cap N w h hN8)
            have H8 := Lib.hid hN8
            clear hN8
            go_wp2_with (with_reducible refine G.any_mark _ ?_; (try generalize Array.size (World.heap (G.w _)) = bk); (try dsimp only [List.set_cons_zero, List.set_cons_succ]); (try clear g); intro g)
            refine (CF.out _ hsl).mono ?_
            rintro e w1 ⟨rfl, hb⟩
            obtain ⟨g1, rfl⟩ := G.call_ex _ hb
            clear hb
            (try clear g)
            revert g1
            intro g
            clear hsl
            go_wp2_with (with_reducible refine G.any_mark _ ?_; (try generalize Array.size (World.heap (G.w _)) = bk); (try dsimp only [List.set_cons_zero, List.set_cons_succ]); (try clear g); intro g)
            ((try simp only [G.drew_eq, G.drewN_eq]); (refine G.any_mark _ ?_; (try generalize Array.size (World.heap (G.w _)) = bk); (try dsimp only [List.set_cons_zero, List.set_cons_succ]); (try clear g); intro g))
            have hlen := HM0.out
            refine bodyPost_ret (v := .tuple #[.slice (some ⟨b, 0, none⟩) (limbs N).length cap, .agg #[.int .i64 0, .int .i64 0]]) (by simp [results, Tryz.f133, go_sem]) rfl ⟨fun _ => ?_, fun h => absurd (by rw [HN.out.1]; exact H8.out) h⟩
            rw [HN.out.1]
            exact ⟨_, cap, _, rfl, sl_row hrow rfl hlen (ok_limbs N), g.give (List.mem_cons_self ..)⟩
          · have CF := Lib.hid (fun w h => fits_no (some ⟨b, 0, none⟩) cap N w h hN8)
            have H8 := Lib.hid hN8
            clear hN8
            go_wp2_with (with_reducible refine G.any_mark _ ?_; (try generalize Array.size (World.heap (G.w _)) = bk); (try dsimp only [List.set_cons_zero, List.set_cons_succ]); (try clear g); intro g)
            refine (CF.out _ hsl).mono ?_
            rintro e w1 ⟨rfl, hb⟩
            obtain ⟨g1, rfl⟩ := G.call_ex _ hb
            clear hb
            (try clear g)
            revert g1
            intro g
            clear hsl
            go_wp2_with (with_reducible refine G.any_mark _ ?_; (try generalize Array.size (World.heap (G.w _)) = bk); (try dsimp only [List.set_cons_zero, List.set_cons_succ]); (try clear g); intro g)
            ((try simp only [G.drew_eq, G.drewN_eq]); (refine G.any_mark _ ?_; (try generalize Array.size (World.heap (G.w _)) = bk); (try dsimp only [List.set_cons_zero, List.set_cons_succ]); (try clear g); intro g))
            refine bodyPost_ret (v := .tuple #[.slice none 0 0, .agg #[.int .i64 5, .int .i64 0]]) (by simp [results, Tryz.f133, go_sem]) rfl ⟨fun h => absurd (by rw [HN.out.1] at h; exact h) H8.out, fun _ => ?_⟩
            exact ⟨none, 0, (fun _ => none), by rw [limbs_zero]; rfl, by rw [limbs_zero]; exact Frag.Sl.nil _ _, g.none⟩

  · have h1ni : ¬ ((1 : Int) < (n : Int)) := by omega
    clear hz hl
    go_wp2_with fail
    have hby := (HCV.out g.w).2
    obtain ⟨g1, hg1⟩ := g.new_ex (HCV.out g.w).1
    rw [hg1]
    clear hg1
    generalize capOf g.w = cc2 at *
    generalize fr g.w = F1 at *
    generalize g.w.heap.size = b2 at *
    clear g hcv1
    revert g1
    intro g
    obtain ⟨gl, hgl⟩ := g.lessI (I' := [F1, heapOf w]) (by simp)
    rw [hgl]
    clear hgl g
    obtain ⟨i0, hi, hzz0, hzz1, hzz2⟩ := info_parts infoU32
    go_loopg [40, 5] n (fun gk s40 s5 wr => ∃ k : Nat, k + gk = n ∧ s40 = .int .i64 (k : Int) ∧ Hid (dv l k < 10 ^ k) ∧ ((Hid (dv l k = 0) ∧ s5 = .slice none 0 0 ∧ ∃ g : G w [] [(rc, 41, [.int .i64 0, .int .i64 0])] [F1, heapOf w], wr = g.w) ∨ (∃ N b cap cs, Hid (dv l k = N ∧ N ≠ 0) ∧ s5 = .slice (some ⟨b, 0, none⟩) (limbs N).length cap ∧ Row 29 1 (limbs N).length (u32s (limbs N)) cap cs ∧ w.heap.size ≤ b ∧ ∃ g : G w [] [(b, 29, cs), (rc, 41, [.int .i64 0, .int .i64 0])] [F1, heapOf w], wr = g.w)))
    case atStart => exact ⟨0, by omega, rfl, Lib.hid (by rw [dv_zero]; decide), .inl ⟨dv_zero l, rfl, gl, rfl⟩⟩
    case round =>
      clear gl
      obtain ⟨ko, rfl⟩ : ∃ ko : Nat, ko = gk := ⟨_, rfl⟩
      obtain ⟨k, hkg, rfl, HLT, hcase⟩ := hrel
      by_cases hk : k < n
      · have hki : (k : Int) < (n : Int) := by omega
        have hxd := hd k hk
        obtain ⟨x, hx⟩ : ∃ x, l.getD k 0 = x := ⟨_, rfl⟩
        rw [hx] at hxd
        have hx1 : 48 ≤ x ∧ x ≤ 57 := by unfold NoDig at hxd; omega
        obtain ⟨d, hdd⟩ : ∃ d, x - 48 = d := ⟨_, rfl⟩
        have hd10 : d < 10 := by omega
        have hsub : IntKind.u8.wrap ((x : Int) - 48) = (d : Int) := by rw [IntKind.wrap_u8]; omega
        have hsub2 : (x : Int) - 48 = (d : Int) := by omega
        have hwd : IntKind.u32.wrap (d : Int) = (d : Int) := by rw [IntKind.wrap_u32]; omega
        have hwd8 : IntKind.u8.wrap (d : Int) = (d : Int) := by rw [IntKind.wrap_u8]; omega
        have HS : Hid (dv l (k + 1) = 10 * dv l k + d) := Lib.hid (by rw [dv_succ (by omega), hx, hdd])
        have HL2 : Hid (dv l (k + 1) < 10 ^ (k + 1)) := Lib.hid (by rw [HS.out, Nat.pow_succ]; have := HLT.out; omega)
        have HX := Lib.hid hx
        have hkn : k + 1 ≤ 2467 := by omega
        clear hxd hx1 hdd hd hx
        rcases hcase with ⟨HZ, rfl, g, rfl⟩ | ⟨N, b, cap, cs, HN, rfl, hrow, hb, g, rfl⟩
        · have e1 := hby.cell g (by simp) (j := k) (by omega)
          rw [HX.out] at e1
          go_wp2_with (with_reducible refine G.any_mark _ ?_; (try generalize Array.size (World.heap (G.w _)) = bk); (try dsimp only [List.set_cons_zero, List.set_cons_succ]); (try clear g); intro g)
          clear e1
          obtain ⟨kb, rfl⟩ : ∃ kb : Nat, kb = bk := ⟨_, rfl⟩
          go_loopg [51] 0 (fun gk s51 wr => s51 = .int .i64 0 ∧ ∃ g : G w [] [(kb, 172, [.int .u32 (d : Int)]), (rc, 41, [.int .i64 0, .int .i64 0])] [F1, heapOf w], wr = g.w)
          case atStart => exact ⟨rfl, g, rfl⟩
          case round =>
            clear g
            obtain ⟨rfl, g, rfl⟩ := hrel
            by_cases hd0 : d = 0
            · subst hd0
              have HZ2 : Hid (dv l (k + 1) = 0) := Lib.hid (by rw [HS.out, HZ.out])
              go_wp2_with (with_reducible refine G.any_mark _ ?_; (try generalize Array.size (World.heap (G.w _)) = bk); (try dsimp only [List.set_cons_zero, List.set_cons_succ]); (try clear g); intro g)
              obtain ⟨g2, hg2⟩ := g.less (M' := [(rc, 41, [.int .i64 0, .int .i64 0])]) (by simp)
              go_roundg (ko - 1)
              case measure => omega
              case rel => exact ⟨k + 1, by omega, by go_num, HL2, .inl ⟨HZ2, rfl, g2, hg2⟩⟩
            · have hdi : (0 : Int) < (d : Int) := by omega
              have HN2 : Hid (dv l (k + 1) = d ∧ d ≠ 0) := Lib.hid ⟨by rw [HS.out, HZ.out]; omega, hd0⟩
              have ed : limbs d = [d] := limbs_one hd0 (by omega)
              have HRW : Hid ((limbs d).length = 1 ∧ u32s (limbs d) = [.int .u32 (d : Int)]) := Lib.hid ⟨by rw [ed]; rfl, by rw [ed]; rfl⟩
              have H1 : ∀ u ∈ [Value.int .u32 (d : Int)], u.oneCell' = true := by intro u hu; rw [List.mem_singleton.1 hu]; rfl
              clear ed
              go_wp2_with (first | (with_reducible refine G.any_mark _ ?_; (try generalize Array.size (World.heap (G.w _)) = bk); (try dsimp only [List.set_cons_zero, List.set_cons_succ]); (try clear g); intro g) | (at_builtin; refine wpList_append_lit0 rfl _ _ 23 rfl 29 i0 _ 1 4 Tryz.underlying23 hi hzz0 hzz1 hzz2 rfl (by decide) g rfl 1 rfl rfl H1 (by decide) (by decide) (by decide) ?_; clear g; intro b cap cs g hb hrow))
              obtain ⟨g2, hg2⟩ := g.less (M' := [(b, 29, cs), (rc, 41, [.int .i64 0, .int .i64 0])]) (by simp)
              go_roundg (ko - 1)
              case measure => omega
              case rel => exact ⟨k + 1, by omega, by go_num, HL2, .inr ⟨d, b, cap, cs, HN2, by rw [HRW.out.1], by rw [HRW.out.1, HRW.out.2]; exact hrow, hb, g2, hg2⟩⟩
        · have e1 := hby.cell g (by simp) (j := k) (by omega)
          rw [HX.out] at e1
          have hm300 : (limbs N).length ≤ 300 := len_digits (k := k) (by rw [← HN.out.1]; exact HLT.out) (by omega)
          have hokN := ok_limbs N
          have TS : Hid (Ten (limbs N) d 0 d []) := Lib.hid (Ten.start (by omega))
          obtain ⟨m, hm⟩ : ∃ m, (limbs N).length = m := ⟨_, rfl⟩
          rw [hm] at hrow hm300 ⊢
          have HM := Lib.hid hm
          clear hm
          go_wp2_with (with_reducible refine G.any_mark _ ?_; (try generalize Array.size (World.heap (G.w _)) = bk); (try dsimp only [List.set_cons_zero, List.set_cons_succ]); (try clear g); intro g)
          clear e1
          obtain ⟨kb, rfl⟩ : ∃ kb : Nat, kb = bk := ⟨_, rfl⟩
          obtain ⟨g2, hg2⟩ := g.perm (List.Perm.swap _ _ _)
          rw [hg2]
          clear hg2 g
          revert g2
          intro g
          go_loopg [51] m (fun gk s51 wr => ∃ (j c : Nat) (pre : List Nat) (cs' : List Value), j + gk = m ∧ s51 = .int .i64 (j : Int) ∧ Hid (Ten (limbs N) d j c pre) ∧ Row 29 1 m (u32s (pre ++ (limbs N).drop j)) cap cs' ∧ ∃ g : G w [] [(b, 29, cs'), (kb, 172, [.int .u32 (c : Int)]), (rc, 41, [.int .i64 0, .int .i64 0])] [F1, heapOf w], wr = g.w)
          case atStart => exact ⟨0, d, [], cs, by omega, rfl, TS, hrow, g, rfl⟩
          case round =>
            clear g hrow TS
            obtain ⟨j, c, pre, cs', hjg, rfl, TJ, hrow, g, rfl⟩ := hrel
            by_cases hj : j < m
            · have hji : (j : Int) < (m : Int) := by omega
              have hle := hrow.le
              have hlenr : (pre ++ (limbs N).drop j).length = m := by rw [List.length_append, List.length_drop, TJ.out.len, HM.out]; omega
              have hcell := hrow.get hlenr hj
              rw [ten_get TJ.out.len] at hcell
              have hy := hokN.getD j
              have hc := TJ.out.lt
              have TJ2 := Lib.hid (TJ.out.step hokN)
              have CM := fun w => cmul_any kb c ((limbs N).getD j 0) 10 0 hy (by decide) (by decide) hc w
              have hlow : ((limbs N).getD j 0 * 10 + 0 + c) % 4294967296 < 4294967296 := Nat.mod_lt _ (by decide)
              have hset := ten_set (xs := limbs N) (x := ((limbs N).getD j 0 * 10 + 0 + c) % 4294967296) TJ.out.len (by rw [HM.out]; exact hj)
              generalize ((limbs N).getD j 0 * 10 + 0 + c) % 4294967296 = lo at *
              generalize ((limbs N).getD j 0 * 10 + 0 + c) / 4294967296 = hi' at *
              generalize (limbs N).getD j 0 = y at *
              rw [show ((0 : Nat) : Int) = 0 from rfl, show ((10 : Nat) : Int) = 10 from rfl] at CM
              replace CM := Lib.hid CM
              have hrow2 := hrow.set (x := lo) hj
              rw [hset] at hrow2
              have HROW := Lib.hid hrow2
              clear hset hrow hrow2 hlenr
              go_wp2_with (with_reducible refine G.any_mark _ ?_; (try generalize Array.size (World.heap (G.w _)) = bk); (try dsimp only [List.set_cons_zero, List.set_cons_succ]); (try clear g); intro g)
              refine (CM.out _ (G.blk1 _)).mono ?_
              rintro e w1 ⟨rfl, hch, hcb⟩
              obtain ⟨g1, rfl⟩ := G.mut1 g (cs' := [.int .u32 ((hi' : Nat) : Int)]) hch hcb
              clear hch hcb g
              revert g1
              intro g
              go_wp2_with (with_reducible refine G.any_mark _ ?_; (try generalize Array.size (World.heap (G.w _)) = bk); (try dsimp only [List.set_cons_zero, List.set_cons_succ]); (try clear g); intro g)
              go_roundg (gk - 1)
              case measure => omega
              case rel => exact ⟨j + 1, hi', pre ++ [lo], _, by omega, by go_num, TJ2, HROW.out, g, rfl⟩
            · obtain rfl : j = m := by omega
              have hji : ¬ ((j : Int) < (j : Int)) := by omega
              have TE := TJ.out
              rw [← HM.out] at TE
              rw [List.drop_of_length_le (by rw [HM.out]; exact Nat.le_refl _), List.append_nil] at hrow
              by_cases hc0 : c = 0
              · subst hc0
                have hpre := TE.same
                have HN2 : Hid (dv l (k + 1) = 10 * N + d ∧ 10 * N + d ≠ 0) := Lib.hid ⟨by rw [HS.out, HN.out.1], by have := HN.out.2; omega⟩
                have HLN : Hid ((limbs (10 * N + d)).length = j) := Lib.hid (by rw [← hpre, TE.len, HM.out])
                have HROW : Hid (Row 29 1 j (u32s (limbs (10 * N + d))) cap cs') := Lib.hid (by rw [← hpre]; exact hrow)
                clear hpre hrow TE TJ
                go_wp2_with (with_reducible refine G.any_mark _ ?_; (try generalize Array.size (World.heap (G.w _)) = bk); (try dsimp only [List.set_cons_zero, List.set_cons_succ]); (try clear g); intro g)
                obtain ⟨g2, hg2⟩ := g.less (M' := [(b, 29, cs'), (rc, 41, [.int .i64 0, .int .i64 0])]) (by simp)
                go_roundg (ko - 1)
                case measure => omega
                case rel => exact ⟨k + 1, by omega, by go_num, HL2, .inr ⟨10 * N + d, b, cap, cs', HN2, by rw [HLN.out], by rw [HLN.out]; exact HROW.out, hb, g2, hg2⟩⟩
              · have hci : (0 : Int) < (c : Int) := by omega
                have hpre := TE.more hc0
                have HN2 : Hid (dv l (k + 1) = 10 * N + d ∧ 10 * N + d ≠ 0) := Lib.hid ⟨by rw [HS.out, HN.out.1], by have := HN.out.2; omega⟩
                have HLN : Hid ((limbs (10 * N + d)).length = j + 1) := Lib.hid (by rw [← hpre, List.length_append, TE.len, HM.out]; rfl)
                have HAP : Hid (u32s (limbs (10 * N + d)) = u32s pre ++ [.int .u32 (c : Int)]) := Lib.hid (by rw [← hpre, u32s_append]; rfl)
                have H1 : ∀ u ∈ [Value.int .u32 (c : Int)], u.oneCell' = true := by intro u hu; rw [List.mem_singleton.1 hu]; rfl
                have H2 : j + 1 ≤ maxLen := by show j + 1 ≤ 9223372036854775807; omega
                have H3 : (j + 1) * 4 ≤ 140737488355328 := by omega
                clear hpre TE TJ
                go_wp2_with (first | (with_reducible refine G.any_mark _ ?_; (try generalize Array.size (World.heap (G.w _)) = bk); (try dsimp only [List.set_cons_zero, List.set_cons_succ]); (try clear g); intro g) | (at_builtin; refine wpList_append_lit rfl _ _ 23 rfl 29 i0 _ 1 4 Tryz.underlying23 hi hzz0 hzz1 hzz2 rfl (by decide) g hrow hb rfl 1 rfl rfl H1 (by decide) H2 H3 ?_; clear hb hrow g; intro b cap cs g hb hrow))
                obtain ⟨g2, hg2⟩ := g.less (M' := [(b, 29, cs), (rc, 41, [.int .i64 0, .int .i64 0])]) (by simp)
                go_roundg (ko - 1)
                case measure => omega
                case rel => exact ⟨k + 1, by omega, by go_num, HL2, .inr ⟨10 * N + d, b, cap, cs, HN2, by rw [HLN.out], by rw [HLN.out, HAP.out]; exact hrow, hb, g2, hg2⟩⟩
      · obtain rfl : k = n := by omega
        have hki : ¬ ((k : Int) < (k : Int)) := by omega
        rcases hcase with ⟨HZ, rfl, g, rfl⟩ | ⟨N, b, cap, cs, HN, rfl, hrow, hb, g, rfl⟩
        · have CF := fits_yes none 0 0
          rw [limbs_zero, List.length_nil] at CF
          replace CF := Lib.hid CF
          have HB0 : Hid (0 < 2 ^ 8192) := Lib.hid (Nat.two_pow_pos _)
          have hsn : SlW g.w none 0 [] := Frag.Sl.nil _ _
          go_wp2_with (with_reducible refine G.any_mark _ ?_; (try generalize Array.size (World.heap (G.w _)) = bk); (try dsimp only [List.set_cons_zero, List.set_cons_succ]); (try clear g); intro g)
          refine (CF.out _ hsn HB0.out).mono ?_
          rintro e w1 ⟨rfl, hb⟩
          obtain ⟨g1, rfl⟩ := G.call_ex _ hb
          clear hb
          (try clear g)
          revert g1
          intro g
          clear hsn
          go_wp2_with (with_reducible refine G.any_mark _ ?_; (try generalize Array.size (World.heap (G.w _)) = bk); (try dsimp only [List.set_cons_zero, List.set_cons_succ]); (try clear g); intro g)
          ((try simp only [G.drew_eq, G.drewN_eq]); (refine G.any_mark _ ?_; (try generalize Array.size (World.heap (G.w _)) = bk); (try dsimp only [List.set_cons_zero, List.set_cons_succ]); (try clear g); intro g))
          refine bodyPost_ret (v := .tuple #[.slice none 0 0, .agg #[.int .i64 0, .int .i64 0]]) (by simp [results, Tryz.f133, go_sem]) rfl ⟨fun _ => ?_, fun h => absurd (by rw [HZ.out]; exact HB0.out) h⟩
          rw [HZ.out]
          exact ⟨none, 0, (fun _ => none), by rw [limbs_zero]; rfl, by rw [limbs_zero]; exact Frag.Sl.nil _ _, g.none⟩
        · have hsl : SlW g.w (some ⟨b, 0, none⟩) cap (limbs N) := (sl_row hrow rfl (by have h300 : (limbs N).length ≤ 300 := len_digits (v := N) (k := k) (by rw [← HN.out.1]; exact HLT.out) (by omega); omega) (ok_limbs N)).at (blkF_sub g.blk0)
          have HM0 : Hid ((limbs N).length ≤ 140737488355328) := Lib.hid (by have h300 : (limbs N).length ≤ 300 := len_digits (v := N) (k := k) (by rw [← HN.out.1]; exact HLT.out) (by omega); omega)
          by_cases hN8 : N < 2 ^ 8192
          · have CF := Lib.hid (fun w h => fits_yes (some ⟨b, 0, none⟩) cap N w h hN8)
            have H8 := Lib.hid hN8
            clear hN8
            go_wp2_with (with_reducible refine G.any_mark _ ?_; (try generalize Array.size (World.heap (G.w _)) = bk); (try dsimp only [List.set_cons_zero, List.set_cons_succ]); (try clear g); intro g)
            refine (CF.out _ hsl).mono ?_
            rintro e w1 ⟨rfl, hb⟩
            obtain ⟨g1, rfl⟩ := G.call_ex _ hb
            clear hb
            (try clear g)
            revert g1
            intro g
            clear hsl
            go_wp2_with (with_reducible refine G.any_mark _ ?_; (try generalize Array.size (World.heap (G.w _)) = bk); (try dsimp only [List.set_cons_zero, List.set_cons_succ]); (try clear g); intro g)
            ((try simp only [G.drew_eq, G.drewN_eq]); (refine G.any_mark _ ?_; (try generalize Array.size (World.heap (G.w _)) = bk); (try dsimp only [List.set_cons_zero, List.set_cons_succ]); (try clear g); intro g))
            have hlen := HM0.out
            refine bodyPost_ret (v := .tuple #[.slice (some ⟨b, 0, none⟩) (limbs N).length cap, .agg #[.int .i64 0, .int .i64 0]]) (by simp [results, Tryz.f133, go_sem]) rfl ⟨fun _ => ?_, fun h => absurd (by rw [HN.out.1]; exact H8.out) h⟩
            rw [HN.out.1]
            exact ⟨_, cap, _, rfl, sl_row hrow rfl hlen (ok_limbs N), g.give (List.mem_cons_self ..)⟩
          · have CF := Lib.hid (fun w h => fits_no (some ⟨b, 0, none⟩) cap N w h hN8)
            have H8 := Lib.hid hN8
            clear hN8
            go_wp2_with (with_reducible refine G.any_mark _ ?_; (try generalize Array.size (World.heap (G.w _)) = bk); (try dsimp only [List.set_cons_zero, List.set_cons_succ]); (try clear g); intro g)
            refine (CF.out _ hsl).mono ?_
            rintro e w1 ⟨rfl, hb⟩
            obtain ⟨g1, rfl⟩ := G.call_ex _ hb
            clear hb
            (try clear g)
            revert g1
            intro g
            clear hsl
            go_wp2_with (with_reducible refine G.any_mark _ ?_; (try generalize Array.size (World.heap (G.w _)) = bk); (try dsimp only [List.set_cons_zero, List.set_cons_succ]); (try clear g); intro g)
            ((try simp only [G.drew_eq, G.drewN_eq]); (refine G.any_mark _ ?_; (try generalize Array.size (World.heap (G.w _)) = bk); (try dsimp only [List.set_cons_zero, List.set_cons_succ]); (try clear g); intro g))
            refine bodyPost_ret (v := .tuple #[.slice none 0 0, .agg #[.int .i64 5, .int .i64 0]]) (by simp [results, Tryz.f133, go_sem]) rfl ⟨fun h => absurd (by rw [HN.out.1] at h; exact h) H8.out, fun _ => ?_⟩
            exact ⟨none, 0, (fun _ => none), by rw [limbs_zero]; rfl, by rw [limbs_zero]; exact Frag.Sl.nil _ _, g.none⟩
end Go.Proofs.YtjdnpkicdmapnaaGreatDoor
namespace Go.Proofs.YtjdnpkicdmapnaaGreatDoor
open Go.RowKit GW NL
theorem rnf_err {w0 : World} {M : List Blk} {I : List Frag} (g : G w0 [] M I) (x y : Int) : RNF 0 x y w0 (.returned (.tuple #[.slice none 0 0, .agg #[.int .i64 x, .int .i64 y]])) g.w :=
  ⟨none, 0, (fun _ => none), by rw [limbs_zero]; rfl, by rw [limbs_zero]; exact Frag.Sl.nil _ _, g.none⟩
theorem Parse_long (s : ByteArray) (w : World) (hn : 2467 < s.size) (hn9 : s.size ≤ 1000000000) :
    Calls Tryz.prog 133 #[.string s] w (RNF 0 4 2467 w) := by
  refine calls_b fun g => ?_
  obtain ⟨n, hsz⟩ : ∃ n, s.size = n := ⟨_, rfl⟩
  rw [hsz] at hn hn9
  have h1i : (2467 : Int) < (n : Int) := by omega
  clear hn
  go_enter Tryz.func133, Tryz.ntmps133
  go_wp2_with (with_reducible refine G.any_mark _ ?_; (try generalize Array.size (World.heap (G.w _)) = bk); (try dsimp only [List.set_cons_zero, List.set_cons_succ]); (try clear g); intro g)
  ((try simp only [G.drew_eq, G.drewN_eq]); (refine G.any_mark _ ?_; (try generalize Array.size (World.heap (G.w _)) = bk); (try dsimp only [List.set_cons_zero, List.set_cons_succ]); (try clear g); intro g))
  refine bodyPost_ret (v := .tuple #[.slice none 0 0, .agg #[.int .i64 4, .int .i64 2467]]) (by simp [results, Tryz.f133, go_sem]) rfl ?_
  exact rnf_err g _ _
set_option maxRecDepth 20000 in
theorem Parse_bad (s : ByteArray) (w : World) (hn : s.size ≤ 2467) (i : Nat) (hi : i < s.size) (hb : NoDig ((bl s).getD i 0)) (hd : ∀ j, j < i → ¬ NoDig ((bl s).getD j 0)) :
    Calls Tryz.prog 133 #[.string s] w (RNF 0 11 i w) := by
  refine calls_b fun g => ?_
  obtain ⟨capOf, cvW, fr, hcv⟩ := conv_ex s
  have hcv1 := fun w => (hcv w).1
  have HCV := Lib.hid (fun w => (hcv w).2)
  clear hcv
  obtain ⟨l, hl⟩ : ∃ l, bl s = l := ⟨_, rfl⟩
  have hll := bl_len s
  have hlt := bl_lt s
  rw [hl] at hll hlt hd hb
  rw [hl] at HCV
  obtain ⟨n, hsz⟩ : ∃ n, s.size = n := ⟨_, rfl⟩
  rw [hsz] at hn hi hll hcv1
  have h1i : ¬ ((2467 : Int) < (n : Int)) := by omega
  go_enter Tryz.func133, Tryz.ntmps133
  go_wp2_with (with_reducible refine G.any_mark _ ?_; (try generalize Array.size (World.heap (G.w _)) = bk); (try dsimp only [List.set_cons_zero, List.set_cons_succ]); (try clear g); intro g)
  obtain ⟨rc, rfl⟩ : ∃ rc : Nat, rc = bk := ⟨_, rfl⟩
  have hby := (HCV.out g.w).2
  obtain ⟨g1, hg1⟩ := g.new_ex (HCV.out g.w).1
  rw [hg1]
  clear hg1
  have CI := index_any g.w.heap.size n (capOf g.w) l g1.w hll (by omega) hlt (fun j hj => hby.cell g1 (by simp) (by omega))
  generalize capOf g.w = cc at *
  generalize fr g.w = F0 at *
  generalize g.w.heap.size = bb at *
  clear g
  revert g1
  intro g CI
  refine CI.mono ?_
  rintro e w1 ⟨rfl, ⟨i', hi', hb', hd', rfl⟩ | ⟨hall, rfl⟩⟩
  · obtain rfl : i' = i := by
      rcases Nat.lt_trichotomy i' i with h | h | h
      · exact absurd hb' (hd i' h)
      · exact h
      · exact absurd hb (hd' i h)
    have hi0 : (0 : Int) ≤ (i' : Int) := by omega
    clear CI hby hb hd hb' hd' hi'
    go_wp2_with (with_reducible refine G.any_mark _ ?_; (try generalize Array.size (World.heap (G.w _)) = bk); (try dsimp only [List.set_cons_zero, List.set_cons_succ]); (try clear g); intro g)
    ((try simp only [G.drew_eq, G.drewN_eq]); (refine G.any_mark _ ?_; (try generalize Array.size (World.heap (G.w _)) = bk); (try dsimp only [List.set_cons_zero, List.set_cons_succ]); (try clear g); intro g))
    refine bodyPost_ret (v := .tuple #[.slice none 0 0, .agg #[.int .i64 11, .int .i64 (i' : Int)]]) (by simp [results, Tryz.f133, go_sem]) rfl ?_
    exact rnf_err g _ _
  · exact absurd hb (hall i hi)
set_option maxRecDepth 20000 in
theorem Parse_form (s : ByteArray) (w : World) (hn : s.size ≤ 2467) (hd : ∀ j, j < s.size → ¬ NoDig ((bl s).getD j 0)) (hz : s.size = 0 ∨ (1 < s.size ∧ (bl s).getD 0 0 = 48)) :
    Calls Tryz.prog 133 #[.string s] w (RNF 0 11 0 w) := by
  refine calls_b fun g => ?_
  obtain ⟨capOf, cvW, fr, hcv⟩ := conv_ex s
  have hcv1 := fun w => (hcv w).1
  have HCV := Lib.hid (fun w => (hcv w).2)
  clear hcv
  obtain ⟨l, hl⟩ : ∃ l, bl s = l := ⟨_, rfl⟩
  have hll := bl_len s
  have hlt := bl_lt s
  rw [hl] at hll hlt hd hz
  rw [hl] at HCV
  obtain ⟨n, hsz⟩ : ∃ n, s.size = n := ⟨_, rfl⟩
  rw [hsz] at hn hll hcv1 hd hz
  have h1i : ¬ ((2467 : Int) < (n : Int)) := by omega
  go_enter Tryz.func133, Tryz.ntmps133
  go_wp2_with (with_reducible refine G.any_mark _ ?_; (try generalize Array.size (World.heap (G.w _)) = bk); (try dsimp only [List.set_cons_zero, List.set_cons_succ]); (try clear g); intro g)
  obtain ⟨rc, rfl⟩ : ∃ rc : Nat, rc = bk := ⟨_, rfl⟩
  have hby := (HCV.out g.w).2
  obtain ⟨g1, hg1⟩ := g.new_ex (HCV.out g.w).1
  rw [hg1]
  clear hg1
  have CI := index_any g.w.heap.size n (capOf g.w) l g1.w hll (by omega) hlt (fun j hj => hby.cell g1 (by simp) (by omega))
  generalize capOf g.w = cc at *
  generalize fr g.w = F0 at *
  generalize g.w.heap.size = bb at *
  clear g
  revert g1
  intro g CI
  refine CI.mono ?_
  rintro e w1 ⟨rfl, ⟨i', hi', hb', _, _⟩ | ⟨_, rfl⟩⟩
  · exact absurd hb' (hd i' hi')
  · clear CI hby hd
    rcases hz with h0 | ⟨h1n, hz'⟩
    · have hn0i : ((n : Int) == 0) = true := by rw [beq_iff_eq]; omega
      have hn0 : (n : Int) = 0 := by omega
      clear h0
      go_wp2_with (with_reducible refine G.any_mark _ ?_; (try generalize Array.size (World.heap (G.w _)) = bk); (try dsimp only [List.set_cons_zero, List.set_cons_succ]); (try clear g); intro g)
      ((try simp only [G.drew_eq, G.drewN_eq]); (refine G.any_mark _ ?_; (try generalize Array.size (World.heap (G.w _)) = bk); (try dsimp only [List.set_cons_zero, List.set_cons_succ]); (try clear g); intro g))
      refine bodyPost_ret (v := .tuple #[.slice none 0 0, .agg #[.int .i64 11, .int .i64 0]]) (by simp [results, Tryz.f133, go_sem]) rfl ?_
      exact rnf_err g _ _
    · have h1ni : (1 : Int) < (n : Int) := by omega
      have hn0i : ((n : Int) == 0) = false := by rw [beq_eq_false_iff_ne]; omega
      have hs0 : ∀ h : 0 < s.size, (((s[0]'h).toNat : Int) == 48) = true := fun h => by
        have := bl_first s h
        rw [hl] at this
        rw [beq_iff_eq]
        omega
      clear hl hz'
      go_wp2_with (with_reducible refine G.any_mark _ ?_; (try generalize Array.size (World.heap (G.w _)) = bk); (try dsimp only [List.set_cons_zero, List.set_cons_succ]); (try clear g); intro g)
      ((try simp only [G.drew_eq, G.drewN_eq]); (refine G.any_mark _ ?_; (try generalize Array.size (World.heap (G.w _)) = bk); (try dsimp only [List.set_cons_zero, List.set_cons_succ]); (try clear g); intro g))
      refine bodyPost_ret (v := .tuple #[.slice none 0 0, .agg #[.int .i64 11, .int .i64 0]]) (by simp [results, Tryz.f133, go_sem]) rfl ?_
      exact rnf_err g _ _
end Go.Proofs.YtjdnpkicdmapnaaGreatDoor
namespace Go.Proofs.YtjdnpkicdmapnaaGreatDoor
open Go.RowKit GW NL
theorem bl_at (s : ByteArray) (k : Nat) (h : k < s.size) : (s[k]'h).toNat = (bl s).getD k 0 := by
  have h' : k < s.data.toList.length := by simpa using h
  unfold bl
  rw [List.getD_eq_getElem?_getD, List.getElem?_map, List.getElem?_eq_getElem h']
  simp
  rfl
theorem rParse_long (s : ByteArray) (w : World) (hn : 2467 < s.size) (hn9 : s.size ≤ 1000000000) :
    Calls Tryz.prog 72 #[.string s] w (RNF 0 4 2467 w) := by
  refine calls_b fun g => ?_
  obtain ⟨n, hsz⟩ : ∃ n, s.size = n := ⟨_, rfl⟩
  rw [hsz] at hn hn9
  have h1i : (2467 : Int) < (n : Int) := by omega
  clear hn
  go_enter Tryz.func72, Tryz.ntmps72
  go_wp2_with (with_reducible refine G.any_mark _ ?_; (try generalize Array.size (World.heap (G.w _)) = bk); (try dsimp only [List.set_cons_zero, List.set_cons_succ]); (try clear g); intro g)
  ((try simp only [G.drew_eq, G.drewN_eq]); (refine G.any_mark _ ?_; (try generalize Array.size (World.heap (G.w _)) = bk); (try dsimp only [List.set_cons_zero, List.set_cons_succ]); (try clear g); intro g))
  refine bodyPost_ret (v := .tuple #[.slice none 0 0, .agg #[.int .i64 4, .int .i64 2467]]) (by simp [results, Tryz.f72, go_sem]) rfl ?_
  exact rnf_err g _ _
set_option maxRecDepth 20000 in
theorem rParse_bad (s : ByteArray) (w : World) (hn : s.size ≤ 2467) (i : Nat) (hi : i < s.size) (hb : NoDig ((bl s).getD i 0)) (hd : ∀ j, j < i → ¬ NoDig ((bl s).getD j 0)) :
    Calls Tryz.prog 72 #[.string s] w (RNF 0 11 i w) := by
  refine calls_b fun g => ?_
  obtain ⟨l, hl⟩ : ∃ l, bl s = l := ⟨_, rfl⟩
  have hll := bl_len s
  have hlt := bl_lt s
  rw [hl] at hll hlt hd hb
  obtain ⟨n, hsz⟩ : ∃ n, s.size = n := ⟨_, rfl⟩
  rw [hsz] at hn hi hll
  have h1i : ¬ ((2467 : Int) < (n : Int)) := by omega
  go_enter Tryz.func72, Tryz.ntmps72
  go_wp2_with (with_reducible refine G.any_mark _ ?_; (try generalize Array.size (World.heap (G.w _)) = bk); (try dsimp only [List.set_cons_zero, List.set_cons_succ]); (try clear g); intro g)
  obtain ⟨rc, rfl⟩ : ∃ rc : Nat, rc = bk := ⟨_, rfl⟩
  go_loopg [4] n (fun gk s4 wr => ∃ k : Nat, k + gk = n ∧ s4 = .int .i64 (k : Int) ∧ Hid (∀ j, j < k → ¬ NoDig (l.getD j 0)) ∧ ∃ g : G w [] [(rc, 41, [.int .i64 0, .int .i64 0])] [heapOf w], wr = g.w)
  case atStart => exact ⟨0, by omega, rfl, fun j hj => by omega, g, rfl⟩
  case round =>
    clear g
    obtain ⟨ko, rfl⟩ : ∃ ko : Nat, ko = gk := ⟨_, rfl⟩
    obtain ⟨k, hkg, rfl, HA, g, rfl⟩ := hrel
    by_cases hk : k < n
    · have hki : (k : Int) < (n : Int) := by omega
      have hk0 : (0 : Int) ≤ (k : Int) := by omega
      have hks : k < s.size := by omega
      have hxl : l.getD k 0 < 256 := by
        rw [List.getD_eq_getElem?_getD, List.getElem?_eq_getElem (by omega)]
        exact hlt _ (List.getElem_mem _)
      obtain ⟨x, hx⟩ : ∃ x, l.getD k 0 = x := ⟨_, rfl⟩
      have hsk : ∀ h : k < s.size, ((s[k]'h).toNat : Int) = (x : Int) := fun h => by rw [bl_at s k h, hl, hx]
      rw [hx] at hxl
      have HX := Lib.hid hx
      clear hx
      by_cases hnd : NoDig x
      · obtain rfl : k = i := by
          rcases Nat.lt_trichotomy k i with h | h | h
          · exact absurd (by rw [HX.out]; exact hnd) (hd k h)
          · exact h
          · exact absurd hb (HA.out i h)
        have hc : x < 48 ∨ (¬ x < 48 ∧ 57 < x) := by unfold NoDig at hnd; omega
        clear hnd hb hd
        rcases hc with h | ⟨h, h'⟩
        · have hd1 : (x : Int) < 48 := by omega
          have hd3 : decide ((x : Int) < 48) = true := decide_eq_true hd1
          clear h
          go_wp2_with (with_reducible refine G.any_mark _ ?_; (try generalize Array.size (World.heap (G.w _)) = bk); (try dsimp only [List.set_cons_zero, List.set_cons_succ]); (try clear g); intro g)
          ((try simp only [G.drew_eq, G.drewN_eq]); (refine G.any_mark _ ?_; (try generalize Array.size (World.heap (G.w _)) = bk); (try dsimp only [List.set_cons_zero, List.set_cons_succ]); (try clear g); intro g))
          refine bodyPost_ret (v := .tuple #[.slice none 0 0, .agg #[.int .i64 11, .int .i64 (k : Int)]]) (by simp [results, Tryz.f72, go_sem]) rfl ?_
          exact rnf_err g _ _
        · have hd1 : ¬ ((x : Int) < 48) := by omega
          have hd2 : (57 : Int) < (x : Int) := by omega
          have hd3 : decide ((x : Int) < 48) = false := decide_eq_false hd1
          clear h h'
          go_wp2_with (with_reducible refine G.any_mark _ ?_; (try generalize Array.size (World.heap (G.w _)) = bk); (try dsimp only [List.set_cons_zero, List.set_cons_succ]); (try clear g); intro g)
          ((try simp only [G.drew_eq, G.drewN_eq]); (refine G.any_mark _ ?_; (try generalize Array.size (World.heap (G.w _)) = bk); (try dsimp only [List.set_cons_zero, List.set_cons_succ]); (try clear g); intro g))
          refine bodyPost_ret (v := .tuple #[.slice none 0 0, .agg #[.int .i64 11, .int .i64 (k : Int)]]) (by simp [results, Tryz.f72, go_sem]) rfl ?_
          exact rnf_err g _ _
      · clear hb hd
        have hd1 : ¬ ((x : Int) < 48) := by unfold NoDig at hnd; omega
        have hd2 : ¬ ((57 : Int) < (x : Int)) := by unfold NoDig at hnd; omega
        have hd3 : decide ((x : Int) < 48) = false := decide_eq_false hd1
        have HND := Lib.hid hnd
        clear hnd
        go_wp2_with (with_reducible refine G.any_mark _ ?_; (try generalize Array.size (World.heap (G.w _)) = bk); (try dsimp only [List.set_cons_zero, List.set_cons_succ]); (try clear g); intro g)
        go_roundg (ko - 1)
        case measure => omega
        case rel => exact ⟨k + 1, by omega, by go_num, fun j hj => by
          rcases Nat.lt_or_ge j k with h | h
          · exact HA.out j h
          · obtain rfl : j = k := by omega
            rw [HX.out]; exact HND.out, g, rfl⟩
    · have hkn : k = n := by omega
      have hki : ¬ ((k : Int) < (n : Int)) := by omega
      exact absurd hb (HA.out i (by omega))
set_option maxRecDepth 20000 in
theorem rParse_form (s : ByteArray) (w : World) (hn : s.size ≤ 2467) (hd : ∀ j, j < s.size → ¬ NoDig ((bl s).getD j 0)) (hz : s.size = 0 ∨ (1 < s.size ∧ (bl s).getD 0 0 = 48)) :
    Calls Tryz.prog 72 #[.string s] w (RNF 0 11 0 w) := by
  refine calls_b fun g => ?_
  obtain ⟨l, hl⟩ : ∃ l, bl s = l := ⟨_, rfl⟩
  have hll := bl_len s
  have hlt := bl_lt s
  rw [hl] at hll hlt hd hz
  obtain ⟨n, hsz⟩ : ∃ n, s.size = n := ⟨_, rfl⟩
  rw [hsz] at hn hll hd hz
  have h1i : ¬ ((2467 : Int) < (n : Int)) := by omega
  go_enter Tryz.func72, Tryz.ntmps72
  go_wp2_with (with_reducible refine G.any_mark _ ?_; (try generalize Array.size (World.heap (G.w _)) = bk); (try dsimp only [List.set_cons_zero, List.set_cons_succ]); (try clear g); intro g)
  obtain ⟨rc, rfl⟩ : ∃ rc : Nat, rc = bk := ⟨_, rfl⟩
  go_loopg [4] n (fun gk s4 wr => ∃ k : Nat, k + gk = n ∧ s4 = .int .i64 (k : Int) ∧ Hid (∀ j, j < k → ¬ NoDig (l.getD j 0)) ∧ ∃ g : G w [] [(rc, 41, [.int .i64 0, .int .i64 0])] [heapOf w], wr = g.w)
  case atStart => exact ⟨0, by omega, rfl, fun j hj => by omega, g, rfl⟩
  case round =>
    clear g
    obtain ⟨ko, rfl⟩ : ∃ ko : Nat, ko = gk := ⟨_, rfl⟩
    obtain ⟨k, hkg, rfl, HA, g, rfl⟩ := hrel
    by_cases hk : k < n
    · have hki : (k : Int) < (n : Int) := by omega
      have hk0 : (0 : Int) ≤ (k : Int) := by omega
      have hks : k < s.size := by omega
      have hxl : l.getD k 0 < 256 := by
        rw [List.getD_eq_getElem?_getD, List.getElem?_eq_getElem (by omega)]
        exact hlt _ (List.getElem_mem _)
      obtain ⟨x, hx⟩ : ∃ x, l.getD k 0 = x := ⟨_, rfl⟩
      have hsk : ∀ h : k < s.size, ((s[k]'h).toNat : Int) = (x : Int) := fun h => by rw [bl_at s k h, hl, hx]
      rw [hx] at hxl
      have HX := Lib.hid hx
      clear hx
      have hnd : ¬ NoDig x := by rw [← HX.out]; exact hd k hk
      · clear hd hz
        have hd1 : ¬ ((x : Int) < 48) := by unfold NoDig at hnd; omega
        have hd2 : ¬ ((57 : Int) < (x : Int)) := by unfold NoDig at hnd; omega
        have hd3 : decide ((x : Int) < 48) = false := decide_eq_false hd1
        have HND := Lib.hid hnd
        clear hnd
        go_wp2_with (with_reducible refine G.any_mark _ ?_; (try generalize Array.size (World.heap (G.w _)) = bk); (try dsimp only [List.set_cons_zero, List.set_cons_succ]); (try clear g); intro g)
        go_roundg (ko - 1)
        case measure => omega
        case rel => exact ⟨k + 1, by omega, by go_num, fun j hj => by
          rcases Nat.lt_or_ge j k with h | h
          · exact HA.out j h
          · obtain rfl : j = k := by omega
            rw [HX.out]; exact HND.out, g, rfl⟩
    · have hkn : k = n := by omega
      have hki : ¬ ((k : Int) < (n : Int)) := by omega
      clear hd HA
      rcases hz with h0 | ⟨h1n, hz'⟩
      · have hn0i : ((n : Int) == 0) = true := by rw [beq_iff_eq]; omega
        have hn0 : (n : Int) = 0 := by omega
        clear h0
        go_wp2_with (with_reducible refine G.any_mark _ ?_; (try generalize Array.size (World.heap (G.w _)) = bk); (try dsimp only [List.set_cons_zero, List.set_cons_succ]); (try clear g); intro g)
        ((try simp only [G.drew_eq, G.drewN_eq]); (refine G.any_mark _ ?_; (try generalize Array.size (World.heap (G.w _)) = bk); (try dsimp only [List.set_cons_zero, List.set_cons_succ]); (try clear g); intro g))
        refine bodyPost_ret (v := .tuple #[.slice none 0 0, .agg #[.int .i64 11, .int .i64 0]]) (by simp [results, Tryz.f72, go_sem]) rfl ?_
        exact rnf_err g _ _
      · have h1ni : (1 : Int) < (n : Int) := by omega
        have hn0i : ((n : Int) == 0) = false := by rw [beq_eq_false_iff_ne]; omega
        have hs0 : ∀ h : 0 < s.size, (((s[0]'h).toNat : Int) == 48) = true := fun h => by
          have := bl_first s h
          rw [hl] at this
          rw [beq_iff_eq]
          omega
        clear hl hz'
        go_wp2_with (with_reducible refine G.any_mark _ ?_; (try generalize Array.size (World.heap (G.w _)) = bk); (try dsimp only [List.set_cons_zero, List.set_cons_succ]); (try clear g); intro g)
        ((try simp only [G.drew_eq, G.drewN_eq]); (refine G.any_mark _ ?_; (try generalize Array.size (World.heap (G.w _)) = bk); (try dsimp only [List.set_cons_zero, List.set_cons_succ]); (try clear g); intro g))
        refine bodyPost_ret (v := .tuple #[.slice none 0 0, .agg #[.int .i64 11, .int .i64 0]]) (by simp [results, Tryz.f72, go_sem]) rfl ?_
        exact rnf_err g _ _
set_option maxRecDepth 20000 in
set_option maxHeartbeats 8000000 in
theorem rParse_digits (s : ByteArray) (w : World) (hn : s.size ≤ 2467) (hn0 : s.size ≠ 0) (hd : ∀ j, j < s.size → ¬ NoDig ((bl s).getD j 0)) (hz : ¬ (1 < s.size ∧ (bl s).getD 0 0 = 48)) :
    Calls Tryz.prog 72 #[.string s] w (fun e w' => (dv (bl s) s.size < 2 ^ 8192 → RNF (dv (bl s) s.size) 0 0 w e w') ∧ (¬ dv (bl s) s.size < 2 ^ 8192 → RNF 0 5 0 w e w')) := by
  refine calls_b fun g => ?_
  obtain ⟨l, hl⟩ : ∃ l, bl s = l := ⟨_, rfl⟩
  have hll := bl_len s
  have hlt := bl_lt s
  rw [hl] at hll hlt hd hz
  rw [hl]
  obtain ⟨n, hsz⟩ : ∃ n, s.size = n := ⟨_, rfl⟩
  rw [hsz] at hn hn0 hll hd hz ⊢
  have h1i : ¬ ((2467 : Int) < (n : Int)) := by omega
  go_enter Tryz.func72, Tryz.ntmps72
  go_wp2_with (with_reducible refine G.any_mark _ ?_; (try generalize Array.size (World.heap (G.w _)) = bk); (try dsimp only [List.set_cons_zero, List.set_cons_succ]); (try clear g); intro g)
  obtain ⟨rc, rfl⟩ : ∃ rc : Nat, rc = bk := ⟨_, rfl⟩
  go_loopg [4] n (fun gk s4 wr => ∃ k : Nat, k + gk = n ∧ s4 = .int .i64 (k : Int) ∧ Hid (∀ j, j < k → ¬ NoDig (l.getD j 0)) ∧ ∃ g : G w [] [(rc, 41, [.int .i64 0, .int .i64 0])] [heapOf w], wr = g.w)
  case atStart => exact ⟨0, by omega, rfl, fun j hj => by omega, g, rfl⟩
  case round =>
    clear g
    obtain ⟨ko, rfl⟩ : ∃ ko : Nat, ko = gk := ⟨_, rfl⟩
    obtain ⟨k, hkg, rfl, HA, g, rfl⟩ := hrel
    by_cases hk : k < n
    · have hki : (k : Int) < (n : Int) := by omega
      have hk0 : (0 : Int) ≤ (k : Int) := by omega
      have hks : k < s.size := by omega
      have hxl : l.getD k 0 < 256 := by
        rw [List.getD_eq_getElem?_getD, List.getElem?_eq_getElem (by omega)]
        exact hlt _ (List.getElem_mem _)
      obtain ⟨x, hx⟩ : ∃ x, l.getD k 0 = x := ⟨_, rfl⟩
      have hsk : ∀ h : k < s.size, ((s[k]'h).toNat : Int) = (x : Int) := fun h => by rw [bl_at s k h, hl, hx]
      rw [hx] at hxl
      have HX := Lib.hid hx
      clear hx
      have hnd : ¬ NoDig x := by rw [← HX.out]; exact hd k hk
      · clear hd hz
        have hd1 : ¬ ((x : Int) < 48) := by unfold NoDig at hnd; omega
        have hd2 : ¬ ((57 : Int) < (x : Int)) := by unfold NoDig at hnd; omega
        have hd3 : decide ((x : Int) < 48) = false := decide_eq_false hd1
        have HND := Lib.hid hnd
        clear hnd
        go_wp2_with (with_reducible refine G.any_mark _ ?_; (try generalize Array.size (World.heap (G.w _)) = bk); (try dsimp only [List.set_cons_zero, List.set_cons_succ]); (try clear g); intro g)
        go_roundg (ko - 1)
        case measure => omega
        case rel => exact ⟨k + 1, by omega, by go_num, fun j hj => by
          rcases Nat.lt_or_ge j k with h | h
          · exact HA.out j h
          · obtain rfl : j = k := by omega
            rw [HX.out]; exact HND.out, g, rfl⟩
    · have hkn : k = n := by omega
      have hki : ¬ ((k : Int) < (n : Int)) := by omega
      clear HA
      obtain ⟨i0, hi, hzz0, hzz1, hzz2⟩ := info_parts infoU32
      have hn0i : ((n : Int) == 0) = false := by rw [beq_eq_false_iff_ne]; omega
      clear hkn hki hkg
      by_cases h1n : 1 < n
      · have h1ni : (1 : Int) < (n : Int) := by omega
        have hz' : l.getD 0 0 ≠ 48 := fun e => hz ⟨h1n, e⟩
        have hs0 : ∀ h : 0 < s.size, (((s[0]'h).toNat : Int) == 48) = false := fun h => by
          have := bl_first s h
          rw [hl] at this
          rw [beq_eq_false_iff_ne]
          omega
        clear hz
        go_wp2_with (with_reducible refine G.any_mark _ ?_; (try generalize Array.size (World.heap (G.w _)) = bk); (try dsimp only [List.set_cons_zero, List.set_cons_succ]); (try clear g); intro g)
        go_loopg [5, 6] n (fun gk s5 s6 wr => ∃ k : Nat, k + gk = n ∧ s6 = .int .i64 (k : Int) ∧ Hid (dv l k < 10 ^ k) ∧ ((Hid (dv l k = 0) ∧ s5 = .slice none 0 0 ∧ ∃ g : G w [] [(rc, 41, [.int .i64 0, .int .i64 0])] [heapOf w], wr = g.w) ∨ (∃ N b cap cs, Hid (dv l k = N ∧ N ≠ 0) ∧ s5 = .slice (some ⟨b, 0, none⟩) (limbs N).length cap ∧ Row 29 1 (limbs N).length (u32s (limbs N)) cap cs ∧ w.heap.size ≤ b ∧ ∃ g : G w [] [(b, 29, cs), (rc, 41, [.int .i64 0, .int .i64 0])] [heapOf w], wr = g.w)))
        case atStart => exact ⟨0, by omega, rfl, Lib.hid (by rw [dv_zero]; decide), .inl ⟨dv_zero l, rfl, g, rfl⟩⟩
        case round =>
          clear g
          obtain ⟨kq, rfl⟩ : ∃ kq : Nat, kq = gk := ⟨_, rfl⟩
          obtain ⟨k, hkg, rfl, HLT, hcase⟩ := hrel
          by_cases hk : k < n
          · have hki : (k : Int) < (n : Int) := by omega
            have hk0 : (0 : Int) ≤ (k : Int) := by omega
            have hks : k < s.size := by omega
            have hxd := hd k hk
            obtain ⟨x, hx⟩ : ∃ x, l.getD k 0 = x := ⟨_, rfl⟩
            have hsk : ∀ h : k < s.size, ((s[k]'h).toNat : Int) = (x : Int) := fun h => by rw [bl_at s k h, hl, hx]
            rw [hx] at hxd
            have hx1 : 48 ≤ x ∧ x ≤ 57 := by unfold NoDig at hxd; omega
            obtain ⟨d, hdd⟩ : ∃ d, x - 48 = d := ⟨_, rfl⟩
            have hd10 : d < 10 := by omega
            have hsub : IntKind.u8.wrap ((x : Int) - 48) = (d : Int) := by rw [IntKind.wrap_u8]; omega
            have hsub2 : (x : Int) - 48 = (d : Int) := by omega
            have hwd : IntKind.u64.wrap (d : Int) = (d : Int) := by rw [IntKind.wrap_u64]; omega
            have hwd8 : IntKind.u8.wrap (d : Int) = (d : Int) := by rw [IntKind.wrap_u8]; omega
            have hwd32 : IntKind.u32.wrap (d : Int) = (d : Int) := by rw [IntKind.wrap_u32]; omega
            have HS : Hid (dv l (k + 1) = 10 * dv l k + d) := Lib.hid (by rw [dv_succ (by omega), hx, hdd])
            have HL2 : Hid (dv l (k + 1) < 10 ^ (k + 1)) := Lib.hid (by rw [HS.out, Nat.pow_succ]; have := HLT.out; omega)
            have hkn : k + 1 ≤ 2467 := by omega
            clear hxd hx1 hdd hd hx
            rcases hcase with ⟨HZ, rfl, g, rfl⟩ | ⟨N, b, cap, cs, HN, rfl, hrow, hb, g, rfl⟩
            · go_wp2_with (with_reducible refine G.any_mark _ ?_; (try generalize Array.size (World.heap (G.w _)) = bk); (try dsimp only [List.set_cons_zero, List.set_cons_succ]); (try clear g); intro g)
              go_loopg [7, 8] 0 (fun gk s7 s8 wr => s7 = .int .u64 (d : Int) ∧ s8 = .int .i64 0 ∧ ∃ g : G w [] [(rc, 41, [.int .i64 0, .int .i64 0])] [heapOf w], wr = g.w)
              case atStart => exact ⟨rfl, rfl, g, rfl⟩
              case round =>
                clear g
                obtain ⟨rfl, rfl, g, rfl⟩ := hrel
                by_cases hd0 : d = 0
                · subst hd0
                  have HZ2 : Hid (dv l (k + 1) = 0) := Lib.hid (by rw [HS.out, HZ.out])
                  go_wp2_with (with_reducible refine G.any_mark _ ?_; (try generalize Array.size (World.heap (G.w _)) = bk); (try dsimp only [List.set_cons_zero, List.set_cons_succ]); (try clear g); intro g)
                  go_roundg (kq - 1)
                  case measure => omega
                  case rel => exact ⟨k + 1, by omega, by go_num, HL2, .inl ⟨HZ2, rfl, g, rfl⟩⟩
                · have hdi : (0 : Int) < (d : Int) := by omega
                  have HN2 : Hid (dv l (k + 1) = d ∧ d ≠ 0) := Lib.hid ⟨by rw [HS.out, HZ.out]; omega, hd0⟩
                  have ed : limbs d = [d] := limbs_one hd0 (by omega)
                  have HRW : Hid ((limbs d).length = 1 ∧ u32s (limbs d) = [.int .u32 (d : Int)]) := Lib.hid ⟨by rw [ed]; rfl, by rw [ed]; rfl⟩
                  have H1 : ∀ u ∈ [Value.int .u32 (d : Int)], u.oneCell' = true := by intro u hu; rw [List.mem_singleton.1 hu]; rfl
                  clear ed
                  go_wp2_with (first | (with_reducible refine G.any_mark _ ?_; (try generalize Array.size (World.heap (G.w _)) = bk); (try dsimp only [List.set_cons_zero, List.set_cons_succ]); (try clear g); intro g) | (at_builtin; refine wpList_append_lit0 rfl _ _ 23 rfl 29 i0 _ 1 4 Tryz.underlying23 hi hzz0 hzz1 hzz2 rfl (by decide) g rfl 1 rfl rfl H1 (by decide) (by decide) (by decide) ?_; clear g; intro b cap cs g hb hrow))
                  go_roundg (kq - 1)
                  case measure => omega
                  case rel => exact ⟨k + 1, by omega, by go_num, HL2, .inr ⟨d, b, cap, cs, HN2, by rw [HRW.out.1], by rw [HRW.out.1, HRW.out.2]; exact hrow, hb, g, rfl⟩⟩
            · have hm300 : (limbs N).length ≤ 300 := len_digits (k := k) (by rw [← HN.out.1]; exact HLT.out) (by omega)
              have hokN := ok_limbs N
              have TS : Hid (Ten (limbs N) d 0 d []) := Lib.hid (Ten.start (by omega))
              obtain ⟨m, hm⟩ : ∃ m, (limbs N).length = m := ⟨_, rfl⟩
              rw [hm] at hrow hm300 ⊢
              have HM := Lib.hid hm
              clear hm
              go_wp2_with (with_reducible refine G.any_mark _ ?_; (try generalize Array.size (World.heap (G.w _)) = bk); (try dsimp only [List.set_cons_zero, List.set_cons_succ]); (try clear g); intro g)
              go_loopg [7, 8] m (fun gk s7 s8 wr => ∃ (j c : Nat) (pre : List Nat) (cs' : List Value), j + gk = m ∧ s7 = .int .u64 (c : Int) ∧ s8 = .int .i64 (j : Int) ∧ Hid (Ten (limbs N) d j c pre) ∧ Row 29 1 m (u32s (pre ++ (limbs N).drop j)) cap cs' ∧ ∃ g : G w [] [(b, 29, cs'), (rc, 41, [.int .i64 0, .int .i64 0])] [heapOf w], wr = g.w)
              case atStart => exact ⟨0, d, [], cs, by omega, rfl, rfl, TS, hrow, g, rfl⟩
              case round =>
                clear g hrow TS
                obtain ⟨j, c, pre, cs', hjg, rfl, rfl, TJ, hrow, g, rfl⟩ := hrel
                have hc := TJ.out.lt
                by_cases hj : j < m
                · have hji : (j : Int) < (m : Int) := by omega
                  have hle := hrow.le
                  have hlenr : (pre ++ (limbs N).drop j).length = m := by rw [List.length_append, List.length_drop, TJ.out.len, HM.out]; omega
                  have hcell := hrow.get hlenr hj
                  rw [ten_get TJ.out.len] at hcell
                  have hy := hokN.getD j
                  have TJ2 := Lib.hid (TJ.out.step hokN)
                  have hset := ten_set (xs := limbs N) (x := ((limbs N).getD j 0 * 10 + 0 + c) % 4294967296) TJ.out.len (by rw [HM.out]; exact hj)
                  obtain ⟨t, ht⟩ : ∃ t, (limbs N).getD j 0 * 10 + 0 + c = t := ⟨_, rfl⟩
                  rw [ht] at TJ2 hset
                  generalize (limbs N).getD j 0 = y at *
                  obtain ⟨ty, hty⟩ : ∃ ty, 10 * y = ty := ⟨_, rfl⟩
                  have f1 : 10 * (y : Int) = (ty : Int) := by omega
                  have f2 : (c : Int) + (ty : Int) = (t : Int) := by omega
                  have f3 : IntKind.u64.wrap (ty : Int) = (ty : Int) := by rw [IntKind.wrap_u64]; omega
                  have f4 : IntKind.u64.wrap (t : Int) = (t : Int) := by rw [IntKind.wrap_u64]; omega
                  have f7 : IntKind.u64.wrap (y : Int) = (y : Int) := by rw [IntKind.wrap_u64]; omega
                  obtain ⟨lo, hlo⟩ : ∃ lo, t % 4294967296 = lo := ⟨_, rfl⟩
                  obtain ⟨hi', hhi⟩ : ∃ hi', t / 4294967296 = hi' := ⟨_, rfl⟩
                  have f5 : IntKind.u32.wrap (t : Int) = (lo : Int) := by rw [IntKind.wrap_u32]; omega
                  have f6 : (t : Int) / 4294967296 = (hi' : Int) := by omega
                  rw [hlo] at TJ2 hset
                  rw [hhi] at TJ2
                  have hrow2 := hrow.set (x := lo) hj
                  rw [hset] at hrow2
                  have HROW := Lib.hid hrow2
                  clear hset hrow hrow2 hlenr ht hty hlo hhi
                  go_wp2_with (with_reducible refine G.any_mark _ ?_; (try generalize Array.size (World.heap (G.w _)) = bk); (try dsimp only [List.set_cons_zero, List.set_cons_succ]); (try clear g); intro g)
                  go_roundg (gk - 1)
                  case measure => omega
                  case rel => exact ⟨j + 1, hi', pre ++ [lo], _, by omega, rfl, by go_num, TJ2, HROW.out, g, rfl⟩
                · obtain rfl : j = m := by omega
                  have hji : ¬ ((j : Int) < (j : Int)) := by omega
                  have TE := TJ.out
                  rw [← HM.out] at TE
                  rw [List.drop_of_length_le (by rw [HM.out]; exact Nat.le_refl _), List.append_nil] at hrow
                  by_cases hc0 : c = 0
                  · subst hc0
                    have hpre := TE.same
                    have HN2 : Hid (dv l (k + 1) = 10 * N + d ∧ 10 * N + d ≠ 0) := Lib.hid ⟨by rw [HS.out, HN.out.1], by have := HN.out.2; omega⟩
                    have HLN : Hid ((limbs (10 * N + d)).length = j) := Lib.hid (by rw [← hpre, TE.len, HM.out])
                    have HROW : Hid (Row 29 1 j (u32s (limbs (10 * N + d))) cap cs') := Lib.hid (by rw [← hpre]; exact hrow)
                    clear hpre hrow TE TJ
                    go_wp2_with (with_reducible refine G.any_mark _ ?_; (try generalize Array.size (World.heap (G.w _)) = bk); (try dsimp only [List.set_cons_zero, List.set_cons_succ]); (try clear g); intro g)
                    go_roundg (kq - 1)
                    case measure => omega
                    case rel => exact ⟨k + 1, by omega, by go_num, HL2, .inr ⟨10 * N + d, b, cap, cs', HN2, by rw [HLN.out], by rw [HLN.out]; exact HROW.out, hb, g, rfl⟩⟩
                  · have hci : (0 : Int) < (c : Int) := by omega
                    have hwc : IntKind.u32.wrap (c : Int) = (c : Int) := by rw [IntKind.wrap_u32]; omega
                    have hpre := TE.more hc0
                    have HN2 : Hid (dv l (k + 1) = 10 * N + d ∧ 10 * N + d ≠ 0) := Lib.hid ⟨by rw [HS.out, HN.out.1], by have := HN.out.2; omega⟩
                    have HLN : Hid ((limbs (10 * N + d)).length = j + 1) := Lib.hid (by rw [← hpre, List.length_append, TE.len, HM.out]; rfl)
                    have HAP : Hid (u32s (limbs (10 * N + d)) = u32s pre ++ [.int .u32 (c : Int)]) := Lib.hid (by rw [← hpre, u32s_append]; rfl)
                    have H1 : ∀ u ∈ [Value.int .u32 (c : Int)], u.oneCell' = true := by intro u hu; rw [List.mem_singleton.1 hu]; rfl
                    have H2 : j + 1 ≤ maxLen := by show j + 1 ≤ 9223372036854775807; omega
                    have H3 : (j + 1) * 4 ≤ 140737488355328 := by omega
                    clear hpre TE TJ
                    go_wp2_with (first | (with_reducible refine G.any_mark _ ?_; (try generalize Array.size (World.heap (G.w _)) = bk); (try dsimp only [List.set_cons_zero, List.set_cons_succ]); (try clear g); intro g) | (at_builtin; refine wpList_append_lit rfl _ _ 23 rfl 29 i0 _ 1 4 Tryz.underlying23 hi hzz0 hzz1 hzz2 rfl (by decide) g hrow hb rfl 1 rfl rfl H1 (by decide) H2 H3 ?_; clear hb hrow g; intro b cap cs g hb hrow))
                    go_roundg (kq - 1)
                    case measure => omega
                    case rel => exact ⟨k + 1, by omega, by go_num, HL2, .inr ⟨10 * N + d, b, cap, cs, HN2, by rw [HLN.out], by rw [HLN.out, HAP.out]; exact hrow, hb, g, rfl⟩⟩
          · obtain rfl : k = n := by omega
            have hki : ¬ ((k : Int) < (k : Int)) := by omega
            rcases hcase with ⟨HZ, rfl, g, rfl⟩ | ⟨N, b, cap, cs, HN, rfl, hrow, hb, g, rfl⟩
            · have CF := rfits_yes none 0 0
              rw [limbs_zero, List.length_nil] at CF
              replace CF := Lib.hid CF
              have HB0 : Hid (0 < 2 ^ 8192) := Lib.hid (Nat.two_pow_pos _)
              have hsn : SlW g.w none 0 [] := Frag.Sl.nil _ _
              go_wp2_with (with_reducible refine G.any_mark _ ?_; (try generalize Array.size (World.heap (G.w _)) = bk); (try dsimp only [List.set_cons_zero, List.set_cons_succ]); (try clear g); intro g)
              refine (CF.out _ hsn HB0.out).mono ?_
              rintro e w1 ⟨rfl, hb⟩
              obtain ⟨g1, rfl⟩ := G.call_ex _ hb
              clear hb
              (try clear g)
              revert g1
              intro g
              clear hsn
              go_wp2_with (with_reducible refine G.any_mark _ ?_; (try generalize Array.size (World.heap (G.w _)) = bk); (try dsimp only [List.set_cons_zero, List.set_cons_succ]); (try clear g); intro g)
              ((try simp only [G.drew_eq, G.drewN_eq]); (refine G.any_mark _ ?_; (try generalize Array.size (World.heap (G.w _)) = bk); (try dsimp only [List.set_cons_zero, List.set_cons_succ]); (try clear g); intro g))
              refine bodyPost_ret (v := .tuple #[.slice none 0 0, .agg #[.int .i64 0, .int .i64 0]]) (by simp [results, Tryz.f72, go_sem]) rfl ⟨fun _ => ?_, fun h => absurd (by rw [HZ.out]; exact HB0.out) h⟩
              rw [HZ.out]
              exact ⟨none, 0, (fun _ => none), by rw [limbs_zero]; rfl, by rw [limbs_zero]; exact Frag.Sl.nil _ _, g.none⟩
            · have hsl : SlW g.w (some ⟨b, 0, none⟩) cap (limbs N) := (sl_row hrow rfl (by have h300 : (limbs N).length ≤ 300 := len_digits (v := N) (k := k) (by rw [← HN.out.1]; exact HLT.out) (by omega); omega) (ok_limbs N)).at (blkF_sub g.blk0)
              have HM0 : Hid ((limbs N).length ≤ 140737488355328) := Lib.hid (by have h300 : (limbs N).length ≤ 300 := len_digits (v := N) (k := k) (by rw [← HN.out.1]; exact HLT.out) (by omega); omega)
              by_cases hN8 : N < 2 ^ 8192
              · have CF := Lib.hid (fun w h => rfits_yes (some ⟨b, 0, none⟩) cap N w h hN8)
                have H8 := Lib.hid hN8
                clear hN8
                go_wp2_with (with_reducible refine G.any_mark _ ?_; (try generalize Array.size (World.heap (G.w _)) = bk); (try dsimp only [List.set_cons_zero, List.set_cons_succ]); (try clear g); intro g)
                refine (CF.out _ hsl).mono ?_
                rintro e w1 ⟨rfl, hb⟩
                obtain ⟨g1, rfl⟩ := G.call_ex _ hb
                clear hb
                (try clear g)
                revert g1
                intro g
                clear hsl
                go_wp2_with (with_reducible refine G.any_mark _ ?_; (try generalize Array.size (World.heap (G.w _)) = bk); (try dsimp only [List.set_cons_zero, List.set_cons_succ]); (try clear g); intro g)
                ((try simp only [G.drew_eq, G.drewN_eq]); (refine G.any_mark _ ?_; (try generalize Array.size (World.heap (G.w _)) = bk); (try dsimp only [List.set_cons_zero, List.set_cons_succ]); (try clear g); intro g))
                have hlen := HM0.out
                refine bodyPost_ret (v := .tuple #[.slice (some ⟨b, 0, none⟩) (limbs N).length cap, .agg #[.int .i64 0, .int .i64 0]]) (by simp [results, Tryz.f72, go_sem]) rfl ⟨fun _ => ?_, fun h => absurd (by rw [HN.out.1]; exact H8.out) h⟩
                rw [HN.out.1]
                exact ⟨_, cap, _, rfl, sl_row hrow rfl hlen (ok_limbs N), g.give (List.mem_cons_self ..)⟩
              · have CF := Lib.hid (fun w h => rfits_no (some ⟨b, 0, none⟩) cap N w h hN8)
                have H8 := Lib.hid hN8
                clear hN8
                go_wp2_with (with_reducible refine G.any_mark _ ?_; (try generalize Array.size (World.heap (G.w _)) = bk); (try dsimp only [List.set_cons_zero, List.set_cons_succ]); (try clear g); intro g)
                refine (CF.out _ hsl).mono ?_
                rintro e w1 ⟨rfl, hb⟩
                obtain ⟨g1, rfl⟩ := G.call_ex _ hb
                clear hb
                (try clear g)
                revert g1
                intro g
                clear hsl
                go_wp2_with (with_reducible refine G.any_mark _ ?_; (try generalize Array.size (World.heap (G.w _)) = bk); (try dsimp only [List.set_cons_zero, List.set_cons_succ]); (try clear g); intro g)
                ((try simp only [G.drew_eq, G.drewN_eq]); (refine G.any_mark _ ?_; (try generalize Array.size (World.heap (G.w _)) = bk); (try dsimp only [List.set_cons_zero, List.set_cons_succ]); (try clear g); intro g))
                refine bodyPost_ret (v := .tuple #[.slice none 0 0, .agg #[.int .i64 5, .int .i64 0]]) (by simp [results, Tryz.f72, go_sem]) rfl ⟨fun h => absurd (by rw [HN.out.1] at h; exact h) H8.out, fun _ => ?_⟩
                exact ⟨none, 0, (fun _ => none), by rw [limbs_zero]; rfl, by rw [limbs_zero]; exact Frag.Sl.nil _ _, g.none⟩
      · have h1ni : ¬ ((1 : Int) < (n : Int)) := by omega
        clear hz
        go_wp2_with (with_reducible refine G.any_mark _ ?_; (try generalize Array.size (World.heap (G.w _)) = bk); (try dsimp only [List.set_cons_zero, List.set_cons_succ]); (try clear g); intro g)
        go_loopg [5, 6] n (fun gk s5 s6 wr => ∃ k : Nat, k + gk = n ∧ s6 = .int .i64 (k : Int) ∧ Hid (dv l k < 10 ^ k) ∧ ((Hid (dv l k = 0) ∧ s5 = .slice none 0 0 ∧ ∃ g : G w [] [(rc, 41, [.int .i64 0, .int .i64 0])] [heapOf w], wr = g.w) ∨ (∃ N b cap cs, Hid (dv l k = N ∧ N ≠ 0) ∧ s5 = .slice (some ⟨b, 0, none⟩) (limbs N).length cap ∧ Row 29 1 (limbs N).length (u32s (limbs N)) cap cs ∧ w.heap.size ≤ b ∧ ∃ g : G w [] [(b, 29, cs), (rc, 41, [.int .i64 0, .int .i64 0])] [heapOf w], wr = g.w)))
        case atStart => exact ⟨0, by omega, rfl, Lib.hid (by rw [dv_zero]; decide), .inl ⟨dv_zero l, rfl, g, rfl⟩⟩
        case round =>
          clear g
          obtain ⟨kq, rfl⟩ : ∃ kq : Nat, kq = gk := ⟨_, rfl⟩
          obtain ⟨k, hkg, rfl, HLT, hcase⟩ := hrel
          by_cases hk : k < n
          · have hki : (k : Int) < (n : Int) := by omega
            have hk0 : (0 : Int) ≤ (k : Int) := by omega
            have hks : k < s.size := by omega
            have hxd := hd k hk
            obtain ⟨x, hx⟩ : ∃ x, l.getD k 0 = x := ⟨_, rfl⟩
            have hsk : ∀ h : k < s.size, ((s[k]'h).toNat : Int) = (x : Int) := fun h => by rw [bl_at s k h, hl, hx]
            rw [hx] at hxd
            have hx1 : 48 ≤ x ∧ x ≤ 57 := by unfold NoDig at hxd; omega
            obtain ⟨d, hdd⟩ : ∃ d, x - 48 = d := ⟨_, rfl⟩
            have hd10 : d < 10 := by omega
            have hsub : IntKind.u8.wrap ((x : Int) - 48) = (d : Int) := by rw [IntKind.wrap_u8]; omega
            have hsub2 : (x : Int) - 48 = (d : Int) := by omega
            have hwd : IntKind.u64.wrap (d : Int) = (d : Int) := by rw [IntKind.wrap_u64]; omega
            have hwd8 : IntKind.u8.wrap (d : Int) = (d : Int) := by rw [IntKind.wrap_u8]; omega
            have hwd32 : IntKind.u32.wrap (d : Int) = (d : Int) := by rw [IntKind.wrap_u32]; omega
            have HS : Hid (dv l (k + 1) = 10 * dv l k + d) := Lib.hid (by rw [dv_succ (by omega), hx, hdd])
            have HL2 : Hid (dv l (k + 1) < 10 ^ (k + 1)) := Lib.hid (by rw [HS.out, Nat.pow_succ]; have := HLT.out; omega)
            have hkn : k + 1 ≤ 2467 := by omega
            clear hxd hx1 hdd hd hx
            rcases hcase with ⟨HZ, rfl, g, rfl⟩ | ⟨N, b, cap, cs, HN, rfl, hrow, hb, g, rfl⟩
            · go_wp2_with (with_reducible refine G.any_mark _ ?_; (try generalize Array.size (World.heap (G.w _)) = bk); (try dsimp only [List.set_cons_zero, List.set_cons_succ]); (try clear g); intro g)
              go_loopg [7, 8] 0 (fun gk s7 s8 wr => s7 = .int .u64 (d : Int) ∧ s8 = .int .i64 0 ∧ ∃ g : G w [] [(rc, 41, [.int .i64 0, .int .i64 0])] [heapOf w], wr = g.w)
              case atStart => exact ⟨rfl, rfl, g, rfl⟩
              case round =>
                clear g
                obtain ⟨rfl, rfl, g, rfl⟩ := hrel
                by_cases hd0 : d = 0
                · subst hd0
                  have HZ2 : Hid (dv l (k + 1) = 0) := Lib.hid (by rw [HS.out, HZ.out])
                  go_wp2_with (with_reducible refine G.any_mark _ ?_; (try generalize Array.size (World.heap (G.w _)) = bk); (try dsimp only [List.set_cons_zero, List.set_cons_succ]); (try clear g); intro g)
                  go_roundg (kq - 1)
                  case measure => omega
                  case rel => exact ⟨k + 1, by omega, by go_num, HL2, .inl ⟨HZ2, rfl, g, rfl⟩⟩
                · have hdi : (0 : Int) < (d : Int) := by omega
                  have HN2 : Hid (dv l (k + 1) = d ∧ d ≠ 0) := Lib.hid ⟨by rw [HS.out, HZ.out]; omega, hd0⟩
                  have ed : limbs d = [d] := limbs_one hd0 (by omega)
                  have HRW : Hid ((limbs d).length = 1 ∧ u32s (limbs d) = [.int .u32 (d : Int)]) := Lib.hid ⟨by rw [ed]; rfl, by rw [ed]; rfl⟩
                  have H1 : ∀ u ∈ [Value.int .u32 (d : Int)], u.oneCell' = true := by intro u hu; rw [List.mem_singleton.1 hu]; rfl
                  clear ed
                  go_wp2_with (first | (with_reducible refine G.any_mark _ ?_; (try generalize Array.size (World.heap (G.w _)) = bk); (try dsimp only [List.set_cons_zero, List.set_cons_succ]); (try clear g); intro g) | (at_builtin; refine wpList_append_lit0 rfl _ _ 23 rfl 29 i0 _ 1 4 Tryz.underlying23 hi hzz0 hzz1 hzz2 rfl (by decide) g rfl 1 rfl rfl H1 (by decide) (by decide) (by decide) ?_; clear g; intro b cap cs g hb hrow))
                  go_roundg (kq - 1)
                  case measure => omega
                  case rel => exact ⟨k + 1, by omega, by go_num, HL2, .inr ⟨d, b, cap, cs, HN2, by rw [HRW.out.1], by rw [HRW.out.1, HRW.out.2]; exact hrow, hb, g, rfl⟩⟩
            · have hm300 : (limbs N).length ≤ 300 := len_digits (k := k) (by rw [← HN.out.1]; exact HLT.out) (by omega)
              have hokN := ok_limbs N
              have TS : Hid (Ten (limbs N) d 0 d []) := Lib.hid (Ten.start (by omega))
              obtain ⟨m, hm⟩ : ∃ m, (limbs N).length = m := ⟨_, rfl⟩
              rw [hm] at hrow hm300 ⊢
              have HM := Lib.hid hm
              clear hm
              go_wp2_with (with_reducible refine G.any_mark _ ?_; (try generalize Array.size (World.heap (G.w _)) = bk); (try dsimp only [List.set_cons_zero, List.set_cons_succ]); (try clear g); intro g)
              go_loopg [7, 8] m (fun gk s7 s8 wr => ∃ (j c : Nat) (pre : List Nat) (cs' : List Value), j + gk = m ∧ s7 = .int .u64 (c : Int) ∧ s8 = .int .i64 (j : Int) ∧ Hid (Ten (limbs N) d j c pre) ∧ Row 29 1 m (u32s (pre ++ (limbs N).drop j)) cap cs' ∧ ∃ g : G w [] [(b, 29, cs'), (rc, 41, [.int .i64 0, .int .i64 0])] [heapOf w], wr = g.w)
              case atStart => exact ⟨0, d, [], cs, by omega, rfl, rfl, TS, hrow, g, rfl⟩
              case round =>
                clear g hrow TS
                obtain ⟨j, c, pre, cs', hjg, rfl, rfl, TJ, hrow, g, rfl⟩ := hrel
                have hc := TJ.out.lt
                by_cases hj : j < m
                · have hji : (j : Int) < (m : Int) := by omega
                  have hle := hrow.le
                  have hlenr : (pre ++ (limbs N).drop j).length = m := by rw [List.length_append, List.length_drop, TJ.out.len, HM.out]; omega
                  have hcell := hrow.get hlenr hj
                  rw [ten_get TJ.out.len] at hcell
                  have hy := hokN.getD j
                  have TJ2 := Lib.hid (TJ.out.step hokN)
                  have hset := ten_set (xs := limbs N) (x := ((limbs N).getD j 0 * 10 + 0 + c) % 4294967296) TJ.out.len (by rw [HM.out]; exact hj)
                  obtain ⟨t, ht⟩ : ∃ t, (limbs N).getD j 0 * 10 + 0 + c = t := ⟨_, rfl⟩
                  rw [ht] at TJ2 hset
                  generalize (limbs N).getD j 0 = y at *
                  obtain ⟨ty, hty⟩ : ∃ ty, 10 * y = ty := ⟨_, rfl⟩
                  have f1 : 10 * (y : Int) = (ty : Int) := by omega
                  have f2 : (c : Int) + (ty : Int) = (t : Int) := by omega
                  have f3 : IntKind.u64.wrap (ty : Int) = (ty : Int) := by rw [IntKind.wrap_u64]; omega
                  have f4 : IntKind.u64.wrap (t : Int) = (t : Int) := by rw [IntKind.wrap_u64]; omega
                  have f7 : IntKind.u64.wrap (y : Int) = (y : Int) := by rw [IntKind.wrap_u64]; omega
                  obtain ⟨lo, hlo⟩ : ∃ lo, t % 4294967296 = lo := ⟨_, rfl⟩
                  obtain ⟨hi', hhi⟩ : ∃ hi', t / 4294967296 = hi' := ⟨_, rfl⟩
                  have f5 : IntKind.u32.wrap (t : Int) = (lo : Int) := by rw [IntKind.wrap_u32]; omega
                  have f6 : (t : Int) / 4294967296 = (hi' : Int) := by omega
                  rw [hlo] at TJ2 hset
                  rw [hhi] at TJ2
                  have hrow2 := hrow.set (x := lo) hj
                  rw [hset] at hrow2
                  have HROW := Lib.hid hrow2
                  clear hset hrow hrow2 hlenr ht hty hlo hhi
                  go_wp2_with (with_reducible refine G.any_mark _ ?_; (try generalize Array.size (World.heap (G.w _)) = bk); (try dsimp only [List.set_cons_zero, List.set_cons_succ]); (try clear g); intro g)
                  go_roundg (gk - 1)
                  case measure => omega
                  case rel => exact ⟨j + 1, hi', pre ++ [lo], _, by omega, rfl, by go_num, TJ2, HROW.out, g, rfl⟩
                · obtain rfl : j = m := by omega
                  have hji : ¬ ((j : Int) < (j : Int)) := by omega
                  have TE := TJ.out
                  rw [← HM.out] at TE
                  rw [List.drop_of_length_le (by rw [HM.out]; exact Nat.le_refl _), List.append_nil] at hrow
                  by_cases hc0 : c = 0
                  · subst hc0
                    have hpre := TE.same
                    have HN2 : Hid (dv l (k + 1) = 10 * N + d ∧ 10 * N + d ≠ 0) := Lib.hid ⟨by rw [HS.out, HN.out.1], by have := HN.out.2; omega⟩
                    have HLN : Hid ((limbs (10 * N + d)).length = j) := Lib.hid (by rw [← hpre, TE.len, HM.out])
                    have HROW : Hid (Row 29 1 j (u32s (limbs (10 * N + d))) cap cs') := Lib.hid (by rw [← hpre]; exact hrow)
                    clear hpre hrow TE TJ
                    go_wp2_with (with_reducible refine G.any_mark _ ?_; (try generalize Array.size (World.heap (G.w _)) = bk); (try dsimp only [List.set_cons_zero, List.set_cons_succ]); (try clear g); intro g)
                    go_roundg (kq - 1)
                    case measure => omega
                    case rel => exact ⟨k + 1, by omega, by go_num, HL2, .inr ⟨10 * N + d, b, cap, cs', HN2, by rw [HLN.out], by rw [HLN.out]; exact HROW.out, hb, g, rfl⟩⟩
                  · have hci : (0 : Int) < (c : Int) := by omega
                    have hwc : IntKind.u32.wrap (c : Int) = (c : Int) := by rw [IntKind.wrap_u32]; omega
                    have hpre := TE.more hc0
                    have HN2 : Hid (dv l (k + 1) = 10 * N + d ∧ 10 * N + d ≠ 0) := Lib.hid ⟨by rw [HS.out, HN.out.1], by have := HN.out.2; omega⟩
                    have HLN : Hid ((limbs (10 * N + d)).length = j + 1) := Lib.hid (by rw [← hpre, List.length_append, TE.len, HM.out]; rfl)
                    have HAP : Hid (u32s (limbs (10 * N + d)) = u32s pre ++ [.int .u32 (c : Int)]) := Lib.hid (by rw [← hpre, u32s_append]; rfl)
                    have H1 : ∀ u ∈ [Value.int .u32 (c : Int)], u.oneCell' = true := by intro u hu; rw [List.mem_singleton.1 hu]; rfl
                    have H2 : j + 1 ≤ maxLen := by show j + 1 ≤ 9223372036854775807; omega
                    have H3 : (j + 1) * 4 ≤ 140737488355328 := by omega
                    clear hpre TE TJ
                    go_wp2_with (first | (with_reducible refine G.any_mark _ ?_; (try generalize Array.size (World.heap (G.w _)) = bk); (try dsimp only [List.set_cons_zero, List.set_cons_succ]); (try clear g); intro g) | (at_builtin; refine wpList_append_lit rfl _ _ 23 rfl 29 i0 _ 1 4 Tryz.underlying23 hi hzz0 hzz1 hzz2 rfl (by decide) g hrow hb rfl 1 rfl rfl H1 (by decide) H2 H3 ?_; clear hb hrow g; intro b cap cs g hb hrow))
                    go_roundg (kq - 1)
                    case measure => omega
                    case rel => exact ⟨k + 1, by omega, by go_num, HL2, .inr ⟨10 * N + d, b, cap, cs, HN2, by rw [HLN.out], by rw [HLN.out, HAP.out]; exact hrow, hb, g, rfl⟩⟩
          · obtain rfl : k = n := by omega
            have hki : ¬ ((k : Int) < (k : Int)) := by omega
            rcases hcase with ⟨HZ, rfl, g, rfl⟩ | ⟨N, b, cap, cs, HN, rfl, hrow, hb, g, rfl⟩
            · have CF := rfits_yes none 0 0
              rw [limbs_zero, List.length_nil] at CF
              replace CF := Lib.hid CF
              have HB0 : Hid (0 < 2 ^ 8192) := Lib.hid (Nat.two_pow_pos _)
              have hsn : SlW g.w none 0 [] := Frag.Sl.nil _ _
              go_wp2_with (with_reducible refine G.any_mark _ ?_; (try generalize Array.size (World.heap (G.w _)) = bk); (try dsimp only [List.set_cons_zero, List.set_cons_succ]); (try clear g); intro g)
              refine (CF.out _ hsn HB0.out).mono ?_
              rintro e w1 ⟨rfl, hb⟩
              obtain ⟨g1, rfl⟩ := G.call_ex _ hb
              clear hb
              (try clear g)
              revert g1
              intro g
              clear hsn
              go_wp2_with (with_reducible refine G.any_mark _ ?_; (try generalize Array.size (World.heap (G.w _)) = bk); (try dsimp only [List.set_cons_zero, List.set_cons_succ]); (try clear g); intro g)
              ((try simp only [G.drew_eq, G.drewN_eq]); (refine G.any_mark _ ?_; (try generalize Array.size (World.heap (G.w _)) = bk); (try dsimp only [List.set_cons_zero, List.set_cons_succ]); (try clear g); intro g))
              refine bodyPost_ret (v := .tuple #[.slice none 0 0, .agg #[.int .i64 0, .int .i64 0]]) (by simp [results, Tryz.f72, go_sem]) rfl ⟨fun _ => ?_, fun h => absurd (by rw [HZ.out]; exact HB0.out) h⟩
              rw [HZ.out]
              exact ⟨none, 0, (fun _ => none), by rw [limbs_zero]; rfl, by rw [limbs_zero]; exact Frag.Sl.nil _ _, g.none⟩
            · have hsl : SlW g.w (some ⟨b, 0, none⟩) cap (limbs N) := (sl_row hrow rfl (by have h300 : (limbs N).length ≤ 300 := len_digits (v := N) (k := k) (by rw [← HN.out.1]; exact HLT.out) (by omega); omega) (ok_limbs N)).at (blkF_sub g.blk0)
              have HM0 : Hid ((limbs N).length ≤ 140737488355328) := Lib.hid (by have h300 : (limbs N).length ≤ 300 := len_digits (v := N) (k := k) (by rw [← HN.out.1]; exact HLT.out) (by omega); omega)
              by_cases hN8 : N < 2 ^ 8192
              · have CF := Lib.hid (fun w h => rfits_yes (some ⟨b, 0, none⟩) cap N w h hN8)
                have H8 := Lib.hid hN8
                clear hN8
                go_wp2_with (with_reducible refine G.any_mark _ ?_; (try generalize Array.size (World.heap (G.w _)) = bk); (try dsimp only [List.set_cons_zero, List.set_cons_succ]); (try clear g); intro g)
                refine (CF.out _ hsl).mono ?_
                rintro e w1 ⟨rfl, hb⟩
                obtain ⟨g1, rfl⟩ := G.call_ex _ hb
                clear hb
                (try clear g)
                revert g1
                intro g
                clear hsl
                go_wp2_with (with_reducible refine G.any_mark _ ?_; (try generalize Array.size (World.heap (G.w _)) = bk); (try dsimp only [List.set_cons_zero, List.set_cons_succ]); (try clear g); intro g)
                ((try simp only [G.drew_eq, G.drewN_eq]); (refine G.any_mark _ ?_; (try generalize Array.size (World.heap (G.w _)) = bk); (try dsimp only [List.set_cons_zero, List.set_cons_succ]); (try clear g); intro g))
                have hlen := HM0.out
                refine bodyPost_ret (v := .tuple #[.slice (some ⟨b, 0, none⟩) (limbs N).length cap, .agg #[.int .i64 0, .int .i64 0]]) (by simp [results, Tryz.f72, go_sem]) rfl ⟨fun _ => ?_, fun h => absurd (by rw [HN.out.1]; exact H8.out) h⟩
                rw [HN.out.1]
                exact ⟨_, cap, _, rfl, sl_row hrow rfl hlen (ok_limbs N), g.give (List.mem_cons_self ..)⟩
              · have CF := Lib.hid (fun w h => rfits_no (some ⟨b, 0, none⟩) cap N w h hN8)
                have H8 := Lib.hid hN8
                clear hN8
                go_wp2_with (with_reducible refine G.any_mark _ ?_; (try generalize Array.size (World.heap (G.w _)) = bk); (try dsimp only [List.set_cons_zero, List.set_cons_succ]); (try clear g); intro g)
                refine (CF.out _ hsl).mono ?_
                rintro e w1 ⟨rfl, hb⟩
                obtain ⟨g1, rfl⟩ := G.call_ex _ hb
                clear hb
                (try clear g)
                revert g1
                intro g
                clear hsl
                go_wp2_with (with_reducible refine G.any_mark _ ?_; (try generalize Array.size (World.heap (G.w _)) = bk); (try dsimp only [List.set_cons_zero, List.set_cons_succ]); (try clear g); intro g)
                ((try simp only [G.drew_eq, G.drewN_eq]); (refine G.any_mark _ ?_; (try generalize Array.size (World.heap (G.w _)) = bk); (try dsimp only [List.set_cons_zero, List.set_cons_succ]); (try clear g); intro g))
                refine bodyPost_ret (v := .tuple #[.slice none 0 0, .agg #[.int .i64 5, .int .i64 0]]) (by simp [results, Tryz.f72, go_sem]) rfl ⟨fun h => absurd (by rw [HN.out.1] at h; exact h) H8.out, fun _ => ?_⟩
                exact ⟨none, 0, (fun _ => none), by rw [limbs_zero]; rfl, by rw [limbs_zero]; exact Frag.Sl.nil _ _, g.none⟩
end Go.Proofs.YtjdnpkicdmapnaaGreatDoor
namespace Go.Proofs.YtjdnpkicdmapnaaGreatDoor
open Go.RowKit GW NL
theorem calls_mark {P : Program} {f : FuncId} {args : Array Value} {R : Ending → World → Prop} {w0 : World} {X : List Nat} {M : List Blk} {I : List Frag} (g : G w0 X M I) (h : ∀ g' : G w0 X M I, Calls P f args g'.w R) : Calls P f args g.mark.w R := h _
theorem foldl_push_bytes : ∀ (l : List Nat) (r : ByteArray), (l.map fun x : Nat => (x : Int)).foldl (fun r n => r.push (UInt8.ofNat n.toNat)) r = ⟨r.data ++ (l.map UInt8.ofNat).toArray⟩
  | [], r => by simp
  | b :: l, r => by
    simp only [List.map_cons, List.foldl_cons]
    rw [foldl_push_bytes l]
    simp [ByteArray.push]
theorem bl_bstr {l : List Nat} (h : ∀ x ∈ l, x < 256) : bl (bstr l) = l := by
  unfold bl bstr
  rw [foldl_push_bytes]
  show (ByteArray.empty.data ++ (l.map UInt8.ofNat).toArray).toList.map UInt8.toNat = l
  have e : (ByteArray.empty.data ++ (l.map UInt8.ofNat).toArray).toList = l.map UInt8.ofNat := by
    show ((#[] : Array UInt8) ++ (l.map UInt8.ofNat).toArray).toList = _
    simp
  rw [e, List.map_map]
  have : ∀ x ∈ l, (UInt8.toNat ∘ UInt8.ofNat) x = x := by
    intro x hx
    have := h x hx
    simp [Nat.mod_eq_of_lt this]
  rw [List.map_congr_left this, List.map_id']
theorem dec_dig (v : Nat) : ∀ x ∈ dec v, 48 ≤ x ∧ x ≤ 57 := by
  intro x hx
  unfold dec at hx
  split at hx
  · rw [List.mem_singleton.1 hx]; decide
  · rw [List.mem_reverse] at hx
    obtain ⟨y, hy, rfl⟩ := List.mem_map.1 hx
    have := digs_lt v y hy
    omega
theorem dv_dec (v : Nat) : dv (dec v) (dec v).length = v := by
  unfold dv dec
  rw [List.take_length]
  split
  · next h => subst h; rfl
  · rw [List.map_reverse, List.map_map]
    have : ∀ x ∈ digs v, ((fun x => x - 48) ∘ fun x => 48 + x) x = x := by intro x _; simp
    rw [List.map_congr_left this, List.map_id']
    exact dval_digs v
theorem dec_head (v : Nat) (h : 1 < (dec v).length) : (dec v).getD 0 0 ≠ 48 := by
  unfold dec at *
  split
  · next h0 => rw [if_pos h0] at h; simp at h
  · next h0 =>
    rw [if_neg h0, List.length_reverse, List.length_map] at h
    obtain ⟨k, hk⟩ : ∃ k, (digs v).length = k + 1 := ⟨(digs v).length - 1, by omega⟩
    have hl := digs_last v k hk
    have hk2 : k < (digs v).length := by omega
    rw [List.getD_eq_getElem?_getD, List.getElem?_eq_getElem hk2] at hl
    rw [List.getD_eq_getElem?_getD, List.getElem?_reverse (by rw [List.length_map]; omega), List.getElem?_map, List.length_map, hk, show k + 1 - 1 - 0 = k by omega, List.getElem?_eq_getElem hk2]
    simp at hl ⊢
    omega
theorem Parse_dec (v : Nat) (hv : v < 2 ^ 8192) (w : World) : Calls Tryz.prog 133 #[.string (bstr (dec v))] w (RNF v 0 0 w) := by
  have hb : bl (bstr (dec v)) = dec v := bl_bstr fun x hx => by have := dec_dig v x hx; omega
  have hs : (bstr (dec v)).size = (dec v).length := by rw [← bl_len, hb]
  have hle : (dec v).length ≤ 2467 := by
    unfold dec
    split
    · simp
    · rw [List.length_reverse, List.length_map]
      exact digs_len v 2467 (Nat.lt_of_lt_of_le hv (Nat.le_of_ble_eq_true rfl))
  have hne : (dec v).length ≠ 0 := by
    unfold dec
    split
    · simp
    · next h0 => rw [List.length_reverse, List.length_map, digs_pos h0]; simp
  have := Parse_digits (bstr (dec v)) w (by rw [hs]; exact hle) (by rw [hs]; exact hne) (fun j hj => by
      rw [hb]
      rw [hs] at hj
      have := dec_dig v ((dec v).getD j 0) (by rw [List.getD_eq_getElem?_getD, List.getElem?_eq_getElem hj]; exact List.getElem_mem hj)
      unfold NoDig
      omega) (by rw [hs, hb]; exact fun h => dec_head v h.1 h.2)
  rw [hb, hs, dv_dec] at this
  exact this.mono fun e w' h => h.1 hv
theorem Text_rv (v : Nat) (hv : v < 2 ^ 8192) (A : Option Addr) (c : Nat) (w : World) (h : SlW w A c (limbs v)) :
    Calls Tryz.prog 66 #[.slice A (limbs v).length c] w fun e w' => e = .returned (.tuple #[.string (bstr (dec v)), .int .i64 0]) ∧ Below w.heap.size w w' := Text_ok A c v w h hv
theorem div_top {v : Nat} (h : v ≠ 0) : v / 2 ^ (nb v - 1) = 1 := by
  have h1 := nb_ge h
  have h2 := nb_lt v
  have h3 := nb_pos h
  have e : 2 ^ nb v = 2 * 2 ^ (nb v - 1) := by
    rw [← Nat.pow_succ']; congr 1; omega
  rw [e] at h2
  have := Nat.two_pow_pos (nb v - 1)
  exact Nat.div_eq_of_lt_le (by omega) (by omega)
end Go.Proofs.YtjdnpkicdmapnaaGreatDoor
