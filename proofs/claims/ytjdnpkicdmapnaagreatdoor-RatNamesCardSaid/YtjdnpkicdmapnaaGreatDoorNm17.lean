/- Plain facts and contracts of functions of the program, out of walks. Their conditions stand ahead of each. -/
import Derived.Test.YtjdnpkicdmapnaaGreatDoorNm1
import Derived.Test.YtjdnpkicdmapnaaGreatDoorNm16
import Derived.Below
import Derived.BigQuiet
import Derived.Deep.Draws
import Derived.Deep.QuietTactic
import Derived.Deep.RegionHeld3
import Derived.Laws.NewBlocks
import Derived.Laws.OwnMore
import Derived.Laws.Pointers
import Derived.Laws.Rows
import Derived.Lib.BitFns
import Derived.Lib.Hide
import Derived.Lib.ItoaNum
import Derived.LoopIn
import Derived.LoopNIn
import Derived.OrdersIn
import Derived.OwnWalkIn
import Derived.RangeFuncBound
import Derived.RangeFuncBox
import Derived.RangeFuncCalls
import Derived.RangeFuncLeaves
import Derived.RangeFuncNested
import Derived.RowKit3
import Derived.Shelf.Abstract
import Derived.Shelf.RegionOpen
import Derived.StillTactics
import Derived.StillTailTactics
import Derived.TacticsInMore
import Derived.Test.YtjdnpkicdmapnaaGreatDoorProg
import Derived.WalkKit
import Derived.WalkLawsBesides
import Derived.WalkSpells
set_option linter.unusedVariables false
set_option linter.unusedSimpArgs false
namespace Go.Proofs.YtjdnpkicdmapnaaGreatDoor
open Go.RowKit GW NL Go.Shelf
attribute [local go_sem] Oper.semAt_some
theorem getD_set_same {l : List Nat} {i x : Nat} (h : i < l.length) : (l.set i x).getD i 0 = x := by
  rw [List.getD_eq_getElem?_getD, List.getElem?_set_self h]; rfl
theorem drop_set {l : List Nat} {i j x : Nat} (h : i < j) : (l.set i x).drop j = l.drop j := by
  apply List.ext_getElem?
  intro k
  rw [List.getElem?_drop, List.getElem?_drop, List.getElem?_set_ne (by omega)]
/-- what lies in memory between two rounds -/
def SmR (n d : Nat) (l : List Nat) (pre : List (Fin n)) (R : Nat) (out : List Nat) : Prop :=
  out.length = n ∧ Ok out ∧ R < d ∧ (pre = (List.finRange n).reverse.take pre.length → val (out.drop (n - pre.length)) = val (l.drop (n - pre.length)) / d ∧ R = val (l.drop (n - pre.length)) % d)
theorem SmR.start {n d : Nat} {l : List Nat} (h : l.length ≤ n) (hd : 0 < d) : SmR n d l [] 0 (List.replicate n 0) := by
  refine ⟨by simp, Ok.zeros _, hd, fun _ => ?_⟩
  rw [List.length_nil, Nat.sub_zero, List.drop_of_length_le (by simp), List.drop_of_length_le h]
  simp [val]
theorem SmR.next {n d : Nat} {l : List Nat} {pre : List (Fin n)} {R : Nat} {out : List Nat} (hl : Ok l) (hd : d < 4294967296) (h : SmR n d l pre R out) (x : Fin n) (hlt : pre.length < n) :
    SmR n d l (pre ++ [x]) ((R * 4294967296 + l.getD x.val 0) % d) (out.set x.val ((R * 4294967296 + l.getD x.val 0) / d)) := by
  obtain ⟨h1, h2, h3, h4⟩ := h
  have hx := hl.getD x.val
  have hq : (R * 4294967296 + l.getD x.val 0) / d < 4294967296 := by
    apply Nat.div_lt_of_lt_mul
    have := Nat.mul_le_mul_right 4294967296 (Nat.succ_le_of_lt h3)
    rw [Nat.succ_mul] at this
    omega
  refine ⟨by simp [h1], h2.set _ hq, Nat.mod_lt _ (by omega), fun hp => ?_⟩
  rw [List.length_append, List.length_singleton, rev_take hlt] at hp
  obtain ⟨e1, e2⟩ := List.append_inj' hp rfl
  obtain ⟨hv, hr⟩ := h4 e1
  have e3 : (⟨n - 1 - pre.length, by omega⟩ : Fin n) = x := by simpa using e2.symm
  obtain ⟨j, hjn⟩ := x
  have hj : n - 1 - pre.length = j := congrArg Fin.val e3
  dsimp only at hx hq ⊢
  rw [List.length_append, List.length_singleton]
  rw [show n - pre.length = j + 1 by omega] at hv hr
  rw [show n - (pre.length + 1) = j by omega]
  obtain ⟨s1, s2⟩ := small_step (l := l) (k := j) (d := d) (Q := val (out.drop (j + 1))) (R := R) (by omega) hv hr
  refine ⟨?_, s2⟩
  rw [val_drop_getD, getD_set_same (by omega), drop_set (by omega)]
  exact s1
theorem SmR.stop {n d : Nat} {l : List Nat} {R : Nat} {out : List Nat} (h : SmR n d l (List.finRange n).reverse R out) : val out = val l / d ∧ R = val l % d := by
  obtain ⟨h1, h2, h3, h4⟩ := h
  have := h4 (by rw [List.take_of_length_le (Nat.le_refl _)])
  rw [List.length_reverse, List.length_finRange, Nat.sub_self, List.drop_zero, List.drop_zero] at this
  exact this
theorem back_stopsK (F : Fence) (nn : Nat) (h9 : F.fn 145) (hro : F.round = none) (hn : 1 ≤ nn) (Bs n₀ : Nat) (A : Option Addr) (n cap : Nat) (l : List Nat) (hreach : n ≤ 35184372088832) (w : World) (hn₀ : n₀ ≤ w.heap.size)
    (hBs : Bs < w.heap.size) (hc : w.cell? ⟨Bs, 0, none⟩ = some (.slice A n cap)) (hL : LimB n₀ w A n l) :
    SeqStopsK F nn Tryz.prog 145 #[.pointer (some ⟨Bs, 0, none⟩)] (fun x : Fin n => #[Value.int .i64 ((x.val : Nat) : Int), Value.int .u32 ((l.getD x.val 0 : Nat) : Int)]) (KeepB n₀ Bs) (fun ys => ys = (List.finRange n).reverse)
      (fun pre => ∃ k, k ≤ n ∧ pre = (List.finRange n).reverse.take k) n w := fun lp J Jx W hW _ _ hY h0 => by
  have hc' := (hW.cell (p := ⟨Bs, 0, none⟩) hBs).trans hc
  refine back1_k F nn h9 hro hn lp Bs (KeepB n₀ Bs) (KeepB.refl n₀ Bs) (fun h k => h.trans k) A n cap (fun j => l.getD j 0) hreach (fun {W1 W2} hk => ⟨World.cell?_of_block hk.box, fun b o e j hj => ?_⟩) J Jx hY W hc' (fun h0 => ?_) h0
  · obtain ⟨b', o', e', hb, _⟩ := hL (by omega)
    rw [e] at e'
    cases e'
    exact World.cell?_of_block (hk.old b hb)
  · obtain ⟨b', o', e', hb, h2⟩ := hL h0
    exact ⟨b', o', e', fun j hj => (hW.cell (p := ⟨b', o' + j, none⟩) (Nat.lt_of_lt_of_le hb hn₀)).trans (h2 j hj)⟩
theorem blkF_sub' {w0 : World} {X : List Nat} {M : List Blk} {I : List Frag} (g : G w0 X M I) {b : Nat} {o : Obj} (h : blkF b o ∈ I) : g.w.heap[b]? = some o := g.sub _ h b o (by simp [blkF])
/-- a number in new memory, and a limb -/
def RNU (q r : Nat) (w : World) (e : Ending) (w' : World) : Prop := ∃ A c F, e = .returned (.tuple #[.slice A (limbs q).length c, .int .u32 (r : Int)]) ∧ F.Sl A c (limbs q) ∧ New w w' F
set_option maxRecDepth 100000 in
set_option maxHeartbeats 2000000 in
theorem small_in (A : Option Addr) (c : Nat) (l : List Nat) (d : Nat) (w : World) (h : SlW w A c l) (hl : l.length ≤ 1000000000) (hd : 0 < d) (hd2 : d < 4294967296) :
    CallsIn Fence.wide 8 Tryz.prog 101 #[.slice A l.length c, .int .u32 d] w (RNU (val l / d) (val l % d) w) := by
  obtain ⟨n, hn⟩ : ∃ n : Nat, l.length = n := ⟨_, rfl⟩
  have hmk := fun w => make_nat n (by omega) w
  rw [hn]
  have hn1 : l.length ≤ n := by omega
  have hn2 : n ≤ l.length := by omega
  have hn3 : n ≤ 1000000000 := by omega
  have HN := Lib.hid hn
  clear hn
  suffices hg : ∀ g : G w [] [] [heapOf w], CallsIn Fence.wide 8 Tryz.prog 101 #[.slice A n c, .int .u32 d] g.w (RNU (val l / d) (val l % d) w) from hg (G.begin w)
  intro g
  refine callsIn_of_wp_marks Tryz.func101 rfl trivial ?_ rfl
  simp only [Tryz.ntmps101, List.size_toArray, List.length_cons, List.length_nil, Nat.reduceAdd, Nat.reduceSub, Array.replicate_succ, Array.replicate_zero, List.push_toArray, List.append_toArray, List.nil_append, List.cons_append]
  gi_wp2_with (first | (with_reducible refine G.any_mark _ ?_; (try generalize Array.size (World.heap (G.w _)) = bk); (try dsimp only [List.set_cons_zero, List.set_cons_succ]); (try clear g); intro g) | (refine ⟨trivial, ?_⟩; gi_at_call 126; refine (back_in Fence.wide (8 - 1) trivial rfl _ _ _ _).mono ?_; rintro e w' ⟨rfl, rfl⟩))
  rename_i dx ob ox rb K hK
  clear hmk
  obtain ⟨g1, hg1⟩ := G.fix g
  rw [hg1]
  clear hg1 g
  have hLB : LimB w.heap.size g1.w A n l := by
    have := (limB_of h).below g1.below
    rwa [HN.out] at this
  have hbs : g1.w.heap[bk]? = some (.cells [Value.slice A n c].toArray 23 (0, 0)) := blkF_sub' g1 (by simp)
  have hbc : g1.w.cell? ⟨bk, 0, none⟩ = some (.slice A n c) := (cell_of_row g1.w bk 0 _ _ _ hbs).trans (by simp)
  have hbl : bk < g1.w.heap.size := (Array.getElem?_eq_some_iff.1 hbs).1
  refine wpIn_rangeFunc_ownG rfl (by omega) (gf := 145) (lb := #[.pointer (some ⟨bk, 0, none⟩)]) rfl trivial (enters_of Tryz.func145 (by kernel_rfl) rfl)
    (back_stopsK Fence.wide (8 - 1) trivial rfl (by omega) bk w.heap.size A n c l (by omega) g1.w g1.chg.size hbl hbc hLB) KeepB.trans (fun W lb o o' hlb _ _ _ => KeepB.put (Nat.le_trans g1.chg.size hlb) (by omega)) (Below.refl _ _) (fun _ => rfl)
    (fun pre W => ∃ (R : Nat) (out : List Nat), SmR n d l pre R out ∧ ∃ g : G w [] [(rb, 29, [.int .u32 (R : Int)]), (ox, 23, [.slice (some ⟨ob, 0, none⟩) n n]), (ob, 29, u32s out), (dx, 29, [.int .u32 (d : Int)])] [blkF bk (.cells [Value.slice A n c].toArray 23 (0, 0)), heapOf w], W = g.w)
    (fun c pre W => False)
    (fun s W W' row hs hg hr => by
      obtain ⟨R, out, h1, g, rfl⟩ := hs
      obtain ⟨g', e⟩ := g.grown_ex (B := g1.w.heap.size) g1.chg.size (by
        intro f hf k o hk
        rcases List.mem_cons.1 hf with rfl | hf
        · right
          have hb := blkF_at hk
          subst hb
          simp only [blkF, if_true, Option.some.injEq] at hk
          subst hk
          rfl
        · rw [List.mem_singleton.1 hf] at hk
          left
          exact Nat.lt_of_lt_of_le (Frag.lt (heapOf_sub w) hk) g1.chg.size) hg hr
      exact ⟨R, out, h1, g', e⟩)
    (fun c s W W' row hs hg hr => hs)
    ⟨0, List.replicate n 0, SmR.start hn1 hd, g1, rfl⟩
    (fun x => { tmps := #[.slice A n c, .int .u32 d, undef, .pointer (some ⟨dx, 0, none⟩), .slice none 0 0, .int .u32 0, .pointer (some ⟨ox, 0, none⟩), .pointer (some ⟨rb, 0, none⟩), .int .i64 ((x.val : Nat) : Int), .int .u32 ((l.getD x.val 0 : Nat) : Int),
          .slice A n c, .int .i64 n, .slice (some ⟨ob, 0, none⟩) n n, .slice A n c, .func (.func 145) #[] #[.pointer (some ⟨bk, 0, none⟩)], .int .i64 ((x.val : Nat) : Int), .int .u32 ((l.getD x.val 0 : Nat) : Int), undef, undef, undef, undef, undef, undef, undef, undef, undef, undef, undef, undef, undef], defers := [] }) ?assign ?body ?done ?stop
  case assign =>
    intro l x W K hK
    gi_wp2
    exact hK
  case stop => intro D c pre W _ _ h _; exact h.elim
  case body =>
    rintro lp pre x W ⟨R, out, hS, g, rfl⟩ hlt
    refine G.at_rebase g (fun h' => ?_)
    have nx := Lib.hid (hS.next h.ok hd2 x hlt)
    obtain ⟨i, hin⟩ := x
    dsimp only at nx ⊢
    have hR := hS.2.2.1
    have hx := h.ok.getD i
    have hcell := u32s_getD (l := out) (j := i) (by rw [hS.1]; exact hin)
    have CD := Lib.hid (fun w => div32_any R (l.getD i 0) d hR hx hd2 w)
    have hs := Lib.hid (u32s_set out i ((R * 4294967296 + l.getD i 0) / d))
    generalize (R * 4294967296 + l.getD i 0) / d = q2 at *
    generalize (R * 4294967296 + l.getD i 0) % d = r2 at *
    generalize l.getD i 0 = x at *
    generalize out.getD i 0 = z at *
    have hin2 : (i : Int) < (n : Int) := by omega
    clear hlt hLB hbs hbc hbl hS
    gi_wp2_with fail
    refine wpIn_round_held (S := fun W => W.cell? ⟨ox, 0, none⟩ = some (.slice (some ⟨ob, 0, none⟩) n n) ∧ W.cell? ⟨dx, 0, none⟩ = some (.int .u32 (d : Int))) (by kernel_rfl) (by rintro ⟨a, w, h⟩; exact h) (by kernel_rfl) (by constructor <;> go_simp) (fun hHeld => ?_)
    refine wpAnyH_take (i := 0) (v := ?_) rfl (by kernel_rfl) (by kernel_rfl) (by kernel_rfl) (fun _ _ _ h => h) (Or.inl ⟨by rfl, ?_⟩) (by assumption) ?_
    rotate_left 1
    · (intro w hSw; (try dsimp only at hSw); go_simp; (try with_reducible rfl))
    (try simp only [Act.put, List.getElem_toArray, List.getElem_cons_zero, List.getElem_cons_succ, List.setIfInBounds_toArray, List.set_cons_zero, List.set_cons_succ])
    refine wpAnyH_take (i := 1) (v := ?_) rfl (by kernel_rfl) (by kernel_rfl) (by kernel_rfl) (fun _ _ _ h => h) (Or.inl ⟨by rfl, ?_⟩) (by assumption) ?_
    rotate_left 1
    · (intro w hSw; (try dsimp only at hSw); go_simp; (try with_reducible rfl))
    (try simp only [Act.put, List.getElem_toArray, List.getElem_cons_zero, List.getElem_cons_succ, List.setIfInBounds_toArray, List.set_cons_zero, List.set_cons_succ])
    refine wpAnyH_take (i := 3) (v := ?_) rfl (by kernel_rfl) (by kernel_rfl) (by kernel_rfl) (fun _ _ _ h => h) (Or.inl ⟨by rfl, ?_⟩) (by assumption) ?_
    rotate_left 1
    · (intro w hSw; (try dsimp only at hSw); go_simp; (try with_reducible rfl))
    (try simp only [Act.put, List.getElem_toArray, List.getElem_cons_zero, List.getElem_cons_succ, List.setIfInBounds_toArray, List.set_cons_zero, List.set_cons_succ])
    refine wpAnyH_take (i := 4) (v := ?_) rfl (by kernel_rfl) (by kernel_rfl) (by kernel_rfl) (fun _ _ _ h => h) (Or.inl ⟨by rfl, ?_⟩) (by assumption) ?_
    rotate_left 1
    · (intro w hSw; (try dsimp only at hSw); go_simp; (try with_reducible rfl))
    (try simp only [Act.put, List.getElem_toArray, List.getElem_cons_zero, List.getElem_cons_succ, List.setIfInBounds_toArray, List.set_cons_zero, List.set_cons_succ])
    refine wpAnyH_ready (rs := [2]) (by kernel_rfl) (by simp) ?_
    refine AllReadyH.cons rfl (fun K hK => ?_) AllReadyH.nil
    go_simp
    refine G.any_mark _ ?_
    clear hHeld
    clear h'
    intro h'
    refine hK.out _ _ (by constructor <;> go_simp) (fun hHeld => ?_)
    clear hK K
    (try simp only [Act.put, List.setIfInBounds_toArray, List.set_cons_zero, List.set_cons_succ])
    refine wpAnyH_ready (rs := [5]) (by kernel_rfl) (by simp) ?_
    refine AllReadyH.cons rfl (fun K hK => ?_) AllReadyH.nil
    go_simp
    refine (CD.out _).mono ?_
    rintro e w' ⟨rfl, hb⟩
    obtain ⟨g1, rfl⟩ := G.call_ex _ hb
    clear hb hHeld
    clear h'
    dsimp only
    refine hK.out _ _ (by constructor <;> go_simp) (fun hHeld => ?_)
    clear hK K
    (try simp only [Act.put, List.setIfInBounds_toArray, List.set_cons_zero, List.set_cons_succ])
    refine wpAnyH_take (i := 6) (v := ?_) rfl (by kernel_rfl) (by kernel_rfl) (by kernel_rfl) (fun _ _ _ h => h) (Or.inl ⟨by rfl, ?_⟩) (by assumption) ?_
    rotate_left 1
    · (intro w hSw; (try dsimp only at hSw); go_simp; (try with_reducible rfl))
    (try simp only [Act.put, List.getElem_toArray, List.getElem_cons_zero, List.getElem_cons_succ, List.setIfInBounds_toArray, List.set_cons_zero, List.set_cons_succ])
    refine wpAnyH_take (i := 7) (v := ?_) rfl (by kernel_rfl) (by kernel_rfl) (by kernel_rfl) (fun _ _ _ h => h) (Or.inl ⟨by rfl, ?_⟩) (by assumption) ?_
    rotate_left 1
    · (intro w hSw; (try dsimp only at hSw); go_simp; (try with_reducible rfl))
    (try simp only [Act.put, List.getElem_toArray, List.getElem_cons_zero, List.getElem_cons_succ, List.setIfInBounds_toArray, List.set_cons_zero, List.set_cons_succ])
    refine wpAnyH_take (i := 8) (v := ?_) rfl (by kernel_rfl) (by kernel_rfl) (by kernel_rfl) (fun _ _ _ h => h) (Or.inl ⟨by rfl, ?_⟩) (by assumption) ?_
    rotate_left 1
    · (intro w hSw; (try dsimp only at hSw); go_simp; (try with_reducible rfl))
    (try simp only [Act.put, List.getElem_toArray, List.getElem_cons_zero, List.getElem_cons_succ, List.setIfInBounds_toArray, List.set_cons_zero, List.set_cons_succ])
    refine wpAnyH_take (i := 9) (v := ?_) rfl (by kernel_rfl) (by kernel_rfl) (by kernel_rfl) (fun _ _ _ h => h) (Or.inl ⟨by rfl, ?_⟩) (by assumption) ?_
    rotate_left 1
    · (intro w hSw; (try dsimp only at hSw); go_simp; (try with_reducible rfl))
    (try simp only [Act.put, List.getElem_toArray, List.getElem_cons_zero, List.getElem_cons_succ, List.setIfInBounds_toArray, List.set_cons_zero, List.set_cons_succ])
    refine wpAnyH_ready (rs := [10]) (by kernel_rfl) (by simp) ?_
    refine AllReadyH.cons rfl (fun K hK => ?_) AllReadyH.nil
    go_simp
    refine G.any_mark _ ?_
    clear hHeld g1
    intro g1
    refine hK.out _ _ (by constructor <;> go_simp) (fun hHeld => ?_)
    clear hK K
    (try simp only [Act.put, List.setIfInBounds_toArray, List.set_cons_zero, List.set_cons_succ])
    refine wpAnyH_ready (rs := [11]) (by kernel_rfl) (by simp) ?_
    refine AllReadyH.cons rfl (fun K hK => ?_) AllReadyH.nil
    go_simp
    refine G.any_mark _ ?_
    clear hHeld g1
    intro g1
    refine hK.out _ _ (by constructor <;> go_simp) (fun hHeld => ?_)
    clear hK K
    (try simp only [Act.put, List.setIfInBounds_toArray, List.set_cons_zero, List.set_cons_succ])
    refine wpAnyH_done (by kernel_rfl) ?_ _
    gi_wp2_with fail
    obtain ⟨g2, hg2⟩ := g1.as (by rw [hs.out])
    obtain ⟨g3, hg3⟩ := g.unbase g2 (by simp only [List.map_cons])
    refine ⟨?_, ?_, r2, out.set i q2, nx.out, g3, hg2.trans hg3⟩
    · rw [hg2]; exact (g.keeps g2).from _
    · rw [hg2]; exact g.keepB g2
  case done =>
    rintro D ys W hD rfl ⟨R, out, hS, g, rfl⟩ hK
    obtain ⟨V, hRv⟩ := hS.stop
    have hok := hS.2.1
    have hlen := hS.1
    obtain ⟨g2, hg2⟩ := g.seeD hK rfl
    rw [hg2]
    clear hS hLB hbs hbc hbl
    have VV := Lib.hid V
    have RV := Lib.hid hRv
    clear V hRv
    have CT : Hid (∀ g' : G w [] [(rb, 29, [.int .u32 (R : Int)]), (ox, 23, [.slice (some ⟨ob, 0, none⟩) n n]), (ob, 29, u32s out), (dx, 29, [.int .u32 (d : Int)])] [blkF D (Obj.deferred (some [])), blkF bk (.cells [Value.slice A n c].toArray 23 (0, 0)), heapOf w], Calls Tryz.prog 128 #[.slice (some ⟨ob, 0, none⟩) n n] g'.w fun e w' => e = .returned (.slice (some ⟨ob, 0, none⟩) (limbs (val out)).length n) ∧ Below g'.w.heap.size g'.w w') := Lib.hid (fun g' => by
      have hsl : SlW g'.w (some ⟨ob, 0, none⟩) n out := (sl_blk (b := ob) (T := 29) (fr := (0, 0)) (c := n) (Nat.le_of_eq hlen) (by omega) hok).at (blkF_sub (g'.own (ob, 29, u32s out) (by simp)))
      have := trim_any (some ⟨ob, 0, none⟩) n out g'.w hsl
      rwa [hlen] at this)
    gi_wp2_with fail
    refine wpIn_wide.2 ?_
    go_region_held3 (fun W => W.cell? ⟨ox, 0, none⟩ = some (.slice (some ⟨ob, 0, none⟩) n n) ∧ W.cell? ⟨rb, 0, none⟩ = some (.int .u32 (R : Int))) (constructor <;> go_simp) ((go_at_call 128; refine (CT.out _).mono ?_; rintro e w1 ⟨rfl, hb⟩; obtain ⟨g3, rfl⟩ := G.call_ex _ hb; clear hb))
    gi_wp2_with fail
    have hK' : g3.w.heap[D]? = some (Obj.deferred (some [])) := blkF_sub' g3 (by simp)
    refine ⟨by simp, .inl ⟨_, _, rfl, run_takeDeferred hK', ?_⟩⟩
    refine ⟨.tuple #[.slice (some ⟨ob, 0, none⟩) (limbs (val out)).length n, .int .u32 (R : Int)], by simp [results, Tryz.f101, go_sem], ?_⟩
    rw [← RV.out, VV.out]
    refine ⟨_, n, _, rfl, ?_, (g3.give (b := ob) (T := 29) (cs := u32s out) (by simp)).put hK' rfl (Nat.le_trans g1.chg.size hD) ?_⟩
    · have := sl_trim (sl_blk (b := ob) (T := 29) (fr := (0, 0)) (c := n) (Nat.le_of_eq hlen) (by omega) hok)
      rwa [VV.out] at this
    · intro k o hk
      have hb := blkF_at hk
      subst hb
      simp only [blkF, if_true, Option.some.injEq] at hk
      subst hk
      rfl
theorem small_any (A : Option Addr) (c : Nat) (l : List Nat) (d : Nat) (w : World) (h : SlW w A c l) (hl : l.length ≤ 1000000000) (hd : 0 < d) (hd2 : d < 4294967296) :
    Calls Tryz.prog 101 #[.slice A l.length c, .int .u32 d] w (RNU (val l / d) (val l % d) w) := callsIn_wide.1 (small_in A c l d w h hl hd hd2)
end Go.Proofs.YtjdnpkicdmapnaaGreatDoor
