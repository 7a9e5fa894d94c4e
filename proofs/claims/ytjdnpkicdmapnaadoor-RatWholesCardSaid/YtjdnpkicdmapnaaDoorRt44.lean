/- Plain facts and contracts of functions of the program, out of walks. Their conditions stand ahead of each. -/
import Derived.Test.YtjdnpkicdmapnaaDoorRt2
import Derived.Test.YtjdnpkicdmapnaaDoorRt10
import Derived.Test.YtjdnpkicdmapnaaDoorRt41
import Derived.Test.YtjdnpkicdmapnaaDoorRt42
import Derived.Test.YtjdnpkicdmapnaaDoorRt43
import Derived.Below
import Derived.BigQuiet
import Derived.Deep.Draws
import Derived.Deep.LoopGhost
import Derived.Deep.QuietTactic
import Derived.Deep.RegionHeld3
import Derived.Deep.RegionLaw
import Derived.Defers
import Derived.Laws.BytesString
import Derived.Laws.Cells
import Derived.Laws.CopyOwn
import Derived.Laws.CopyRow
import Derived.Laws.NewBlocks
import Derived.Laws.OwnMore
import Derived.Laws.Pointers
import Derived.Laws.Rows
import Derived.Lib.BitFns
import Derived.Lib.Hide
import Derived.Lib.ItoaNum
import Derived.Lib.TrailingZeros
import Derived.LoopIn
import Derived.LoopNIn
import Derived.Maps.AppendAt
import Derived.OrdersIn
import Derived.OwnWalk
import Derived.OwnWalkIn
import Derived.RangeFuncBound
import Derived.RangeFuncBox
import Derived.RangeFuncCalls
import Derived.RangeFuncLeaves
import Derived.RangeFuncNested
import Derived.RowKit3
import Derived.Shelf.Abstract
import Derived.Shelf.RegionOpen
import Derived.Shelf.Spec.TrailingZeros
import Derived.StillTactics
import Derived.StillTailTactics
import Derived.TacticsInMore
import Derived.Test.YtjdnpkicdmapnaaDoorProg
import Derived.WalkKit
import Derived.WalkLawsBesides
import Derived.WalkMore
import Derived.WalkSpells
set_option linter.unusedVariables false
set_option linter.unusedSimpArgs false
set_option exponentiation.threshold 10000
namespace Go.Proofs.YtjdnpkicdmapnaaDoor
open Go.RowKit GW NL
theorem G.oldm {w0 : World} {b : Nat} {X : List Nat} {M : List Blk} {I : List Frag} (g : G w0 X M I) (hI : heapBut w0 b ∈ I) {k o : Nat} {v : Value} (hne : k ≠ b) (h : w0.cell? ⟨k, o, none⟩ = some v) : g.w.cell? ⟨k, o, none⟩ = some v := by
  refine g.frag_cell hI ?_
  unfold World.cell? at h
  unfold Frag.cell heapBut
  simp only at h ⊢
  rw [if_neg hne]
  exact h
/-- block ob holds one int: what has cells of other kinds lies elsewhere -/
theorem ob_ne {w : World} {ob : Nat} {i : Int} (h : w.heap[ob]? = some (.cells #[.int .i64 i] 3 (0, 0))) {k o : Nat} {v : Value} (hc : w.cell? ⟨k, o, none⟩ = some v) (hv : ∀ j : Int, v ≠ .int .i64 j) : k ≠ ob := by
  rintro rfl
  simp only [World.cell?, h] at hc
  rcases o with _ | o
  · simp at hc; exact hv i hc.symm
  · simp at hc
theorem sl_ob {w : World} {ob : Nat} {i : Int} (h : w.heap[ob]? = some (.cells #[.int .i64 i] 3 (0, 0))) {A : Option Addr} {c : Nat} {l : List Nat} (hs : SlW w A c l) : (heapBut w ob).Sl A c l := by
  refine ⟨hs.cap, hs.max, hs.len, ?_, hs.ok⟩
  intro hl
  obtain ⟨b', o, e, cs, T, fr, hb, hc⟩ := hs.lim hl
  refine ⟨b', o, e, cs, T, fr, ?_, hc⟩
  unfold heapBut
  rw [if_neg]
  · exact hb
  · rintro rfl
    have h0 := hc 0 hl
    simp only [heapOf, h] at hb
    cases hb
    rcases o with _ | o
    · simp at h0
    · simp at h0
theorem tab_ob {w : World} {ob : Nat} {i : Int} (h : w.heap[ob]? = some (.cells #[.int .i64 i] 3 (0, 0))) (hT : Tab w) : ob ≠ 0 :=
  (ob_ne h (hT 0 (by decide)) (by intro j hj; cases hj)).symm
/-- the sign -/
def sgn (x : Rat) : Int := if rneg x = true then -1 else if rn x ≠ 0 then 1 else 0
/-- an error; block ob holds the int v -/
def RCE (ob : Nat) (v er : Int) (w : World) (e : Ending) (w' : World) : Prop := e = .returned (.tuple #[.agg #[.bool false, .slice none 0 0, .slice none 0 0], .int .i64 er]) ∧ Chg [ob] w w' ∧ w'.heap[ob]? = some (.cells #[.int .i64 v] 3 (0, 0))
set_option maxRecDepth 20000 in
set_option maxHeartbeats 4000000 in
theorem cmp1_any (ob b cap : Nat) (s1 s2 : Bool) (A1 B1 A2 B2 : Option Addr) (c1 k1 c2 k2 n1 d1 n2 d2 : Nat) (w : World) (hob : w.heap[ob]? = some (.cells #[.int .i64 0] 3 (0, 0))) (f1 : FrAt w b 0 s1 A1 (limbs n1).length c1 B1 (limbs d1).length k1) (f2 : FrAt w b 3 s2 A2 (limbs n2).length c2 B2 (limbs d2).length k2) (hcap : 2 ≤ cap) (h1 : SlW w A1 c1 (limbs n1)) (j1 : SlW w B1 k1 (limbs d1)) (h2 : SlW w A2 c2 (limbs n2)) (j2 : SlW w B2 k2 (limbs d2)) (hT : Tab w)
    (l1 : (limbs n1).length ≤ 10000000) (m1 : (limbs d1).length ≤ 10000000) (l2 : (limbs n2).length ≤ 10000000) (m2 : (limbs d2).length ≤ 10000000) (z1 : d1 ≠ 0) (z2 : d2 ≠ 0) :
    Calls Tryd.prog 47 #[.slice (some ⟨b, 0, none⟩) 2 cap, .pointer (some ⟨ob, 0, none⟩)] w (RCE ob (sgn (frac s1 n1 d1 - frac s2 n2 d2)) 0 w) := by
  have hbo : b ≠ ob := ob_ne hob f1.c0 (by intro j hj; cases hj)
  have hbt := tab_ob hob hT
  replace h1 := sl_ob hob h1
  replace j1 := sl_ob hob j1
  replace h2 := sl_ob hob h2
  replace j2 := sl_ob hob j2
  refine calls_m (cs := [.int .i64 0]) hob fun g => ?_
  clear hob
  rw [Rat.sub_eq_add_neg, ← frac_minus s2 n2 d2]
  have C0 := Lib.hid (fun w => minus_any s2 A2 B2 c2 k2 (limbs n2).length (limbs d2).length w)
  generalize (!s2 && decide (0 < (limbs n2).length)) = t2 at *
  have C1 := Lib.hid (fun w a b c d t => fplus_any s1 t2 A1 B1 A2 B2 c1 k1 c2 k2 n1 d1 n2 d2 w a b c d t l1 m1 l2 m2 z1 z2)
  have HT := Lib.hid hT
  have HBT := Lib.hid hbt
  have HBO := Lib.hid hbo
  have E0 := Lib.hid f1.c0
  have E1 := Lib.hid f1.c1
  have E2 := Lib.hid f1.c2
  have E3 := Lib.hid f2.c0
  have E4 := Lib.hid f2.c1
  have E5 := Lib.hid f2.c2
  clear hT f1 f2 z1 z2 hbt hbo
  generalize (limbs n1).length = ln1 at *
  generalize (limbs d1).length = ld1 at *
  generalize (limbs n2).length = ln2 at *
  generalize (limbs d2).length = ld2 at *
  generalize frac s1 n1 d1 + frac t2 n2 d2 = x at *
  obtain ⟨xs, hxs⟩ : ∃ s, rneg x = s := ⟨_, rfl⟩
  obtain ⟨xn, hxn⟩ : ∃ n, rn x = n := ⟨_, rfl⟩
  obtain ⟨xd, hxd⟩ : ∃ n, x.den = n := ⟨_, rfl⟩
  unfold sgn
  rw [hxs, hxn]
  unfold RNf at C1
  rw [hxs, hxn, hxd] at C1
  clear hxs hxn hxd
  obtain ⟨V, hV⟩ : ∃ V : Int, (if xs = true then -1 else if xn ≠ 0 then 1 else 0) = V := ⟨_, rfl⟩
  rw [hV]
  have HV := Lib.hid hV
  clear hV
  have hcap2 : (2 : Int) ≤ (cap : Int) := by omega
  go_enter Tryd.func47, Tryd.ntmps47
  go_wp2_with (with_reducible refine G.any_mark _ ?_; (try generalize Array.size (World.heap (G.w _)) = bk); (try dsimp only [List.set_cons_zero, List.set_cons_succ]); (try clear g); intro g)
  go_region_held3 (fun w' => w'.cell? ⟨b, 0, none⟩ = some (.bool s1) ∧ w'.cell? ⟨b, 1, none⟩ = some (.slice A1 ln1 c1) ∧ w'.cell? ⟨b, 2, none⟩ = some (.slice B1 ld1 k1) ∧ w'.cell? ⟨b, 3, none⟩ = some (.bool s2) ∧ w'.cell? ⟨b, 4, none⟩ = some (.slice A2 ln2 c2) ∧ w'.cell? ⟨b, 5, none⟩ = some (.slice B2 ld2 k2)) (((try simp only [G.drew_eq, G.drewN_eq]); exact ⟨G.oldm _ (by simp) HBO.out E0.out, G.oldm _ (by simp) HBO.out E1.out, G.oldm _ (by simp) HBO.out E2.out, G.oldm _ (by simp) HBO.out E3.out, G.oldm _ (by simp) HBO.out E4.out, G.oldm _ (by simp) HBO.out E5.out⟩)) (first
    | (go_at_call 38; (with_reducible refine (C0.out _).mono ?_); rintro e w1 ⟨rfl, hb⟩; obtain ⟨g1, rfl⟩ := G.call_ex _ hb; clear hb; (try clear g); revert g1; intro g)
    | (go_at_call 35; (with_reducible refine (C1.out _ ?_ ?_ ?_ ?_ ?_).mono ?_); (· exact G.sl _ (by simp) h1); (· exact G.sl _ (by simp) j1); (· exact G.sl _ (by simp) h2); (· exact G.sl _ (by simp) j2);  (· exact G.tab_m _ (b := ob) (by simp) HT.out HBT.out); rintro e w1 ⟨Y1, y1, Q1, Y2, y2, Q2, rfl, hy1, hy2, hn1, hn2⟩; obtain ⟨g1, rfl⟩ := G.new2_ex _ hn1 hn2; clear hn1 hn2; (try clear g); revert g1; intro g))
  all_goals clear hy1 hy2
  all_goals (obtain ⟨lx, hlx⟩ : ∃ lx, (limbs xn).length = lx := ⟨_, rfl⟩)
  all_goals rw [hlx]
  all_goals (rcases xs with _ | _)
  all_goals (by_cases hx0 : xn = 0)
  all_goals first
    | (have hl0 : lx = 0 := by rw [← hlx, hx0]; exact limbs_len0
       have hV := HV.out
       simp only [hx0, if_true, if_false, ne_eq, not_true_eq_false, not_false_eq_true, Bool.false_eq_true] at hV
       clear hx0 hlx C1 HV
       subst hl0 hV)
    | (have hl0 : (0 : Int) < (lx : Int) := by rw [← hlx]; have := (limbs_ne hx0).2; omega
       have hV := HV.out
       simp only [hx0, if_true, if_false, ne_eq, not_true_eq_false, not_false_eq_true, Bool.false_eq_true] at hV
       clear hx0 hlx C1 HV
       subst hV)
  all_goals go_wp2_with (with_reducible refine G.any_mark _ ?_; (try generalize Array.size (World.heap (G.w _)) = bk); (try dsimp only [List.set_cons_zero, List.set_cons_succ]); (try clear g); intro g)
  all_goals refine bodyPost_ret (v := .tuple #[.agg #[.bool false, .slice none 0 0, .slice none 0 0], .int .i64 0]) (by simp [results, Tryd.results47, go_sem]) rfl ?_
  all_goals exact ⟨rfl, G.chg _, G.blk2 _⟩
/-- what Cmp finds: the sign and the error -/
def cmpR (e1 e2 r : Int) : Int × Int := if e1 ≠ 0 then (0, e1) else if e2 ≠ 0 then (0, e2) else (r, 0)
set_option maxRecDepth 20000 in
set_option maxHeartbeats 4000000 in
theorem with_cmp (ob lb : Nat) (r : Int) (s1 : Bool) (A1 B1 : Option Addr) (c1 k1 : Nat) (l1 m1 : List Nat) (s2 : Bool) (A2 B2 : Option Addr) (c2 k2 : Nat) (l2 m2 : List Nat) (w : World) (hob : w.heap[ob]? = some (.cells #[.int .i64 0] 3 (0, 0))) (p1 : PtAt w lb 0 s1 A1 l1.length c1 B1 m1.length k1) (h1 : SlW w A1 c1 l1) (j1 : SlW w B1 k1 m1) (p2 : PtAt w lb 3 s2 A2 l2.length c2 B2 m2.length k2) (h2 : SlW w A2 c2 l2) (j2 : SlW w B2 k2 m2) (hT : Tab w)
    (hf : rchk s1 l1 m1 = 0 → rchk s2 l2 m2 = 0 → ∀ (w' : World) (bF capF : Nat), 2 ≤ capF → w'.heap[ob]? = some (.cells #[.int .i64 0] 3 (0, 0)) → FrAt w' bF 0 s1 A1 l1.length c1 B1 m1.length k1 → FrAt w' bF 3 s2 A2 l2.length c2 B2 m2.length k2 → SlW w' A1 c1 l1 → SlW w' B1 k1 m1 → SlW w' A2 c2 l2 → SlW w' B2 k2 m2 → Tab w' → Calls Tryd.prog 47 #[.slice (some ⟨bF, 0, none⟩) 2 capF, .pointer (some ⟨ob, 0, none⟩)] w' (RCE ob r 0 w')) :
    Calls Tryd.prog 33 #[.func (.func 47) #[] #[.pointer (some ⟨ob, 0, none⟩)], .slice (some ⟨lb, 0, none⟩) 2 2] w (RCE ob (cmpR (rchk s1 l1 m1) (rchk s2 l2 m2) r).1 (cmpR (rchk s1 l1 m1) (rchk s2 l2 m2) r).2 w) := by
  have hbo : lb ≠ ob := ob_ne hob p1.c0 (by intro j hj; cases hj)
  have hbt := tab_ob hob hT
  replace h1 := sl_ob hob h1
  replace j1 := sl_ob hob j1
  replace h2 := sl_ob hob h2
  replace j2 := sl_ob hob j2
  refine calls_m (cs := [.int .i64 0]) hob fun g => ?_
  clear hob
  have HBT := Lib.hid hbt
  clear hbt
  unfold cmpR
  have CK1 := Lib.hid (fun w a b t => rcheck s1 A1 B1 c1 k1 l1 m1 w a b t)
  have CO1 := Lib.hid (fun w => of_any s1 A1 B1 c1 k1 l1.length m1.length w)
  have E10 := fun (M : List Blk) (g : G w [ob] M [heapBut w ob]) => G.oldm g (List.mem_cons_self ..) hbo p1.c0
  have E11 := fun (M : List Blk) (g : G w [ob] M [heapBut w ob]) => G.oldm g (List.mem_cons_self ..) hbo p1.c1
  have E12 := fun (M : List Blk) (g : G w [ob] M [heapBut w ob]) => G.oldm g (List.mem_cons_self ..) hbo p1.c2
  have H1 := Lib.hid h1
  have J1 := Lib.hid j1
  obtain ⟨e1, he1⟩ : ∃ e, rchk s1 l1 m1 = e := ⟨_, rfl⟩
  rw [he1] at CK1 hf ⊢
  clear p1 h1 j1 he1
  have CK2 := Lib.hid (fun w a b t => rcheck s2 A2 B2 c2 k2 l2 m2 w a b t)
  have CO2 := Lib.hid (fun w => of_any s2 A2 B2 c2 k2 l2.length m2.length w)
  have E20 := fun (M : List Blk) (g : G w [ob] M [heapBut w ob]) => G.oldm g (List.mem_cons_self ..) hbo p2.c0
  have E21 := fun (M : List Blk) (g : G w [ob] M [heapBut w ob]) => G.oldm g (List.mem_cons_self ..) hbo p2.c1
  have E22 := fun (M : List Blk) (g : G w [ob] M [heapBut w ob]) => G.oldm g (List.mem_cons_self ..) hbo p2.c2
  have H2 := Lib.hid h2
  have J2 := Lib.hid j2
  obtain ⟨e2, he2⟩ : ∃ e, rchk s2 l2 m2 = e := ⟨_, rfl⟩
  rw [he2] at CK2 hf ⊢
  clear p2 h2 j2 he2
  have HF := Lib.hid hf
  have HT := Lib.hid hT
  obtain ⟨RR, hRR⟩ : ∃ RR, (if e1 ≠ 0 then ((0, e1) : Int × Int) else if e2 ≠ 0 then (0, e2) else (r, 0)) = RR := ⟨_, rfl⟩
  rw [hRR]
  clear hbo
  have HRR := Lib.hid hRR
  clear hf hT hRR
  generalize l1.length = n1 at *
  generalize m1.length = d1 at *
  generalize l2.length = n2 at *
  generalize m2.length = d2 at *
  obtain ⟨i0, hi, hz0, hz1, hz2⟩ := info_parts infoFr
  have HP1 := pts_one s1 A1 n1 c1 B1 d1 k1
  have HP2 := pts_one s2 A2 n2 c2 B2 d2 k2
  go_enter Tryd.func33, Tryd.ntmps33
  go_wp2_with (with_reducible refine G.any_mark _ ?_; (try generalize Array.size (World.heap (G.w _)) = bk); (try dsimp only [List.set_cons_zero, List.set_cons_succ]); (try clear g); intro g)
  obtain ⟨rb, rfl⟩ : ∃ rb, rb = bk := ⟨_, rfl⟩
  go_loopg [6, 12] 2 (fun gk s6 s12 wr => (gk = 2 ∧ s12 = .int .i64 0 ∧ s6 = .slice none 0 0 ∧ ∃ g : G w [ob] [(rb, 26, [.bool false, .slice none 0 0, .slice none 0 0]), (ob, 3, [.int .i64 0])] [heapBut w ob], wr = g.w) ∨ (gk = 1 ∧ s12 = .int .i64 1 ∧ e1 = 0 ∧ ∃ b cap cs, s6 = .slice (some ⟨b, 0, none⟩) 1 cap ∧ Row 56 3 1 ([Value.bool s1, .slice A1 n1 c1, .slice B1 d1 k1]) cap cs ∧ w.heap.size ≤ b ∧ ∃ g : G w [ob] [(b, 56, cs), (rb, 26, [.bool false, .slice none 0 0, .slice none 0 0]), (ob, 3, [.int .i64 0])] [heapBut w ob], wr = g.w) ∨ (gk = 0 ∧ s12 = .int .i64 2 ∧ e1 = 0 ∧ e2 = 0 ∧ ∃ b cap cs, s6 = .slice (some ⟨b, 0, none⟩) 2 cap ∧ Row 56 3 2 ([Value.bool s1, .slice A1 n1 c1, .slice B1 d1 k1] ++ [Value.bool s2, .slice A2 n2 c2, .slice B2 d2 k2]) cap cs ∧ w.heap.size ≤ b ∧ ∃ g : G w [ob] [(b, 56, cs), (rb, 26, [.bool false, .slice none 0 0, .slice none 0 0]), (ob, 3, [.int .i64 0])] [heapBut w ob], wr = g.w))
  case atStart => exact .inl ⟨rfl, rfl, rfl, g, rfl⟩
  case round =>
    clear g
    rcases hrel with ⟨rfl, rfl, rfl, g, rfl⟩ | ⟨rfl, rfl, rfl, b, cap, cs, rfl, hrow, hbw, g, rfl⟩ | ⟨rfl, rfl, rfl, rfl, b, cap, cs, rfl, hrow, hbw, g, rfl⟩
    · go_wp2_with (with_reducible refine G.any_mark _ ?_; (try generalize Array.size (World.heap (G.w _)) = bk); (try dsimp only [List.set_cons_zero, List.set_cons_succ]); (try clear g); intro g)
      (try (refine cmark _ ?_; (try dsimp only [List.set_cons_zero, List.set_cons_succ]); (try clear g); intro g))
      refine (CK1.out _ (G.sl g (by simp) H1.out) (G.sl g (by simp) J1.out) (G.tab_m g (b := ob) (by simp) HT.out HBT.out)).mono ?_
      rintro e w1 ⟨rfl, hb⟩
      obtain ⟨g1, rfl⟩ := G.call_ex _ hb
      clear hb
      (try clear g)
      revert g1
      intro g
      by_cases hez : e1 = 0
      · subst hez
        go_wp2_with (with_reducible refine G.any_mark _ ?_; (try generalize Array.size (World.heap (G.w _)) = bk); (try dsimp only [List.set_cons_zero, List.set_cons_succ]); (try clear g); intro g)
        refine (CO1.out _).mono ?_
        rintro e w1 ⟨rfl, hb⟩
        obtain ⟨g1, rfl⟩ := G.call_ex _ hb
        clear hb
        (try clear g)
        revert g1
        intro g
        obtain ⟨g2, hg2⟩ := G.less g (M' := [(rb, 26, [.bool false, .slice none 0 0, .slice none 0 0]), (ob, 3, [.int .i64 0])]) (by simp)
        rw [hg2]
        clear hg2 g
        revert g2
        intro g
        go_wp2_with (first | (with_reducible refine G.any_mark _ ?_; (try generalize Array.size (World.heap (G.w _)) = bk); (try dsimp only [List.set_cons_zero, List.set_cons_succ]); (try clear g); intro g) | (at_builtin; refine wpList_append_lit0 rfl _ _ 51 rfl 56 i0 _ 3 56 Tryd.underlying51 hi hz0 hz1 hz2 rfl (by decide) g rfl 1 rfl rfl HP1 (by decide) (by decide) (by decide) ?_; clear g; intro b cap cs g hb hrow))
        obtain ⟨g2, hg2⟩ := G.less g (M' := [(b, 56, cs), (rb, 26, [.bool false, .slice none 0 0, .slice none 0 0]), (ob, 3, [.int .i64 0])]) (by simp)
        go_roundg 1
        case measure => omega
        case rel => exact .inr (.inl ⟨by simp, by simp, by simp, b, cap, cs, rfl, hrow, hb, g2, hg2⟩)
      · have hne : ((e1 : Int) == 0) = false := by rw [beq_eq_false_iff_ne]; exact hez
        have hne2 : ((e1 : Int) != 0) = true := by rw [bne, hne]; rfl
        have HEZ := Lib.hid hez
        clear hez
        go_wp2_with (with_reducible refine G.any_mark _ ?_; (try generalize Array.size (World.heap (G.w _)) = bk); (try dsimp only [List.set_cons_zero, List.set_cons_succ]); (try clear g); intro g)
        refine bodyPost_ret (v := .tuple #[.agg #[.bool false, .slice none 0 0, .slice none 0 0], .int .i64 e1]) (by simp [results, Tryd.results33, go_sem]) rfl ?_
        rw [← HRR.out, if_pos HEZ.out]
        first | exact ⟨rfl, G.chg _, G.blk1 _⟩ | exact ⟨rfl, G.chg _, G.blk2 _⟩ | exact ⟨rfl, G.chg _, G.blk3 _⟩ | exact ⟨rfl, G.chg _, G.blk4 _⟩ | exact ⟨rfl, G.chg _, G.blk5 _⟩
    · go_wp2_with (with_reducible refine G.any_mark _ ?_; (try generalize Array.size (World.heap (G.w _)) = bk); (try dsimp only [List.set_cons_zero, List.set_cons_succ]); (try clear g); intro g)
      (try (refine cmark _ ?_; (try dsimp only [List.set_cons_zero, List.set_cons_succ]); (try clear g); intro g))
      refine (CK2.out _ (G.sl g (by simp) H2.out) (G.sl g (by simp) J2.out) (G.tab_m g (b := ob) (by simp) HT.out HBT.out)).mono ?_
      rintro e w1 ⟨rfl, hb⟩
      obtain ⟨g1, rfl⟩ := G.call_ex _ hb
      clear hb
      (try clear g)
      revert g1
      intro g
      by_cases hez : e2 = 0
      · subst hez
        go_wp2_with (with_reducible refine G.any_mark _ ?_; (try generalize Array.size (World.heap (G.w _)) = bk); (try dsimp only [List.set_cons_zero, List.set_cons_succ]); (try clear g); intro g)
        refine (CO2.out _).mono ?_
        rintro e w1 ⟨rfl, hb⟩
        obtain ⟨g1, rfl⟩ := G.call_ex _ hb
        clear hb
        (try clear g)
        revert g1
        intro g
        obtain ⟨g2, hg2⟩ := G.less g (M' := [(b, 56, cs), (rb, 26, [.bool false, .slice none 0 0, .slice none 0 0]), (ob, 3, [.int .i64 0])]) (by simp)
        rw [hg2]
        clear hg2 g
        revert g2
        intro g
        go_wp2_with (first | (with_reducible refine G.any_mark _ ?_; (try generalize Array.size (World.heap (G.w _)) = bk); (try dsimp only [List.set_cons_zero, List.set_cons_succ]); (try clear g); intro g) | (at_builtin; refine wpList_append_lit rfl _ _ 51 rfl 56 i0 _ 3 56 Tryd.underlying51 hi hz0 hz1 hz2 rfl (by decide) g hrow hbw rfl 1 rfl rfl HP2 (by decide) (by decide) (by decide) ?_; clear hrow hbw g; intro b cap cs g hb hrow))
        obtain ⟨g2, hg2⟩ := G.less g (M' := [(b, 56, cs), (rb, 26, [.bool false, .slice none 0 0, .slice none 0 0]), (ob, 3, [.int .i64 0])]) (by simp)
        go_roundg 0
        case measure => omega
        case rel => exact .inr (.inr (⟨by simp, by simp, by simp, by simp, b, cap, cs, rfl, hrow, hb, g2, hg2⟩))
      · have hne : ((e2 : Int) == 0) = false := by rw [beq_eq_false_iff_ne]; exact hez
        have hne2 : ((e2 : Int) != 0) = true := by rw [bne, hne]; rfl
        have HEZ := Lib.hid hez
        clear hez
        go_wp2_with (with_reducible refine G.any_mark _ ?_; (try generalize Array.size (World.heap (G.w _)) = bk); (try dsimp only [List.set_cons_zero, List.set_cons_succ]); (try clear g); intro g)
        refine bodyPost_ret (v := .tuple #[.agg #[.bool false, .slice none 0 0, .slice none 0 0], .int .i64 e2]) (by simp [results, Tryd.results33, go_sem]) rfl ?_
        rw [← HRR.out, if_neg (by decide), if_pos HEZ.out]
        first | exact ⟨rfl, G.chg _, G.blk1 _⟩ | exact ⟨rfl, G.chg _, G.blk2 _⟩ | exact ⟨rfl, G.chg _, G.blk3 _⟩ | exact ⟨rfl, G.chg _, G.blk4 _⟩ | exact ⟨rfl, G.chg _, G.blk5 _⟩
    · go_wp2_with (with_reducible refine G.any_mark _ ?_; (try generalize Array.size (World.heap (G.w _)) = bk); (try dsimp only [List.set_cons_zero, List.set_cons_succ]); (try clear g); intro g)
      refine (HF.out (by simp) (by simp) _ b cap hrow.le (G.blk2 g) ⟨row_at g (List.mem_cons_self ..) hrow (j := 0) rfl, row_at g (List.mem_cons_self ..) hrow (j := 1) rfl, row_at g (List.mem_cons_self ..) hrow (j := 2) rfl⟩ ⟨row_at g (List.mem_cons_self ..) hrow (j := 3) rfl, row_at g (List.mem_cons_self ..) hrow (j := 4) rfl, row_at g (List.mem_cons_self ..) hrow (j := 5) rfl⟩ (G.sl g (by simp) H1.out) (G.sl g (by simp) J1.out) (G.sl g (by simp) H2.out) (G.sl g (by simp) J2.out) (G.tab_m g (b := ob) (by simp) HT.out HBT.out)).mono ?_
      rintro e w1 ⟨rfl, hch, hcb⟩
      obtain ⟨g1, rfl⟩ := G.mut2 g (cs' := [.int .i64 r]) hch hcb
      clear hch hcb
      (try clear g)
      revert g1
      intro g
      go_wp2_with (with_reducible refine G.any_mark _ ?_; (try generalize Array.size (World.heap (G.w _)) = bk); (try dsimp only [List.set_cons_zero, List.set_cons_succ]); (try clear g); intro g)
      refine bodyPost_ret (v := .tuple #[.agg #[.bool false, .slice none 0 0, .slice none 0 0], .int .i64 0]) (by simp [results, Tryd.results33, go_sem]) rfl ?_
      rw [← HRR.out, if_neg (by decide), if_neg (by decide)]
      exact ⟨rfl, G.chg _, G.blk2 _⟩
end Go.Proofs.YtjdnpkicdmapnaaDoor
namespace Go.Proofs.YtjdnpkicdmapnaaDoor
open Go.RowKit GW NL
set_option maxRecDepth 20000 in
set_option maxHeartbeats 2000000 in
theorem qCmp_any (s1 s2 : Bool) (A1 B1 A2 B2 : Option Addr) (c1 k1 c2 k2 : Nat) (l1 m1 l2 m2 : List Nat) (w : World) (h1 : SlW w A1 c1 l1) (j1 : SlW w B1 k1 m1) (h2 : SlW w A2 c2 l2) (j2 : SlW w B2 k2 m2) (hT : Tab w) :
    Calls Tryd.prog 15 #[.agg #[.bool s1, .slice A1 l1.length c1, .slice B1 m1.length k1], .agg #[.bool s2, .slice A2 l2.length c2, .slice B2 m2.length k2]] w fun e w' => e = .returned (.tuple #[.int .i64 (cmpR (rchk s1 l1 m1) (rchk s2 l2 m2) (sgn (fr s1 l1 m1 - fr s2 l2 m2))).1, .int .i64 (cmpR (rchk s1 l1 m1) (rchk s2 l2 m2) (sgn (fr s1 l1 m1 - fr s2 l2 m2))).2]) ∧ Below w.heap.size w w' := by
  refine calls_b fun g => ?_
  have ol1 := h1.ok
  have om1 := j1.ok
  have ol2 := h2.ok
  have om2 := j2.ok
  have CW := Lib.hid (fun ob lb w hob p1 a1 b1 p2 a2 b2 ht => with_cmp ob lb (sgn (fr s1 l1 m1 - fr s2 l2 m2)) s1 A1 B1 c1 k1 l1 m1 s2 A2 B2 c2 k2 l2 m2 w hob p1 a1 b1 p2 a2 b2 ht (fun r1 r2 w' bF capF hc ho f1 f2 x1 y1 x2 y2 t => by
    obtain ⟨e1, e2, e3, _, _, e6, e7⟩ := rchk_ok ol1 om1 r1
    obtain ⟨e1', e2', e3', _, _, e6', e7'⟩ := rchk_ok ol2 om2 r2
    have := cmp1_any ob bF capF s1 s2 A1 B1 A2 B2 c1 k1 c2 k2 (val l1) (val m1) (val l2) (val m2) w' ho (by rw [← e1, ← e2]; exact f1) (by rw [← e1', ← e2']; exact f2) hc (by rw [← e1]; exact x1) (by rw [← e2]; exact y1) (by rw [← e1']; exact x2) (by rw [← e2']; exact y2) t (by rw [← e1]; omega) (by rw [← e2]; omega) (by rw [← e1']; omega) (by rw [← e2']; omega) e3 e3'
    exact this))
  have HT := Lib.hid hT
  have H1 := Lib.hid h1
  have J1 := Lib.hid j1
  have H2 := Lib.hid h2
  have J2 := Lib.hid j2
  clear ol1 om1 ol2 om2 h1 j1 h2 j2 hT
  obtain ⟨RR, hRR⟩ : ∃ RR, cmpR (rchk s1 l1 m1) (rchk s2 l2 m2) (sgn (fr s1 l1 m1 - fr s2 l2 m2)) = RR := ⟨_, rfl⟩
  rw [hRR] at CW ⊢
  clear hRR
  generalize l1.length = n1 at *
  generalize m1.length = d1 at *
  generalize l2.length = n2 at *
  generalize m2.length = d2 at *
  go_enter Tryd.func15, Tryd.ntmps15
  go_wp2_with (with_reducible refine G.any_mark _ ?_; (try generalize Array.size (World.heap (G.w _)) = bk); (try dsimp only [List.set_cons_zero, List.set_cons_succ]); (try clear g); intro g)
  refine (CW.out _ _ _ (G.blk1 g) ⟨(g.cell0 0).trans rfl, (g.cell0 1).trans rfl, (g.cell0 2).trans rfl⟩ (G.sl g (by simp) H1.out) (G.sl g (by simp) J1.out) ⟨(g.cell0 3).trans rfl, (g.cell0 4).trans rfl, (g.cell0 5).trans rfl⟩ (G.sl g (by simp) H2.out) (G.sl g (by simp) J2.out) (G.tab g HT.out)).mono ?_
  rintro e w1 ⟨rfl, hch, hcb⟩
  obtain ⟨g1, rfl⟩ := G.mut1 g (cs' := [.int .i64 RR.1]) hch hcb
  clear hch hcb
  (try clear g)
  revert g1
  intro g
  go_wp2_with (with_reducible refine G.any_mark _ ?_; (try generalize Array.size (World.heap (G.w _)) = bk); (try dsimp only [List.set_cons_zero, List.set_cons_succ]); (try clear g); intro g)
  refine bodyPost_ret (v := .tuple #[.int .i64 RR.1, .int .i64 RR.2]) (by simp [results, Tryd.results15, go_sem]) rfl ?_
  exact ⟨rfl, G.below _⟩
end Go.Proofs.YtjdnpkicdmapnaaDoor
namespace Go.Proofs.YtjdnpkicdmapnaaDoor
open Go.RowKit GW NL
theorem two_limbs64 (n : Nat) (h : n < 18446744073709551616) : val [n % 4294967296, n / 4294967296] = n ∧ Ok [n % 4294967296, n / 4294967296] := by
  refine ⟨by simp [val]; omega, ?_⟩
  intro x hx
  simp at hx
  omega
theorem size_pos (n : Nat) (h1 : n < 9223372036854775808) (w : World) : Calls Tryd.prog 55 #[.int .i64 n] w (RNat n w) := by
  refine calls_b fun g => ?_
  obtain ⟨hv, hk⟩ := two_limbs64 n (by omega)
  have HV := Lib.hid hv
  have e1 : (((n % 4294967296 : Nat)) : Int) = (n : Int) % 4294967296 := by omega
  have e2 : (((n / 4294967296 : Nat)) : Int) = (n : Int) / 4294967296 := by omega
  have E1 := Lib.hid e1
  have E2 := Lib.hid e2
  clear hv e1 e2
  go_enter Tryd.func55, Tryd.ntmps55
  go_wp2_with (with_reducible refine G.any_mark _ ?_; (try generalize Array.size (World.heap (G.w _)) = bk); (try dsimp only [List.set_cons_zero, List.set_cons_succ]); (try clear g); intro g)
  obtain ⟨g2, hg2⟩ := g.as (M' := [(bk, 39, u32s [n % 4294967296, n / 4294967296])]) (by simp only [u32s, List.map_cons, List.map_nil, E1.out, E2.out])
  rw [hg2]
  clear hg2 g
  revert g2
  intro g
  have hsl : SlW g.w (some ⟨bk, 0, none⟩) 2 [n % 4294967296, n / 4294967296] := (sl_blk (by simp) (by decide) hk).at (blkF_sub g.blk0)
  refine (ltrim_any _ _ [n % 4294967296, n / 4294967296] _ hsl).mono ?_
  rintro e w1 ⟨rfl, hb⟩
  obtain ⟨g1, rfl⟩ := G.call_ex _ hb
  clear hb hsl g
  revert g1
  intro g
  rw [HV.out]
  have hfin : (blkF bk (.cells (u32s [n % 4294967296, n / 4294967296]).toArray 39 (0, 0))).Sl (some ⟨bk, 0, none⟩) 2 (limbs n) := by
    have := sl_trim (sl_blk (b := bk) (T := 39) (fr := (0, 0)) (c := 2) (by simp) (by decide) hk)
    rwa [HV.out] at this
  go_wp2_with (with_reducible refine G.any_mark _ ?_; (try generalize Array.size (World.heap (G.w _)) = bk); (try dsimp only [List.set_cons_zero, List.set_cons_succ]); (try clear g); intro g)
  go_ret
  exact ⟨_, 2, _, rfl, hfin, g.give (List.mem_cons_self ..)⟩
theorem size_neg (n : Nat) (h0 : 0 < n) (h1 : n ≤ 9223372036854775808) (w : World) : Calls Tryd.prog 55 #[.int .i64 (-(n : Int))] w (RNat n w) := by
  refine calls_b fun g => ?_
  obtain ⟨a, ha⟩ : ∃ a : Int, -(n : Int) = a := ⟨_, rfl⟩
  rw [ha]
  have hneg : a < 0 := by omega
  obtain ⟨b, hb⟩ : ∃ b : Int, 18446744073709551616 - (n : Int) = b := ⟨_, rfl⟩
  have w1 : IntKind.u64.wrap a = b := by show a % 18446744073709551616 = b; omega
  have w2 : IntKind.u64.wrap (-b) = (n : Int) := by show (-b) % 18446744073709551616 = (n : Int); omega
  obtain ⟨hv, hk⟩ := two_limbs64 n (by omega)
  have HV := Lib.hid hv
  have e1 : (((n % 4294967296 : Nat)) : Int) = (n : Int) % 4294967296 := by omega
  have e2 : (((n / 4294967296 : Nat)) : Int) = (n : Int) / 4294967296 := by omega
  have E1 := Lib.hid e1
  have E2 := Lib.hid e2
  have hn64 : (n : Int) / 4294967296 < 4294967296 := by omega
  clear hv e1 e2 hb
  have h63 : -9223372036854775808 ≤ a := by omega
  go_enter Tryd.func55, Tryd.ntmps55
  go_wp2_with (with_reducible refine G.any_mark _ ?_; (try generalize Array.size (World.heap (G.w _)) = bk); (try dsimp only [List.set_cons_zero, List.set_cons_succ]); (try clear g); intro g)
  obtain ⟨g2, hg2⟩ := g.as (M' := [(bk, 39, u32s [n % 4294967296, n / 4294967296])]) (by simp only [u32s, List.map_cons, List.map_nil, E1.out, E2.out])
  rw [hg2]
  clear hg2 g
  revert g2
  intro g
  have hsl : SlW g.w (some ⟨bk, 0, none⟩) 2 [n % 4294967296, n / 4294967296] := (sl_blk (by simp) (by decide) hk).at (blkF_sub g.blk0)
  refine (ltrim_any _ _ [n % 4294967296, n / 4294967296] _ hsl).mono ?_
  rintro e w1 ⟨rfl, hb⟩
  obtain ⟨g1, rfl⟩ := G.call_ex _ hb
  clear hb hsl g
  revert g1
  intro g
  rw [HV.out]
  have hfin : (blkF bk (.cells (u32s [n % 4294967296, n / 4294967296]).toArray 39 (0, 0))).Sl (some ⟨bk, 0, none⟩) 2 (limbs n) := by
    have := sl_trim (sl_blk (b := bk) (T := 39) (fr := (0, 0)) (c := 2) (by simp) (by decide) hk)
    rwa [HV.out] at this
  go_wp2_with (with_reducible refine G.any_mark _ ?_; (try generalize Array.size (World.heap (G.w _)) = bk); (try dsimp only [List.set_cons_zero, List.set_cons_succ]); (try clear g); intro g)
  go_ret
  exact ⟨_, 2, _, rfl, hfin, g.give (List.mem_cons_self ..)⟩
theorem size_any (a : Int) (h1 : -9223372036854775808 ≤ a) (h2 : a < 9223372036854775808) (w : World) : Calls Tryd.prog 55 #[.int .i64 a] w (RNat a.natAbs w) := by
  by_cases h : a < 0
  · have := size_neg a.natAbs (by omega) (by omega) w
    rwa [show -((a.natAbs : Nat) : Int) = a by omega] at this
  · have := size_pos a.natAbs (by omega) w
    rwa [show ((a.natAbs : Nat) : Int) = a by omega] at this
/-- what Of answers -/
def ofX (a b : Int) : Bool × Nat × Nat × Int := if b = 0 then (false, 0, 0, 6) else outX (frac (decide (a < 0) != decide (b < 0)) a.natAbs b.natAbs)
set_option maxRecDepth 20000 in
set_option maxHeartbeats 4000000 in
theorem qOf_any (a b : Int) (h1 : -9223372036854775808 ≤ a) (h2 : a < 9223372036854775808) (h3 : -9223372036854775808 ≤ b) (h4 : b < 9223372036854775808) (w : World) (hT : Tab w) :
    Calls Tryd.prog 24 #[.int .i64 a, .int .i64 b] w (RPE (ofX a b) w) := by
  by_cases hb0 : b = 0
  · subst hb0
    refine calls_b fun g => ?_
    go_enter Tryd.func24, Tryd.ntmps24
    go_wp2_with (with_reducible refine G.any_mark _ ?_; (try generalize Array.size (World.heap (G.w _)) = bk); (try dsimp only [List.set_cons_zero, List.set_cons_succ]); (try clear g); intro g)
    refine bodyPost_ret (v := .tuple #[.agg #[.bool false, .slice none 0 0, .slice none 0 0], .int .i64 6]) (by simp [results, Tryd.results24, go_sem]) rfl ?_
    exact rpe_err _ _
  · have hd0 : b.natAbs ≠ 0 := by omega
    have hla : (limbs a.natAbs).length ≤ 2 := (limbs_len _ 2).2 (by rw [pow32]; omega)
    have hlb : (limbs b.natAbs).length ≤ 2 := (limbs_len _ 2).2 (by rw [pow32]; omega)
    unfold ofX
    rw [if_neg hb0]
    refine calls_n fun g => ?_
    have CSA := Lib.hid (fun w => size_any a h1 h2 w)
    have CSB := Lib.hid (fun w => size_any b h3 h4 w)
    have hbz : (b == 0) = false := by rw [beq_eq_false_iff_ne]; exact hb0
    have HT := Lib.hid hT
    generalize a.natAbs = na at *
    generalize b.natAbs = nb at *
    obtain ⟨sg, hsg⟩ : ∃ sg, (decide (a < 0) != decide (b < 0)) = sg := ⟨_, rfl⟩
    rw [hsg]
    have hsg2 : (!(decide (a < 0) == decide (b < 0))) = sg := hsg
    clear hsg
    have CL := Lib.hid (fun F A c B k w hF h1 h2 hT => low_rat F sg A B c k na nb w hF h1 h2 hT (by omega) (by omega) hd0)
    generalize frac sg na nb = x at *
    have CR := Lib.hid (fun A B c k w h1 h2 => result_any (rneg x) A B c k (rn x) x.den w h1 h2)
    unfold outX
    generalize outP (rneg x) (rn x) x.den = RR at *
    clear h1 h2 h3 h4 hla hlb hd0 hb0 hT
    go_enter Tryd.func24, Tryd.ntmps24
    go_wp2_with (with_reducible refine G.any_mark _ ?_; (try generalize Array.size (World.heap (G.w _)) = bk); (try dsimp only [List.set_cons_zero, List.set_cons_succ]); (try clear g); intro g)
    refine (CSA.out _).mono ?_
    rintro e w1 ⟨X1, x1, P1, rfl, hx1, hn1⟩
    have ho1 := New.over hn1 nilF (G.chg _).size
    obtain ⟨g1, rfl⟩ := G.new_ex _ hn1
    clear hn1
    (try clear g)
    revert g1
    intro g
    go_wp2_with (with_reducible refine G.any_mark _ ?_; (try generalize Array.size (World.heap (G.w _)) = bk); (try dsimp only [List.set_cons_zero, List.set_cons_succ]); (try clear g); intro g)
    refine (CSB.out _).mono ?_
    rintro e w1 ⟨X2, x2, P2, rfl, hx2, hn2⟩
    have ho2 := New.over hn2 nilF (G.chg _).size
    obtain ⟨g1, rfl⟩ := G.new_ex _ hn2
    clear hn2
    (try clear g)
    revert g1
    intro g
    go_wp2_with (with_reducible refine G.any_mark _ ?_; (try generalize Array.size (World.heap (G.w _)) = bk); (try dsimp only [List.set_cons_zero, List.set_cons_succ]); (try clear g); intro g)
    refine (CL.out (g.fr nilF) X1 x1 X2 x2 _ (g.fr_sub (by simp)) (g.fr_sl (by simp) ho1 hx1) (g.fr_sl (by simp) ho2 hx2) (G.tab g HT.out)).mono ?_
    rintro e w1 ⟨Y1, y1, Q1, Y2, y2, Q2, rfl, hy1, hy2, hn1, hn2⟩
    obtain ⟨g1, rfl, hov1, hov2⟩ := G.new3_ex g hn1 hn2
    clear hn1 hn2
    (try clear g)
    revert g1
    intro g
    go_wp2_with (with_reducible refine G.any_mark _ ?_; (try generalize Array.size (World.heap (G.w _)) = bk); (try dsimp only [List.set_cons_zero, List.set_cons_succ]); (try clear g); intro g)
    refine (CR.out _ _ _ _ _ (G.sl g (by simp) hy1) (G.sl g (by simp) hy2)).mono ?_
    rintro e w1 ⟨Z1, z1, R1, Z2, z2, R2, rfl, hz1, hz2, hn1, hn2⟩
    have ho1 := fun k o hk => Nat.le_trans (G.chg _).size (hn1.new k o hk)
    have ho2 := fun k o hk => Nat.le_trans (G.chg _).size (hn2.new k o hk)
    obtain ⟨g1, rfl⟩ := G.new2_ex _ hn1 hn2
    clear hn1 hn2
    (try clear g)
    revert g1
    intro g
    go_wp2_with (with_reducible refine G.any_mark _ ?_; (try generalize Array.size (World.heap (G.w _)) = bk); (try dsimp only [List.set_cons_zero, List.set_cons_succ]); (try clear g); intro g)
    refine bodyPost_ret (v := .tuple #[.agg #[.bool RR.1, .slice Z1 (limbs RR.2.1).length z1, .slice Z2 (limbs RR.2.2.1).length z2], .int .i64 RR.2.2.2]) (by simp [results, Tryd.results24, go_sem]) rfl ?_
    exact ⟨Z1, z1, R1, Z2, z2, R2, rfl, hz1, hz2, G.pass _ (by simp) ho1, G.pass _ (by simp) ho2⟩
end Go.Proofs.YtjdnpkicdmapnaaDoor
namespace Go.Proofs.YtjdnpkicdmapnaaDoor
open Go.RowKit GW NL
/-- a number without an error -/
def RX (x : Rat) (w : World) (e : Ending) (w' : World) : Prop := ∃ A c F B k H, e = .returned (.tuple #[.agg #[.bool (rneg x), .slice A (limbs (rn x)).length c, .slice B (limbs x.den).length k], .int .i64 0]) ∧ F.Sl A c (limbs (rn x)) ∧ H.Sl B k (limbs x.den) ∧ New w w' F ∧ New w w' H
theorem rchk_x {x : Rat} (h : Bd 8192 x) : rchk (rneg x) (limbs (rn x)) (limbs x.den) = 0 := by
  unfold rchk
  rw [chk_limbs h.1, chk_limbs h.2, val_limbs, val_limbs, if_neg (by decide), if_neg (by decide), if_neg x.den_nz, if_neg]
  rintro (⟨h1, h2⟩ | h1)
  · exact rneg_ne h1 h2
  · exact h1 (rgcd x)
theorem fr_x (x : Rat) : fr (rneg x) (limbs (rn x)) (limbs x.den) = x := by
  unfold fr; rw [val_limbs, val_limbs, frac_self]
theorem outX_x {x : Rat} (h : Bd 8192 x) : outX x = (rneg x, rn x, x.den, 0) := by
  unfold outX outP; exact if_pos h
theorem sgn_sgz (x : Rat) : sgn x = sgz x := rfl
theorem flq_eq (s : Bool) (n d : Nat) : flq s n d = flq' s n d := rfl
theorem rdq_eq (n d : Nat) : rdq n d = rdq' n d := rfl
section
variable (A1 B1 A2 B2 : Option Addr) (c1 k1 c2 k2 : Nat) (x y : Rat)
theorem qAdd_x (z : Rat) (hx : Bd 8192 x) (hy : Bd 8192 y) (hz : Bd 8192 z) (e : x + y = z) (w : World) (h1 : SlW w A1 c1 (limbs (rn x))) (j1 : SlW w B1 k1 (limbs x.den)) (h2 : SlW w A2 c2 (limbs (rn y))) (j2 : SlW w B2 k2 (limbs y.den)) (hT : Tab w) :
    Calls Tryd.prog 9 #[.agg #[.bool (rneg x), .slice A1 (limbs (rn x)).length c1, .slice B1 (limbs x.den).length k1], .agg #[.bool (rneg y), .slice A2 (limbs (rn y)).length c2, .slice B2 (limbs y.den).length k2]] w (RX z w) := by
  subst e
  have := qAdd_any (rneg x) (rneg y) A1 B1 A2 B2 c1 k1 c2 k2 _ _ _ _ w h1 j1 h2 j2 hT
  rw [rchk_x hx, rchk_x hy, fr_x, fr_x, outX_x hz] at this
  exact this
theorem qSub_x (z : Rat) (hx : Bd 8192 x) (hy : Bd 8192 y) (hz : Bd 8192 z) (e : x - y = z) (w : World) (h1 : SlW w A1 c1 (limbs (rn x))) (j1 : SlW w B1 k1 (limbs x.den)) (h2 : SlW w A2 c2 (limbs (rn y))) (j2 : SlW w B2 k2 (limbs y.den)) (hT : Tab w) :
    Calls Tryd.prog 10 #[.agg #[.bool (rneg x), .slice A1 (limbs (rn x)).length c1, .slice B1 (limbs x.den).length k1], .agg #[.bool (rneg y), .slice A2 (limbs (rn y)).length c2, .slice B2 (limbs y.den).length k2]] w (RX z w) := by
  subst e
  have := qSub_any (rneg x) (rneg y) A1 B1 A2 B2 c1 k1 c2 k2 _ _ _ _ w h1 j1 h2 j2 hT
  rw [rchk_x hx, rchk_x hy, fr_x, fr_x, outX_x hz] at this
  exact this
theorem qMul_x (z : Rat) (hx : Bd 8192 x) (hy : Bd 8192 y) (hz : Bd 8192 z) (e : x * y = z) (w : World) (h1 : SlW w A1 c1 (limbs (rn x))) (j1 : SlW w B1 k1 (limbs x.den)) (h2 : SlW w A2 c2 (limbs (rn y))) (j2 : SlW w B2 k2 (limbs y.den)) (hT : Tab w) :
    Calls Tryd.prog 12 #[.agg #[.bool (rneg x), .slice A1 (limbs (rn x)).length c1, .slice B1 (limbs x.den).length k1], .agg #[.bool (rneg y), .slice A2 (limbs (rn y)).length c2, .slice B2 (limbs y.den).length k2]] w (RX z w) := by
  subst e
  have := qMul_any (rneg x) (rneg y) A1 B1 A2 B2 c1 k1 c2 k2 _ _ _ _ w h1 j1 h2 j2 hT
  rw [rchk_x hx, rchk_x hy, fr_x, fr_x, outX_x hz] at this
  exact this
theorem qDiv_x (z : Rat) (hx : Bd 8192 x) (hy : Bd 8192 y) (hz : Bd 8192 z) (h0 : rn y ≠ 0) (e : x / y = z) (w : World) (h1 : SlW w A1 c1 (limbs (rn x))) (j1 : SlW w B1 k1 (limbs x.den)) (h2 : SlW w A2 c2 (limbs (rn y))) (j2 : SlW w B2 k2 (limbs y.den)) (hT : Tab w) :
    Calls Tryd.prog 14 #[.agg #[.bool (rneg x), .slice A1 (limbs (rn x)).length c1, .slice B1 (limbs x.den).length k1], .agg #[.bool (rneg y), .slice A2 (limbs (rn y)).length c2, .slice B2 (limbs y.den).length k2]] w (RX z w) := by
  subst e
  have := qDiv_any (rneg x) (rneg y) A1 B1 A2 B2 c1 k1 c2 k2 _ _ _ _ w h1 j1 h2 j2 hT
  rw [rchk_x hx, rchk_x hy, fr_x, fr_x] at this
  unfold divX at this
  rw [val_limbs, if_neg h0, outX_x hz] at this
  exact this
theorem qDiv_z (hx : Bd 8192 x) (hy : Bd 8192 y) (h0 : rn y = 0) (w : World) (h1 : SlW w A1 c1 (limbs (rn x))) (j1 : SlW w B1 k1 (limbs x.den)) (h2 : SlW w A2 c2 (limbs (rn y))) (j2 : SlW w B2 k2 (limbs y.den)) (hT : Tab w) :
    Calls Tryd.prog 14 #[.agg #[.bool (rneg x), .slice A1 (limbs (rn x)).length c1, .slice B1 (limbs x.den).length k1], .agg #[.bool (rneg y), .slice A2 (limbs (rn y)).length c2, .slice B2 (limbs y.den).length k2]] w (RPE (false, 0, 0, 6) w) := by
  have := qDiv_any (rneg x) (rneg y) A1 B1 A2 B2 c1 k1 c2 k2 _ _ _ _ w h1 j1 h2 j2 hT
  rw [rchk_x hx, rchk_x hy, fr_x, fr_x] at this
  unfold divX at this
  rw [val_limbs, if_pos h0] at this
  exact this
theorem qCmp_x (z : Int) (hx : Bd 8192 x) (hy : Bd 8192 y) (e : sgz (x - y) = z) (w : World) (h1 : SlW w A1 c1 (limbs (rn x))) (j1 : SlW w B1 k1 (limbs x.den)) (h2 : SlW w A2 c2 (limbs (rn y))) (j2 : SlW w B2 k2 (limbs y.den)) (hT : Tab w) :
    Calls Tryd.prog 15 #[.agg #[.bool (rneg x), .slice A1 (limbs (rn x)).length c1, .slice B1 (limbs x.den).length k1], .agg #[.bool (rneg y), .slice A2 (limbs (rn y)).length c2, .slice B2 (limbs y.den).length k2]] w fun e w' => e = .returned (.tuple #[.int .i64 z, .int .i64 0]) ∧ Below w.heap.size w w' := by
  subst e
  have := qCmp_any (rneg x) (rneg y) A1 B1 A2 B2 c1 k1 c2 k2 _ _ _ _ w h1 j1 h2 j2 hT
  rw [rchk_x hx, rchk_x hy, fr_x, fr_x] at this
  exact this
theorem qNeg_x (z : Rat) (hx : Bd 8192 x) (e : -x = z) (w : World) (h1 : SlW w A1 c1 (limbs (rn x))) (j1 : SlW w B1 k1 (limbs x.den)) (hT : Tab w) :
    Calls Tryd.prog 19 #[.agg #[.bool (rneg x), .slice A1 (limbs (rn x)).length c1, .slice B1 (limbs x.den).length k1]] w (RX z w) := by
  subst e
  have := qNeg_any (rneg x) A1 B1 c1 k1 _ _ w h1 j1 hT
  have hl : decide (0 < (limbs (rn x)).length) = decide (rn x ≠ 0) := by
    have h0 : (limbs (rn x)).length = 0 ↔ rn x = 0 := by rw [List.length_eq_zero_iff, limbs_nil]
    by_cases h : rn x = 0
    · rw [decide_eq_false (by omega), decide_eq_false (by omega)]
    · rw [decide_eq_true (by omega), decide_eq_true (by omega)]
  have hb := hx.neg
  have e : outP (!rneg x && decide (rn x ≠ 0)) (rn x) x.den = (rneg (-x), rn (-x), (-x).den, 0) := by
    rw [← rneg_neg, ← rn_neg x, ← Rat.neg_den x]
    unfold outP
    rw [rn_neg, Rat.neg_den] at *
    exact if_pos hx
  rw [rchk_x hx, hl, val_limbs, val_limbs, e] at this
  exact this
theorem qFloor_x (z : Rat) (hx : Bd 8191 x) (e : (x.floor : Rat) = z) (w : World) (h1 : SlW w A1 c1 (limbs (rn x))) (j1 : SlW w B1 k1 (limbs x.den)) (hT : Tab w) :
    Calls Tryd.prog 16 #[.agg #[.bool (rneg x), .slice A1 (limbs (rn x)).length c1, .slice B1 (limbs x.den).length k1]] w (RX z w) := by
  subst e
  have := qFloor_any (rneg x) A1 B1 c1 k1 _ _ w h1 j1 hT
  obtain ⟨a, b, c⟩ := floor_int x
  have hb : rn (x.floor : Rat) < 2 ^ 8192 ∧ (x.floor : Rat).den < 2 ^ 8192 := hx.floor
  rw [rchk_x (hx.mono (by decide)), flq_eq, val_limbs, val_limbs, ← a, ← b, ← c] at this
  unfold outP at this
  rw [if_pos hb] at this
  exact this
theorem qRound_x (z : Rat) (hx : Bd 8189 x) (e : ((rndz x : Int) : Rat) = z) (w : World) (h1 : SlW w A1 c1 (limbs (rn x))) (j1 : SlW w B1 k1 (limbs x.den)) (hT : Tab w) :
    Calls Tryd.prog 18 #[.agg #[.bool (rneg x), .slice A1 (limbs (rn x)).length c1, .slice B1 (limbs x.den).length k1]] w (RX z w) := by
  subst e
  have := qRound_any (rneg x) A1 B1 c1 k1 _ _ w h1 j1 hT
  obtain ⟨a, b, c⟩ := rnd_parts x
  have hb : rn ((rndz x : Int) : Rat) < 2 ^ 8192 ∧ ((rndz x : Int) : Rat).den < 2 ^ 8192 := hx.rnd
  rw [rchk_x (hx.mono (by decide)), rdq_eq, val_limbs, val_limbs, ← a, ← b, ← c] at this
  unfold outP at this
  rw [if_pos hb] at this
  exact this
end
theorem qOf_x (a b : Int) (z : Rat) (hb : b ≠ 0) (hz : Bd 8192 z) (e : frac (decide (a < 0) != decide (b < 0)) a.natAbs b.natAbs = z) (h1 : -9223372036854775808 ≤ a) (h2 : a < 9223372036854775808) (h3 : -9223372036854775808 ≤ b) (h4 : b < 9223372036854775808) (w : World) (hT : Tab w) :
    Calls Tryd.prog 24 #[.int .i64 a, .int .i64 b] w (RX z w) := by
  have := qOf_any a b h1 h2 h3 h4 w hT
  unfold ofX at this
  rw [if_neg hb, e, outX_x hz] at this
  exact this
end Go.Proofs.YtjdnpkicdmapnaaDoor
namespace Go.Proofs.YtjdnpkicdmapnaaDoor
open Go.RowKit GW NL
/-- a natural number and a sign -/
def RFrom (n : Nat) (b : Bool) (w : World) (e : Ending) (w' : World) : Prop := ∃ A c F, e = .returned (.tuple #[.slice A (limbs n).length c, .bool b]) ∧ F.Sl A c (limbs n) ∧ New w w' F
set_option maxRecDepth 20000 in
theorem from_pos (n : Nat) (h1 : n < 9223372036854775808) (w : World) : Calls Tryd.prog 56 #[.int .i64 n] w (RFrom n false w) := by
  refine calls_b fun g => ?_
  obtain ⟨hv, hk⟩ := two_limbs64 n (by omega)
  have HV := Lib.hid hv
  have e1 : (((n % 4294967296 : Nat)) : Int) = (n : Int) % 4294967296 := by omega
  have e2 : (((n / 4294967296 : Nat)) : Int) = (n : Int) / 4294967296 := by omega
  have E1 := Lib.hid e1
  have E2 := Lib.hid e2
  clear hv e1 e2
  go_enter Tryd.func56, Tryd.ntmps56
  go_wp2_with (with_reducible refine G.any_mark _ ?_; (try generalize Array.size (World.heap (G.w _)) = bk); (try dsimp only [List.set_cons_zero, List.set_cons_succ]); (try clear g); intro g)
  obtain ⟨L, hL⟩ : ∃ L, [n % 4294967296, n / 4294967296] = L := ⟨_, rfl⟩
  have hL2 : L.length = 2 := by rw [← hL]; rfl
  have HVL := HV.out
  obtain ⟨g2, hg2⟩ := g.as (M' := [(bk, 39, u32s L)]) (by rw [← hL]; simp only [u32s, List.map_cons, List.map_nil, E1.out, E2.out])
  rw [hg2]
  clear hg2 g
  revert g2
  intro g
  rw [hL] at hk HVL
  have HVV := Lib.hid HVL
  have HL2 := Lib.hid hL2
  clear HVL hL2 hL HV E1 E2
  obtain ⟨tb, rfl⟩ : ∃ tb, tb = bk := ⟨_, rfl⟩
  go_loopg [5] 2 (fun gk s5 wr => gk ≤ 2 ∧ s5 = .slice (some ⟨tb, 0, none⟩) gk 2 ∧ Hid (val (L.take gk) = n) ∧ ∃ g : G w [] [(tb, 39, u32s L)] [heapOf w], wr = g.w)
  case atStart => exact ⟨Nat.le_refl _, rfl, Lib.hid (by rw [List.take_of_length_le (by rw [HL2.out]; exact Nat.le_refl _)]; exact HVV.out), g, rfl⟩
  case round =>
    clear g
    obtain ⟨hj, rfl, HVJ, g, rfl⟩ := hrel
    have hfin : (blkF tb (.cells (u32s L).toArray 39 (0, 0))).Sl (some ⟨tb, 0, none⟩) 2 (limbs n) := by
      have := sl_trim (sl_blk (b := tb) (T := 39) (fr := (0, 0)) (c := 2) (by rw [HL2.out]; exact Nat.le_refl _) (by decide) hk)
      rwa [HVV.out] at this
    have HF := Lib.hid hfin
    clear hfin
    rcases Nat.eq_zero_or_pos gk with h0 | hj0
    · subst h0
      have hn0 : (limbs n).length = 0 := by
        rw [← HVJ.out, List.take_zero]; exact limbs_len0
      have HLE := Lib.hid hn0
      clear hn0
      go_wp2_with (with_reducible refine G.any_mark _ ?_; (try generalize Array.size (World.heap (G.w _)) = bk); (try dsimp only [List.set_cons_zero, List.set_cons_succ]); (try clear g); intro g)
      go_ret2
      exact ⟨some ⟨tb, 0, none⟩, 2, _, by rw [HLE.out]; rfl, HF.out, g.give (List.mem_cons_self ..)⟩
    · have e1 : (u32s L)[gk - 1]? = some (.int .u32 ((L.getD (gk - 1) 0 : Nat) : Int)) := u32s_getD (by rw [HL2.out]; omega)
      have hji : ((gk - 1 : Nat) : Int) = (gk : Int) - 1 := by omega
      have hj1 : (0 : Int) ≤ (gk : Int) - 1 := by omega
      have hj2 : (gk : Int) - 1 < (gk : Int) := by omega
      have hj3 : (0 : Int) < (gk : Int) := by omega
      generalize u32s L = U at *
      by_cases hx : L.getD (gk - 1) 0 = 0
      · have hv' : val (L.take (gk - 1)) = n := by
          rw [← HVJ.out]
          have := val_take_getD L (gk - 1)
          rw [show gk - 1 + 1 = gk by omega, hx] at this
          omega
        have HV' := Lib.hid hv'
        have hx1 : (((L.getD (gk - 1) 0 : Nat) : Int) == 0) = true := by simp only [hx]; rfl
        clear hv' hx
        generalize ((L.getD (gk - 1) 0 : Nat) : Int) = v at *
        go_wp2_with (with_reducible refine G.any_mark _ ?_; (try generalize Array.size (World.heap (G.w _)) = bk); (try dsimp only [List.set_cons_zero, List.set_cons_succ]); (try clear g); intro g)
        go_roundg (gk - 1)
        case measure => omega
        case rel => exact ⟨by omega, rfl, HV', g, rfl⟩
      · have hlen : (limbs n).length = gk := by
          have hl : (L.take gk).length = gk := by rw [List.length_take, HL2.out]; omega
          have t : Trim (L.take gk) := by
            intro j hj
            rw [hl] at hj
            rw [getD_take (by omega), show j = gk - 1 by omega]
            exact hx
          rw [← HVJ.out, limbs_val (hk.take gk) t, hl]
        have HLE := Lib.hid hlen
        have hx1 : (((L.getD (gk - 1) 0 : Nat) : Int) == 0) = false := by simp only [beq_eq_false_iff_ne, ne_eq]; omega
        clear hlen hx
        generalize ((L.getD (gk - 1) 0 : Nat) : Int) = v at *
        go_wp2_with (with_reducible refine G.any_mark _ ?_; (try generalize Array.size (World.heap (G.w _)) = bk); (try dsimp only [List.set_cons_zero, List.set_cons_succ]); (try clear g); intro g)
        go_ret2
        exact ⟨some ⟨tb, 0, none⟩, 2, _, by rw [HLE.out]; rfl, HF.out, g.give (List.mem_cons_self ..)⟩
set_option maxRecDepth 20000 in
theorem from_neg (n : Nat) (h0 : 0 < n) (h1 : n ≤ 9223372036854775808) (w : World) : Calls Tryd.prog 56 #[.int .i64 (-(n : Int))] w (RFrom n true w) := by
  refine calls_b fun g => ?_
  obtain ⟨a, ha⟩ : ∃ a : Int, -(n : Int) = a := ⟨_, rfl⟩
  rw [ha]
  have hneg : a < 0 := by omega
  obtain ⟨b, hb⟩ : ∃ b : Int, 18446744073709551616 - (n : Int) = b := ⟨_, rfl⟩
  have w1 : IntKind.u64.wrap a = b := by show a % 18446744073709551616 = b; omega
  have w2 : IntKind.u64.wrap (-b) = (n : Int) := by show (-b) % 18446744073709551616 = (n : Int); omega
  obtain ⟨hv, hk⟩ := two_limbs64 n (by omega)
  have HV := Lib.hid hv
  have e1 : (((n % 4294967296 : Nat)) : Int) = (n : Int) % 4294967296 := by omega
  have e2 : (((n / 4294967296 : Nat)) : Int) = (n : Int) / 4294967296 := by omega
  have E1 := Lib.hid e1
  have E2 := Lib.hid e2
  have hn64 : (n : Int) / 4294967296 < 4294967296 := by omega
  clear hv e1 e2 hb
  have h63 : -9223372036854775808 ≤ a := by omega
  go_enter Tryd.func56, Tryd.ntmps56
  go_wp2_with (with_reducible refine G.any_mark _ ?_; (try generalize Array.size (World.heap (G.w _)) = bk); (try dsimp only [List.set_cons_zero, List.set_cons_succ]); (try clear g); intro g)
  obtain ⟨L, hL⟩ : ∃ L, [n % 4294967296, n / 4294967296] = L := ⟨_, rfl⟩
  have hL2 : L.length = 2 := by rw [← hL]; rfl
  have HVL := HV.out
  obtain ⟨g2, hg2⟩ := g.as (M' := [(bk, 39, u32s L)]) (by rw [← hL]; simp only [u32s, List.map_cons, List.map_nil, E1.out, E2.out])
  rw [hg2]
  clear hg2 g
  revert g2
  intro g
  rw [hL] at hk HVL
  have HVV := Lib.hid HVL
  have HL2 := Lib.hid hL2
  clear HVL hL2 hL HV E1 E2
  obtain ⟨tb, rfl⟩ : ∃ tb, tb = bk := ⟨_, rfl⟩
  go_loopg [5] 2 (fun gk s5 wr => gk ≤ 2 ∧ s5 = .slice (some ⟨tb, 0, none⟩) gk 2 ∧ Hid (val (L.take gk) = n) ∧ ∃ g : G w [] [(tb, 39, u32s L)] [heapOf w], wr = g.w)
  case atStart => exact ⟨Nat.le_refl _, rfl, Lib.hid (by rw [List.take_of_length_le (by rw [HL2.out]; exact Nat.le_refl _)]; exact HVV.out), g, rfl⟩
  case round =>
    clear g
    obtain ⟨hj, rfl, HVJ, g, rfl⟩ := hrel
    have hfin : (blkF tb (.cells (u32s L).toArray 39 (0, 0))).Sl (some ⟨tb, 0, none⟩) 2 (limbs n) := by
      have := sl_trim (sl_blk (b := tb) (T := 39) (fr := (0, 0)) (c := 2) (by rw [HL2.out]; exact Nat.le_refl _) (by decide) hk)
      rwa [HVV.out] at this
    have HF := Lib.hid hfin
    clear hfin
    rcases Nat.eq_zero_or_pos gk with h0 | hj0
    · subst h0
      have hn0 : (limbs n).length = 0 := by
        rw [← HVJ.out, List.take_zero]; exact limbs_len0
      have HLE := Lib.hid hn0
      clear hn0
      go_wp2_with (with_reducible refine G.any_mark _ ?_; (try generalize Array.size (World.heap (G.w _)) = bk); (try dsimp only [List.set_cons_zero, List.set_cons_succ]); (try clear g); intro g)
      go_ret2
      exact ⟨some ⟨tb, 0, none⟩, 2, _, by rw [HLE.out]; rfl, HF.out, g.give (List.mem_cons_self ..)⟩
    · have e1 : (u32s L)[gk - 1]? = some (.int .u32 ((L.getD (gk - 1) 0 : Nat) : Int)) := u32s_getD (by rw [HL2.out]; omega)
      have hji : ((gk - 1 : Nat) : Int) = (gk : Int) - 1 := by omega
      have hj1 : (0 : Int) ≤ (gk : Int) - 1 := by omega
      have hj2 : (gk : Int) - 1 < (gk : Int) := by omega
      have hj3 : (0 : Int) < (gk : Int) := by omega
      generalize u32s L = U at *
      by_cases hx : L.getD (gk - 1) 0 = 0
      · have hv' : val (L.take (gk - 1)) = n := by
          rw [← HVJ.out]
          have := val_take_getD L (gk - 1)
          rw [show gk - 1 + 1 = gk by omega, hx] at this
          omega
        have HV' := Lib.hid hv'
        have hx1 : (((L.getD (gk - 1) 0 : Nat) : Int) == 0) = true := by simp only [hx]; rfl
        clear hv' hx
        generalize ((L.getD (gk - 1) 0 : Nat) : Int) = v at *
        go_wp2_with (with_reducible refine G.any_mark _ ?_; (try generalize Array.size (World.heap (G.w _)) = bk); (try dsimp only [List.set_cons_zero, List.set_cons_succ]); (try clear g); intro g)
        go_roundg (gk - 1)
        case measure => omega
        case rel => exact ⟨by omega, rfl, HV', g, rfl⟩
      · have hlen : (limbs n).length = gk := by
          have hl : (L.take gk).length = gk := by rw [List.length_take, HL2.out]; omega
          have t : Trim (L.take gk) := by
            intro j hj
            rw [hl] at hj
            rw [getD_take (by omega), show j = gk - 1 by omega]
            exact hx
          rw [← HVJ.out, limbs_val (hk.take gk) t, hl]
        have HLE := Lib.hid hlen
        have hx1 : (((L.getD (gk - 1) 0 : Nat) : Int) == 0) = false := by simp only [beq_eq_false_iff_ne, ne_eq]; omega
        clear hlen hx
        generalize ((L.getD (gk - 1) 0 : Nat) : Int) = v at *
        go_wp2_with (with_reducible refine G.any_mark _ ?_; (try generalize Array.size (World.heap (G.w _)) = bk); (try dsimp only [List.set_cons_zero, List.set_cons_succ]); (try clear g); intro g)
        go_ret2
        exact ⟨some ⟨tb, 0, none⟩, 2, _, by rw [HLE.out]; rfl, HF.out, g.give (List.mem_cons_self ..)⟩
end Go.Proofs.YtjdnpkicdmapnaaDoor
namespace Go.Proofs.YtjdnpkicdmapnaaDoor
open Go.RowKit GW NL
theorem from_any (a : Int) (h1 : -9223372036854775808 ≤ a) (h2 : a < 9223372036854775808) (w : World) : Calls Tryd.prog 56 #[.int .i64 a] w (RFrom a.natAbs (decide (a < 0)) w) := by
  by_cases h : a < 0
  · have := from_neg a.natAbs (by omega) (by omega) w
    rw [show -((a.natAbs : Nat) : Int) = a by omega] at this
    rwa [decide_eq_true h]
  · have := from_pos a.natAbs (by omega) w
    rw [show ((a.natAbs : Nat) : Int) = a by omega] at this
    rwa [decide_eq_false h]
/-- what the reference's Of answers -/
def ofY (a b : Int) : Bool × Nat × Nat × Int := if b = 0 then (false, 0, 0, 6) else (rneg (frac (decide (a < 0) != decide (b < 0)) a.natAbs b.natAbs), rn (frac (decide (a < 0) != decide (b < 0)) a.natAbs b.natAbs), (frac (decide (a < 0) != decide (b < 0)) a.natAbs b.natAbs).den, 0)
set_option maxRecDepth 20000 in
set_option maxHeartbeats 4000000 in
theorem rOf_any (a b : Int) (h1 : -9223372036854775808 ≤ a) (h2 : a < 9223372036854775808) (h3 : -9223372036854775808 ≤ b) (h4 : b < 9223372036854775808) (w : World) :
    Calls Tryd.prog 25 #[.int .i64 a, .int .i64 b] w (RPE (ofY a b) w) := by
  by_cases hb0 : b = 0
  · subst hb0
    refine calls_b fun g => ?_
    go_enter Tryd.func25, Tryd.ntmps25
    go_wp2_with (with_reducible refine G.any_mark _ ?_; (try generalize Array.size (World.heap (G.w _)) = bk); (try dsimp only [List.set_cons_zero, List.set_cons_succ]); (try clear g); intro g)
    refine bodyPost_ret (v := .tuple #[.agg #[.bool false, .slice none 0 0, .slice none 0 0], .int .i64 6]) (by simp [results, Tryd.results25, go_sem]) rfl ?_
    exact rpe_err _ _
  · have hd0 : b.natAbs ≠ 0 := by omega
    have hla : (limbs a.natAbs).length ≤ 2 := (limbs_len _ 2).2 (by rw [pow32]; omega)
    have hlb : (limbs b.natAbs).length ≤ 2 := (limbs_len _ 2).2 (by rw [pow32]; omega)
    unfold ofY
    rw [if_neg hb0]
    refine calls_b fun g => ?_
    have CSA := Lib.hid (fun w => from_any a h1 h2 w)
    have CSB := Lib.hid (fun w => from_any b h3 h4 w)
    have hbz : (b == 0) = false := by rw [beq_eq_false_iff_ne]; exact hb0
    generalize a.natAbs = na at *
    generalize b.natAbs = nb at *
    obtain ⟨sa, hsa⟩ : ∃ s, decide (a < 0) = s := ⟨_, rfl⟩
    obtain ⟨sb, hsb⟩ : ∃ s, decide (b < 0) = s := ⟨_, rfl⟩
    rw [hsa] at CSA ⊢
    rw [hsb] at CSB ⊢
    obtain ⟨sg, hsg⟩ : ∃ sg, (sa != sb) = sg := ⟨_, rfl⟩
    rw [hsg]
    have hsg2 : (!(sa == sb)) = sg := hsg
    clear hsa hsb
    have CL := Lib.hid (fun A c B k w h1 h2 => rLow_any sg A B c k na nb w h1 h2 (by omega) (by omega) hd0)
    unfold RNf at CL
    generalize frac sg na nb = x at *
    generalize rneg x = xs at *
    generalize rn x = xn at *
    generalize x.den = xd at *
    clear h1 h2 h3 h4 hla hlb hd0 hb0
    unfold RPE
    dsimp only
    go_enter Tryd.func25, Tryd.ntmps25
    go_wp2_with (with_reducible refine G.any_mark _ ?_; (try generalize Array.size (World.heap (G.w _)) = bk); (try dsimp only [List.set_cons_zero, List.set_cons_succ]); (try clear g); intro g)
    refine (CSA.out _).mono ?_
    rintro e w1 ⟨X1, x1, P1, rfl, hx1, hn1⟩
    obtain ⟨g1, rfl⟩ := G.new_ex _ hn1
    clear hn1
    (try clear g)
    revert g1
    intro g
    go_wp2_with (with_reducible refine G.any_mark _ ?_; (try generalize Array.size (World.heap (G.w _)) = bk); (try dsimp only [List.set_cons_zero, List.set_cons_succ]); (try clear g); intro g)
    refine (CSB.out _).mono ?_
    rintro e w1 ⟨X2, x2, P2, rfl, hx2, hn2⟩
    obtain ⟨g1, rfl⟩ := G.new_ex _ hn2
    clear hn2
    (try clear g)
    revert g1
    intro g
    go_wp2_with (with_reducible refine G.any_mark _ ?_; (try generalize Array.size (World.heap (G.w _)) = bk); (try dsimp only [List.set_cons_zero, List.set_cons_succ]); (try clear g); intro g)
    refine (CL.out _ _ _ _ _ (G.sl g (by simp) hx1) (G.sl g (by simp) hx2)).mono ?_
    rintro e w1 ⟨Z1, z1, R1, Z2, z2, R2, rfl, hz1, hz2, hn1, hn2⟩
    have ho1 := fun k o hk => Nat.le_trans (G.chg _).size (hn1.new k o hk)
    have ho2 := fun k o hk => Nat.le_trans (G.chg _).size (hn2.new k o hk)
    obtain ⟨g1, rfl⟩ := G.new2_ex _ hn1 hn2
    clear hn1 hn2
    (try clear g)
    revert g1
    intro g
    go_wp2_with (with_reducible refine G.any_mark _ ?_; (try generalize Array.size (World.heap (G.w _)) = bk); (try dsimp only [List.set_cons_zero, List.set_cons_succ]); (try clear g); intro g)
    refine bodyPost_ret (v := .tuple #[.agg #[.bool xs, .slice Z1 (limbs xn).length z1, .slice Z2 (limbs xd).length z2], .int .i64 0]) (by simp [results, Tryd.results25, go_sem]) rfl ?_
    exact ⟨Z1, z1, R1, Z2, z2, R2, rfl, hz1, hz2, G.pass _ (by simp) ho1, G.pass _ (by simp) ho2⟩
end Go.Proofs.YtjdnpkicdmapnaaDoor
