/- Plain facts and contracts of functions of the program, out of walks. Their conditions stand ahead of each. -/
import Derived.Test.YthhbbnfnejjpiaaGreatDoorRa1
import Derived.Test.YthhbbnfnejjpiaaGreatDoorRa4
import Derived.Test.YthhbbnfnejjpiaaGreatDoorRa24
import Derived.Test.YthhbbnfnejjpiaaGreatDoorRa25
import Derived.Test.YthhbbnfnejjpiaaGreatDoorRa30
import Derived.Below
import Derived.BigQuiet
import Derived.Deep.DeepCutAuto
import Derived.Deep.Draws
import Derived.Deep.LoopGhost
import Derived.Deep.QuietTactic
import Derived.Deep.RegionHeld3
import Derived.Deep.RegionLaw
import Derived.Defers
import Derived.Great.BuildSlice
import Derived.Laws.BytesString
import Derived.Laws.Cells
import Derived.Laws.Concat
import Derived.Laws.CopyOwn
import Derived.Laws.CopyRow
import Derived.Laws.NewBlocks
import Derived.Laws.OwnMore
import Derived.Laws.Pointers
import Derived.Laws.Rows
import Derived.Lib.BitFns
import Derived.Lib.Hide
import Derived.Lib.ItoaNum
import Derived.Lib.SliceRun
import Derived.Lib.TrailingZeros
import Derived.LoopIn
import Derived.LoopNIn
import Derived.Maps.AppendAt
import Derived.OrdersIn
import Derived.OwnWalk
import Derived.OwnWalkIn
import Derived.RangeFuncBound
import Derived.RangeFuncBox
import Derived.RangeFuncCalls
import Derived.RangeFuncLeaves
import Derived.RangeFuncNested
import Derived.RangeFuncWrites
import Derived.RowKit3
import Derived.Shelf.Abstract
import Derived.Shelf.RegionOpen
import Derived.Shelf.Spec.TrailingZeros
import Derived.StillTactics
import Derived.StillTailTactics
import Derived.TacticsInMore
import Derived.Test.YthhbbnfnejjpiaaGreatDoorProg
import Derived.WalkKit
import Derived.WalkLawsBesides
import Derived.WalkMore
import Derived.WalkSpells
set_option linter.unusedVariables false
set_option linter.unusedSimpArgs false
set_option exponentiation.threshold 10000
namespace Go.Proofs.YthhbbnfnejjpiaaGreatDoor
open Go.RowKit GW NL MX
theorem fineAll_of {n mt cols k b : Nat} {x : Mx} (h : ∀ i, i < n → ∀ j, j < mt → Bd k (x i j)) (hb : k * mt ≤ b) (hc : cols ≤ mt) (h9 : 2 * bnd b (n - 1) + 2 ≤ 8192) : FineAll n mt cols x := fine_run (fit_start h hb) rfl hc (rk_lt n (startE x) cols) h9
theorem wide_bd {n k : Nat} {a b : Mx} {m : Nat} (h : ∀ i, i < n → ∀ j, j < n → Bd k (a i j)) (h' : ∀ i, i < n → ∀ j, j < m → Bd k (b i j)) : ∀ i, i < n → ∀ j, j < n + m → Bd k (wideM n a b i j) := fun i hi j hj => by
 unfold wideM
 split
 ·exact h i hi j ‹_›
 ·exact h' i hi _ (by omega)
theorem one_bd {k : Nat} (hk : 1 ≤ k) (i j : Nat) : Bd k (oneM i j) := by
 unfold oneM
 split
 ·exact Bd.mono (k := 1) ⟨by decide +kernel, by decide +kernel⟩ hk
 ·exact Bd.mono (k := 1) ⟨by decide +kernel, by decide +kernel⟩ hk
theorem lints5_r (n m : Nat) (v : Nat → Nat → Int) (A : Option Addr) (c : Nat) (w : World) (hA : (heapOf w).Im A c n (fun _ => m) v) (n1 : 1 ≤ n) (n2 : n ≤ 24) (m1 : 1 ≤ m) (m2 : m ≤ 24) :
  Calls Tryz.prog 49 #[.slice A n c] w (RMt n (fun _ => m) (rawM (intM v)) w) := by
 refine calls_b fun g => ?_
 have HA := Lib.hid hA
 have C := Lib.hid (fun w h => rInts_r n m v A c w h n1 n2 m1 m2)
 unfold RMtE at C
 unfold RMt
 clear hA n1 n2 m1 m2
 go_enter Tryz.func49, Tryz.ntmps49
 go_wp2_with (with_reducible refine G.any_mark _ ?_; (try generalize Array.size (World.heap (G.w _)) = bk); (try dsimp only [lz0, lz1]); (try clear g); intro g)
 refine (C.out _ (HA.out.mono (g.sub _ (by simp)))).mono ?_
 rintro e w1 ⟨ba, ca, Fa, rfl, ha, hn⟩
 have hnna := fun k o hk => Nat.le_trans g.chg.size (hn.new k o hk)
 obtain ⟨g1, rfl⟩ := G.new_ex _ hn
 clear hn
 (try clear g)
 revert g1
 intro g
 go_wp2_with (with_reducible refine G.any_mark _ ?_; (try generalize Array.size (World.heap (G.w _)) = bk); (try dsimp only [lz0, lz1]); (try clear g); intro g)
 go_ret
 exact ⟨_, _, _, rfl, ha, G.below _, G.sub _ _ (by simp), hnna⟩
/-- two by two, written out -/
theorem mx2 {x y : Mx} (h : ∀ i : Fin 2, ∀ j : Fin 2, x i j = y i j) : ∀ i, i < 2 → ∀ j, j < 2 → x i j = y i j := fun i hi j hj => h ⟨i, hi⟩ ⟨j, hj⟩
def invL : Mx := fun i j => if i = 0 then (if j = 0 then -2 else 1) else (if j = 0 then 3 / 2 else -1 / 2)
theorem live_mul : ∀ i, i < 2 → ∀ j, j < 2 → mulM 2 (intM (m22 1 2 3 4)) (intM (m22 2 1 1 2)) i j = intM (m22 4 5 10 11) i j := mx2 (by decide +kernel)
theorem live_det : detV 2 (intM (m22 1 2 3 4)) = -2 := by decide +kernel
theorem live_rank : rankM 2 2 (intM (m22 1 2 3 4)) = 2 := by decide +kernel
theorem live_inv : ∀ i, i < 2 → ∀ j, j < 2 → behindM 2 (intM (m22 1 2 3 4)) oneM i j = invL i j := mx2 (by decide +kernel)
theorem bd22 {k : Nat} {x : Mx} (h : ∀ i : Fin 2, ∀ j : Fin 2, Bd k (x i j)) : ∀ i, i < 2 → ∀ j, j < 2 → Bd k (x i j) := fun i hi j hj => h ⟨i, hi⟩ ⟨j, hj⟩
theorem bd22a : ∀ i, i < 2 → ∀ j, j < 2 → Bd 4 (intM (m22 1 2 3 4) i j) := bd22 (by unfold Bd; decide +kernel)
theorem bd22b : ∀ i, i < 2 → ∀ j, j < 2 → Bd 4 (intM (m22 2 1 1 2) i j) := bd22 (by unfold Bd; decide +kernel)
theorem bd22p : ∀ i, i < 2 → ∀ t, t < 2 → ∀ j, j < 2 → Bd 8192 (intM (m22 1 2 3 4) i t * intM (m22 2 1 1 2) t j) := fun i hi t ht j hj => ((Bd.qn (bd22a i hi t ht)).mul (Bd.qn (bd22b t ht j hj))).bd' (by decide) (by decide)
theorem bd22s : ∀ i, i < 2 → ∀ j, j < 2 → ∀ t, t ≤ 2 → Bd 8192 (sumN t (fun l => intM (m22 1 2 3 4) i l * intM (m22 2 1 1 2) l j)) := fun i hi j hj t ht => (qn_sum (m := t) (k := 8) (l := 8) (fun l hl => (Bd.qn (bd22a i hi l (by omega))).mul (Bd.qn (bd22b l (by omega) j hj)))).bd' (by omega) (by omega)
set_option maxRecDepth 20000 in
set_option maxHeartbeats 8000000 in
theorem lives5_x (w : World) (hT : Tab w) : Calls Tryz.prog 10 #[] w fun e w' => e = .returned (.bool true) ∧ Below w.heap.size w w' := by
 refine calls_b fun g => ?_
 have HT := Lib.hid hT
 clear hT
 have CI := Lib.hid (fun v A c w h => lints5_r 2 2 v A c w h (by decide) (by decide) (by decide) (by decide))
 unfold RMt at CI
 have CM := Lib.hid (fun A B c cB w hA hB hT => Mul_r 2 2 2 (intM (m22 1 2 3 4)) (intM (m22 2 1 1 2)) A B c cB w hA hB hT (by decide) (by decide) (by decide) (by decide) (by decide) (by decide) (fun i hi j hj => (bd22a i hi j hj).mono (by decide)) (fun i hi j hj => (bd22b i hi j hj).mono (by decide)) bd22p bd22s)
 unfold RMtE at CM
 have CD := Lib.hid (fun F0 A c w hF hA hT => Det_r F0 2 (intM (m22 1 2 3 4)) A c w hF hA hT (by decide) (by decide) (fun i hi j hj => (bd22a i hi j hj).mono (by decide)) (fineAll_of bd22a (b := 8) (by decide) (by decide) (by decide)))
 rw [live_det] at CD
 have CV := Lib.hid (fun F0 A c w hF hA hT => Inv_r F0 2 (intM (m22 1 2 3 4)) A c w hF hA hT (by decide) (by decide) (fun i hi j hj => (bd22a i hi j hj).mono (by decide)) (fineAll_of (wide_bd bd22a (fun i _ j _ => one_bd (by decide) i j)) (b := 16) (by decide) (by decide) (by decide)))
 unfold RBeh at CV
 rw [live_rank] at CV
 have CS := Lib.hid (fun x A B c d w hA hB => lis5_x 2 (fun _ => 2) x A B c d w hA hB (by decide) (fun _ _ => by decide))
 have CN := Lib.hid (fun p q r w h => lnum5_x (-2) 1 (-2) (by decide) (by decide +kernel) (by decide) (by decide) (by decide) (by decide) p q r w h)
 have CO := Lib.hid (fun (a b : Int) (z : Rat) (hb : b ≠ 0) (e : frac (decide (a < 0) != decide (b < 0)) a.natAbs b.natAbs = z) (h1 : I64 a) (h2 : I64 b) w => lof5_r a b z hb e h1.1 h1.2 h2.1 h2.2 w)
 unfold RT1 at CO
 go_enter Tryz.func10, Tryz.ntmps10
 go_wp2_with (with_reducible refine G.any_mark _ ?_; (try generalize Array.size (World.heap (G.w _)) = bk); (try dsimp only [lz0, lz1]); (try clear g); intro g)
 refine (CI.out (m22 1 2 3 4) _ _ _ (im22 g 1 2 3 4 (.head _) (.tail _ (.tail _ (.head _))) (.tail _ (.head _)) (by decide) (by decide) (by decide) (by decide))).mono ?_
 rintro e w1 ⟨ba, ca, Fa, rfl, ha, hn⟩
 have hnna := fun k o hk => Nat.le_trans g.chg.size (hn.new k o hk)
 obtain ⟨g1, rfl⟩ := G.new_ex _ hn
 clear hn
 (try clear g)
 revert g1
 intro g
 go_wp2_with (with_reducible refine G.any_mark _ ?_; (try generalize Array.size (World.heap (G.w _)) = bk); (try dsimp only [lz0, lz1]); (try clear g); intro g)
 refine (CI.out (m22 2 1 1 2) _ _ _ (im22 g 2 1 1 2 (.head _) (.tail _ (.tail _ (.head _))) (.tail _ (.head _)) (by decide) (by decide) (by decide) (by decide))).mono ?_
 rintro e w1 ⟨bb, cb, Fb, rfl, hb, hn⟩
 have hnnb := fun k o hk => Nat.le_trans g.chg.size (hn.new k o hk)
 obtain ⟨g1, rfl⟩ := G.new_ex _ hn
 clear hn
 (try clear g)
 revert g1
 intro g
 obtain ⟨g2, hg2⟩ := G.less g (M' := []) (List.nil_sublist _)
 rw [hg2]
 clear hg2
 (try clear g)
 revert g2
 intro g
 go_wp2_with (with_reducible refine G.any_mark _ ?_; (try generalize Array.size (World.heap (G.w _)) = bk); (try dsimp only [lz0, lz1]); (try clear g); intro g)
 refine (CM.out _ _ _ _ _ (ha.mono (g.sub _ (by simp))) (hb.mono (g.sub _ (by simp))) (G.tab g HT.out)).mono ?_
 rintro e w1 ⟨bm, cm, Fm, rfl, hm, hn⟩
 have hnnm := fun k o hk => Nat.le_trans g.chg.size (hn.new k o hk)
 obtain ⟨g1, rfl⟩ := G.new_ex _ hn
 clear hn
 (try clear g)
 revert g1
 intro g
 go_wp2_with (with_reducible refine G.any_mark _ ?_; (try generalize Array.size (World.heap (G.w _)) = bk); (try dsimp only [lz0, lz1]); (try clear g); intro g)
 refine (CD.out Fa _ _ _ (g.sub _ (by simp)) ha (G.tab g HT.out)).mono ?_
 rintro e w1 ⟨pd, qd, rd, Fd, rfl, hd, hn⟩
 obtain ⟨sd, Ad, nd, cd, Bd, dd, kd, rfl, rfl, rfl⟩ := hd.shape
 obtain ⟨g1, rfl, hod⟩ := G.nor_ex _ (by simp) hn
 clear hn
 (try clear g)
 revert g1
 intro g
 go_wp2_with (with_reducible refine G.any_mark _ ?_; (try generalize Array.size (World.heap (G.w _)) = bk); (try dsimp only [lz0, lz1]); (try clear g); intro g)
 (try (refine cmark _ ?_; (try dsimp only [lz0, lz1]); (try clear g); intro g))
 refine (CV.out Fa _ _ _ (g.sub _ (by simp)) ha (G.tab g HT.out)).mono ?_
 rintro e w1 (⟨hr, _⟩ | ⟨_, bi, ki, Fi, rfl, hmi, hno⟩)
 ·exact absurd hr (by decide)
 obtain ⟨g1, rfl, hoi⟩ := G.nor_ex _ (by simp) hno
 clear hno g
 revert g1
 intro g
 have hmm : Fm.Mt (some ⟨bm, 0, none⟩) cm 2 (fun _ => 2) (rawM (intM (m22 4 5 10 11))) := hm.congr (fun _ _ => rfl) (fun i hi j hj => congrArg rawOf (live_mul i hi j hj))
 have hii : Fi.Mt (some ⟨bi, 0, none⟩) ki 2 (fun _ => 2) (rawM invL) := hmi.congr (fun _ _ => rfl) (fun i hi j hj => congrArg rawOf (live_inv i hi j hj))
 clear hm hmi CM CD CV
 (as_aux_lemma =>
  go_wp2_with (with_reducible refine G.any_mark _ ?_; (try generalize Array.size (World.heap (G.w _)) = bk); (try dsimp only [lz0, lz1]); (try clear g); intro g)
  refine (CI.out (m22 4 5 10 11) _ _ _ (im22 g 4 5 10 11 (.head _) (.tail _ (.tail _ (.head _))) (.tail _ (.head _)) (by decide) (by decide) (by decide) (by decide))).mono ?_
  rintro e w1 ⟨bx, cx, Fx, rfl, hx, hn⟩
  have hnnx := fun k o hk => Nat.le_trans g.chg.size (hn.new k o hk)
  obtain ⟨g1, rfl⟩ := G.new_ex _ hn
  clear hn
  (try clear g)
  revert g1
  intro g
  go_wp2_with (with_reducible refine G.any_mark _ ?_; (try generalize Array.size (World.heap (G.w _)) = bk); (try dsimp only [lz0, lz1]); (try clear g); intro g)
  refine (CS.out _ _ _ _ _ _ (hmm.mono (g.sub _ (by simp))) (hx.mono (g.sub _ (by simp)))).mono ?_
  rintro e w1 ⟨rfl, hb⟩
  obtain ⟨g1, rfl⟩ := G.call_ex _ hb
  clear hb
  (try clear g)
  revert g1
  intro g
  go_wp2_with (with_reducible refine G.any_mark _ ?_; (try generalize Array.size (World.heap (G.w _)) = bk); (try dsimp only [lz0, lz1]); (try clear g); intro g)
  refine (CN.out _ _ _ _ (G.rtI g (by simp) hd)).mono ?_
  rintro e w1 ⟨rfl, hb⟩
  obtain ⟨g1, rfl⟩ := G.call_ex _ hb
  clear hb
  (try clear g)
  revert g1
  intro g
  go_wp2_with (with_reducible refine G.any_mark _ ?_; (try generalize Array.size (World.heap (G.w _)) = bk); (try dsimp only [lz0, lz1]); (try clear g); intro g)
  (as_aux_lemma =>
   refine (CO.out (-2) 1 (-2) (by decide) (by decide +kernel) (by decide) (by decide) _).mono ?_
   rintro e w1 ⟨po1, qo1, ro1, Fo1, rfl, ho1, hn⟩
   have hnno1 := fun k o hk => Nat.le_trans g.chg.size (hn.new k o hk)
   obtain ⟨so1, Ao1, no1, co1, Bo1, do1, ko1, rfl, rfl, rfl⟩ := ho1.shape
   obtain ⟨g1, rfl⟩ := G.new_ex _ hn
   clear hn
   (try clear g)
   revert g1
   intro g
   go_wp2_with (with_reducible refine G.any_mark _ ?_; (try generalize Array.size (World.heap (G.w _)) = bk); (try dsimp only [lz0, lz1]); (try clear g); intro g)
   refine (CO.out 1 1 1 (by decide) (by decide +kernel) (by decide) (by decide) _).mono ?_
   rintro e w1 ⟨po2, qo2, ro2, Fo2, rfl, ho2, hn⟩
   have hnno2 := fun k o hk => Nat.le_trans g.chg.size (hn.new k o hk)
   obtain ⟨so2, Ao2, no2, co2, Bo2, do2, ko2, rfl, rfl, rfl⟩ := ho2.shape
   obtain ⟨g1, rfl⟩ := G.new_ex _ hn
   clear hn
   (try clear g)
   revert g1
   intro g
   go_wp2_with (first | (with_reducible refine G.any_mark _ ?_; (try generalize Array.size (World.heap (G.w _)) = bk); (try dsimp only [lz0, lz1]); (try clear g); intro g) | (refine bslice2 (by rfl) _ _ (by rfl) (by rfl) (by rfl) g ?_; (try clear g); intro b2 g))
   refine (CO.out 3 2 (3/2) (by decide) (by decide +kernel) (by decide) (by decide) _).mono ?_
   rintro e w1 ⟨po3, qo3, ro3, Fo3, rfl, ho3, hn⟩
   have hnno3 := fun k o hk => Nat.le_trans g.chg.size (hn.new k o hk)
   obtain ⟨so3, Ao3, no3, co3, Bo3, do3, ko3, rfl, rfl, rfl⟩ := ho3.shape
   obtain ⟨g1, rfl⟩ := G.new_ex _ hn
   clear hn
   (try clear g)
   revert g1
   intro g
   go_wp2_with (with_reducible refine G.any_mark _ ?_; (try generalize Array.size (World.heap (G.w _)) = bk); (try dsimp only [lz0, lz1]); (try clear g); intro g)
   refine (CO.out (-1) 2 (-1/2) (by decide) (by decide +kernel) (by decide) (by decide) _).mono ?_
   rintro e w1 ⟨po4, qo4, ro4, Fo4, rfl, ho4, hn⟩
   have hnno4 := fun k o hk => Nat.le_trans g.chg.size (hn.new k o hk)
   obtain ⟨so4, Ao4, no4, co4, Bo4, do4, ko4, rfl, rfl, rfl⟩ := ho4.shape
   obtain ⟨g1, rfl⟩ := G.new_ex _ hn
   clear hn
   (try clear g)
   revert g1
   intro g
   go_wp2_with (first | (with_reducible refine G.any_mark _ ?_; (try generalize Array.size (World.heap (G.w _)) = bk); (try dsimp only [lz0, lz1]); (try clear g); intro g) | (refine bslice2 (by rfl) _ _ (by rfl) (by rfl) (by rfl) g ?_; (try clear g); intro b2 g))
   (as_aux_lemma =>
    have hl : (heapOf g.w).Mt _ _ 2 (fun _ => 2) (rawM invL) := mtM g (.head _) (by decide) (two_cases ⟨_, _, rfl, rwM g _ (.tail _ (.tail _ (.head _))) (tris2 (x := rawM invL 0) (G.rtI g (by simp) ho1) (G.rtI g (by simp) ho2)) (by decide)⟩ ⟨_, _, rfl, rwM g _ (.tail _ (.head _)) (tris2 (x := rawM invL 1) (G.rtI g (by simp) ho3) (G.rtI g (by simp) ho4)) (by decide)⟩)
    refine (CS.out _ _ _ _ _ _ (hii.mono (g.sub _ (by simp))) hl).mono ?_
    rintro e w1 ⟨rfl, hb⟩
    obtain ⟨g1, rfl⟩ := G.call_ex _ hb
    clear hb
    (try clear g)
    revert g1
    intro g
    go_wp2_with (with_reducible refine G.any_mark _ ?_; (try generalize Array.size (World.heap (G.w _)) = bk); (try dsimp only [lz0, lz1]); (try clear g); intro g)
    go_ret
    exact ⟨rfl, G.below _⟩)))
end Go.Proofs.YthhbbnfnejjpiaaGreatDoor
namespace Go.Proofs.YthhbbnfnejjpiaaGreatDoor
open Go.RowKit GW NL MX
theorem is_of_si {F : Frag} {A : Option Addr} {c : Nat} {l : List Int} (h : F.Si A c l) : Frag.Is F A l.length := fun j hj => by
 obtain ⟨b, o, e, cs, T, fr, hb, hc⟩ := h.ints (by omega)
 exact ⟨b, o, l.getD j 0, e, fun w0 X M I g hI => g.cellF hI (o := o) hb (hc j hj), h.ok j⟩
theorem drawn_f (tb n c rows cols : Nat) (A : Option Addr) (F0 : Frag) {w0 : World} {M : List Blk} {I : List Frag} (hL : Frag.Is F0 A n) (hn : n ≤ 1000000) (hr1 : 1 ≤ rows) (hr : rows ≤ 100) (hc : cols ≤ 100) (hF : InF F0 I) (kv : Int) (hk : ∃ k : Nat, kv = (k : Int) ∧ k ≤ n) (g : G w0 [] ((tb, 27, [.slice A n c, .int .i64 kv]) :: M) I) :
  Calls Tryz.prog 12 #[.pointer (some ⟨tb, 0, none⟩), .int .i64 (rows : Int), .int .i64 (cols : Int)] g.w fun e w' => ∃ (z : Mx) (kv' : Int) (b cc : Nat) (F : Frag) (g' : G w0 [] ((tb, 27, [.slice A n c, .int .i64 kv']) :: M) (F :: I)), e = .returned (.slice (some ⟨b, 0, none⟩) rows cc) ∧ (∃ k : Nat, kv' = (k : Int) ∧ k ≤ n) ∧ F.Mt (some ⟨b, 0, none⟩) cc rows (fun _ => cols) (rawM z) ∧ F.Nw w0 ∧ QM 4 4 rows cols z ∧ w' = g'.w := by
 obtain ⟨k0, rfl, hk0⟩ := hk
 refine (drawn_r tb n c k0 rows cols A F0 hL hn hk0 hr hc hF g).mono ?_
 rintro e w' ⟨z, k', cc, Ac, xs, sc, R, F, g', rfl, hk', hv, hown, hnw, hsm, rfl⟩
 obtain ⟨g1, e1⟩ := g'.perm (M' := sc ++ (R ++ ((tb, 27, [.slice A n c, .int .i64 (k' : Int)]) :: M))) (by
  have := (List.perm_middle (a := (tb, 27, [Value.slice A n c, .int .i64 (k' : Int)])) (l₁ := sc ++ R) (l₂ := M)).symm
  simpa [List.append_assoc] using this)
 obtain ⟨F', b, g2, rfl, e2, hm, hle, hnw2⟩ := g1.freezeV hv hown (by omega) (by omega) (fun _ _ => by omega)
 exact ⟨z, k', b, cc, F', g2, rfl, ⟨k', rfl, hk'⟩, hm, hnw2 hnw, QM.small hsm, e1.trans e2⟩
end Go.Proofs.YthhbbnfnejjpiaaGreatDoor
namespace Go.Proofs.YthhbbnfnejjpiaaGreatDoor
open Go.RowKit GW NL MX
set_option maxRecDepth 40000 in
set_option maxHeartbeats 16000000 in
theorem ring_walk (A : Option Addr) (c : Nat) (l : List Int) (a1 a2 a3 : Int) (W : World) (hA : SiW W A c l) (hT : Tab W) (w1 : I64 a1) (w2 : I64 a2) (w3 : I64 a3) :
  Calls Tryz.prog 3 #[.slice A l.length c, .int .i64 a1, .int .i64 a2, .int .i64 a3] W fun e w' => e = .returned (.bool true) ∧ Below W.heap.size W w' := by
 refine calls_b fun g => ?_
 have HT := Lib.hid hT
 have HL := Lib.hid (is_of_si hA)
 have CLV := Lib.hid (fun w h => lives5_x w h)
 clear hT hA
 generalize l.length = n0 at *
 by_cases hn : 120 < n0
 ·have hni : ((120 : Int) < (n0 : Int)) := by omega
  go_enter Tryz.func3, Tryz.ntmps3
  go_wp2_with (with_reducible refine G.any_mark _ ?_; (try generalize Array.size (World.heap (G.w _)) = bk); (try dsimp only [lz0, lz1]); (try clear g); intro g)
  refine (CLV.out _ (G.tab g HT.out)).mono ?_
  rintro e w1 ⟨rfl, hb⟩
  obtain ⟨g1, rfl⟩ := G.call_ex _ hb
  clear hb
  (try clear g)
  revert g1
  intro g
  go_wp2_with (with_reducible refine G.any_mark _ ?_; (try generalize Array.size (World.heap (G.w _)) = bk); (try dsimp only [lz0, lz1]); (try clear g); intro g)
  go_ret
  exact ⟨rfl, G.below _⟩
 have hni : ¬ ((120 : Int) < (n0 : Int)) := by omega
 have CP1 := Lib.hid (fun w => pick_m 4 a1 (by decide) (by decide) w1.1 w1.2 w)
 have CP2 := Lib.hid (fun w => pick_m 4 a2 (by decide) (by decide) w2.1 w2.2 w)
 have CP3 := Lib.hid (fun w => pick_m 4 a3 (by decide) (by decide) w3.1 w3.2 w)
 clear w1 w2 w3
 go_enter Tryz.func3, Tryz.ntmps3
 go_wp2_with (with_reducible refine G.any_mark _ ?_; (try generalize Array.size (World.heap (G.w _)) = bk); (try dsimp only [lz0, lz1]); (try clear g); intro g)
 refine (CLV.out _ (G.tab g HT.out)).mono ?_
 rintro e w1 ⟨rfl, hb⟩
 obtain ⟨g1, rfl⟩ := G.call_ex _ hb
 clear hb
 (try clear g)
 revert g1
 intro g
 go_wp2_with (with_reducible refine G.any_mark _ ?_; (try generalize Array.size (World.heap (G.w _)) = bk); (try dsimp only [lz0, lz1]); (try clear g); intro g)
 refine (CP1.out _).mono ?_
 rintro e w1 ⟨u1, hu1, rfl, hb⟩
 obtain ⟨g1, rfl⟩ := G.call_ex _ hb
 clear hb g
 revert g1
 intro g
 obtain ⟨n, hn'⟩ : ∃ n, n = u1 + 1 := ⟨_, rfl⟩
 have hw1 : IntKind.i64.wrap (1 + (u1 : Int)) = (n : Int) := by rw [IntKind.wrap_i64]; omega
 have n1 : 1 ≤ n := by omega
 have n2 : n ≤ 4 := by omega
 clear hn' hu1
 go_wp2_with (with_reducible refine G.any_mark _ ?_; (try generalize Array.size (World.heap (G.w _)) = bk); (try dsimp only [lz0, lz1]); (try clear g); intro g)
 refine (CP2.out _).mono ?_
 rintro e w1 ⟨u2, hu2, rfl, hb⟩
 obtain ⟨g1, rfl⟩ := G.call_ex _ hb
 clear hb g
 revert g1
 intro g
 obtain ⟨m, hm'⟩ : ∃ m, m = u2 + 1 := ⟨_, rfl⟩
 have hw2 : IntKind.i64.wrap (1 + (u2 : Int)) = (m : Int) := by rw [IntKind.wrap_i64]; omega
 have m1 : 1 ≤ m := by omega
 have m2 : m ≤ 4 := by omega
 clear hm' hu2
 go_wp2_with (with_reducible refine G.any_mark _ ?_; (try generalize Array.size (World.heap (G.w _)) = bk); (try dsimp only [lz0, lz1]); (try clear g); intro g)
 refine (CP3.out _).mono ?_
 rintro e w1 ⟨u3, hu3, rfl, hb⟩
 obtain ⟨g1, rfl⟩ := G.call_ex _ hb
 clear hb g
 revert g1
 intro g
 obtain ⟨k, hk'⟩ : ∃ k, k = u3 + 1 := ⟨_, rfl⟩
 have hw3 : IntKind.i64.wrap (1 + (u3 : Int)) = (k : Int) := by rw [IntKind.wrap_i64]; omega
 have k1 : 1 ≤ k := by omega
 have k2 : k ≤ 4 := by omega
 clear hk' hu3
 go_wp2_with (with_reducible refine G.any_mark _ ?_; (try generalize Array.size (World.heap (G.w _)) = bk); (try dsimp only [lz0, lz1]); (try clear g); intro g)
 clear hw1 hw2 hw3 CP1 CP2 CP3 CLV
 refine (drawn_f _ n0 _ n m A (heapOf W) HL.out (by omega) (by omega) (by omega) (by omega) (by unfold InF; simp) _ ⟨0, rfl, Nat.zero_le _⟩ g).mono ?_
 rintro e w1 ⟨za, kva, ba, ca, Fa, g1, rfl, hka, ha, hnna, hqa, rfl⟩
 clear g
 revert g1
 intro g
 go_wp2_with (with_reducible refine G.any_mark _ ?_; (try generalize Array.size (World.heap (G.w _)) = bk); (try dsimp only [lz0, lz1]); (try clear g); intro g)
 refine (drawn_f _ n0 _ m k A (heapOf W) HL.out (by omega) (by omega) (by omega) (by omega) (by unfold InF; simp) _ hka g).mono ?_
 rintro e w1 ⟨zb, kvb, bb, cb, Fb, g1, rfl, hkb, hb, hnnb, hqb, rfl⟩
 clear g
 revert g1
 intro g
 go_wp2_with (with_reducible refine G.any_mark _ ?_; (try generalize Array.size (World.heap (G.w _)) = bk); (try dsimp only [lz0, lz1]); (try clear g); intro g)
 refine (drawn_f _ n0 _ k n A (heapOf W) HL.out (by omega) (by omega) (by omega) (by omega) (by unfold InF; simp) _ hkb g).mono ?_
 rintro e w1 ⟨zc, kvc, bc, cc, Fc, g1, rfl, hkc, hc, hnnc, hqc, rfl⟩
 clear g
 revert g1
 intro g
 go_wp2_with (with_reducible refine G.any_mark _ ?_; (try generalize Array.size (World.heap (G.w _)) = bk); (try dsimp only [lz0, lz1]); (try clear g); intro g)
 refine (drawn_f _ n0 _ m k A (heapOf W) HL.out (by omega) (by omega) (by omega) (by omega) (by unfold InF; simp) _ hkc g).mono ?_
 rintro e w1 ⟨zd, kvd, bd, cd, Fd, g1, rfl, hkd, hd, hnnd, hqd, rfl⟩
 clear g
 revert g1
 intro g
 go_wp2_with (with_reducible refine G.any_mark _ ?_; (try generalize Array.size (World.heap (G.w _)) = bk); (try dsimp only [lz0, lz1]); (try clear g); intro g)
 clear hka hkb hkc hkd HL
 obtain ⟨g2, hg2⟩ := G.less g (M' := []) (List.nil_sublist _)
 rw [hg2]
 clear hg2
 (try clear g)
 revert g2
 intro g
 have hqab : QM 68 32 n k (mulM m za zb) := (hqa.mul hqb).mono (by omega) (by omega)
 have hqbc : QM 68 32 m n (mulM k zb zc) := (hqb.mul hqc).mono (by omega) (by omega)
 have hqs : QM 9 8 m k (addM zb zd) := (hqb.add hqd).mono (by decide) (by decide)
 have hqad : QM 68 32 n k (mulM m za zd) := (hqa.mul hqd).mono (by omega) (by omega)
 (as_aux_lemma =>
  refine (Mul_q n m k za zb hqa hqb (by omega) (by omega) (by omega) (by omega) (by omega) (by omega) (by omega) _ _ _ _ _ (ha.mono (g.sub _ (by simp))) (hb.mono (g.sub _ (by simp))) (G.tab g HT.out)).mono ?_
  rintro e w1 ⟨bab, cab, Fab, rfl, hab, hn⟩
  have hnnab := fun k o hk => Nat.le_trans g.chg.size (hn.new k o hk)
  obtain ⟨g1, rfl⟩ := G.new_ex _ hn
  clear hn
  (try clear g)
  revert g1
  intro g
  go_wp2_with (with_reducible refine G.any_mark _ ?_; (try generalize Array.size (World.heap (G.w _)) = bk); (try dsimp only [lz0, lz1]); (try clear g); intro g)
  refine (Mul_q m k n zb zc hqb hqc (by omega) (by omega) (by omega) (by omega) (by omega) (by omega) (by omega) _ _ _ _ _ (hb.mono (g.sub _ (by simp))) (hc.mono (g.sub _ (by simp))) (G.tab g HT.out)).mono ?_
  rintro e w1 ⟨bbc, cbc, Fbc, rfl, hbc, hn⟩
  have hnnbc := fun k o hk => Nat.le_trans g.chg.size (hn.new k o hk)
  obtain ⟨g1, rfl⟩ := G.new_ex _ hn
  clear hn
  (try clear g)
  revert g1
  intro g
  go_wp2_with (with_reducible refine G.any_mark _ ?_; (try generalize Array.size (World.heap (G.w _)) = bk); (try dsimp only [lz0, lz1]); (try clear g); intro g)
  (as_aux_lemma =>
   refine (Mul_q n k n (mulM m za zb) zc hqab hqc (by omega) (by omega) (by omega) (by omega) (by omega) (by omega) (by omega) _ _ _ _ _ (hab.mono (g.sub _ (by simp))) (hc.mono (g.sub _ (by simp))) (G.tab g HT.out)).mono ?_
   rintro e w1 ⟨blf, clf, Flf, rfl, hlf, hn⟩
   have hnnlf := fun k o hk => Nat.le_trans g.chg.size (hn.new k o hk)
   obtain ⟨g1, rfl⟩ := G.new_ex _ hn
   clear hn
   (try clear g)
   revert g1
   intro g
   go_wp2_with (with_reducible refine G.any_mark _ ?_; (try generalize Array.size (World.heap (G.w _)) = bk); (try dsimp only [lz0, lz1]); (try clear g); intro g)
   refine (Mul_q n m n za (mulM k zb zc) hqa hqbc (by omega) (by omega) (by omega) (by omega) (by omega) (by omega) (by omega) _ _ _ _ _ (ha.mono (g.sub _ (by simp))) (hbc.mono (g.sub _ (by simp))) (G.tab g HT.out)).mono ?_
   rintro e w1 ⟨brt, crt, Frt, rfl, hrt, hn⟩
   have hnnrt := fun k o hk => Nat.le_trans g.chg.size (hn.new k o hk)
   obtain ⟨g1, rfl⟩ := G.new_ex _ hn
   clear hn
   (try clear g)
   revert g1
   intro g
   go_wp2_with (with_reducible refine G.any_mark _ ?_; (try generalize Array.size (World.heap (G.w _)) = bk); (try dsimp only [lz0, lz1]); (try clear g); intro g)
   have hrt2 := hrt.congr (y := rawM (mulM k (mulM m za zb) zc)) (fun _ _ => rfl) (fun i hi j hj => congrArg rawOf (mulM_assoc m k za zb zc i j).symm)
   clear hrt hqbc hqc
   (as_aux_lemma =>
    refine (Add_q m k zb zd hqb hqd (by omega) (by omega) (by omega) (by omega) (by omega) _ _ _ _ _ (hb.mono (g.sub _ (by simp))) (hd.mono (g.sub _ (by simp))) (G.tab g HT.out)).mono ?_
    rintro e w1 ⟨bsm, csm, Fsm, rfl, hsm, hn⟩
    have hnnsm := fun k o hk => Nat.le_trans g.chg.size (hn.new k o hk)
    obtain ⟨g1, rfl⟩ := G.new_ex _ hn
    clear hn
    (try clear g)
    revert g1
    intro g
    go_wp2_with (with_reducible refine G.any_mark _ ?_; (try generalize Array.size (World.heap (G.w _)) = bk); (try dsimp only [lz0, lz1]); (try clear g); intro g)
    refine (Mul_q n m k za (addM zb zd) hqa hqs (by omega) (by omega) (by omega) (by omega) (by omega) (by omega) (by omega) _ _ _ _ _ (ha.mono (g.sub _ (by simp))) (hsm.mono (g.sub _ (by simp))) (G.tab g HT.out)).mono ?_
    rintro e w1 ⟨bon, con, Fon, rfl, hon, hn⟩
    have hnnon := fun k o hk => Nat.le_trans g.chg.size (hn.new k o hk)
    obtain ⟨g1, rfl⟩ := G.new_ex _ hn
    clear hn
    (try clear g)
    revert g1
    intro g
    go_wp2_with (with_reducible refine G.any_mark _ ?_; (try generalize Array.size (World.heap (G.w _)) = bk); (try dsimp only [lz0, lz1]); (try clear g); intro g)
    (as_aux_lemma =>
     refine (Mul_q n m k za zd hqa hqd (by omega) (by omega) (by omega) (by omega) (by omega) (by omega) (by omega) _ _ _ _ _ (ha.mono (g.sub _ (by simp))) (hd.mono (g.sub _ (by simp))) (G.tab g HT.out)).mono ?_
     rintro e w1 ⟨bad, cad, Fad, rfl, had, hn⟩
     have hnnad := fun k o hk => Nat.le_trans g.chg.size (hn.new k o hk)
     obtain ⟨g1, rfl⟩ := G.new_ex _ hn
     clear hn
     (try clear g)
     revert g1
     intro g
     go_wp2_with (with_reducible refine G.any_mark _ ?_; (try generalize Array.size (World.heap (G.w _)) = bk); (try dsimp only [lz0, lz1]); (try clear g); intro g)
     refine (Add_q n k (mulM m za zb) (mulM m za zd) hqab hqad (by omega) (by omega) (by omega) (by omega) (by omega) _ _ _ _ _ (hab.mono (g.sub _ (by simp))) (had.mono (g.sub _ (by simp))) (G.tab g HT.out)).mono ?_
     rintro e w1 ⟨btw, ctw, Ftw, rfl, htw, hn⟩
     have hnntw := fun k o hk => Nat.le_trans g.chg.size (hn.new k o hk)
     obtain ⟨g1, rfl⟩ := G.new_ex _ hn
     clear hn
     (try clear g)
     revert g1
     intro g
     have htw2 := htw.congr (y := rawM (mulM m za (addM zb zd))) (fun _ _ => rfl) (fun i hi j hj => congrArg rawOf (mulM_add m za zb zd i j).symm)
     clear htw hqs hqad hqd
     go_wp2_with (with_reducible refine G.any_mark _ ?_; (try generalize Array.size (World.heap (G.w _)) = bk); (try dsimp only [lz0, lz1]); (try clear g); intro g)
     (as_aux_lemma =>
      refine (samemat_x n (fun _ => n) _ _ _ _ _ _ (hlf.mono (g.sub _ (by simp))) (hrt2.mono (g.sub _ (by simp))) (by omega) (fun _ _ => by omega)).mono ?_
      rintro e w1 ⟨rfl, hb⟩
      obtain ⟨g1, rfl⟩ := G.call_ex _ hb
      clear hb
      (try clear g)
      revert g1
      intro g
      go_wp2_with (with_reducible refine G.any_mark _ ?_; (try generalize Array.size (World.heap (G.w _)) = bk); (try dsimp only [lz0, lz1]); (try clear g); intro g)
      refine (samemat_x n (fun _ => k) _ _ _ _ _ _ (hon.mono (g.sub _ (by simp))) (htw2.mono (g.sub _ (by simp))) (by omega) (fun _ _ => by omega)).mono ?_
      rintro e w1 ⟨rfl, hb⟩
      obtain ⟨g1, rfl⟩ := G.call_ex _ hb
      clear hb
      (try clear g)
      revert g1
      intro g
      go_wp2_with (with_reducible refine G.any_mark _ ?_; (try generalize Array.size (World.heap (G.w _)) = bk); (try dsimp only [lz0, lz1]); (try clear g); intro g)
      (as_aux_lemma =>
       refine (Turn_q n m za hqa (by omega) (by omega) (by omega) (by omega) (by omega) _ _ _ (ha.mono (g.sub _ (by simp))) (G.tab g HT.out)).mono ?_
       rintro e w1 ⟨bta, cta, Fta, rfl, hta, hn⟩
       have hnnta := fun k o hk => Nat.le_trans g.chg.size (hn.new k o hk)
       obtain ⟨g1, rfl⟩ := G.new_ex _ hn
       clear hn
       (try clear g)
       revert g1
       intro g
       go_wp2_with (with_reducible refine G.any_mark _ ?_; (try generalize Array.size (World.heap (G.w _)) = bk); (try dsimp only [lz0, lz1]); (try clear g); intro g)
       refine (Turn_q m k zb hqb (by omega) (by omega) (by omega) (by omega) (by omega) _ _ _ (hb.mono (g.sub _ (by simp))) (G.tab g HT.out)).mono ?_
       rintro e w1 ⟨btb, ctb, Ftb, rfl, htb, hn⟩
       have hnntb := fun k o hk => Nat.le_trans g.chg.size (hn.new k o hk)
       obtain ⟨g1, rfl⟩ := G.new_ex _ hn
       clear hn
       (try clear g)
       revert g1
       intro g
       go_wp2_with (with_reducible refine G.any_mark _ ?_; (try generalize Array.size (World.heap (G.w _)) = bk); (try dsimp only [lz0, lz1]); (try clear g); intro g)
       refine (Turn_q n k (mulM m za zb) hqab (by omega) (by omega) (by omega) (by omega) (by omega) _ _ _ (hab.mono (g.sub _ (by simp))) (G.tab g HT.out)).mono ?_
       rintro e w1 ⟨btt, ctt, Ftt, rfl, htt, hn⟩
       have hnntt := fun k o hk => Nat.le_trans g.chg.size (hn.new k o hk)
       obtain ⟨g1, rfl⟩ := G.new_ex _ hn
       clear hn
       (try clear g)
       revert g1
       intro g
       go_wp2_with (with_reducible refine G.any_mark _ ?_; (try generalize Array.size (World.heap (G.w _)) = bk); (try dsimp only [lz0, lz1]); (try clear g); intro g)
       (as_aux_lemma =>
        refine (Mul_q k m n (trM zb) (trM za) hqb.tr hqa.tr (by omega) (by omega) (by omega) (by omega) (by omega) (by omega) (by omega) _ _ _ _ _ (htb.mono (g.sub _ (by simp))) (hta.mono (g.sub _ (by simp))) (G.tab g HT.out)).mono ?_
        rintro e w1 ⟨bpr, cpr, Fpr, rfl, hpr, hn⟩
        have hnnpr := fun k o hk => Nat.le_trans g.chg.size (hn.new k o hk)
        obtain ⟨g1, rfl⟩ := G.new_ex _ hn
        clear hn
        (try clear g)
        revert g1
        intro g
        go_wp2_with (with_reducible refine G.any_mark _ ?_; (try generalize Array.size (World.heap (G.w _)) = bk); (try dsimp only [lz0, lz1]); (try clear g); intro g)
        have hpr2 := hpr.congr (y := rawM (trM (mulM m za zb))) (fun _ _ => rfl) (fun i hi j hj => congrArg rawOf (mulM_tr m za zb i j).symm)
        refine (One_r m (by omega) (by omega) _ (G.tab g HT.out)).mono ?_
        rintro e w1 ⟨bid, cid, Fid, rfl, hid, hn⟩
        have hnnid := fun k o hk => Nat.le_trans g.chg.size (hn.new k o hk)
        obtain ⟨g1, rfl⟩ := G.new_ex _ hn
        clear hn
        (try clear g)
        revert g1
        intro g
        go_wp2_with (with_reducible refine G.any_mark _ ?_; (try generalize Array.size (World.heap (G.w _)) = bk); (try dsimp only [lz0, lz1]); (try clear g); intro g)
        refine (Mul_q n m m za oneM hqa (QM.one m m) (by omega) (by omega) (by omega) (by omega) (by omega) (by omega) (by omega) _ _ _ _ _ (ha.mono (g.sub _ (by simp))) (hid.mono (g.sub _ (by simp))) (G.tab g HT.out)).mono ?_
        rintro e w1 ⟨bsa, csa, Fsa, rfl, hsa, hn⟩
        have hnnsa := fun k o hk => Nat.le_trans g.chg.size (hn.new k o hk)
        obtain ⟨g1, rfl⟩ := G.new_ex _ hn
        clear hn
        (try clear g)
        revert g1
        intro g
        have hsa2 := hsa.congr (y := rawM za) (fun _ _ => rfl) (fun i hi j hj => congrArg rawOf (mulM_one m za i j hj))
        go_wp2_with (with_reducible refine G.any_mark _ ?_; (try generalize Array.size (World.heap (G.w _)) = bk); (try dsimp only [lz0, lz1]); (try clear g); intro g)
        (as_aux_lemma =>
         refine (samemat_x k (fun _ => n) _ _ _ _ _ _ (htt.mono (g.sub _ (by simp))) (hpr2.mono (g.sub _ (by simp))) (by omega) (fun _ _ => by omega)).mono ?_
         rintro e w1 ⟨rfl, hb⟩
         obtain ⟨g1, rfl⟩ := G.call_ex _ hb
         clear hb
         (try clear g)
         revert g1
         intro g
         go_wp2_with (with_reducible refine G.any_mark _ ?_; (try generalize Array.size (World.heap (G.w _)) = bk); (try dsimp only [lz0, lz1]); (try clear g); intro g)
         refine (samemat_x n (fun _ => m) _ _ _ _ _ _ (hsa2.mono (g.sub _ (by simp))) (ha.mono (g.sub _ (by simp))) (by omega) (fun _ _ => by omega)).mono ?_
         rintro e w1 ⟨rfl, hb⟩
         obtain ⟨g1, rfl⟩ := G.call_ex _ hb
         clear hb
         (try clear g)
         revert g1
         intro g
         go_wp2_with (with_reducible refine G.any_mark _ ?_; (try generalize Array.size (World.heap (G.w _)) = bk); (try dsimp only [lz0, lz1]); (try clear g); intro g)
         go_ret
         exact ⟨rfl, G.below _⟩))))))))
end Go.Proofs.YthhbbnfnejjpiaaGreatDoor
