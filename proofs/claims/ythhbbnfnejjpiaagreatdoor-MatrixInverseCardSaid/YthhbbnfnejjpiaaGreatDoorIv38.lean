/- Plain facts and contracts of functions of the program, out of walks. Their conditions stand ahead of each. -/
import Derived.Test.YthhbbnfnejjpiaaGreatDoorIv1
import Derived.Test.YthhbbnfnejjpiaaGreatDoorIv6
import Derived.Test.YthhbbnfnejjpiaaGreatDoorIv28
import Derived.Test.YthhbbnfnejjpiaaGreatDoorIv29
import Derived.Test.YthhbbnfnejjpiaaGreatDoorIv37
import Derived.Below
import Derived.BigQuiet
import Derived.Deep.DeepCutAuto
import Derived.Deep.Draws
import Derived.Deep.LoopGhost
import Derived.Deep.QuietTactic
import Derived.Deep.RegionHeld3
import Derived.Deep.RegionLaw
import Derived.Defers
import Derived.Great.BuildSlice
import Derived.Laws.BytesString
import Derived.Laws.Cells
import Derived.Laws.Concat
import Derived.Laws.CopyOwn
import Derived.Laws.CopyRow
import Derived.Laws.NewBlocks
import Derived.Laws.OwnMore
import Derived.Laws.Pointers
import Derived.Laws.Rows
import Derived.Lib.BitFns
import Derived.Lib.Hide
import Derived.Lib.ItoaNum
import Derived.Lib.SliceRun
import Derived.Lib.TrailingZeros
import Derived.LoopIn
import Derived.LoopNIn
import Derived.Maps.AppendAt
import Derived.OrdersIn
import Derived.OwnWalk
import Derived.OwnWalkIn
import Derived.RangeFuncBound
import Derived.RangeFuncBox
import Derived.RangeFuncCalls
import Derived.RangeFuncLeaves
import Derived.RangeFuncNested
import Derived.RangeFuncWrites
import Derived.RowKit3
import Derived.Shelf.Abstract
import Derived.Shelf.RegionOpen
import Derived.Shelf.Spec.TrailingZeros
import Derived.StillTactics
import Derived.StillTailTactics
import Derived.TacticsInMore
import Derived.Test.YthhbbnfnejjpiaaGreatDoorProg
import Derived.WalkKit
import Derived.WalkLawsBesides
import Derived.WalkMore
import Derived.WalkSpells
set_option linter.unusedVariables false
set_option linter.unusedSimpArgs false
set_option exponentiation.threshold 10000
namespace Go.Proofs.YthhbbnfnejjpiaaGreatDoor
open Go.RowKit GW NL MX
theorem fineAll_of {n mt cols k b : Nat} {x : Mx} (h : ∀ i, i < n → ∀ j, j < mt → Bd k (x i j)) (hb : k * mt ≤ b) (hc : cols ≤ mt) (h9 : 2 * bnd b (n - 1) + 2 ≤ 8192) : FineAll n mt cols x := fine_run (fit_start h hb) rfl hc (rk_lt n (startE x) cols) h9
theorem wide_bd {n k : Nat} {a b : Mx} {m : Nat} (h : ∀ i, i < n → ∀ j, j < n → Bd k (a i j)) (h' : ∀ i, i < n → ∀ j, j < m → Bd k (b i j)) : ∀ i, i < n → ∀ j, j < n + m → Bd k (wideM n a b i j) := fun i hi j hj => by
 unfold wideM
 split
 ·exact h i hi j ‹_›
 ·exact h' i hi _ (by omega)
theorem one_bd {k : Nat} (hk : 1 ≤ k) (i j : Nat) : Bd k (oneM i j) := by
 unfold oneM
 split
 ·exact Bd.mono (k := 1) ⟨by decide +kernel, by decide +kernel⟩ hk
 ·exact Bd.mono (k := 1) ⟨by decide +kernel, by decide +kernel⟩ hk
theorem lints5_r (n m : Nat) (v : Nat → Nat → Int) (A : Option Addr) (c : Nat) (w : World) (hA : (heapOf w).Im A c n (fun _ => m) v) (n1 : 1 ≤ n) (n2 : n ≤ 24) (m1 : 1 ≤ m) (m2 : m ≤ 24) :
  Calls Tryz.prog 49 #[.slice A n c] w (RMt n (fun _ => m) (rawM (intM v)) w) := by
 refine calls_b fun g => ?_
 have HA := Lib.hid hA
 have C := Lib.hid (fun w h => rInts_r n m v A c w h n1 n2 m1 m2)
 unfold RMtE at C
 unfold RMt
 clear hA n1 n2 m1 m2
 go_enter Tryz.func49, Tryz.ntmps49
 go_wp2_with (with_reducible refine G.any_mark _ ?_; (try generalize Array.size (World.heap (G.w _)) = bk); (try dsimp only [lz0, lz1]); (try clear g); intro g)
 refine (C.out _ (HA.out.mono (g.sub _ (by simp)))).mono ?_
 rintro e w1 ⟨ba, ca, Fa, rfl, ha, hn⟩
 have hnna := fun k o hk => Nat.le_trans g.chg.size (hn.new k o hk)
 obtain ⟨g1, rfl⟩ := G.new_ex _ hn
 clear hn
 (try clear g)
 revert g1
 intro g
 go_wp2_with (with_reducible refine G.any_mark _ ?_; (try generalize Array.size (World.heap (G.w _)) = bk); (try dsimp only [lz0, lz1]); (try clear g); intro g)
 go_ret
 exact ⟨_, _, _, rfl, ha, G.below _, G.sub _ _ (by simp), hnna⟩
/-- two by two, written out -/
theorem mx2 {x y : Mx} (h : ∀ i : Fin 2, ∀ j : Fin 2, x i j = y i j) : ∀ i, i < 2 → ∀ j, j < 2 → x i j = y i j := fun i hi j hj => h ⟨i, hi⟩ ⟨j, hj⟩
def invL : Mx := fun i j => if i = 0 then (if j = 0 then -2 else 1) else (if j = 0 then 3 / 2 else -1 / 2)
theorem live_mul : ∀ i, i < 2 → ∀ j, j < 2 → mulM 2 (intM (m22 1 2 3 4)) (intM (m22 2 1 1 2)) i j = intM (m22 4 5 10 11) i j := mx2 (by decide +kernel)
theorem live_det : detV 2 (intM (m22 1 2 3 4)) = -2 := by decide +kernel
theorem live_rank : rankM 2 2 (intM (m22 1 2 3 4)) = 2 := by decide +kernel
theorem live_inv : ∀ i, i < 2 → ∀ j, j < 2 → behindM 2 (intM (m22 1 2 3 4)) oneM i j = invL i j := mx2 (by decide +kernel)
theorem bd22 {k : Nat} {x : Mx} (h : ∀ i : Fin 2, ∀ j : Fin 2, Bd k (x i j)) : ∀ i, i < 2 → ∀ j, j < 2 → Bd k (x i j) := fun i hi j hj => h ⟨i, hi⟩ ⟨j, hj⟩
theorem bd22a : ∀ i, i < 2 → ∀ j, j < 2 → Bd 4 (intM (m22 1 2 3 4) i j) := bd22 (by unfold Bd; decide +kernel)
theorem bd22b : ∀ i, i < 2 → ∀ j, j < 2 → Bd 4 (intM (m22 2 1 1 2) i j) := bd22 (by unfold Bd; decide +kernel)
theorem bd22p : ∀ i, i < 2 → ∀ t, t < 2 → ∀ j, j < 2 → Bd 8192 (intM (m22 1 2 3 4) i t * intM (m22 2 1 1 2) t j) := fun i hi t ht j hj => ((Bd.qn (bd22a i hi t ht)).mul (Bd.qn (bd22b t ht j hj))).bd' (by decide) (by decide)
theorem bd22s : ∀ i, i < 2 → ∀ j, j < 2 → ∀ t, t ≤ 2 → Bd 8192 (sumN t (fun l => intM (m22 1 2 3 4) i l * intM (m22 2 1 1 2) l j)) := fun i hi j hj t ht => (qn_sum (m := t) (k := 8) (l := 8) (fun l hl => (Bd.qn (bd22a i hi l (by omega))).mul (Bd.qn (bd22b l (by omega) j hj)))).bd' (by omega) (by omega)
set_option maxRecDepth 20000 in
set_option maxHeartbeats 8000000 in
theorem lives5_x (w : World) (hT : Tab w) : Calls Tryz.prog 10 #[] w fun e w' => e = .returned (.bool true) ∧ Below w.heap.size w w' := by
 refine calls_b fun g => ?_
 have HT := Lib.hid hT
 clear hT
 have CI := Lib.hid (fun v A c w h => lints5_r 2 2 v A c w h (by decide) (by decide) (by decide) (by decide))
 unfold RMt at CI
 have CM := Lib.hid (fun A B c cB w hA hB hT => Mul_r 2 2 2 (intM (m22 1 2 3 4)) (intM (m22 2 1 1 2)) A B c cB w hA hB hT (by decide) (by decide) (by decide) (by decide) (by decide) (by decide) (fun i hi j hj => (bd22a i hi j hj).mono (by decide)) (fun i hi j hj => (bd22b i hi j hj).mono (by decide)) bd22p bd22s)
 unfold RMtE at CM
 have CD := Lib.hid (fun F0 A c w hF hA hT => Det_r F0 2 (intM (m22 1 2 3 4)) A c w hF hA hT (by decide) (by decide) (fun i hi j hj => (bd22a i hi j hj).mono (by decide)) (fineAll_of bd22a (b := 8) (by decide) (by decide) (by decide)))
 rw [live_det] at CD
 have CV := Lib.hid (fun F0 A c w hF hA hT => Inv_r F0 2 (intM (m22 1 2 3 4)) A c w hF hA hT (by decide) (by decide) (fun i hi j hj => (bd22a i hi j hj).mono (by decide)) (fineAll_of (wide_bd bd22a (fun i _ j _ => one_bd (by decide) i j)) (b := 16) (by decide) (by decide) (by decide)))
 unfold RBeh at CV
 rw [live_rank] at CV
 have CS := Lib.hid (fun x A B c d w hA hB => lis5_x 2 (fun _ => 2) x A B c d w hA hB (by decide) (fun _ _ => by decide))
 have CN := Lib.hid (fun p q r w h => lnum5_x (-2) 1 (-2) (by decide) (by decide +kernel) (by decide) (by decide) (by decide) (by decide) p q r w h)
 have CO := Lib.hid (fun (a b : Int) (z : Rat) (hb : b ≠ 0) (e : frac (decide (a < 0) != decide (b < 0)) a.natAbs b.natAbs = z) (h1 : I64 a) (h2 : I64 b) w => lof5_r a b z hb e h1.1 h1.2 h2.1 h2.2 w)
 unfold RT1 at CO
 go_enter Tryz.func10, Tryz.ntmps10
 go_wp2_with (with_reducible refine G.any_mark _ ?_; (try generalize Array.size (World.heap (G.w _)) = bk); (try dsimp only [lz0, lz1]); (try clear g); intro g)
 refine (CI.out (m22 1 2 3 4) _ _ _ (im22 g 1 2 3 4 (.head _) (.tail _ (.tail _ (.head _))) (.tail _ (.head _)) (by decide) (by decide) (by decide) (by decide))).mono ?_
 rintro e w1 ⟨ba, ca, Fa, rfl, ha, hn⟩
 have hnna := fun k o hk => Nat.le_trans g.chg.size (hn.new k o hk)
 obtain ⟨g1, rfl⟩ := G.new_ex _ hn
 clear hn
 (try clear g)
 revert g1
 intro g
 go_wp2_with (with_reducible refine G.any_mark _ ?_; (try generalize Array.size (World.heap (G.w _)) = bk); (try dsimp only [lz0, lz1]); (try clear g); intro g)
 refine (CI.out (m22 2 1 1 2) _ _ _ (im22 g 2 1 1 2 (.head _) (.tail _ (.tail _ (.head _))) (.tail _ (.head _)) (by decide) (by decide) (by decide) (by decide))).mono ?_
 rintro e w1 ⟨bb, cb, Fb, rfl, hb, hn⟩
 have hnnb := fun k o hk => Nat.le_trans g.chg.size (hn.new k o hk)
 obtain ⟨g1, rfl⟩ := G.new_ex _ hn
 clear hn
 (try clear g)
 revert g1
 intro g
 obtain ⟨g2, hg2⟩ := G.less g (M' := []) (List.nil_sublist _)
 rw [hg2]
 clear hg2
 (try clear g)
 revert g2
 intro g
 go_wp2_with (with_reducible refine G.any_mark _ ?_; (try generalize Array.size (World.heap (G.w _)) = bk); (try dsimp only [lz0, lz1]); (try clear g); intro g)
 refine (CM.out _ _ _ _ _ (ha.mono (g.sub _ (by simp))) (hb.mono (g.sub _ (by simp))) (G.tab g HT.out)).mono ?_
 rintro e w1 ⟨bm, cm, Fm, rfl, hm, hn⟩
 have hnnm := fun k o hk => Nat.le_trans g.chg.size (hn.new k o hk)
 obtain ⟨g1, rfl⟩ := G.new_ex _ hn
 clear hn
 (try clear g)
 revert g1
 intro g
 go_wp2_with (with_reducible refine G.any_mark _ ?_; (try generalize Array.size (World.heap (G.w _)) = bk); (try dsimp only [lz0, lz1]); (try clear g); intro g)
 refine (CD.out Fa _ _ _ (g.sub _ (by simp)) ha (G.tab g HT.out)).mono ?_
 rintro e w1 ⟨pd, qd, rd, Fd, rfl, hd, hn⟩
 obtain ⟨sd, Ad, nd, cd, Bd, dd, kd, rfl, rfl, rfl⟩ := hd.shape
 obtain ⟨g1, rfl, hod⟩ := G.nor_ex _ (by simp) hn
 clear hn
 (try clear g)
 revert g1
 intro g
 go_wp2_with (with_reducible refine G.any_mark _ ?_; (try generalize Array.size (World.heap (G.w _)) = bk); (try dsimp only [lz0, lz1]); (try clear g); intro g)
 (try (refine cmark _ ?_; (try dsimp only [lz0, lz1]); (try clear g); intro g))
 refine (CV.out Fa _ _ _ (g.sub _ (by simp)) ha (G.tab g HT.out)).mono ?_
 rintro e w1 (⟨hr, _⟩ | ⟨_, bi, ki, Fi, rfl, hmi, hno⟩)
 ·exact absurd hr (by decide)
 obtain ⟨g1, rfl, hoi⟩ := G.nor_ex _ (by simp) hno
 clear hno g
 revert g1
 intro g
 have hmm : Fm.Mt (some ⟨bm, 0, none⟩) cm 2 (fun _ => 2) (rawM (intM (m22 4 5 10 11))) := hm.congr (fun _ _ => rfl) (fun i hi j hj => congrArg rawOf (live_mul i hi j hj))
 have hii : Fi.Mt (some ⟨bi, 0, none⟩) ki 2 (fun _ => 2) (rawM invL) := hmi.congr (fun _ _ => rfl) (fun i hi j hj => congrArg rawOf (live_inv i hi j hj))
 clear hm hmi CM CD CV
 (as_aux_lemma =>
  go_wp2_with (with_reducible refine G.any_mark _ ?_; (try generalize Array.size (World.heap (G.w _)) = bk); (try dsimp only [lz0, lz1]); (try clear g); intro g)
  refine (CI.out (m22 4 5 10 11) _ _ _ (im22 g 4 5 10 11 (.head _) (.tail _ (.tail _ (.head _))) (.tail _ (.head _)) (by decide) (by decide) (by decide) (by decide))).mono ?_
  rintro e w1 ⟨bx, cx, Fx, rfl, hx, hn⟩
  have hnnx := fun k o hk => Nat.le_trans g.chg.size (hn.new k o hk)
  obtain ⟨g1, rfl⟩ := G.new_ex _ hn
  clear hn
  (try clear g)
  revert g1
  intro g
  go_wp2_with (with_reducible refine G.any_mark _ ?_; (try generalize Array.size (World.heap (G.w _)) = bk); (try dsimp only [lz0, lz1]); (try clear g); intro g)
  refine (CS.out _ _ _ _ _ _ (hmm.mono (g.sub _ (by simp))) (hx.mono (g.sub _ (by simp)))).mono ?_
  rintro e w1 ⟨rfl, hb⟩
  obtain ⟨g1, rfl⟩ := G.call_ex _ hb
  clear hb
  (try clear g)
  revert g1
  intro g
  go_wp2_with (with_reducible refine G.any_mark _ ?_; (try generalize Array.size (World.heap (G.w _)) = bk); (try dsimp only [lz0, lz1]); (try clear g); intro g)
  refine (CN.out _ _ _ _ (G.rtI g (by simp) hd)).mono ?_
  rintro e w1 ⟨rfl, hb⟩
  obtain ⟨g1, rfl⟩ := G.call_ex _ hb
  clear hb
  (try clear g)
  revert g1
  intro g
  go_wp2_with (with_reducible refine G.any_mark _ ?_; (try generalize Array.size (World.heap (G.w _)) = bk); (try dsimp only [lz0, lz1]); (try clear g); intro g)
  (as_aux_lemma =>
   refine (CO.out (-2) 1 (-2) (by decide) (by decide +kernel) (by decide) (by decide) _).mono ?_
   rintro e w1 ⟨po1, qo1, ro1, Fo1, rfl, ho1, hn⟩
   have hnno1 := fun k o hk => Nat.le_trans g.chg.size (hn.new k o hk)
   obtain ⟨so1, Ao1, no1, co1, Bo1, do1, ko1, rfl, rfl, rfl⟩ := ho1.shape
   obtain ⟨g1, rfl⟩ := G.new_ex _ hn
   clear hn
   (try clear g)
   revert g1
   intro g
   go_wp2_with (with_reducible refine G.any_mark _ ?_; (try generalize Array.size (World.heap (G.w _)) = bk); (try dsimp only [lz0, lz1]); (try clear g); intro g)
   refine (CO.out 1 1 1 (by decide) (by decide +kernel) (by decide) (by decide) _).mono ?_
   rintro e w1 ⟨po2, qo2, ro2, Fo2, rfl, ho2, hn⟩
   have hnno2 := fun k o hk => Nat.le_trans g.chg.size (hn.new k o hk)
   obtain ⟨so2, Ao2, no2, co2, Bo2, do2, ko2, rfl, rfl, rfl⟩ := ho2.shape
   obtain ⟨g1, rfl⟩ := G.new_ex _ hn
   clear hn
   (try clear g)
   revert g1
   intro g
   go_wp2_with (first | (with_reducible refine G.any_mark _ ?_; (try generalize Array.size (World.heap (G.w _)) = bk); (try dsimp only [lz0, lz1]); (try clear g); intro g) | (refine bslice2 (by rfl) _ _ (by rfl) (by rfl) (by rfl) g ?_; (try clear g); intro b2 g))
   refine (CO.out 3 2 (3/2) (by decide) (by decide +kernel) (by decide) (by decide) _).mono ?_
   rintro e w1 ⟨po3, qo3, ro3, Fo3, rfl, ho3, hn⟩
   have hnno3 := fun k o hk => Nat.le_trans g.chg.size (hn.new k o hk)
   obtain ⟨so3, Ao3, no3, co3, Bo3, do3, ko3, rfl, rfl, rfl⟩ := ho3.shape
   obtain ⟨g1, rfl⟩ := G.new_ex _ hn
   clear hn
   (try clear g)
   revert g1
   intro g
   go_wp2_with (with_reducible refine G.any_mark _ ?_; (try generalize Array.size (World.heap (G.w _)) = bk); (try dsimp only [lz0, lz1]); (try clear g); intro g)
   refine (CO.out (-1) 2 (-1/2) (by decide) (by decide +kernel) (by decide) (by decide) _).mono ?_
   rintro e w1 ⟨po4, qo4, ro4, Fo4, rfl, ho4, hn⟩
   have hnno4 := fun k o hk => Nat.le_trans g.chg.size (hn.new k o hk)
   obtain ⟨so4, Ao4, no4, co4, Bo4, do4, ko4, rfl, rfl, rfl⟩ := ho4.shape
   obtain ⟨g1, rfl⟩ := G.new_ex _ hn
   clear hn
   (try clear g)
   revert g1
   intro g
   go_wp2_with (first | (with_reducible refine G.any_mark _ ?_; (try generalize Array.size (World.heap (G.w _)) = bk); (try dsimp only [lz0, lz1]); (try clear g); intro g) | (refine bslice2 (by rfl) _ _ (by rfl) (by rfl) (by rfl) g ?_; (try clear g); intro b2 g))
   (as_aux_lemma =>
    have hl : (heapOf g.w).Mt _ _ 2 (fun _ => 2) (rawM invL) := mtM g (.head _) (by decide) (two_cases ⟨_, _, rfl, rwM g _ (.tail _ (.tail _ (.head _))) (tris2 (x := rawM invL 0) (G.rtI g (by simp) ho1) (G.rtI g (by simp) ho2)) (by decide)⟩ ⟨_, _, rfl, rwM g _ (.tail _ (.head _)) (tris2 (x := rawM invL 1) (G.rtI g (by simp) ho3) (G.rtI g (by simp) ho4)) (by decide)⟩)
    refine (CS.out _ _ _ _ _ _ (hii.mono (g.sub _ (by simp))) hl).mono ?_
    rintro e w1 ⟨rfl, hb⟩
    obtain ⟨g1, rfl⟩ := G.call_ex _ hb
    clear hb
    (try clear g)
    revert g1
    intro g
    go_wp2_with (with_reducible refine G.any_mark _ ?_; (try generalize Array.size (World.heap (G.w _)) = bk); (try dsimp only [lz0, lz1]); (try clear g); intro g)
    go_ret
    exact ⟨rfl, G.below _⟩)))
end Go.Proofs.YthhbbnfnejjpiaaGreatDoor
namespace Go.Proofs.YthhbbnfnejjpiaaGreatDoor
open Go.RowKit GW NL MX
theorem is_of_si {F : Frag} {A : Option Addr} {c : Nat} {l : List Int} (h : F.Si A c l) : Frag.Is F A l.length := fun j hj => by
 obtain ⟨b, o, e, cs, T, fr, hb, hc⟩ := h.ints (by omega)
 exact ⟨b, o, l.getD j 0, e, fun w0 X M I g hI => g.cellF hI (o := o) hb (hc j hj), h.ok j⟩
theorem drawn_f (tb n c rows cols : Nat) (A : Option Addr) (F0 : Frag) {w0 : World} {M : List Blk} {I : List Frag} (hL : Frag.Is F0 A n) (hn : n ≤ 1000000) (hr1 : 1 ≤ rows) (hr : rows ≤ 100) (hc : cols ≤ 100) (hF : InF F0 I) (kv : Int) (hk : ∃ k : Nat, kv = (k : Int) ∧ k ≤ n) (g : G w0 [] ((tb, 27, [.slice A n c, .int .i64 kv]) :: M) I) :
  Calls Tryz.prog 12 #[.pointer (some ⟨tb, 0, none⟩), .int .i64 (rows : Int), .int .i64 (cols : Int)] g.w fun e w' => ∃ (z : Mx) (kv' : Int) (b cc : Nat) (F : Frag) (g' : G w0 [] ((tb, 27, [.slice A n c, .int .i64 kv']) :: M) (F :: I)), e = .returned (.slice (some ⟨b, 0, none⟩) rows cc) ∧ (∃ k : Nat, kv' = (k : Int) ∧ k ≤ n) ∧ F.Mt (some ⟨b, 0, none⟩) cc rows (fun _ => cols) (rawM z) ∧ F.Nw w0 ∧ QM 4 4 rows cols z ∧ w' = g'.w := by
 obtain ⟨k0, rfl, hk0⟩ := hk
 refine (drawn_r tb n c k0 rows cols A F0 hL hn hk0 hr hc hF g).mono ?_
 rintro e w' ⟨z, k', cc, Ac, xs, sc, R, F, g', rfl, hk', hv, hown, hnw, hsm, rfl⟩
 obtain ⟨g1, e1⟩ := g'.perm (M' := sc ++ (R ++ ((tb, 27, [.slice A n c, .int .i64 (k' : Int)]) :: M))) (by
  have := (List.perm_middle (a := (tb, 27, [Value.slice A n c, .int .i64 (k' : Int)])) (l₁ := sc ++ R) (l₂ := M)).symm
  simpa [List.append_assoc] using this)
 obtain ⟨F', b, g2, rfl, e2, hm, hle, hnw2⟩ := g1.freezeV hv hown (by omega) (by omega) (fun _ _ => by omega)
 exact ⟨z, k', b, cc, F', g2, rfl, ⟨k', rfl, hk'⟩, hm, hnw2 hnw, QM.small hsm, e1.trans e2⟩
/-- the same, the outer list still the walk's own -/
theorem drawn_o (tb n c rows cols : Nat) (A : Option Addr) (F0 : Frag) {w0 : World} {M : List Blk} {I : List Frag} (hL : Frag.Is F0 A n) (hn : n ≤ 1000000) (hr1 : 1 ≤ rows) (hr : rows ≤ 100) (hc : cols ≤ 100) (hF : InF F0 I) (kv : Int) (hk : ∃ k : Nat, kv = (k : Int) ∧ k ≤ n) (g : G w0 [] ((tb, 27, [.slice A n c, .int .i64 kv]) :: M) I) :
  Calls Tryz.prog 12 #[.pointer (some ⟨tb, 0, none⟩), .int .i64 (rows : Int), .int .i64 (cols : Int)] g.w fun e w' => ∃ (z : Mx) (kv' : Int) (b cc : Nat) (cs : List Value) (F : Frag) (g' : G w0 [] ((tb, 27, [.slice A n c, .int .i64 kv']) :: (b, 38, cs) :: M) (F :: I)), e = .returned (.slice (some ⟨b, 0, none⟩) rows cc) ∧ (∃ k : Nat, kv' = (k : Int) ∧ k ≤ n) ∧ (rows ≤ cc ∧ cc ≤ 9223372036854775807) ∧ (∀ i, i < rows → ∃ B k, cs[i]? = some (.slice B cols k) ∧ F.Rw B k cols (rawM z i)) ∧ F.Nw w0 ∧ QM 4 4 rows cols z ∧ w' = g'.w := by
 obtain ⟨k0, rfl, hk0⟩ := hk
 refine (drawn_r tb n c k0 rows cols A F0 hL hn hk0 hr hc hF g).mono ?_
 rintro e w' ⟨z, k', cc, Ac, xs, sc, R, F, g', rfl, hk', hv, hown, hnw, hsm, rfl⟩
 rcases hv with ⟨_, _, e, _⟩ | ⟨cb, cs, rfl, rfl, hcb, hrow⟩
 ·omega
 have hxl : xs.length = rows := by
  have := hrow.xl
  omega
 obtain ⟨g1, e1⟩ := g'.perm (M' := R ++ ((tb, 27, [.slice A n c, .int .i64 (k' : Int)]) :: (cb, 38, cs) :: M)) (by
  have h1 := (List.perm_middle (a := (cb, 38, cs)) (l₁ := R) (l₂ := M)).symm
  have h2 := (List.perm_middle (a := (tb, 27, [Value.slice A n c, .int .i64 (k' : Int)])) (l₁ := R) (l₂ := (cb, 38, cs) :: M)).symm
  exact (h1.cons _).trans h2)
 obtain ⟨F', g2, e2, hle, hbl, hnw2⟩ := G.layR R g1
 refine ⟨z, k', cb, cc, cs, F', g2, rfl, ⟨k', rfl, hk'⟩, ⟨hrow.le, hrow.max⟩, fun i hi => ?_, hnw2 hnw, QM.small hsm, e1.trans e2⟩
 obtain ⟨Rs, k1, k2⟩ := hown
 obtain ⟨v, k3, k4⟩ := k2 i (List.mem_range.2 hi)
 obtain ⟨B, c2, rfl, k5⟩ := k4.rw hle (fun m hm => hbl m (k1.mem_iff.2 (List.mem_flatMap.2 ⟨i, List.mem_range.2 hi, hm⟩))) (by omega)
 exact ⟨B, c2, hrow.get1 k3, k5⟩
/-- a list of rows that the walk owns becomes part of what stays -/
theorem lay_mt {w0 : World} {b cap n : Nat} {Ts : TypeId} {cs : List Value} {M : List Blk} {F : Frag} {I : List Frag} {m : Nat → Nat} {x : Nat → Nat → Raw} (g : G w0 [] ((b, Ts, cs) :: M) (F :: I)) (h1 : n ≤ cap ∧ cap ≤ 9223372036854775807) (h3 : n ≤ 140737488355328) (h : ∀ i, i < n → ∃ B k, cs[i]? = some (.slice B (m i) k) ∧ F.Rw B k (m i) (x i)) :
  ∃ (F' : Frag) (g' : G w0 [] M (F' :: I)), g.w = g'.w ∧ F'.Mt (some ⟨b, 0, Option.none⟩) cap n m x ∧ F.le F' ∧ (F.Nw w0 → F'.Nw w0) := by
 obtain ⟨g1, e1⟩ := g.as (M' := [(b, Ts, cs)] ++ M) rfl
 obtain ⟨F', g2, e2, hle, hbl, hnw⟩ := G.layR [(b, Ts, cs)] g1
 refine ⟨F', g2, e1.trans e2, blk_mt (hbl _ (List.mem_singleton.2 rfl)) h1.1 h1.2 h3 (fun i hi => ?_), hle, hnw⟩
 obtain ⟨B, k, h4, h5⟩ := h i hi
 exact ⟨B, k, h4, h5.mono hle⟩
end Go.Proofs.YthhbbnfnejjpiaaGreatDoor
namespace Go.Proofs.YthhbbnfnejjpiaaGreatDoor
open Go.RowKit GW NL MX
theorem run_fit {n mt k b c : Nat} {x : Mx} (h : ∀ i, i < n → ∀ j, j < mt → Bd k (x i j)) (hb : k * mt ≤ b) (hc : c ≤ mt) : Fit n mt (bnd b c) (runE n (startE x) c) := fit_run (fit_start h hb) c hc
theorem bnd_40 {n : Nat} (hn : n ≤ 4) : bnd 40 n ≤ 655 := bnd_mono 40 hn
theorem QM.behind {n m : Nat} {a y : Mx} (hn : n ≤ 4) (hm : m ≤ 4) (h : ∀ i, i < n → ∀ j, j < n → Bd 5 (a i j)) (h' : ∀ i, i < n → ∀ j, j < m → Bd 5 (y i j)) : QM 655 655 n m (behindM n a y) := fun i hi j hj => by
 have := (run_fit (k := 5) (b := 40) (c := n) (wide_bd h h') (by omega) (by omega)).row i hi
 exact (RowF.qn this (k := n + j) (by omega)).mono (bnd_40 hn) (bnd_40 hn)
theorem det_qn {n : Nat} {a : Mx} (hn : n ≤ 4) (h : ∀ i, i < n → ∀ j, j < n → Bd 5 (a i j)) : Qn 655 655 (detV n a) := by
 unfold detV
 split
 ·exact Qn.zero _ _
 ·exact (run_fit h (b := 40) (c := n) (by omega) (Nat.le_refl n)).det.mono (bnd_40 hn) (bnd_40 hn)
theorem det_mul {n : Nat} (hn : n ≤ 4) (a b : Mx) : detV n (mulM n a b) = detV n a * detV n b := by
 rw [detV_eq hn, detV_eq hn, detV_eq hn, detM_mul hn]
theorem fine_small {n m : Nat} {a : Mx} (hn : n ≤ 4) (hm : m ≤ 8) (h : ∀ i, i < n → ∀ j, j < m → Bd 5 (a i j)) {c : Nat} (hc : c ≤ m) : FineAll n m c a := by
 refine fineAll_of h (b := 40) (by omega) hc ?_
 have := bnd_mono 40 (r := n - 1) (r' := 3) (by omega)
 have h3 : bnd 40 3 = 327 := rfl
 omega
theorem fine_prod {n : Nat} {a : Mx} (hn : n ≤ 4) (h : ∀ i, i < n → ∀ j, j < n → Bd 69 (a i j)) : FineAll n n n a := by
 refine fineAll_of h (b := 276) (by omega) (Nat.le_refl n) ?_
 have := bnd_mono 276 (r := n - 1) (r' := 3) (by omega)
 have h3 : bnd 276 3 = 2215 := rfl
 omega
theorem lbad5_x (A : Option Addr) (n c : Nat) (e : Int) (w : World) : Calls Tryz.prog 30 #[.slice A n c, .int .i64 e, .int .i64 e] w fun r w' => r = .returned (.bool (decide (n = 0))) ∧ Below w.heap.size w w' := by
 refine calls_b fun g => ?_
 by_cases h : n = 0
 ·subst h
  go_enter Tryz.func30, Tryz.ntmps30
  go_wp2_with (with_reducible refine G.any_mark _ ?_; (try generalize Array.size (World.heap (G.w _)) = bk); (try dsimp only [lz0, lz1]); (try clear g); intro g)
  go_ret
  exact ⟨rfl, G.below _⟩
 ·have hni : ((n : Int) == 0) = false := by rw [beq_eq_false_iff_ne]; omega
  rw [decide_eq_false h]
  go_enter Tryz.func30, Tryz.ntmps30
  go_wp2_with (with_reducible refine G.any_mark _ ?_; (try generalize Array.size (World.heap (G.w _)) = bk); (try dsimp only [lz0, lz1]); (try clear g); intro g)
  go_ret
  exact ⟨rfl, G.below _⟩
end Go.Proofs.YthhbbnfnejjpiaaGreatDoor
namespace Go.Proofs.YthhbbnfnejjpiaaGreatDoor
open Go.RowKit GW NL MX
theorem rt_len {F : Frag} {s : Bool} {A B : Option Addr} {n c d k : Nat} {x : Rat} (h : F.Rt (.bool s) (.slice A n c) (.slice B d k) (rawOf x)) : n = 0 ↔ x = 0 := by
 obtain ⟨_, _, n', _, _, _, _, _, e, _, h⟩ := rt_null h
 cases e
 exact decide_eq_decide.1 h
theorem flat_rows {F : Frag} {cs : List Value} {n d k0 : Nat} {B0 : Option Addr} {z : Mx} (h : ∀ i, i < n → ∃ B k, cs[i]? = some (.slice B n k) ∧ F.Rw B k n (rawM z i)) (h0 : cs[0]? = some (.slice B0 n k0)) (hr : F.Rw B0 k0 n (rawM z 0)) (hd : d < n) : ∀ i, i < n → ∃ B k, (cs.set d (.slice B0 n k0))[i]? = some (.slice B n k) ∧ F.Rw B k n (rawM (fun i => if i = d then z 0 else z i) i) := by
 intro i hi
 by_cases hid : i = d
 ·subst hid
  obtain ⟨B, k, h1, _⟩ := h i hi
  refine ⟨B0, k0, List.getElem?_set_self (List.getElem?_eq_some_iff.1 h1).1, ?_⟩
  unfold rawM
  simp only [if_true]
  exact hr
 ·obtain ⟨B, k, h1, h2⟩ := h i hi
  refine ⟨B, k, by rw [List.getElem?_set_ne (Ne.symm hid)]; exact h1, ?_⟩
  unfold rawM
  simp only [if_neg hid]
  exact h2
theorem lay_z {w0 : World} {b cap n : Nat} {Ts : TypeId} {cs : List Value} {t : Blk} {Fa Fb Fc H : Frag} {z : Mx} (g : G w0 [] [t, (b, Ts, cs)] [Fc, Fb, Fa, H]) (h1 : n ≤ cap ∧ cap ≤ 9223372036854775807) (h3 : n ≤ 140737488355328) (h : ∀ i, i < n → ∃ B k, cs[i]? = some (.slice B n k) ∧ Fa.Rw B k n (rawM z i)) :
  ∃ (F2 : Frag) (g2 : G w0 [] ([] ++ []) [Fc, F2, Fb, H]), g.w = g2.w ∧ F2.Mt (some ⟨b, 0, Option.none⟩) cap n (fun _ => n) (rawM z) := by
 obtain ⟨g1, e1⟩ := g.less (List.sublist_cons_self _ _)
 obtain ⟨g2, e2⟩ := g1.lessI (I' := [Fa, Fc, Fb, H]) (by simp)
 obtain ⟨F', g3, e3, hm, _, _⟩ := lay_mt g2 h1 h3 h
 obtain ⟨g4, e4⟩ := g3.lessI (I' := [Fc, F', Fb, H]) (by simp)
 exact ⟨F', g4, e1.trans (e2.trans (e3.trans e4)), hm⟩
theorem QM.flat {p q n d : Nat} {z : Mx} (h : QM p q n n z) (hn : 0 < n) : QM p q n n (fun i => if i = d then z 0 else z i) := fun i hi j hj => by
 dsimp only
 split
 ·exact h 0 hn j hj
 ·exact h i hi j hj
set_option maxRecDepth 40000 in
set_option maxHeartbeats 32000000 in
theorem inverse_walk (A : Option Addr) (c : Nat) (l : List Int) (a1 : Int) (fl : Bool) (W : World) (hA : SiW W A c l) (hT : Tab W) (w1 : I64 a1) :
  Calls Tryz.prog 5 #[.slice A l.length c, .int .i64 a1, .bool fl] W fun e w' => e = .returned (.bool true) ∧ Below W.heap.size W w' := by
 refine calls_b fun g => ?_
 have HT := Lib.hid hT
 have HL := Lib.hid (is_of_si hA)
 have CLV := Lib.hid (fun w h => lives5_x w h)
 clear hT hA
 generalize l.length = n0 at *
 by_cases hn : 90 < n0
 ·have hni : ((90 : Int) < (n0 : Int)) := by omega
  go_enter Tryz.func5, Tryz.ntmps5
  go_wp2_with (with_reducible refine G.any_mark _ ?_; (try generalize Array.size (World.heap (G.w _)) = bk); (try dsimp only [lz0, lz1]); (try clear g); intro g)
  refine (CLV.out _ (G.tab g HT.out)).mono ?_
  rintro e w1 ⟨rfl, hb⟩
  obtain ⟨g1, rfl⟩ := G.call_ex _ hb
  clear hb
  (try clear g)
  revert g1
  intro g
  go_wp2_with (with_reducible refine G.any_mark _ ?_; (try generalize Array.size (World.heap (G.w _)) = bk); (try dsimp only [lz0, lz1]); (try clear g); intro g)
  go_ret
  exact ⟨rfl, G.below _⟩
 have hni : ¬ ((90 : Int) < (n0 : Int)) := by omega
 have CP1 := Lib.hid (fun w => pick_m 4 a1 (by decide) (by decide) w1.1 w1.2 w)
 clear w1
 obtain ⟨i0, hi, hz0, hz1, hz2⟩ := info_parts infoRat
 obtain ⟨j0, hj0, hy0, hy1, hy2⟩ := info_parts infoRats5
 cases fl
 all_goals
  go_enter Tryz.func5, Tryz.ntmps5
  go_wp2_with (with_reducible refine G.any_mark _ ?_; (try generalize Array.size (World.heap (G.w _)) = bk); (try dsimp only [lz0, lz1]); (try clear g); intro g)
  refine (CLV.out _ (G.tab g HT.out)).mono ?_
  rintro e w1 ⟨rfl, hb⟩
  obtain ⟨g1, rfl⟩ := G.call_ex _ hb
  clear hb
  (try clear g)
  revert g1
  intro g
  go_wp2_with (with_reducible refine G.any_mark _ ?_; (try generalize Array.size (World.heap (G.w _)) = bk); (try dsimp only [lz0, lz1]); (try clear g); intro g)
  refine (CP1.out _).mono ?_
  rintro e w1 ⟨u1, hu1, rfl, hb⟩
  obtain ⟨g1, rfl⟩ := G.call_ex _ hb
  clear hb g
  revert g1
  intro g
  obtain ⟨n, hn'⟩ : ∃ n, n = u1 + 1 := ⟨_, rfl⟩
  have hw1 : IntKind.i64.wrap (1 + (u1 : Int)) = (n : Int) := by rw [IntKind.wrap_i64]; omega
  have n1 : 1 ≤ n := by omega
  have n2 : n ≤ 4 := by omega
  clear hn' hu1
  go_wp2_with (with_reducible refine G.any_mark _ ?_; (try generalize Array.size (World.heap (G.w _)) = bk); (try dsimp only [lz0, lz1]); (try clear g); intro g)
  clear hw1 CP1 CLV
  refine (drawn_o _ n0 _ n n A (heapOf W) HL.out (by omega) (by omega) (by omega) (by omega) (by unfold InF; simp) _ ⟨0, rfl, Nat.zero_le _⟩ g).mono ?_
  rintro e w1 ⟨za, kva, ba, ca, csa, Fa, g1, rfl, hka, hca, hra, hnna, hqa, rfl⟩
  clear g
  revert g1
  intro g
  have HRA := Lib.hid hra
  clear hra
  go_wp2_with (with_reducible refine G.any_mark _ ?_; (try generalize Array.size (World.heap (G.w _)) = bk); (try dsimp only [lz0, lz1]); (try clear g); intro g)
  refine (drawn_f _ n0 _ n n A (heapOf W) HL.out (by omega) (by omega) (by omega) (by omega) (by unfold InF; simp) _ hka g).mono ?_
  rintro e w1 ⟨zb, kvb, bb, cb, Fb, g1, rfl, hkb, hb, hnnb, hqb, rfl⟩
  clear g
  revert g1
  intro g
  go_wp2_with (with_reducible refine G.any_mark _ ?_; (try generalize Array.size (World.heap (G.w _)) = bk); (try dsimp only [lz0, lz1]); (try clear g); intro g)
  refine (drawn_f _ n0 _ n 1 A (heapOf W) HL.out (by omega) (by omega) (by omega) (by omega) (by unfold InF; simp) _ hkb g).mono ?_
  rintro e w1 ⟨zc, kvc, bc, cc, Fc, g1, rfl, hkc, hc, hnnc, hqc, rfl⟩
  clear g
  revert g1
  intro g
  clear hka hkb hkc HL
  obtain ⟨d, hd⟩ : ∃ d, d + 1 = n := ⟨n - 1, by omega⟩
  have hwd : IntKind.i64.wrap ((n : Int) - 1) = (d : Int) := by rw [IntKind.wrap_i64]; omega
  have hdn : d < n := by omega
  have hdi : (d : Int) < (n : Int) := by omega
  have hd0 : (0 : Int) ≤ (d : Int) := by omega
  have hn0i : (0 : Int) < (n : Int) := by omega
  have hn0 : 0 < n := by omega
  obtain ⟨B0, k0, hc0, hrw0⟩ := HRA.out 0 hn0
  have HRW0 := Lib.hid hrw0
  obtain ⟨Bdd, kd, hcd, hrwd⟩ := HRA.out d hdn
  clear hrw0
  go_upto_region 10 with (with_reducible refine G.any_mark _ ?_; (try generalize Array.size (World.heap (G.w _)) = bk); (try dsimp only [lz0, lz1]); (try clear g); intro g)
  (as_aux_lemma =>
   obtain ⟨z, hqz, F2, g2, e2, hz⟩ : ∃ (z : Mx), QM 4 4 n n z ∧ ∃ (F2 : Frag) (g2 : G W [] ([] ++ []) [Fc, F2, Fb, heapOf W]), g.w = g2.w ∧ F2.Mt (some ⟨ba, 0, none⟩) ca n (fun _ => n) (rawM z) := by
    first
     | exact ⟨za, hqa, lay_z g hca (Nat.le_trans n2 (by decide)) HRA.out⟩
     | exact ⟨_, hqa.flat hn0, lay_z g hca (Nat.le_trans n2 (by decide)) (flat_rows HRA.out hc0 HRW0.out hdn)⟩
   rw [e2]
   clear e2 g hwd hdn hdi hd0 hd hcd hrwd hc0 HRW0 HRA hqa hca hnna za
   revert g2
   intro g
   obtain ⟨bcc, oc, ebc, hrowc⟩ := hc.rowAt n1
   cases ebc
   have HROW := Lib.hid hrowc
   have HB := Lib.hid hb
   have HC := Lib.hid hc
   have HZ := Lib.hid hz
   clear hrowc hb hc hz
   go_wp2_with (with_reducible refine G.any_mark _ ?_; (try generalize Array.size (World.heap (G.w _)) = bk); (try dsimp only [lz0, lz1]); (try clear g); intro g)
   go_loopw [11, 12] (fun xv iv wr => ∃ i : Nat, iv = .int .i64 (i : Int) ∧ i ≤ n ∧ ∃ (cr : Nat) (Ar : Option Addr) (s : List Blk) (l : List Tri), xv = .slice Ar i cr ∧ RowV W.heap.size 43 3 i (cells3 l) Ar cr s ∧ Fc.Tris l i (fun j => rawOf (zc j 0)) ∧ ∃ g : G W [] (s ++ []) [Fc, F2, Fb, heapOf W], wr = g.w) (fun _ i _ => n - (intOf i).toNat)
   case atStart => exact ⟨0, rfl, by omega, 0, none, [], [], rfl, RowV.nil _ _ _, Frag.Tris.nil _ _, g, rfl⟩
   case round =>
    clear g
    obtain ⟨i, rfl, hi', cr, Ar, s, l, rfl, hvr, hl, g, rfl⟩ := hrel
    by_cases hin : i < n
    ·have hii : (i : Int) < (n : Int) := by omega
     obtain ⟨Bi, ki, hc1, hrw⟩ := HROW.out i hin
     obtain ⟨b3, o3, rfl, hnum⟩ := hrw.num (by decide)
     obtain ⟨p, q, r, h3, hrt⟩ := hnum 0 (by decide)
     obtain ⟨s3, P3, m3, d3, Q3, m4, d4, rfl, rfl, rfl⟩ := hrt.shape
     have EJ : ∀ (M : List Blk) (I : List Frag) (g : G W [] M I) (hF : InF Fc I), g.w.cell? ⟨bc, i, none⟩ = some (.slice (some ⟨b3, o3, none⟩) 1 ki) := fun M I g hF => by
      have := hc1 _ _ _ _ g hF
      rwa [Nat.zero_add] at this
     have E0 : ∀ (M : List Blk) (I : List Frag) (g : G W [] M I) (hF : InF Fc I), g.w.cell? ⟨b3, o3, none⟩ = some (.bool s3) := fun M I g hF => (h3 _ _ _ _ g hF).1
     have E1 : ∀ (M : List Blk) (I : List Frag) (g : G W [] M I) (hF : InF Fc I), g.w.cell? ⟨b3, o3 + 1, none⟩ = some (.slice P3 m3 d3) := fun M I g hF => by
      have := (h3 _ _ _ _ g hF).2.1
      simpa using this
     have E2 : ∀ (M : List Blk) (I : List Frag) (g : G W [] M I) (hF : InF Fc I), g.w.cell? ⟨b3, o3 + 2, none⟩ = some (.slice Q3 m4 d4) := fun M I g hF => by
      have := (h3 _ _ _ _ g hF).2.2
      simpa using this
     have HRT := Lib.hid hrt
     have HL := Lib.hid hl
     have hx1 : i + 1 ≤ maxLen := by show i + 1 ≤ 9223372036854775807; omega
     have hx2 : (i + 1) * 56 ≤ 140737488355328 := by omega
     clear hc1 hrw hnum h3 hrt hl
     go_wp2_with (first | (with_reducible refine G.any_mark _ ?_; (try generalize Array.size (World.heap (G.w _)) = bk); (try dsimp only [lz0, lz1]); (try clear g); intro g) | (at_builtin; refine wpList_append_v rfl _ _ 38 rfl 43 i0 _ 3 56 Tryz.underlying38 hi hz0 hz1 hz2 rfl (by decide) 1 g (Rr := s) (R' := []) (by rfl) hvr (by rfl) (by exact List.mem_cons_self ..) 1 (by rfl) rfl (three _ _ _ ⟨rfl, rfl, rfl⟩) (by decide) hx1 hx2 ?_; clear hvr; (try clear g); intro b2 cap2 cs2 g hb2 hrow2; revert g; dsimp only [List.take, List.cons_append, List.nil_append]; intro g))
     obtain ⟨g5, e5⟩ := g.less (List.sublist_cons_self _ _)
     rw [e5]
     go_roundw
     case rel => exact ⟨i + 1, by go_num, by omega, cap2, _, [(b2, _, cs2)], l ++ [(.bool s3, .slice P3 m3 d3, .slice Q3 m4 d4)], rfl, RowV.row (by rw [cells3_append]; exact hrow2) hb2, HL.out.snoc HRT.out, g5, rfl⟩
     case measure => simp [intOf]; omega
    ·obtain rfl : i = n := by omega
     rcases hvr with ⟨_, _, h0, _⟩ | ⟨xb, xcs, rfl, rfl, hxb, hxrow⟩
     ·omega
     obtain ⟨g1, e1⟩ := g.as (M' := [(xb, 43, xcs)] ++ []) rfl
     obtain ⟨F3, g2, e2, hle, hbl, _⟩ := G.layR [(xb, 43, xcs)] g1
     obtain ⟨Fm, g3, e3, hle2, hle3, _⟩ := g2.merge
     have hxr : F3.Rw (some ⟨xb, 0, none⟩) cr i (rawR (fun j => zc j 0)) := row_rw hxrow (hbl _ (List.mem_singleton.2 rfl)) (hl.mono hle) (by omega)
     have hx := hxr.mono hle3
     have ha := HZ.out.mono hle2
     have hc := (HC.out.mono hle).mono hle3
     have hb := HB.out
     rw [e1, e2, e3]
     clear e1 e2 e3 g1 g2 hle hbl hle2 hle3 hxr hxrow hxb hl HZ HC HROW HB g
     revert g3
     intro g
     have hbx : ∀ i', i' < i → ∀ j, j < i → Bd 8192 (z i' j) := hqz.bd (by decide) (by decide)
     have hz5 : ∀ i', i' < i → ∀ j, j < i → Bd 5 (z i' j) := hqz.bd (by decide) (by decide)
     have hb5 : ∀ i', i' < i → ∀ j, j < i → Bd 5 (zb i' j) := hqb.bd (by decide) (by decide)
     have hc5 : ∀ i', i' < i → ∀ j, j < 1 → Bd 5 (colM (fun t => zc t 0) i' j) := fun i' hi' j hj => hqc.bd (by decide) (by decide) i' hi' 0 (by decide)
     have hqab : QM 68 32 i i (mulM i z zb) := (hqz.mul hqb).mono (by omega) (by omega)
     have hab69 : ∀ i', i' < i → ∀ j, j < i → Bd 69 (mulM i z zb i' j) := hqab.bd (by decide) (by decide)
     obtain ⟨rk, hrk⟩ : ∃ rk, rankM i i z = rk := ⟨_, rfl⟩
     have hrkn : rk ≤ i := by rw [← hrk]; exact rank_le i i z
     have dA := det_qn n2 hz5
     have dB := det_qn n2 hb5
     have CR := Lib.hid (fun A c w hF hA hT => Rank_r Fm i i z A c w hF hA hT n1 (by omega) n1 (by omega) hbx (fine_small n2 (by omega) hz5 (Nat.le_refl i)))
     rw [hrk] at CR
     have CV := Lib.hid (fun A c w hF hA hT => Inv_r Fm i z A c w hF hA hT n1 (by omega) hbx (fine_small n2 (by omega) (wide_bd hz5 (fun i' _ j _ => one_bd (by decide) i' j)) (by omega)))
     unfold RBeh at CV
     rw [hrk] at CV
     have CS := Lib.hid (fun A B c cB w hF hA hB hT => Solve_r Fm i z (fun t => zc t 0) A B c cB w hF hA hB hT n1 (by omega) hbx (fun i' hi' => hqc.bd (by decide) (by decide) i' hi' 0 (by decide)) (fine_small n2 (by omega) (wide_bd hz5 hc5) (by omega)))
     rw [hrk] at CS
     (as_aux_lemma =>
      go_wp2_with (with_reducible refine G.any_mark _ ?_; (try generalize Array.size (World.heap (G.w _)) = bk); (try dsimp only [lz0, lz1]); (try clear g); intro g)
      refine (Mul_q i i i z zb hqz hqb (by omega) (by omega) (by omega) (by omega) (by omega) (by omega) (by omega) _ _ _ _ _ (ha.mono (g.sub _ (by simp))) (hb.mono (g.sub _ (by simp))) (G.tab g HT.out)).mono ?_
      rintro e w1 ⟨bab, cab, Fab, rfl, hab, hn⟩
      have hnnab := fun k o hk => Nat.le_trans g.chg.size (hn.new k o hk)
      obtain ⟨g1, rfl⟩ := G.new_ex _ hn
      clear hn
      (try clear g)
      revert g1
      intro g
      go_wp2_with (with_reducible refine G.any_mark _ ?_; (try generalize Array.size (World.heap (G.w _)) = bk); (try dsimp only [lz0, lz1]); (try clear g); intro g)
      refine (Det_r Fm i z _ _ _ (g.sub _ (by simp)) ha (G.tab g HT.out) n1 (by omega) hbx (fine_small n2 (by omega) hz5 (Nat.le_refl i))).mono ?_
      rintro e w1 ⟨pda, qda, rda, Fda, rfl, hda, hn⟩
      obtain ⟨sda, Ada, nda, cda, Bda, dda, kda, rfl, rfl, rfl⟩ := hda.shape
      obtain ⟨g1, rfl, hoda⟩ := G.nor_ex _ (by simp) hn
      clear hn
      (try clear g)
      revert g1
      intro g
      go_wp2_with (with_reducible refine G.any_mark _ ?_; (try generalize Array.size (World.heap (G.w _)) = bk); (try dsimp only [lz0, lz1]); (try clear g); intro g)
      (try (refine cmark _ ?_; (try dsimp only [lz0, lz1]); (try clear g); intro g))
      refine (Det_r Fb i zb _ _ _ (g.sub _ (by simp)) hb (G.tab g HT.out) n1 (by omega) (hqb.bd (by decide) (by decide)) (fine_small n2 (by omega) hb5 (Nat.le_refl i))).mono ?_
      rintro e w1 ⟨pdb, qdb, rdb, Fdb, rfl, hdb, hn⟩
      obtain ⟨sdb, Adb, ndb, cdb, Bdb, ddb, kdb, rfl, rfl, rfl⟩ := hdb.shape
      obtain ⟨g1, rfl, hodb⟩ := G.nor_ex _ (by simp) hn
      clear hn
      (try clear g)
      revert g1
      intro g
      go_wp2_with (with_reducible refine G.any_mark _ ?_; (try generalize Array.size (World.heap (G.w _)) = bk); (try dsimp only [lz0, lz1]); (try clear g); intro g)
      (try (refine cmark _ ?_; (try dsimp only [lz0, lz1]); (try clear g); intro g))
      refine (Det_r Fab i (mulM i z zb) _ _ _ (g.sub _ (by simp)) hab (G.tab g HT.out) n1 (by omega) (hqab.bd (by decide) (by decide)) (fine_prod n2 hab69)).mono ?_
      rintro e w1 ⟨pdc, qdc, rdc, Fdc, rfl, hdc, hn⟩
      obtain ⟨sdc, Adc, ndc, cdc, Bdc, ddc, kdc, rfl, rfl, rfl⟩ := hdc.shape
      obtain ⟨g1, rfl, hodc⟩ := G.nor_ex _ (by simp) hn
      clear hn
      (try clear g)
      revert g1
      intro g
      (as_aux_lemma =>
       go_wp2_with (with_reducible refine G.any_mark _ ?_; (try generalize Array.size (World.heap (G.w _)) = bk); (try dsimp only [lz0, lz1]); (try clear g); intro g)
       (try (refine cmark _ ?_; (try dsimp only [lz0, lz1]); (try clear g); intro g))
       refine (qMul_r (detV i z) (detV i zb) (detV i z * detV i zb) (dA.bd' (by decide) (by decide)) (dB.bd' (by decide) (by decide)) ((dA.mul dB).bd' (by decide) (by decide)) rfl _ _ _ _ _ _ _ (G.rtI g (by simp) hda) (G.rtI g (by simp) hdb) (G.tab g HT.out)).mono ?_
       rintro e w1 ⟨pdm, qdm, rdm, Fdm, rfl, hdm, hn⟩
       have hnndm := fun k o hk => Nat.le_trans g.chg.size (hn.new k o hk)
       obtain ⟨sdm, Adm, ndm, cdm, Bdm, ddm, kdm, rfl, rfl, rfl⟩ := hdm.shape
       obtain ⟨g1, rfl⟩ := G.new_ex _ hn
       clear hn
       (try clear g)
       revert g1
       intro g
       go_wp2_with (with_reducible refine G.any_mark _ ?_; (try generalize Array.size (World.heap (G.w _)) = bk); (try dsimp only [lz0, lz1]); (try clear g); intro g)
       (try (refine cmark _ ?_; (try dsimp only [lz0, lz1]); (try clear g); intro g))
       refine (CR.out _ _ _ (g.sub _ (by simp)) ha (G.tab g HT.out)).mono ?_
       rintro e w1 ⟨rfl, hb⟩
       obtain ⟨g1, rfl⟩ := G.call_ex _ hb
       clear hb
       (try clear g)
       revert g1
       intro g
       rw [det_mul n2] at hdc
       have hz0' := rt_len hda
       go_wp2_with (with_reducible refine G.any_mark _ ?_; (try generalize Array.size (World.heap (G.w _)) = bk); (try dsimp only [lz0, lz1]); (try clear g); intro g)
       have hd0 : nda = 0 ↔ rk < i := by rw [hz0', detV_zero, ← hrk]; rfl
       clear hz0' dA dB
       by_cases hr : rk < i
       ·obtain rfl : nda = 0 := hd0.2 hr
        clear hd0
        have hri : ((rk : Int) < (i : Int)) := by omega
        have hri2 : ¬ ((i : Int) < (rk : Int)) := by omega
        have hri3 : ¬ ((rk : Int) < 0) := by omega
        (as_aux_lemma =>
         refine (CV.out _ _ _ (g.sub _ (by simp)) ha (G.tab g HT.out)).mono ?_
         rintro e w1 (⟨_, rfl, hbl⟩ | ⟨hr2, _⟩)
         rotate_left
         ·exact absurd hr (by omega)
         obtain ⟨g1, rfl⟩ := G.call_ex _ hbl
         clear hbl g
         revert g1
         intro g
         go_wp2_with (with_reducible refine G.any_mark _ ?_; (try generalize Array.size (World.heap (G.w _)) = bk); (try dsimp only [lz0, lz1]); (try clear g); intro g)
         refine (CS.out _ _ _ _ _ (g.sub _ (by simp)) ha hx (G.tab g HT.out)).mono ?_
         rintro e w1 (⟨_, rfl, hbl⟩ | ⟨hr2, _⟩)
         rotate_left
         ·exact absurd hr (by omega)
         obtain ⟨g1, rfl⟩ := G.call_ex _ hbl
         clear hbl g
         revert g1
         intro g
         go_wp2_with (with_reducible refine G.any_mark _ ?_; (try generalize Array.size (World.heap (G.w _)) = bk); (try dsimp only [lz0, lz1]); (try clear g); intro g)
         refine (rsame5_x (rawOf (detV i z * detV i zb)) _ _ _ _ _ _ _ (G.rtI g (by simp) hdc) (G.rtI g (by simp) hdm)).mono ?_
         rintro e w1 ⟨rfl, hb⟩
         obtain ⟨g1, rfl⟩ := G.call_ex _ hb
         clear hb
         (try clear g)
         revert g1
         intro g
         go_wp2_with (with_reducible refine G.any_mark _ ?_; (try generalize Array.size (World.heap (G.w _)) = bk); (try dsimp only [lz0, lz1]); (try clear g); intro g)
         refine (lbad5_x none 0 0 15 _).mono ?_
         rintro e w1 ⟨rfl, hb⟩
         obtain ⟨g1, rfl⟩ := G.call_ex _ hb
         clear hb
         (try clear g)
         revert g1
         intro g
         go_wp2_with (with_reducible refine G.any_mark _ ?_; (try generalize Array.size (World.heap (G.w _)) = bk); (try dsimp only [lz0, lz1]); (try clear g); intro g)
         go_ret
         exact ⟨rfl, G.below _⟩)
       ·have hnd : ((nda : Int) == 0) = false := by rw [beq_eq_false_iff_ne]; omega
        clear hd0
        have hri : ¬ ((rk : Int) < (i : Int)) := by omega
        have hri2 : ¬ ((i : Int) < (rk : Int)) := by omega
        have hri3 : ¬ ((rk : Int) < 0) := by omega
        have hre : rk = i := by omega
        have hrr : rankM i i z = i := by omega
        (as_aux_lemma =>
         refine (CV.out _ _ _ (g.sub _ (by simp)) ha (G.tab g HT.out)).mono ?_
         rintro e w1 (⟨hr2, _⟩ | ⟨_, bi, ki, Fi, rfl, hmi, hno⟩)
         ·exact absurd hr2 hr
         obtain ⟨g1, rfl, hoi⟩ := G.nor_ex _ (by simp) hno
         clear hno g
         revert g1
         intro g
         go_wp2_with (with_reducible refine G.any_mark _ ?_; (try generalize Array.size (World.heap (G.w _)) = bk); (try dsimp only [lz0, lz1]); (try clear g); intro g)
         refine (CS.out _ _ _ _ _ (g.sub _ (by simp)) ha hx (G.tab g HT.out)).mono ?_
         rintro e w1 (⟨hr2, _⟩ | ⟨_, bs, ks, Fs, rfl, hs, hno⟩)
         ·exact absurd hr2 hr
         obtain ⟨g1, rfl, hos⟩ := G.nor_ex _ (by simp) hno
         clear hno g
         revert g1
         intro g
         go_wp2_with (with_reducible refine G.any_mark _ ?_; (try generalize Array.size (World.heap (G.w _)) = bk); (try dsimp only [lz0, lz1]); (try clear g); intro g)
         refine (rsame5_x (rawOf (detV i z * detV i zb)) _ _ _ _ _ _ _ (G.rtI g (by simp) hdc) (G.rtI g (by simp) hdm)).mono ?_
         rintro e w1 ⟨rfl, hb⟩
         obtain ⟨g1, rfl⟩ := G.call_ex _ hb
         clear hb
         (try clear g)
         revert g1
         intro g
         have hqi : QM 655 655 i i (behindM i z oneM) := QM.behind n2 n2 hz5 (fun i' _ j _ => one_bd (by decide) i' j)
         clear CR CV CS hx hdc hdm hda hdb
         go_wp2_with (with_reducible refine G.any_mark _ ?_; (try generalize Array.size (World.heap (G.w _)) = bk); (try dsimp only [lz0, lz1]); (try clear g); intro g)
         refine (Mul_q i i i (behindM i z oneM) z hqi hqz (by omega) (by omega) (by omega) (by omega) (by omega) (by omega) (by omega) _ _ _ _ _ (hmi.mono (g.sub _ (by simp))) (ha.mono (g.sub _ (by simp))) (G.tab g HT.out)).mono ?_
         rintro e w1 ⟨blf, clf, Flf, rfl, hlf, hn⟩
         have hnnlf := fun k o hk => Nat.le_trans g.chg.size (hn.new k o hk)
         obtain ⟨g1, rfl⟩ := G.new_ex _ hn
         clear hn
         (try clear g)
         revert g1
         intro g
         go_wp2_with (with_reducible refine G.any_mark _ ?_; (try generalize Array.size (World.heap (G.w _)) = bk); (try dsimp only [lz0, lz1]); (try clear g); intro g)
         refine (Mul_q i i i z (behindM i z oneM) hqz hqi (by omega) (by omega) (by omega) (by omega) (by omega) (by omega) (by omega) _ _ _ _ _ (ha.mono (g.sub _ (by simp))) (hmi.mono (g.sub _ (by simp))) (G.tab g HT.out)).mono ?_
         rintro e w1 ⟨brt, crt, Frt, rfl, hrt, hn⟩
         have hnnrt := fun k o hk => Nat.le_trans g.chg.size (hn.new k o hk)
         obtain ⟨g1, rfl⟩ := G.new_ex _ hn
         clear hn
         (try clear g)
         revert g1
         intro g
         have hlf2 := hlf.congr (y := rawM oneM) (fun _ _ => rfl) (fun i' hi j hj => congrArg rawOf (behind_mul hrr i' hi j hj))
         have hrt2 := hrt.congr (y := rawM oneM) (fun _ _ => rfl) (fun i' hi j hj => congrArg rawOf (mul_behind hrr i' hi j))
         clear hlf hrt hmi
         obtain ⟨sv, hsv⟩ : ∃ sv : Nat → Rat, (fun i' => behindM i z (colM (fun t => zc t 0)) i' 0) = sv := ⟨_, rfl⟩
         have hqs : QM 655 655 i 1 (colM sv) := fun i' hi' j hj => by
          rw [← hsv]
          exact QM.behind n2 (by decide) hz5 hc5 i' hi' 0 (by decide)
         have hback : ∀ i', i' < i → ∀ j, j < 1 → mulM i z (colM sv) i' j = zc i' j := fun i' hi' j hj => by
          obtain rfl : j = 0 := by omega
          have := mul_behind (b := colM (fun t => zc t 0)) hrr i' hi' 0
          rw [← hsv]
          exact this
         rw [hsv] at hs
         obtain ⟨g1, e1⟩ := g.less (M' := [] ++ []) (List.nil_sublist _)
         obtain ⟨g2, e2⟩ := g1.lessI (I' := [Fs, Flf, Frt, Fm]) (by simp)
         rw [e1, e2]
         clear e1 e2 g1 g hsv hab69 hqab hz5 hb5 hc5 hbx
         revert g2
         intro g
         obtain ⟨b', o', eb', hnums⟩ := hs.num n1
         cases eb'
         have HN := Lib.hid hnums
         clear hs hnums
         (as_aux_lemma =>
          go_wp2_with (with_reducible refine G.any_mark _ ?_; (try generalize Array.size (World.heap (G.w _)) = bk); (try dsimp only [lz0, lz1]); (try clear g); intro g)
          go_loopw [33, 34] (fun cv iv wr => ∃ t : Nat, iv = .int .i64 (t : Int) ∧ t ≤ i ∧ ∃ (cr : Nat) (Ar : Option Addr) (xs : List Value) (sc R : List Blk), cv = .slice Ar t cr ∧ RowV W.heap.size 38 1 t xs Ar cr sc ∧ OwnOn (List.range t) (fun t => NumRow W.heap.size 43 Fs 1 (rawM (colM sv) t)) R xs ∧ ∃ g : G W [] (sc ++ (R ++ [])) [Fs, Flf, Frt, Fm], wr = g.w) (fun _ iv _ => i - (intOf iv).toNat)
          case atStart => exact ⟨0, rfl, by omega, 0, none, [], [], [], rfl, RowV.nil _ _ _, OwnOn.nil _ _, g, rfl⟩
          case round =>
           clear g
           obtain ⟨t, rfl, ht', cr, Ar, xs, sc, R, rfl, hvr, hown, g, rfl⟩ := hrel
           by_cases hti : t < i
           ·have htii : (t : Int) < (i : Int) := by omega
            obtain ⟨p, q, r, h3, hrt⟩ := HN.out t hti
            obtain ⟨s3, P3, m3, d3, Q3, m4, d4, rfl, rfl, rfl⟩ := hrt.shape
            have E0 : ∀ (M : List Blk) (I : List Frag) (g : G W [] M I) (hF : InF Fs I), g.w.cell? ⟨bs, t * 3, none⟩ = some (.bool s3) := fun M I g hF => by
             have := (h3 _ _ _ _ g hF).1
             rwa [Nat.zero_add] at this
            have E1 : ∀ (M : List Blk) (I : List Frag) (g : G W [] M I) (hF : InF Fs I), g.w.cell? ⟨bs, t * 3 + 1, none⟩ = some (.slice P3 m3 d3) := fun M I g hF => by
             have := (h3 _ _ _ _ g hF).2.1
             rwa [Nat.zero_add] at this
            have E2 : ∀ (M : List Blk) (I : List Frag) (g : G W [] M I) (hF : InF Fs I), g.w.cell? ⟨bs, t * 3 + 2, none⟩ = some (.slice Q3 m4 d4) := fun M I g hF => by
             have := (h3 _ _ _ _ g hF).2.2
             rwa [Nat.zero_add] at this
            have HRT := Lib.hid hrt
            have HO := Lib.hid hown
            have hx1 : t + 1 ≤ maxLen := by show t + 1 ≤ 9223372036854775807; omega
            have hx2 : (t + 1) * 24 ≤ 140737488355328 := by omega
            clear h3 hrt hown
            go_wp2_with (first | (with_reducible refine G.any_mark _ ?_; (try generalize Array.size (World.heap (G.w _)) = bk); (try dsimp only [lz0, lz1]); (try clear g); intro g) | (at_builtin; refine wpList_append_v rfl _ _ 29 rfl 38 j0 _ 1 24 Tryz.underlying29 hj0 hy0 hy1 hy2 rfl (by decide) 2 g (Rr := sc) (R' := R ++ []) (by rfl) hvr (by rfl) (by exact List.mem_cons_self ..) 1 (by rfl) rfl (one_cell5 _ rfl) (by decide) hx1 hx2 ?_; clear hvr; (try clear g); intro b2 cap2 cs2 g hb2 hrow2; revert g; dsimp only [List.take, List.cons_append, List.nil_append]; intro g))
            obtain ⟨g5, e5⟩ := g.less (List.sublist_cons_self _ _)
            obtain ⟨g6, e6⟩ := g5.perm (List.Perm.swap _ _ _)
            rw [e5, e6]
            have hxl : xs.length = t := by
             have := hrow2.xl
             simp at this
             omega
            go_roundw
            case rel =>
             refine ⟨t + 1, by go_num, by omega, cap2, _, _, [(b2, _, cs2)], _, rfl, RowV.row hrow2 hb2, HO.out.more (by rw [← hxl]; simp) ⟨_, 1, [(.bool s3, .slice P3 m3 d3, .slice Q3 m4 d4)], rfl, RowV.row ⟨Nat.le_refl _, by decide, rfl, rfl, rfl⟩ (g5.fresh (List.mem_cons_self ..)), rfl, fun j hj => ?_⟩ (fun j hj => List.getElem?_append_left (by omega)) (fun j hj v s h => h), g6, rfl⟩
             obtain rfl : j = 0 := by omega
             exact ⟨_, _, _, rfl, HRT.out⟩
            case measure => simp [intOf]; omega
           ·obtain rfl : t = i := by omega
            obtain ⟨F5, bo, g1, rfl, e1, hcm, hle, _⟩ := g.freezeV hvr hown (by omega) (by omega) (fun _ _ => by omega)
            rw [e1]
            clear e1 hle hvr hown HN g
            revert g1
            intro g
            (as_aux_lemma =>
             go_wp2_with (with_reducible refine G.any_mark _ ?_; (try generalize Array.size (World.heap (G.w _)) = bk); (try dsimp only [lz0, lz1]); (try clear g); intro g)
             refine (Mul_q t t 1 z (colM sv) hqz hqs (by omega) (by omega) (by omega) (by omega) (by omega) (by omega) (by omega) _ _ _ _ _ (ha.mono (g.sub _ (by simp))) (hcm.mono (g.sub _ (by simp))) (G.tab g HT.out)).mono ?_
             rintro e w1 ⟨bbk, cbk, Fbk, rfl, hbk, hn⟩
             have hnnbk := fun k o hk => Nat.le_trans g.chg.size (hn.new k o hk)
             obtain ⟨g1, rfl⟩ := G.new_ex _ hn
             clear hn
             (try clear g)
             revert g1
             intro g
             have hbk2 := hbk.congr (y := rawM zc) (fun _ _ => rfl) (fun i' hi j hj => congrArg rawOf (hback i' hi j hj))
             go_wp2_with (with_reducible refine G.any_mark _ ?_; (try generalize Array.size (World.heap (G.w _)) = bk); (try dsimp only [lz0, lz1]); (try clear g); intro g)
             refine (One_r t (by omega) (by omega) _ (G.tab g HT.out)).mono ?_
             rintro e w1 ⟨bid, cid, Fid, rfl, hid, hn⟩
             have hnnid := fun k o hk => Nat.le_trans g.chg.size (hn.new k o hk)
             obtain ⟨g1, rfl⟩ := G.new_ex _ hn
             clear hn
             (try clear g)
             revert g1
             intro g
             go_wp2_with (with_reducible refine G.any_mark _ ?_; (try generalize Array.size (World.heap (G.w _)) = bk); (try dsimp only [lz0, lz1]); (try clear g); intro g)
             (as_aux_lemma =>
              refine (samemat_x t (fun _ => t) _ _ _ _ _ _ (hlf2.mono (g.sub _ (by simp))) (hid.mono (g.sub _ (by simp))) (by omega) (fun _ _ => by omega)).mono ?_
              rintro e w1 ⟨rfl, hb⟩
              obtain ⟨g1, rfl⟩ := G.call_ex _ hb
              clear hb
              (try clear g)
              revert g1
              intro g
              go_wp2_with (with_reducible refine G.any_mark _ ?_; (try generalize Array.size (World.heap (G.w _)) = bk); (try dsimp only [lz0, lz1]); (try clear g); intro g)
              refine (samemat_x t (fun _ => t) _ _ _ _ _ _ (hrt2.mono (g.sub _ (by simp))) (hid.mono (g.sub _ (by simp))) (by omega) (fun _ _ => by omega)).mono ?_
              rintro e w1 ⟨rfl, hb⟩
              obtain ⟨g1, rfl⟩ := G.call_ex _ hb
              clear hb
              (try clear g)
              revert g1
              intro g
              go_wp2_with (with_reducible refine G.any_mark _ ?_; (try generalize Array.size (World.heap (G.w _)) = bk); (try dsimp only [lz0, lz1]); (try clear g); intro g)
              refine (samemat_x t (fun _ => 1) _ _ _ _ _ _ (hbk2.mono (g.sub _ (by simp))) (hc.mono (g.sub _ (by simp))) (by omega) (fun _ _ => by omega)).mono ?_
              rintro e w1 ⟨rfl, hb⟩
              obtain ⟨g1, rfl⟩ := G.call_ex _ hb
              clear hb
              (try clear g)
              revert g1
              intro g
              go_wp2_with (with_reducible refine G.any_mark _ ?_; (try generalize Array.size (World.heap (G.w _)) = bk); (try dsimp only [lz0, lz1]); (try clear g); intro g)
              go_ret
              exact ⟨rfl, G.below _⟩)))))))
end Go.Proofs.YthhbbnfnejjpiaaGreatDoor
