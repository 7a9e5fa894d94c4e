/- Plain facts and contracts of functions of the program, out of walks. Their conditions stand ahead of each. -/
import Derived.Test.YtjdnpkicdmapnaaGreatDoorRb49
import Derived.Test.YtjdnpkicdmapnaaGreatDoorRb51
import Derived.Below
import Derived.BigQuiet
import Derived.Deep.DeepCutAuto
import Derived.Deep.Draws
import Derived.Deep.LoopGhost
import Derived.Deep.QuietTactic
import Derived.Deep.RegionHeld3
import Derived.Deep.RegionLaw
import Derived.Defers
import Derived.Ground.GgwProg
import Derived.LaidEql
import Derived.Laws.BytesString
import Derived.Laws.Cells
import Derived.Laws.Concat
import Derived.Laws.CopyOwn
import Derived.Laws.CopyRow
import Derived.Laws.IdiomStrings
import Derived.Laws.NewBlocks
import Derived.Laws.OwnMore
import Derived.Laws.Pointers
import Derived.Laws.Rows
import Derived.Laws.Runes
import Derived.Lib.BitFns
import Derived.Lib.Hide
import Derived.Lib.IndexLaws
import Derived.Lib.IndexMore
import Derived.Lib.ItoaNum
import Derived.Lib.TrailingZeros
import Derived.LoopIn
import Derived.LoopNIn
import Derived.Maps.AppendAt
import Derived.OrdersIn
import Derived.OwnWalk
import Derived.OwnWalkIn
import Derived.RangeFuncBound
import Derived.RangeFuncBox
import Derived.RangeFuncCalls
import Derived.RangeFuncLeaves
import Derived.RangeFuncNested
import Derived.RowKit3
import Derived.RowKitTokens
import Derived.Shelf.Abstract
import Derived.Shelf.GgClosure.StringsIndexFunc
import Derived.Shelf.GgClosure.StringsIndexFuncTop
import Derived.Shelf.RegionOpen
import Derived.Shelf.Small.Wraps
import Derived.Shelf.Spec.TrailingZeros
import Derived.Shelf.Strings.Cut
import Derived.Shelf.Strings.Prefix
import Derived.StillTactics
import Derived.StillTailTactics
import Derived.Stop.Asserts
import Derived.TacticsInMore
import Derived.Test.YtjdnpkicdmapnaaGreatDoorProg
import Derived.WalkKit
import Derived.WalkLawsBesides
import Derived.WalkMore
import Derived.WalkSpells
set_option linter.unusedVariables false
set_option linter.unusedSimpArgs false
set_option exponentiation.threshold 10000
namespace Go.Proofs.YtjdnpkicdmapnaaGreatDoor
open Go.RowKit GW NL
theorem pick_m (m x : Int) (hm : 0 < m) (hm2 : m ≤ 4611686018427387904) (h1 : -9223372036854775808 ≤ x) (h2 : x < 9223372036854775808) (w : World) : Calls Tryz.prog 30 #[.int .i64 x, .int .i64 m] w fun e w' => ∃ k : Nat, (k : Int) < m ∧ e = .returned (.int .i64 k) ∧ Below w.heap.size w w' := by
  obtain ⟨T, hT⟩ : ∃ T, Int.tmod x m = T := ⟨_, rfl⟩
  have b1 : T < m := by rw [← hT]; exact Int.tmod_lt_of_pos _ hm
  have b2 : -m < T := by rw [← hT]; exact Int.lt_tmod_of_pos x hm
  have hm0 : (m == 0) = false := by rw [beq_eq_false_iff_ne]; omega
  have hw2 : IntKind.i64.wrap T = T := by rw [IntKind.wrap_i64]; omega
  have H2 := Lib.hid hm2
  have H0 := Lib.hid hm
  clear h1 h2 hm2 hm
  by_cases h0 : T < 0
  · obtain ⟨k, hk⟩ : ∃ k : Nat, T + m = (k : Int) := ⟨(T + m).toNat, by have := H0.out; omega⟩
    have hw : IntKind.i64.wrap (k : Int) = (k : Int) := by rw [IntKind.wrap_i64]; have := H2.out; omega
    have HB := Lib.hid (And.intro b1 (And.intro b2 hk))
    clear b1 b2
    go_enter Tryz.func30, Tryz.ntmps30
    go_wp2_with fail
    go_ret
    exact ⟨k, by have := HB.out; omega, rfl, Below.refl _ _⟩
  · obtain ⟨k, rfl⟩ : ∃ k : Nat, T = (k : Int) := ⟨T.toNat, by omega⟩
    have HB := Lib.hid b1
    clear b1 b2 h0
    go_enter Tryz.func30, Tryz.ntmps30
    go_wp2_with fail
    all_goals first | (exfalso; have := H0.out; omega) | (go_ret; exact ⟨k, HB.out, rfl, Below.refl _ _⟩)
theorem nat_frac (n : Nat) : rneg (frac false n 1) = false ∧ rn (frac false n 1) = n ∧ (frac false n 1).den = 1 := frac_parts (by decide) (Nat.gcd_one_right n) (by intro h; cases h)
theorem qMul_nat (A1 B1 A2 B2 : Option Addr) (c1 k1 c2 k2 n k ln : Nat) (z v : Rat) (hz : frac false k 1 = z) (hv : frac false (n * k) 1 = v) (hn : n < 2 ^ 400) (hk : k < 2 ^ 64) (w : World) (h1 : SlW w A1 c1 (limbs n)) (hl : (limbs n).length = ln) (j1 : SlW w B1 k1 (limbs 1)) (h2 : SlW w A2 c2 (limbs (rn z))) (j2 : SlW w B2 k2 (limbs z.den)) (hT : Tab w) :
    Calls Tryz.prog 16 #[.agg #[.bool false, .slice A1 ln c1, .slice B1 1 k1], .agg #[.bool (rneg z), .slice A2 (limbs (rn z)).length c2, .slice B2 (limbs z.den).length k2]] w (RX v w) := by
  obtain ⟨p1, p2, p3⟩ := nat_frac n
  have bz : Bd 64 z := by rw [← hz]; exact Bd.frac false (by decide) hk (by decide)
  have bx : Bd 400 (frac false n 1) := Bd.frac false (by decide) hn (Nat.lt_of_lt_of_le (show 1 < 2 ^ 1 by decide) (Nat.pow_le_pow_right (by decide) (by decide)))
  have e : frac false n 1 * z = v := by rw [← hz, frac_mul, ← hv]; rfl
  have bv : Bd 464 v := by rw [← e]; exact bx.mul bz
  have := qMul_x A1 B1 A2 B2 c1 k1 c2 k2 (frac false n 1) z v (bx.mono (by decide)) (bz.mono (by decide)) (bv.mono (by decide)) e w (by rw [p2]; exact h1) (by rw [p3]; exact j1) h2 j2 hT
  have e1 : (limbs 1).length = 1 := by rw [show limbs 1 = [1] from limbs_one (by decide) (by decide)]; rfl
  rw [p1, p2, p3, e1] at this
  subst hl
  exact this
theorem qText_nat (A B : Option Addr) (c k n : Nat) (v : Rat) (hv : frac false n 1 = v) (hn : n < 2 ^ 8192) (O : ByteArray) (hO : bstr (dec n) = O) (w : World) (h1 : SlW w A c (limbs (rn v))) (j1 : SlW w B k (limbs v.den)) (hT : Tab w) :
    Calls Tryz.prog 25 #[.agg #[.bool (rneg v), .slice A (limbs (rn v)).length c, .slice B (limbs v.den).length k]] w fun e w' => e = .returned (.tuple #[.string O, .int .i64 0]) ∧ Below w.heap.size w w' := by
  have bx : Bd 8192 v := by rw [← hv]; exact Bd.frac false (by decide) hn (Nat.lt_of_lt_of_le (show 1 < 2 ^ 1 by decide) (Nat.pow_le_pow_right (by decide) (by decide)))
  have := qText_x A B c k v bx w h1 j1 hT
  obtain ⟨p1, p2, p3⟩ := nat_frac n
  have e : qtext (rneg v) (rn v) v.den = O := by
    rw [← hv, p1, p2, p3]
    unfold qtext
    rw [if_pos rfl]
    exact hO
  rw [e] at this
  exact this
/-- rat.Parse of a text of which it is known what it reads as -/
theorem qParse_at (t : ByteArray) (x : Rat) (mx : Int) (w : World) (h : parP (bl t) = (0, 0, (rneg x, rn x, x.den))) (hm : w.cell? ⟨3, 0, none⟩ = some (.int .i64 mx)) (hg : w.cell? ⟨0, 0, none⟩ = some (.iface 145 (.agg #[.pointer (some ⟨4, 79, none⟩)]))) (hT : Tab w) :
    Calls Tryz.prog 27 #[.string t] w fun e w' => ∃ A c F B k H, e = .returned (.tuple #[.agg #[.bool (rneg x), .slice A (limbs (rn x)).length c, .slice B (limbs x.den).length k], .agg #[.int .i64 0, .int .i64 0]]) ∧ F.Sl A c (limbs (rn x)) ∧ H.Sl B k (limbs x.den) ∧ New w w' F ∧ New w w' H := by
  have := qParse_any t mx w hm hg hT
  rw [h] at this
  exact this
set_option maxRecDepth 20000 in
set_option maxHeartbeats 40000000 in
theorem back4_walk (A1 : Option Addr) (c1 : Nat) (l1 : List Nat) (neg : Bool) (nn mx : Int) (w : World) (h1 : SlW w A1 c1 l1) (hm : w.cell? ⟨3, 0, none⟩ = some (.int .i64 mx)) (hg : w.cell? ⟨0, 0, none⟩ = some (.iface 145 (.agg #[.pointer (some ⟨4, 79, none⟩)]))) (hT : Tab w) (n1 : -9223372036854775808 ≤ nn) (n2 : nn < 9223372036854775808) :
    Calls Tryz.prog 5 #[.slice A1 l1.length c1, .bool neg, .int .i64 nn] w fun e w' => e = .returned (.bool true) ∧ Below w.heap.size w w' := by
  refine calls_b fun g => ?_
  have CL := Lib.hid llives_x
  have CV1 := Lib.hid (fun s w h => lvalid_x A1 c1 l1 s w h)
  have CP := Lib.hid (fun w => pick_m 1000000 nn (by decide) (by decide) n1 n2 w)
  unfold RNf at CV1
  have HO1 := Lib.hid h1.ok
  have H1 := Lib.hid h1
  have HT := Lib.hid hT
  have HM := Lib.hid hm
  have HG := Lib.hid hg
  clear h1 hT hm hg n1 n2
  generalize l1.length = ln1 at *
  go_enter Tryz.func5, Tryz.ntmps5
  go_wp2_with (with_reducible refine G.any_mark _ ?_; (try generalize Array.size (World.heap (G.w _)) = bk); (try dsimp only [List.set_cons_zero, List.set_cons_succ]); (try clear g); intro g)
  refine (CL.out _ (G.tab g HT.out)).mono ?_
  rintro e w1 ⟨rfl, hb⟩
  obtain ⟨g1, rfl⟩ := G.call_ex _ hb
  clear hb
  (try clear g)
  revert g1
  intro g
  go_wp2_with (with_reducible refine G.any_mark _ ?_; (try generalize Array.size (World.heap (G.w _)) = bk); (try dsimp only [List.set_cons_zero, List.set_cons_succ]); (try clear g); intro g)
  (try (refine cmark _ ?_; (try dsimp only [List.set_cons_zero, List.set_cons_succ]); (try clear g); intro g))
  refine (CV1.out neg _ (G.sl g (by simp) H1.out)).mono ?_
  rintro e w1 ⟨Aa, ca, Fa, Ba, da, Ha, rfl, hsa, hta, hn, hm⟩
  have hnna := fun k o hk => Nat.le_trans g.chg.size (hn.new k o hk)
  have hmma := fun k o hk => Nat.le_trans g.chg.size (hm.new k o hk)
  obtain ⟨g1, rfl⟩ := G.new2_ex _ hn hm
  clear hn hm
  (try clear g)
  revert g1
  intro g
  obtain ⟨a, ha, hba⟩ : ∃ a, vq neg l1 = a ∧ Bd 288 a := ⟨_, rfl, vq_bd _ HO1.out⟩
  rw [ha] at hsa hta ⊢
  clear ha CV1 CL HO1 H1
  have HBa := Lib.hid (hba.mono (show 288 ≤ 8192 by decide))
  have HB := Lib.hid hba
  have HE := Lib.hid (parP_qtext HBa.out)
  have CT := Lib.hid (fun A B c k w h j t => qText_x A B c k a HBa.out w h j t)
  obtain ⟨tx, htx⟩ : ∃ tx, qtext (rneg a) (rn a) a.den = tx := ⟨_, rfl⟩
  rw [htx] at HE CT
  have CQ := Lib.hid (fun w x y z => qParse_at tx a mx w HE.out x y z)
  clear hba htx HE
  go_wp2_with (with_reducible refine G.any_mark _ ?_; (try generalize Array.size (World.heap (G.w _)) = bk); (try dsimp only [List.set_cons_zero, List.set_cons_succ]); (try clear g); intro g)
  (try (refine cmark _ ?_; (try dsimp only [List.set_cons_zero, List.set_cons_succ]); (try clear g); intro g))
  refine (CT.out _ _ _ _ _ (G.sl g (by simp) hsa) (G.sl g (by simp) hta) (G.tab g HT.out)).mono ?_
  rintro e w1 ⟨rfl, hb⟩
  obtain ⟨g1, rfl⟩ := G.call_ex _ hb
  clear hb
  (try clear g)
  revert g1
  intro g
  go_wp2_with (with_reducible refine G.any_mark _ ?_; (try generalize Array.size (World.heap (G.w _)) = bk); (try dsimp only [List.set_cons_zero, List.set_cons_succ]); (try clear g); intro g)
  (try (refine cmark _ ?_; (try dsimp only [List.set_cons_zero, List.set_cons_succ]); (try clear g); intro g))
  refine (CQ.out _ (G.oldcell g HM.out) (G.oldcell g HG.out) (G.tab g HT.out)).mono ?_
  rintro e w1 ⟨Ap, cp, Fp, Bp, dp, Hp, rfl, hsp, htp, hn, hm⟩
  have hnnp := fun k o hk => Nat.le_trans g.chg.size (hn.new k o hk)
  have hmmp := fun k o hk => Nat.le_trans g.chg.size (hm.new k o hk)
  obtain ⟨g1, rfl⟩ := G.new2_ex _ hn hm
  clear hn hm
  (try clear g)
  revert g1
  intro g
  go_wp2_with (with_reducible refine G.any_mark _ ?_; (try generalize Array.size (World.heap (G.w _)) = bk); (try dsimp only [List.set_cons_zero, List.set_cons_succ]); (try clear g); intro g)
  (try (refine cmark _ ?_; (try dsimp only [List.set_cons_zero, List.set_cons_succ]); (try clear g); intro g))
  refine (lsame_x _ _ _ _ _ _ _ _ a _ (G.sl g (by simp) hsa) (G.sl g (by simp) hta) (G.sl g (by simp) hsp) (G.sl g (by simp) htp)).mono ?_
  rintro e w1 ⟨rfl, hb⟩
  obtain ⟨g1, rfl⟩ := G.call_ex _ hb
  clear hb
  (try clear g)
  revert g1
  intro g
  clear CT CQ
  go_wp2_with (with_reducible refine G.any_mark _ ?_; (try generalize Array.size (World.heap (G.w _)) = bk); (try dsimp only [List.set_cons_zero, List.set_cons_succ]); (try clear g); intro g)
  (as_aux_lemma =>
  (try (refine cmark _ ?_; (try dsimp only [List.set_cons_zero, List.set_cons_succ]); (try clear g); intro g))
  refine (CP.out _).mono ?_
  rintro e w1 ⟨k, hk, rfl, hb⟩
  obtain ⟨g1, rfl⟩ := G.call_ex _ hb
  clear hb CP
  (try clear g)
  revert g1
  intro g
  have hkk : (1 : Int) + (k : Int) = ((k + 1 : Nat) : Int) := by omega
  have hk64 : k + 1 < 2 ^ 64 := by omega
  obtain ⟨z, hz⟩ : ∃ z, frac false (k + 1) 1 = z := ⟨_, rfl⟩
  obtain ⟨v1, hv1⟩ : ∃ z, frac false (rn a * (k + 1)) 1 = z := ⟨_, rfl⟩
  obtain ⟨v2, hv2⟩ : ∃ z, frac false (a.den * (k + 1)) 1 = z := ⟨_, rfl⟩
  have p400 : ∀ {n : Nat}, n < 2 ^ 288 → n < 2 ^ 400 := fun h => Nat.lt_of_lt_of_le h (Nat.pow_le_pow_right (by decide) (by decide))
  have pm : ∀ {n : Nat}, n < 2 ^ 288 → n * (k + 1) < 2 ^ 8192 := fun h => Nat.lt_of_lt_of_le (mul_pow_lt h hk64) (Nat.pow_le_pow_right (by decide) (by decide))
  have q1 := pm HB.out.1
  have q2 := pm HB.out.2
  have HP := Lib.hid (parP_scaled (x := a) (k := k + 1) (by omega) q1 q2)
  obtain ⟨O1, hO1⟩ : ∃ O, bstr (dec (rn a * (k + 1))) = O := ⟨_, rfl⟩
  obtain ⟨O2, hO2⟩ : ∃ O, bstr (dec (a.den * (k + 1))) = O := ⟨_, rfl⟩
  have b1 := dec_bsz q1
  have b2 := dec_bsz q2
  rw [hO1, hO2] at HP
  rw [hO1] at b1
  rw [hO2] at b2
  have CT1 := Lib.hid (fun A B c k w h j t => qText_nat A B c k _ v1 hv1 q1 O1 hO1 w h j t)
  have CT2 := Lib.hid (fun A B c k w h j t => qText_nat A B c k _ v2 hv2 q2 O2 hO2 w h j t)
  have CM1 := Lib.hid (fun A1 B1 A2 B2 c1 k1 c2 k2 w h1 j1 h2 j2 t => qMul_nat A1 B1 A2 B2 c1 k1 c2 k2 (rn a) (k + 1) _ z v1 hz hv1 (p400 HB.out.1) hk64 w h1 rfl j1 h2 j2 t)
  have CM2 := Lib.hid (fun A1 B1 A2 B2 c1 k1 c2 k2 w h1 j1 h2 j2 t => qMul_nat A1 B1 A2 B2 c1 k1 c2 k2 a.den (k + 1) _ z v2 hz hv2 (p400 HB.out.2) hk64 w h1 rfl j1 h2 j2 t)
  have CO : Hid (∀ w, Calls Tryz.prog 31 #[.int .i64 ((k + 1 : Nat) : Int), .int .i64 1] w (RNf z w)) := Lib.hid (fun w => lof_x ((k + 1 : Nat) : Int) 1 z (by decide) (by rw [← hz, Int.natAbs_natCast, decide_eq_false (by omega : ¬ (((k + 1 : Nat) : Int) < 0))]; rfl) (by omega) (by omega) (by decide) (by decide) w)
  have one : Hid ((limbs 1).length = 1 ∧ [Value.int .u32 1] = u32s (limbs 1)) := Lib.hid ⟨by rw [limbs_one (by decide) (by decide)]; rfl, by rw [limbs_one (by decide) (by decide)]; rfl⟩
  unfold RNf at CO
  unfold RX at CM1 CM2
  have k1 : ¬ (9223372036854775807 < 1 + O1.size) := by omega
  have k3 : ¬ (9223372036854775807 < O1.size + 1) := by omega
  have k4 : ¬ (9223372036854775807 < O1.size + 1 + O2.size) := by omega
  have k5 : ¬ (9223372036854775807 < 1 + O1.size + 1) := by omega
  have k6 : ¬ (9223372036854775807 < 1 + O1.size + 1 + O2.size) := by omega
  have hwk : IntKind.i64.wrap ((k + 1 : Nat) : Int) = ((k + 1 : Nat) : Int) := by rw [IntKind.wrap_i64]; omega
  rw [← hkk] at CO hwk
  clear hz hv1 hv2 p400 pm q1 q2 hO1 hO2 b1 b2 hk64 hk hkk
  have CQ2 := Lib.hid (fun w x y z => qParse_at _ a mx w HP.out x y z)
  have CSm := Lib.hid (fun A1 B1 A2 B2 c1 k1 c2 k2 w h1 j1 h2 j2 => lsame_x A1 B1 A2 B2 c1 k1 c2 k2 a w h1 j1 h2 j2)
  clear HP HB HBa
  generalize (k : Int) = ki at *
  go_wp2_with (with_reducible refine G.any_mark _ ?_; (try generalize Array.size (World.heap (G.w _)) = bk); (try dsimp only [List.set_cons_zero, List.set_cons_succ]); (try clear g); intro g)
  go_cut [2, 7, 12, 13] (fun r2 r7 r12 r13 wx => ∃ (ab nb : Nat) (Au : Option Addr) (cu : Nat) (Fu : Frag) (Bu : Option Addr) (du : Nat) (Hu : Frag) (g : G w [] [(nb, 25, [.bool (rneg v1), .slice Au (limbs (rn v1)).length cu, .slice Bu (limbs v1.den).length du]), (ab, 25, [.bool (rneg a), .slice Aa (limbs (rn a)).length ca, .slice Ba (limbs a.den).length da])] [Fu, Hu, Fa, Ha, heapOf w]), r2 = .int .i64 (1 + ki) ∧ r7 = .pointer (some ⟨ab, 0, none⟩) ∧ r12 = .pointer (some ⟨nb, 0, none⟩) ∧ r13 = .int .i64 0 ∧ Fu.Sl Au cu (limbs (rn v1)) ∧ Hu.Sl Bu du (limbs v1.den) ∧ wx = g.w)
  case first =>
    clear CT1 CT2 CM2 CQ2 CSm HM HG k1 k3 k4 k5 k6
    go_region_held3 (G.heldN g [false, false, true]) (simp [G.heldN, HeldN, go_sem]) (first
        | (go_at_call 31; (with_reducible refine (CO.out _).mono ?_); rintro e w1 ⟨Az, cz, Fz, Bz, dz, Hz, rfl, hsz, htz, hnq, hmq⟩; obtain ⟨g1, rfl⟩ := G.new2_ex _ hnq hmq; clear hnq hmq; (try clear g); revert g1; intro g)
        | (go_at_call 16; (with_reducible refine (CM1.out _ _ _ _ _ _ _ _ _ ?_ ?_ ?_ ?_ ?_).mono ?_); (· exact G.sl _ (by simp) hsa); (· first | exact (G.lit0 _ _ _ one.out.2 one.out.1 (by decide)) | exact (G.lit1 _ _ _ one.out.2 one.out.1 (by decide))); (· exact G.sl _ (by simp) hsz); (· exact G.sl _ (by simp) htz); (· exact G.tab _ HT.out); rintro e w1 ⟨Au, cu, Fu, Bu, du, Hu, rfl, hsu, htu, hnq, hmq⟩; obtain ⟨g1, rfl⟩ := G.new2_ex _ hnq hmq; clear hnq hmq; (try clear g); revert g1; intro g))
    all_goals (as_aux_lemma =>
      (first | ((try simp only [G.drew_eq, G.drewN_eq]); (refine G.any_mark _ ?_; (try clear g); intro g)) | skip)
      go_wp2_with fail
      go_meet
      obtain ⟨g4, e4⟩ := G.lessI g (I' := [Fu, Hu, Fa, Ha, heapOf w]) (by simp)
      first
        | (obtain ⟨g3, e3⟩ := G.less g4 (List.Sublist.cons_cons _ (List.Sublist.cons _ (List.Sublist.cons _ (List.Sublist.cons _ (List.Sublist.cons_cons _ List.Sublist.slnil)))))
           exact ⟨_, _, Au, cu, Fu, Bu, du, Hu, g3, rfl, rfl, rfl, rfl, hsu, htu, e4.trans e3⟩)
        | (obtain ⟨g3, e3⟩ := G.less g4 (List.Sublist.cons _ (List.Sublist.cons_cons _ (List.Sublist.cons _ (List.Sublist.cons _ (List.Sublist.cons_cons _ List.Sublist.slnil)))))
           exact ⟨_, _, Au, cu, Fu, Bu, du, Hu, g3, rfl, rfl, rfl, rfl, hsu, htu, e4.trans e3⟩))
  case rest =>
  (as_aux_lemma =>
  obtain ⟨ab, nb, Au, cu, Fu, Bu, du, Hu, g, rfl, rfl, rfl, rfl, hsu, htu, rfl⟩ := hcut
  clear CM1
  go_wp2_with (with_reducible refine G.any_mark _ ?_; (try generalize Array.size (World.heap (G.w _)) = bk); (try dsimp only [List.set_cons_zero, List.set_cons_succ]); (try clear g); intro g)
  go_cut [2, 7, 12, 13, 14, 15] (fun r2 r7 r12 r13 r14 r15 wx => ∃ (ab nb vb : Nat) (Av : Option Addr) (cv : Nat) (Fv : Frag) (Bv : Option Addr) (dv : Nat) (Hv : Frag) (g : G w [] [(vb, 25, [.bool (rneg v2), .slice Av (limbs (rn v2)).length cv, .slice Bv (limbs v2.den).length dv]), (nb, 25, [.bool (rneg v1), .slice Au (limbs (rn v1)).length cu, .slice Bu (limbs v1.den).length du]), (ab, 25, [.bool (rneg a), .slice Aa (limbs (rn a)).length ca, .slice Ba (limbs a.den).length da])] [Fv, Hv, Fu, Hu, Fa, Ha, heapOf w]), r2 = .int .i64 (1 + ki) ∧ r7 = .pointer (some ⟨ab, 0, none⟩) ∧ r12 = .pointer (some ⟨nb, 0, none⟩) ∧ r13 = .int .i64 0 ∧ r14 = .pointer (some ⟨vb, 0, none⟩) ∧ r15 = .int .i64 0 ∧ Fv.Sl Av cv (limbs (rn v2)) ∧ Hv.Sl Bv dv (limbs v2.den) ∧ wx = g.w)
  case first =>
    clear CT1 CT2 CQ2 CSm HM HG k1 k3 k4 k5 k6
    go_region_held3 (G.heldN g [false, true]) (simp [G.heldN, HeldN, go_sem]) (first
        | (go_at_call 31; (with_reducible refine (CO.out _).mono ?_); rintro e w1 ⟨Az, cz, Fz, Bz, dz, Hz, rfl, hsz, htz, hnq, hmq⟩; obtain ⟨g1, rfl⟩ := G.new2_ex _ hnq hmq; clear hnq hmq; (try clear g); revert g1; intro g)
        | (go_at_call 16; (with_reducible refine (CM2.out _ _ _ _ _ _ _ _ _ ?_ ?_ ?_ ?_ ?_).mono ?_); (· exact G.sl _ (by simp) hta); (· first | exact (G.lit0 _ _ _ one.out.2 one.out.1 (by decide)) | exact (G.lit1 _ _ _ one.out.2 one.out.1 (by decide))); (· exact G.sl _ (by simp) hsz); (· exact G.sl _ (by simp) htz); (· exact G.tab _ HT.out); rintro e w1 ⟨Av, cv, Fv, Bv, dv, Hv, rfl, hsv, htv, hnq, hmq⟩; obtain ⟨g1, rfl⟩ := G.new2_ex _ hnq hmq; clear hnq hmq; (try clear g); revert g1; intro g))
    all_goals (as_aux_lemma =>
      (first | ((try simp only [G.drew_eq, G.drewN_eq]); (refine G.any_mark _ ?_; (try clear g); intro g)) | skip)
      go_wp2_with fail
      go_meet
      obtain ⟨g4, e4⟩ := G.lessI g (I' := [Fv, Hv, Fu, Hu, Fa, Ha, heapOf w]) (by simp)
      first
        | (obtain ⟨g3, e3⟩ := G.less g4 (List.Sublist.cons_cons _ (List.Sublist.cons _ (List.Sublist.cons_cons _ (List.Sublist.cons_cons _ List.Sublist.slnil))))
           exact ⟨_, _, _, Av, cv, Fv, Bv, dv, Hv, g3, rfl, rfl, rfl, rfl, rfl, rfl, hsv, htv, e4.trans e3⟩)
        | (obtain ⟨g3, e3⟩ := G.less g4 (List.Sublist.cons _ (List.Sublist.cons_cons _ (List.Sublist.cons_cons _ (List.Sublist.cons_cons _ List.Sublist.slnil))))
           exact ⟨_, _, _, Av, cv, Fv, Bv, dv, Hv, g3, rfl, rfl, rfl, rfl, rfl, rfl, hsv, htv, e4.trans e3⟩))
  case rest =>
  (as_aux_lemma =>
  obtain ⟨ab, nb, vb, Av, cv, Fv, Bv, dv, Hv, g, rfl, rfl, rfl, rfl, rfl, rfl, hsv, htv, rfl⟩ := hcut
  clear CM2 CO
  go_wp2_with (with_reducible refine G.any_mark _ ?_; (try generalize Array.size (World.heap (G.w _)) = bk); (try dsimp only [List.set_cons_zero, List.set_cons_succ]); (try clear g); intro g)
  (try (refine cmark _ ?_; (try dsimp only [List.set_cons_zero, List.set_cons_succ]); (try clear g); intro g))
  refine (CT1.out _ _ _ _ _ (G.sl g (by simp) hsu) (G.sl g (by simp) htu) (G.tab g HT.out)).mono ?_
  rintro e w1 ⟨rfl, hb⟩
  obtain ⟨g1, rfl⟩ := G.call_ex _ hb
  clear hb
  (try clear g)
  revert g1
  intro g
  go_wp2_with (with_reducible refine G.any_mark _ ?_; (try generalize Array.size (World.heap (G.w _)) = bk); (try dsimp only [List.set_cons_zero, List.set_cons_succ]); (try clear g); intro g)
  (try (refine cmark _ ?_; (try dsimp only [List.set_cons_zero, List.set_cons_succ]); (try clear g); intro g))
  refine (CT2.out _ _ _ _ _ (G.sl g (by simp) hsv) (G.sl g (by simp) htv) (G.tab g HT.out)).mono ?_
  rintro e w1 ⟨rfl, hb⟩
  obtain ⟨g1, rfl⟩ := G.call_ex _ hb
  clear hb
  (try clear g)
  revert g1
  intro g
  by_cases hs1 : rneg a = true
  rotate_left
  · (as_aux_lemma =>
    rw [if_neg hs1] at CQ2
    have hs1 : rneg a = false := by cases h : rneg a <;> simp_all
    clear CT1 CT2
    rw [hs1] at CSm
    go_wp2_with (with_reducible refine G.any_mark _ ?_; (try generalize Array.size (World.heap (G.w _)) = bk); (try dsimp only [List.set_cons_zero, List.set_cons_succ]); (try clear g); intro g)
    obtain ⟨tz, htz⟩ : ∃ t, O1 ++ ByteArray.mk #[47] ++ O2 = t := ⟨_, rfl⟩
    rw [htz] at CQ2 ⊢
    refine (CQ2.out _ (G.oldcell g HM.out) (G.oldcell g HG.out) (G.tab g HT.out)).mono ?_
    rintro e w1 ⟨Aq, cq, Fq, Bq, dq, Hq, rfl, hsq, htq, hn, hm⟩
    have hnnq := fun k o hk => Nat.le_trans g.chg.size (hn.new k o hk)
    have hmmq := fun k o hk => Nat.le_trans g.chg.size (hm.new k o hk)
    obtain ⟨g1, rfl⟩ := G.new2_ex _ hn hm
    clear hn hm
    (try clear g)
    revert g1
    intro g
    clear CQ2 htz
    go_upto_region 16 with (with_reducible refine G.any_mark _ ?_; (try generalize Array.size (World.heap (G.w _)) = bk); (try dsimp only [List.set_cons_zero, List.set_cons_succ]); (try clear g); intro g)
    ((try simp only [G.drew_eq, G.drewN_eq]); (refine G.any_mark _ ?_; (try clear g); intro g))
    go_wp2_with (with_reducible refine G.any_mark _ ?_; (try generalize Array.size (World.heap (G.w _)) = bk); (try dsimp only [List.set_cons_zero, List.set_cons_succ]); (try clear g); intro g)
    (try (refine cmark _ ?_; (try dsimp only [List.set_cons_zero, List.set_cons_succ]); (try clear g); intro g))
    refine (CSm.out _ _ _ _ _ _ _ _ _ (G.sl g (by simp) hsa) (G.sl g (by simp) hta) (G.sl g (by simp) hsq) (G.sl g (by simp) htq)).mono ?_
    rintro e w1 ⟨rfl, hb⟩
    obtain ⟨g1, rfl⟩ := G.call_ex _ hb
    clear hb
    (try clear g)
    revert g1
    intro g
    go_wp2_with (with_reducible refine G.any_mark _ ?_; (try generalize Array.size (World.heap (G.w _)) = bk); (try dsimp only [List.set_cons_zero, List.set_cons_succ]); (try clear g); intro g)
    go_ret
    exact ⟨rfl, G.below _⟩)
  · (as_aux_lemma =>
    rw [if_pos hs1] at CQ2
    clear CT1 CT2
    rw [hs1] at CSm
    go_wp2_with (with_reducible refine G.any_mark _ ?_; (try generalize Array.size (World.heap (G.w _)) = bk); (try dsimp only [List.set_cons_zero, List.set_cons_succ]); (try clear g); intro g)
    obtain ⟨tz, htz⟩ : ∃ t, ByteArray.mk #[45] ++ O1 ++ ByteArray.mk #[47] ++ O2 = t := ⟨_, rfl⟩
    rw [htz] at CQ2 ⊢
    refine (CQ2.out _ (G.oldcell g HM.out) (G.oldcell g HG.out) (G.tab g HT.out)).mono ?_
    rintro e w1 ⟨Aq, cq, Fq, Bq, dq, Hq, rfl, hsq, htq, hn, hm⟩
    have hnnq := fun k o hk => Nat.le_trans g.chg.size (hn.new k o hk)
    have hmmq := fun k o hk => Nat.le_trans g.chg.size (hm.new k o hk)
    obtain ⟨g1, rfl⟩ := G.new2_ex _ hn hm
    clear hn hm
    (try clear g)
    revert g1
    intro g
    clear CQ2 htz
    go_upto_region 16 with (with_reducible refine G.any_mark _ ?_; (try generalize Array.size (World.heap (G.w _)) = bk); (try dsimp only [List.set_cons_zero, List.set_cons_succ]); (try clear g); intro g)
    ((try simp only [G.drew_eq, G.drewN_eq]); (refine G.any_mark _ ?_; (try clear g); intro g))
    go_wp2_with (with_reducible refine G.any_mark _ ?_; (try generalize Array.size (World.heap (G.w _)) = bk); (try dsimp only [List.set_cons_zero, List.set_cons_succ]); (try clear g); intro g)
    (try (refine cmark _ ?_; (try dsimp only [List.set_cons_zero, List.set_cons_succ]); (try clear g); intro g))
    refine (CSm.out _ _ _ _ _ _ _ _ _ (G.sl g (by simp) hsa) (G.sl g (by simp) hta) (G.sl g (by simp) hsq) (G.sl g (by simp) htq)).mono ?_
    rintro e w1 ⟨rfl, hb⟩
    obtain ⟨g1, rfl⟩ := G.call_ex _ hb
    clear hb
    (try clear g)
    revert g1
    intro g
    go_wp2_with (with_reducible refine G.any_mark _ ?_; (try generalize Array.size (World.heap (G.w _)) = bk); (try dsimp only [List.set_cons_zero, List.set_cons_succ]); (try clear g); intro g)
    go_ret
    exact ⟨rfl, G.below _⟩))))
end Go.Proofs.YtjdnpkicdmapnaaGreatDoor
