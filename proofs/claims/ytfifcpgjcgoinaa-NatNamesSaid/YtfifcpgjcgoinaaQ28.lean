/- Plain facts and contracts of functions of the program, out of walks. Their conditions stand ahead of each. -/
import Derived.Test.YtfifcpgjcgoinaaQ21
import Derived.Test.YtfifcpgjcgoinaaQ27
set_option linter.unusedVariables false
set_option linter.unusedSimpArgs false
set_option exponentiation.threshold 10000
namespace Go.Proofs.Ytfifcpgjcgoinaa
open Go.RowKit GW NL
theorem calls_mark {P : Program} {f : FuncId} {args : Array Value} {R : Ending → World → Prop} {w0 : World} {X : List Nat} {M : List Blk} {I : List Frag} (g : G w0 X M I) (h : ∀ g' : G w0 X M I, Calls P f args g'.w R) : Calls P f args g.mark.w R := h _
theorem foldl_push_bytes : ∀ (l : List Nat) (r : ByteArray), (l.map fun x : Nat => (x : Int)).foldl (fun r n => r.push (UInt8.ofNat n.toNat)) r = ⟨r.data ++ (l.map UInt8.ofNat).toArray⟩
  | [], r => by simp
  | b :: l, r => by
    simp only [List.map_cons, List.foldl_cons]
    rw [foldl_push_bytes l]
    simp [ByteArray.push]
theorem bl_bstr {l : List Nat} (h : ∀ x ∈ l, x < 256) : bl (bstr l) = l := by
  unfold bl bstr
  rw [foldl_push_bytes]
  show (ByteArray.empty.data ++ (l.map UInt8.ofNat).toArray).toList.map UInt8.toNat = l
  have e : (ByteArray.empty.data ++ (l.map UInt8.ofNat).toArray).toList = l.map UInt8.ofNat := by
    show ((#[] : Array UInt8) ++ (l.map UInt8.ofNat).toArray).toList = _
    simp
  rw [e, List.map_map]
  have : ∀ x ∈ l, (UInt8.toNat ∘ UInt8.ofNat) x = x := by
    intro x hx
    have := h x hx
    simp [Nat.mod_eq_of_lt this]
  rw [List.map_congr_left this, List.map_id']
theorem dec_dig (v : Nat) : ∀ x ∈ dec v, 48 ≤ x ∧ x ≤ 57 := by
  intro x hx
  unfold dec at hx
  split at hx
  · rw [List.mem_singleton.1 hx]; decide
  · rw [List.mem_reverse] at hx
    obtain ⟨y, hy, rfl⟩ := List.mem_map.1 hx
    have := digs_lt v y hy
    omega
theorem dv_dec (v : Nat) : dv (dec v) (dec v).length = v := by
  unfold dv dec
  rw [List.take_length]
  split
  · next h => subst h; rfl
  · rw [List.map_reverse, List.map_map]
    have : ∀ x ∈ digs v, ((fun x => x - 48) ∘ fun x => 48 + x) x = x := by intro x _; simp
    rw [List.map_congr_left this, List.map_id']
    exact dval_digs v
theorem dec_head (v : Nat) (h : 1 < (dec v).length) : (dec v).getD 0 0 ≠ 48 := by
  unfold dec at *
  split
  · next h0 => rw [if_pos h0] at h; simp at h
  · next h0 =>
    rw [if_neg h0, List.length_reverse, List.length_map] at h
    obtain ⟨k, hk⟩ : ∃ k, (digs v).length = k + 1 := ⟨(digs v).length - 1, by omega⟩
    have hl := digs_last v k hk
    have hk2 : k < (digs v).length := by omega
    rw [List.getD_eq_getElem?_getD, List.getElem?_eq_getElem hk2] at hl
    rw [List.getD_eq_getElem?_getD, List.getElem?_reverse (by rw [List.length_map]; omega), List.getElem?_map, List.length_map, hk, show k + 1 - 1 - 0 = k by omega, List.getElem?_eq_getElem hk2]
    simp at hl ⊢
    omega
theorem Parse_dec (v : Nat) (hv : v < 2 ^ 8192) (w : World) : Calls Try.prog 23 #[.string (bstr (dec v))] w (RNF v 0 0 w) := by
  have hb : bl (bstr (dec v)) = dec v := bl_bstr fun x hx => by have := dec_dig v x hx; omega
  have hs : (bstr (dec v)).size = (dec v).length := by rw [← bl_len, hb]
  have hle : (dec v).length ≤ 2467 := by
    unfold dec
    split
    · simp
    · rw [List.length_reverse, List.length_map]
      exact digs_len v 2467 (Nat.lt_of_lt_of_le hv (Nat.le_of_ble_eq_true rfl))
  have hne : (dec v).length ≠ 0 := by
    unfold dec
    split
    · simp
    · next h0 => rw [List.length_reverse, List.length_map, digs_pos h0]; simp
  have := Parse_digits (bstr (dec v)) w (by rw [hs]; exact hle) (by rw [hs]; exact hne) (fun j hj => by
      rw [hb]
      rw [hs] at hj
      have := dec_dig v ((dec v).getD j 0) (by rw [List.getD_eq_getElem?_getD, List.getElem?_eq_getElem hj]; exact List.getElem_mem hj)
      unfold NoDig
      omega) (by rw [hs, hb]; exact fun h => dec_head v h.1 h.2)
  rw [hb, hs, dv_dec] at this
  exact this.mono fun e w' h => h.1 hv
theorem Root_rv (v r : Nat) (hr : rt v = r) (hv : v < 2 ^ 8192) (A : Option Addr) (c : Nat) (w : World) (h : SlW w A c (limbs v)) :
    Calls Try.prog 31 #[.slice A (limbs v).length c] w (RV r w) := by
  subst hr
  by_cases h0 : v = 0
  · subst h0
    rw [limbs_zero] at h ⊢
    have e : rt 0 = 0 := rt_eq ⟨by decide, by decide⟩
    rw [e]
    exact Root_zero A c w h
  · exact Root_pos A c v w h hv h0
theorem Text_rv (v : Nat) (hv : v < 2 ^ 8192) (A : Option Addr) (c : Nat) (w : World) (h : SlW w A c (limbs v)) :
    Calls Try.prog 21 #[.slice A (limbs v).length c] w fun e w' => e = .returned (.tuple #[.string (bstr (dec v)), .int .i64 0]) ∧ Below w.heap.size w w' := Text_ok A c v w h hv
theorem div_top {v : Nat} (h : v ≠ 0) : v / 2 ^ (nb v - 1) = 1 := by
  have h1 := nb_ge h
  have h2 := nb_lt v
  have h3 := nb_pos h
  have e : 2 ^ nb v = 2 * 2 ^ (nb v - 1) := by
    rw [← Nat.pow_succ']; congr 1; omega
  rw [e] at h2
  have := Nat.two_pow_pos (nb v - 1)
  exact Nat.div_eq_of_lt_le (by omega) (by omega)
set_option maxRecDepth 100000 in
set_option maxHeartbeats 1000000 in
theorem back_walk (A1 : Option Addr) (c1 : Nat) (l1 : List Nat) (w : World) (h1 : SlW w A1 c1 l1) (hl1 : l1.length ≤ 35184372088832) :
    Calls Try.prog 9 #[.slice A1 l1.length c1] w fun e w' => e = .returned (.bool true) ∧ Below w.heap.size w w' := by
  refine calls_b fun g => ?_
  have CV1 := Lib.hid (fun w h => valid_any A1 c1 l1 30 w h hl1 (by omega))
  have b1 := cut_lt h1.ok 30
  generalize cut l1 30 = v at *
  have CL := Lib.hid lives_any
  have hv := pow_lt' b1 (by decide)
  have CT := Lib.hid (Text_rv v hv)
  have CP := Lib.hid (Parse_dec v hv)
  have CB := Lib.hid (fun A c w h => Bits_ok A c v w h hv)
  obtain ⟨n, hn⟩ : ∃ n, nb v = n := ⟨_, rfl⟩
  obtain ⟨m, hm⟩ : ∃ m, nb v - 1 = m := ⟨_, rfl⟩
  have hn8 : n ≤ 8192 := by rw [← hn]; exact (nb_le v 8192).2 hv
  have hz0 : v / 2 ^ n = 0 := by rw [← hn]; exact Nat.div_eq_of_lt (nb_lt v)
  obtain ⟨hi, hhi⟩ : ∃ x, v / 2 ^ m = x := ⟨_, rfl⟩
  have hh1 : v ≠ 0 → hi = 1 := fun h => by rw [← hhi, ← hm]; exact div_top h
  have CS1 := Lib.hid (ShiftDown_rv v m hi hhi hv (by omega))
  have CS2 := Lib.hid (ShiftDown_rv v n 0 hz0 hv (by omega))
  rw [hn] at CB
  have hmax : max (0 : Int) ((n : Int) - 1) = (m : Int) := by omega
  have hw1 : IntKind.i64.wrap ((n : Int) - 1) = (n : Int) - 1 := by rw [IntKind.wrap_i64]; omega
  obtain ⟨N1, hN1⟩ : ∃ N, -(m : Int) = N := ⟨_, rfl⟩
  obtain ⟨N2, hN2⟩ : ∃ N, -(n : Int) = N := ⟨_, rfl⟩
  have hw2 : IntKind.i64.wrap N1 = N1 := by rw [IntKind.wrap_i64]; omega
  have hw3 : IntKind.i64.wrap N2 = N2 := by rw [IntKind.wrap_i64]; omega
  rw [hN1] at CS1
  rw [hN2] at CS2
  obtain ⟨r, hr⟩ : ∃ r, rt v = r := ⟨_, rfl⟩
  have hi1 := rt_is v
  rw [hr] at hi1
  obtain ⟨q, hq⟩ : ∃ q, r * r = q := ⟨_, rfl⟩
  obtain ⟨mo, hmo⟩ : ∃ x, r + 1 = x := ⟨_, rfl⟩
  obtain ⟨p, hp⟩ : ∃ x, mo * mo = x := ⟨_, rfl⟩
  have i1 : q ≤ v := by rw [← hq]; exact hi1.1
  have i2 : v < p := by rw [← hp, ← hmo]; exact hi1.2
  have hrv : r ≤ v := by
    rcases Nat.eq_zero_or_pos r with h | h
    · omega
    · have := Nat.le_mul_of_pos_left r h; omega
  have br : r < 2 ^ 8192 := Nat.lt_of_le_of_lt hrv hv
  have bm' : mo < 2 ^ 961 := by
    rw [← hmo]
    have h961 : (2 : Nat) ^ 961 = 2 ^ 960 * 2 := Nat.pow_succ ..
    have h960 : v < 2 ^ 960 := b1
    have := Nat.two_pow_pos 960
    omega
  have bp : p < 2 ^ 8192 := by rw [← hp]; exact pow_lt' (mul_lt' bm' bm') (by decide)
  have bm := pow_lt' bm' (by decide)
  have bq : q < 2 ^ 8192 := Nat.lt_of_le_of_lt i1 hv
  have hrp : rt p = mo := rt_eq ⟨by rw [hp]; exact Nat.le_refl _, by rw [← hp]; exact Nat.mul_lt_mul_of_lt_of_lt (Nat.lt_succ_self _) (Nat.lt_succ_self _)⟩
  have one8 : 1 < 2 ^ 8192 := small_lt (by decide)
  have CR1 := Lib.hid (Root_rv v r hr hv)
  have CM1 := Lib.hid (Mul_rv r r q hq br br bq)
  have CA1 := Lib.hid (Add_rv r 1 mo hmo br one8 bm)
  have CM2 := Lib.hid (Mul_rv mo mo p hp bm bm bp)
  have CC1 := Lib.hid (Cmp_ok q v bq hv)
  have CC2 := Lib.hid (Cmp_ok p v bp hv)
  have CR2 := Lib.hid (Root_rv p mo hrp bp)
  obtain ⟨o1, ho1⟩ : ∃ x, ord q v = x := ⟨_, rfl⟩
  have ho1' : o1 ≤ 0 := by rw [← ho1]; unfold ord; split <;> (try split) <;> omega
  have ho2 : ord p v = 1 := by unfold ord; rw [if_neg (by omega), if_pos i2]
  rw [ho1] at CC1
  rw [ho2] at CC2
  have CS := Lib.hid (fun v => same_rv v)
  have ee : limbs 1 = [1] := lim1 (by decide) (by decide)
  have hL1 : (limbs 1).length = 1 := by rw [ee]; rfl
  have n1' : Hid ((limbs 1).length = 1 ∧ [Value.int .u32 1] = u32s (limbs 1)) := Lib.hid ⟨hL1, by rw [ee]; rfl⟩
  have hz : (limbs 0).length = 0 := by rw [limbs_zero]; rfl
  rw [hL1] at CA1
  have hlv : v ≠ 0 → 0 < (limbs v).length := len_ne
  have CS3 : Hid (∀ (A1 A2 : Option Addr) (c1 c2 : Nat) (w : World), SlW w A1 c1 (limbs 1) → SlW w A2 c2 (limbs 1) → Calls Try.prog 15 #[.slice A1 1 c1, .slice A2 1 c2] w fun e w' => e = .returned (.bool true) ∧ Below w.heap.size w w') := Lib.hid (fun A1 A2 c1 c2 w h1 h2 => by
    have := same_rv 1 A1 A2 c1 c2 w h1 h2
    rwa [hL1] at this)
  generalize hs : bstr (dec v) = s at *
  clear hs b1 hv hn hm hn8 hz0 hhi hr hi1 hq hmo hp i1 i2 hrv br bm' bp bm bq hrp one8 ho1 ho2 ee hl1
  generalize hn1 : l1.length = n1 at *
  clear hn1
  by_cases h0 : v = 0
  · subst h0
    clear hh1 hlv
    have CSz := Lib.hid (same_rv 0)
    rw [hz] at CSz CT CB CS1 CS2 CC1 CC2 CR1
    go_enter Try.func9, Try.ntmps9
    go_wp2_with (with_reducible refine G.any_mark _ ?_; (try generalize Array.size (World.heap (G.w _)) = bk); (try dsimp only [List.set_cons_zero, List.set_cons_succ]); (try clear g); intro g)
    refine (CL.out _).mono ?_
    rintro e w1 ⟨rfl, hb⟩
    obtain ⟨g1, rfl⟩ := G.call_ex _ hb
    clear hb
    (try clear g)
    revert g1
    intro g
    go_wp2_with (with_reducible refine G.any_mark _ ?_; (try generalize Array.size (World.heap (G.w _)) = bk); (try dsimp only [List.set_cons_zero, List.set_cons_succ]); (try clear g); intro g)
    refine (CV1.out _ (G.sl g (by simp) h1)).mono ?_
    rintro e w1 ⟨Aa, ca, Fa, rfl, hsa, hn⟩
    have hnna := fun k o hk => Nat.le_trans g.chg.size (hn.new k o hk)
    obtain ⟨g1, rfl⟩ := G.new_ex _ hn
    clear hn
    (try clear g)
    revert g1
    intro g
    go_wp2_with (with_reducible refine G.any_mark _ ?_; (try generalize Array.size (World.heap (G.w _)) = bk); (try dsimp only [List.set_cons_zero, List.set_cons_succ]); (try clear g); intro g)
    refine (CT.out _ _ _ (G.sl g (by simp) hsa)).mono ?_
    rintro e w1 ⟨rfl, hb⟩
    obtain ⟨g1, rfl⟩ := G.call_ex _ hb
    clear hb
    (try clear g)
    revert g1
    intro g
    go_wp2_with (with_reducible refine G.any_mark _ ?_; (try generalize Array.size (World.heap (G.w _)) = bk); (try dsimp only [List.set_cons_zero, List.set_cons_succ]); (try clear g); intro g)
    refine (CP.out _).mono ?_
    rintro e w1 ⟨Ab, cb, Fb, rfl, hsb, hn⟩
    have hnnb := fun k o hk => Nat.le_trans g.chg.size (hn.new k o hk)
    obtain ⟨g1, rfl⟩ := G.new_ex _ hn
    clear hn
    (try clear g)
    revert g1
    intro g
    go_wp2_with (with_reducible refine G.any_mark _ ?_; (try generalize Array.size (World.heap (G.w _)) = bk); (try dsimp only [List.set_cons_zero, List.set_cons_succ]); (try clear g); intro g)
    refine calls_mark _ ?_
    clear g
    intro g
    refine (CB.out _ _ _ (G.sl g (by simp) hsa)).mono ?_
    rintro e w1 ⟨rfl, hb⟩
    obtain ⟨g1, rfl⟩ := G.call_ex _ hb
    clear hb
    (try clear g)
    revert g1
    intro g
    go_wp2_with (with_reducible refine G.any_mark _ ?_; (try generalize Array.size (World.heap (G.w _)) = bk); (try dsimp only [List.set_cons_zero, List.set_cons_succ]); (try clear g); intro g)
    refine (CS1.out _ _ _ (G.sl g (by simp) hsa)).mono ?_
    rintro e w1 ⟨Ac, cc, Fc, rfl, hsc, hn⟩
    have hnnc := fun k o hk => Nat.le_trans g.chg.size (hn.new k o hk)
    obtain ⟨g1, rfl⟩ := G.new_ex _ hn
    clear hn
    (try clear g)
    revert g1
    intro g
    go_wp2_with (with_reducible refine G.any_mark _ ?_; (try generalize Array.size (World.heap (G.w _)) = bk); (try dsimp only [List.set_cons_zero, List.set_cons_succ]); (try clear g); intro g)
    refine (CS2.out _ _ _ (G.sl g (by simp) hsa)).mono ?_
    rintro e w1 ⟨Ad, cd, Fd, rfl, hsd, hn⟩
    have hnnd := fun k o hk => Nat.le_trans g.chg.size (hn.new k o hk)
    obtain ⟨g1, rfl⟩ := G.new_ex _ hn
    clear hn
    (try clear g)
    revert g1
    intro g
    go_wp2_with (with_reducible refine G.any_mark _ ?_; (try generalize Array.size (World.heap (G.w _)) = bk); (try dsimp only [List.set_cons_zero, List.set_cons_succ]); (try clear g); intro g)
    refine (CSz.out _ _ _ _ _ (G.sl g (by simp) hsa) (G.sl g (by simp) hsb)).mono ?_
    rintro e w1 ⟨rfl, hb⟩
    obtain ⟨g1, rfl⟩ := G.call_ex _ hb
    clear hb
    (try clear g)
    revert g1
    intro g
    go_wp2_with (with_reducible refine G.any_mark _ ?_; (try generalize Array.size (World.heap (G.w _)) = bk); (try dsimp only [List.set_cons_zero, List.set_cons_succ]); (try clear g); intro g)
    refine (CR1.out _ _ _ (G.sl g (by simp) hsa)).mono ?_
    rintro e w1 ⟨Ae, ce, Fe, rfl, hse, hn⟩
    have hnne := fun k o hk => Nat.le_trans g.chg.size (hn.new k o hk)
    obtain ⟨g1, rfl⟩ := G.new_ex _ hn
    clear hn
    (try clear g)
    revert g1
    intro g
    go_wp2_with (with_reducible refine G.any_mark _ ?_; (try generalize Array.size (World.heap (G.w _)) = bk); (try dsimp only [List.set_cons_zero, List.set_cons_succ]); (try clear g); intro g)
    refine (CM1.out _ _ _ _ _ (G.sl g (by simp) hse) (G.sl g (by simp) hse)).mono ?_
    rintro e w1 ⟨Af, cf, Ff, rfl, hsf, hn⟩
    have hnnf := fun k o hk => Nat.le_trans g.chg.size (hn.new k o hk)
    obtain ⟨g1, rfl⟩ := G.new_ex _ hn
    clear hn
    (try clear g)
    revert g1
    intro g
    go_wp2_with (with_reducible refine G.any_mark _ ?_; (try generalize Array.size (World.heap (G.w _)) = bk); (try dsimp only [List.set_cons_zero, List.set_cons_succ]); (try clear g); intro g)
    refine (CA1.out _ _ _ _ _ (G.sl g (by simp) hse) (G.lit0 g _ _ n1'.out.2 n1'.out.1 (by decide))).mono ?_
    rintro e w1 ⟨Ah, ch, Fh, rfl, hsh, hn⟩
    have hnnh := fun k o hk => Nat.le_trans g.chg.size (hn.new k o hk)
    obtain ⟨g1, rfl⟩ := G.new_ex _ hn
    clear hn
    (try clear g)
    revert g1
    intro g
    obtain ⟨g2, hg2⟩ := G.less g (M' := []) (List.nil_sublist _)
    rw [hg2]
    clear hg2
    (try clear g)
    revert g2
    intro g
    go_wp2_with (with_reducible refine G.any_mark _ ?_; (try generalize Array.size (World.heap (G.w _)) = bk); (try dsimp only [List.set_cons_zero, List.set_cons_succ]); (try clear g); intro g)
    refine (CM2.out _ _ _ _ _ (G.sl g (by simp) hsh) (G.sl g (by simp) hsh)).mono ?_
    rintro e w1 ⟨Ai, ci, Fi, rfl, hsi, hn⟩
    have hnni := fun k o hk => Nat.le_trans g.chg.size (hn.new k o hk)
    obtain ⟨g1, rfl⟩ := G.new_ex _ hn
    clear hn
    (try clear g)
    revert g1
    intro g
    go_wp2_with (with_reducible refine G.any_mark _ ?_; (try generalize Array.size (World.heap (G.w _)) = bk); (try dsimp only [List.set_cons_zero, List.set_cons_succ]); (try clear g); intro g)
    refine (CC1.out _ _ _ _ _ (G.sl g (by simp) hsf) (G.sl g (by simp) hsa)).mono ?_
    rintro e w1 ⟨rfl, hb⟩
    obtain ⟨g1, rfl⟩ := G.call_ex _ hb
    clear hb
    (try clear g)
    revert g1
    intro g
    go_wp2_with (with_reducible refine G.any_mark _ ?_; (try generalize Array.size (World.heap (G.w _)) = bk); (try dsimp only [List.set_cons_zero, List.set_cons_succ]); (try clear g); intro g)
    refine (CC2.out _ _ _ _ _ (G.sl g (by simp) hsi) (G.sl g (by simp) hsa)).mono ?_
    rintro e w1 ⟨rfl, hb⟩
    obtain ⟨g1, rfl⟩ := G.call_ex _ hb
    clear hb
    (try clear g)
    revert g1
    intro g
    go_wp2_with (with_reducible refine G.any_mark _ ?_; (try generalize Array.size (World.heap (G.w _)) = bk); (try dsimp only [List.set_cons_zero, List.set_cons_succ]); (try clear g); intro g)
    refine (CR2.out _ _ _ (G.sl g (by simp) hsi)).mono ?_
    rintro e w1 ⟨Aj, cj, Fj, rfl, hsj, hn⟩
    have hnnj := fun k o hk => Nat.le_trans g.chg.size (hn.new k o hk)
    obtain ⟨g1, rfl⟩ := G.new_ex _ hn
    clear hn
    (try clear g)
    revert g1
    intro g
    go_wp2_with (with_reducible refine G.any_mark _ ?_; (try generalize Array.size (World.heap (G.w _)) = bk); (try dsimp only [List.set_cons_zero, List.set_cons_succ]); (try clear g); intro g)
    refine (CS.out _ _ _ _ _ _ (G.sl g (by simp) hsj) (G.sl g (by simp) hsh)).mono ?_
    rintro e w1 ⟨rfl, hb⟩
    obtain ⟨g1, rfl⟩ := G.call_ex _ hb
    clear hb
    (try clear g)
    revert g1
    intro g
    go_wp2_with (with_reducible refine G.any_mark _ ?_; (try generalize Array.size (World.heap (G.w _)) = bk); (try dsimp only [List.set_cons_zero, List.set_cons_succ]); (try clear g); intro g)
    go_ret
    exact ⟨rfl, g.below⟩
  · have hhi := hh1 h0
    subst hhi
    have hlv' := hlv h0
    have hlvi : (0 : Int) < ((limbs v).length : Int) := by omega
    clear hh1 hlv h0
    go_enter Try.func9, Try.ntmps9
    go_wp2_with (with_reducible refine G.any_mark _ ?_; (try generalize Array.size (World.heap (G.w _)) = bk); (try dsimp only [List.set_cons_zero, List.set_cons_succ]); (try clear g); intro g)
    refine (CL.out _).mono ?_
    rintro e w1 ⟨rfl, hb⟩
    obtain ⟨g1, rfl⟩ := G.call_ex _ hb
    clear hb
    (try clear g)
    revert g1
    intro g
    go_wp2_with (with_reducible refine G.any_mark _ ?_; (try generalize Array.size (World.heap (G.w _)) = bk); (try dsimp only [List.set_cons_zero, List.set_cons_succ]); (try clear g); intro g)
    refine (CV1.out _ (G.sl g (by simp) h1)).mono ?_
    rintro e w1 ⟨Aa, ca, Fa, rfl, hsa, hn⟩
    have hnna := fun k o hk => Nat.le_trans g.chg.size (hn.new k o hk)
    obtain ⟨g1, rfl⟩ := G.new_ex _ hn
    clear hn
    (try clear g)
    revert g1
    intro g
    go_wp2_with (with_reducible refine G.any_mark _ ?_; (try generalize Array.size (World.heap (G.w _)) = bk); (try dsimp only [List.set_cons_zero, List.set_cons_succ]); (try clear g); intro g)
    refine (CT.out _ _ _ (G.sl g (by simp) hsa)).mono ?_
    rintro e w1 ⟨rfl, hb⟩
    obtain ⟨g1, rfl⟩ := G.call_ex _ hb
    clear hb
    (try clear g)
    revert g1
    intro g
    go_wp2_with (with_reducible refine G.any_mark _ ?_; (try generalize Array.size (World.heap (G.w _)) = bk); (try dsimp only [List.set_cons_zero, List.set_cons_succ]); (try clear g); intro g)
    refine (CP.out _).mono ?_
    rintro e w1 ⟨Ab, cb, Fb, rfl, hsb, hn⟩
    have hnnb := fun k o hk => Nat.le_trans g.chg.size (hn.new k o hk)
    obtain ⟨g1, rfl⟩ := G.new_ex _ hn
    clear hn
    (try clear g)
    revert g1
    intro g
    go_wp2_with (with_reducible refine G.any_mark _ ?_; (try generalize Array.size (World.heap (G.w _)) = bk); (try dsimp only [List.set_cons_zero, List.set_cons_succ]); (try clear g); intro g)
    refine calls_mark _ ?_
    clear g
    intro g
    refine (CB.out _ _ _ (G.sl g (by simp) hsa)).mono ?_
    rintro e w1 ⟨rfl, hb⟩
    obtain ⟨g1, rfl⟩ := G.call_ex _ hb
    clear hb
    (try clear g)
    revert g1
    intro g
    go_wp2_with (with_reducible refine G.any_mark _ ?_; (try generalize Array.size (World.heap (G.w _)) = bk); (try dsimp only [List.set_cons_zero, List.set_cons_succ]); (try clear g); intro g)
    refine (CS1.out _ _ _ (G.sl g (by simp) hsa)).mono ?_
    rintro e w1 ⟨Ac, cc, Fc, rfl, hsc, hn⟩
    have hnnc := fun k o hk => Nat.le_trans g.chg.size (hn.new k o hk)
    obtain ⟨g1, rfl⟩ := G.new_ex _ hn
    clear hn
    (try clear g)
    revert g1
    intro g
    go_wp2_with (with_reducible refine G.any_mark _ ?_; (try generalize Array.size (World.heap (G.w _)) = bk); (try dsimp only [List.set_cons_zero, List.set_cons_succ]); (try clear g); intro g)
    refine (CS2.out _ _ _ (G.sl g (by simp) hsa)).mono ?_
    rintro e w1 ⟨Ad, cd, Fd, rfl, hsd, hn⟩
    have hnnd := fun k o hk => Nat.le_trans g.chg.size (hn.new k o hk)
    obtain ⟨g1, rfl⟩ := G.new_ex _ hn
    clear hn
    (try clear g)
    revert g1
    intro g
    go_wp2_with (with_reducible refine G.any_mark _ ?_; (try generalize Array.size (World.heap (G.w _)) = bk); (try dsimp only [List.set_cons_zero, List.set_cons_succ]); (try clear g); intro g)
    refine (CS.out _ _ _ _ _ _ (G.sl g (by simp) hsa) (G.sl g (by simp) hsb)).mono ?_
    rintro e w1 ⟨rfl, hb⟩
    obtain ⟨g1, rfl⟩ := G.call_ex _ hb
    clear hb
    (try clear g)
    revert g1
    intro g
    go_wp2_with (with_reducible refine G.any_mark _ ?_; (try generalize Array.size (World.heap (G.w _)) = bk); (try dsimp only [List.set_cons_zero, List.set_cons_succ]); (try clear g); intro g)
    refine (CS3.out _ _ _ _ _ (G.sl g (by simp) hsc) (G.lit0 g _ _ n1'.out.2 n1'.out.1 (by decide))).mono ?_
    rintro e w1 ⟨rfl, hb⟩
    obtain ⟨g1, rfl⟩ := G.call_ex _ hb
    clear hb
    (try clear g)
    revert g1
    intro g
    obtain ⟨g2, hg2⟩ := G.less g (M' := []) (List.nil_sublist _)
    rw [hg2]
    clear hg2
    (try clear g)
    revert g2
    intro g
    go_wp2_with (with_reducible refine G.any_mark _ ?_; (try generalize Array.size (World.heap (G.w _)) = bk); (try dsimp only [List.set_cons_zero, List.set_cons_succ]); (try clear g); intro g)
    refine (CR1.out _ _ _ (G.sl g (by simp) hsa)).mono ?_
    rintro e w1 ⟨Ae, ce, Fe, rfl, hse, hn⟩
    have hnne := fun k o hk => Nat.le_trans g.chg.size (hn.new k o hk)
    obtain ⟨g1, rfl⟩ := G.new_ex _ hn
    clear hn
    (try clear g)
    revert g1
    intro g
    go_wp2_with (with_reducible refine G.any_mark _ ?_; (try generalize Array.size (World.heap (G.w _)) = bk); (try dsimp only [List.set_cons_zero, List.set_cons_succ]); (try clear g); intro g)
    refine (CM1.out _ _ _ _ _ (G.sl g (by simp) hse) (G.sl g (by simp) hse)).mono ?_
    rintro e w1 ⟨Af, cf, Ff, rfl, hsf, hn⟩
    have hnnf := fun k o hk => Nat.le_trans g.chg.size (hn.new k o hk)
    obtain ⟨g1, rfl⟩ := G.new_ex _ hn
    clear hn
    (try clear g)
    revert g1
    intro g
    go_wp2_with (with_reducible refine G.any_mark _ ?_; (try generalize Array.size (World.heap (G.w _)) = bk); (try dsimp only [List.set_cons_zero, List.set_cons_succ]); (try clear g); intro g)
    refine (CA1.out _ _ _ _ _ (G.sl g (by simp) hse) (G.lit0 g _ _ n1'.out.2 n1'.out.1 (by decide))).mono ?_
    rintro e w1 ⟨Ah, ch, Fh, rfl, hsh, hn⟩
    have hnnh := fun k o hk => Nat.le_trans g.chg.size (hn.new k o hk)
    obtain ⟨g1, rfl⟩ := G.new_ex _ hn
    clear hn
    (try clear g)
    revert g1
    intro g
    obtain ⟨g2, hg2⟩ := G.less g (M' := []) (List.nil_sublist _)
    rw [hg2]
    clear hg2
    (try clear g)
    revert g2
    intro g
    go_wp2_with (with_reducible refine G.any_mark _ ?_; (try generalize Array.size (World.heap (G.w _)) = bk); (try dsimp only [List.set_cons_zero, List.set_cons_succ]); (try clear g); intro g)
    refine (CM2.out _ _ _ _ _ (G.sl g (by simp) hsh) (G.sl g (by simp) hsh)).mono ?_
    rintro e w1 ⟨Ai, ci, Fi, rfl, hsi, hn⟩
    have hnni := fun k o hk => Nat.le_trans g.chg.size (hn.new k o hk)
    obtain ⟨g1, rfl⟩ := G.new_ex _ hn
    clear hn
    (try clear g)
    revert g1
    intro g
    go_wp2_with (with_reducible refine G.any_mark _ ?_; (try generalize Array.size (World.heap (G.w _)) = bk); (try dsimp only [List.set_cons_zero, List.set_cons_succ]); (try clear g); intro g)
    refine (CC1.out _ _ _ _ _ (G.sl g (by simp) hsf) (G.sl g (by simp) hsa)).mono ?_
    rintro e w1 ⟨rfl, hb⟩
    obtain ⟨g1, rfl⟩ := G.call_ex _ hb
    clear hb
    (try clear g)
    revert g1
    intro g
    go_wp2_with (with_reducible refine G.any_mark _ ?_; (try generalize Array.size (World.heap (G.w _)) = bk); (try dsimp only [List.set_cons_zero, List.set_cons_succ]); (try clear g); intro g)
    refine (CC2.out _ _ _ _ _ (G.sl g (by simp) hsi) (G.sl g (by simp) hsa)).mono ?_
    rintro e w1 ⟨rfl, hb⟩
    obtain ⟨g1, rfl⟩ := G.call_ex _ hb
    clear hb
    (try clear g)
    revert g1
    intro g
    go_wp2_with (with_reducible refine G.any_mark _ ?_; (try generalize Array.size (World.heap (G.w _)) = bk); (try dsimp only [List.set_cons_zero, List.set_cons_succ]); (try clear g); intro g)
    refine (CR2.out _ _ _ (G.sl g (by simp) hsi)).mono ?_
    rintro e w1 ⟨Aj, cj, Fj, rfl, hsj, hn⟩
    have hnnj := fun k o hk => Nat.le_trans g.chg.size (hn.new k o hk)
    obtain ⟨g1, rfl⟩ := G.new_ex _ hn
    clear hn
    (try clear g)
    revert g1
    intro g
    go_wp2_with (with_reducible refine G.any_mark _ ?_; (try generalize Array.size (World.heap (G.w _)) = bk); (try dsimp only [List.set_cons_zero, List.set_cons_succ]); (try clear g); intro g)
    refine (CS.out _ _ _ _ _ _ (G.sl g (by simp) hsj) (G.sl g (by simp) hsh)).mono ?_
    rintro e w1 ⟨rfl, hb⟩
    obtain ⟨g1, rfl⟩ := G.call_ex _ hb
    clear hb
    (try clear g)
    revert g1
    intro g
    go_wp2_with (with_reducible refine G.any_mark _ ?_; (try generalize Array.size (World.heap (G.w _)) = bk); (try dsimp only [List.set_cons_zero, List.set_cons_succ]); (try clear g); intro g)
    go_ret
    exact ⟨rfl, g.below⟩
end Go.Proofs.Ytfifcpgjcgoinaa
