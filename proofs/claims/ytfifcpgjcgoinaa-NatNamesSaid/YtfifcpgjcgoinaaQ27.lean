/- Plain facts and contracts of functions of the program, out of walks. Their conditions stand ahead of each. -/
import Derived.Test.YtfifcpgjcgoinaaQ17
import Derived.Test.YtfifcpgjcgoinaaQ25
import Derived.Test.YtfifcpgjcgoinaaQ26
set_option linter.unusedVariables false
set_option linter.unusedSimpArgs false
set_option exponentiation.threshold 10000
namespace Go.Proofs.Ytfifcpgjcgoinaa
open Go.RowKit GW NL
theorem len_nb {u v : Nat} (h : nb u = nb v) : (limbs u).length = (limbs v).length := by
  have key : ∀ {x y : Nat}, nb x = nb y → (limbs x).length ≤ (limbs y).length := by
    intro x y h
    refine (limbs_len _ _).2 ?_
    have := (limbs_len y _).1 (Nat.le_refl _)
    rw [pow32] at this ⊢
    exact (nb_le _ _).1 (by rw [h]; exact (nb_le _ _).2 this)
  exact Nat.le_antisymm (key h) (key h.symm)
theorem nb_len (a : Nat) : nb a ≤ 32 * (limbs a).length := by
  have := (limbs_len a _).1 (Nat.le_refl _)
  rw [pow32] at this
  exact (nb_le a _).2 this
theorem nb_shift {b n : Nat} (hb : b ≠ 0) : nb (b * 2 ^ n) = nb b + n := by
  apply nb_uniq
  · rw [Nat.pow_add]; exact Nat.mul_lt_mul_of_pos_right (nb_lt b) (Nat.two_pow_pos n)
  · right
    have h1 := nb_pos hb
    rw [show nb b + n - 1 = (nb b - 1) + n by omega, Nat.pow_add]
    exact Nat.mul_le_mul_right _ (nb_ge hb)
theorem apart_m {w0 : World} {X : List Nat} {M : List Blk} {I : List Frag} (g : G w0 X M I) {i j : Nat} {x y : Blk} (hi : M[i]? = some x) (hj : M[j]? = some y) (hne : i ≠ j) : Apart (some ⟨x.1, 0, none⟩) y.1 := by
  intro a e
  cases e
  exact dist_ne g.dist hi hj hne
theorem rquot_less (A1 A2 : Option Addr) (c1 c2 a b : Nat) (w : World) (h1 : SlW w A1 c1 (limbs a)) (h2 : SlW w A2 c2 (limbs b)) (hl1 : (limbs a).length ≤ 100000000) (hl2 : (limbs b).length ≤ 100000000) (hn : nb a < nb b) :
    Calls Try.prog 68 #[.slice A1 (limbs a).length c1, .slice A2 (limbs b).length c2] w (RNN (a / b) (a % b) w) := by
  refine calls_b fun g => ?_
  have hab : a < b := by
    rcases Nat.lt_or_ge a b with h | h
    · exact h
    · have h3 := nb_lt a
      have : nb b ≤ nb a := (nb_le b _).2 (Nat.lt_of_le_of_lt h h3)
      omega
  rw [Nat.div_eq_of_lt hab, Nat.mod_eq_of_lt hab]
  have C1 := Lib.hid (fun w h1 => rbits_any A1 c1 a w h1 (by omega))
  have C2 := Lib.hid (fun w h2 => rbits_any A2 c2 b w h2 (by omega))
  have C3 := Lib.hid (fun w h => own_any A1 c1 (limbs a) w h (by omega))
  unfold RLim at C3
  have hna : nb a ≤ 3200000000 := by have := nb_len a; omega
  have hnb : nb b ≤ 3200000000 := by have := nb_len b; omega
  generalize nb a = na at *
  generalize nb b = nb' at *
  obtain ⟨N, hN⟩ : ∃ N, (na : Int) - (nb' : Int) = N := ⟨_, rfl⟩
  have hN0 : N < 0 := by omega
  have hw : IntKind.i64.wrap N = N := by rw [IntKind.wrap_i64]; omega
  clear hab hn hna hnb
  go_enter Try.func68, Try.ntmps68
  go_wp2_with (with_reducible refine G.any_mark _ ?_; (try generalize Array.size (World.heap (G.w _)) = bk); (try dsimp only [List.set_cons_zero, List.set_cons_succ]); (try clear g); intro g)
  refine (C1.out _ (G.sl g (by simp) h1)).mono ?_
  rintro e w1 ⟨rfl, hb⟩
  obtain ⟨g1, rfl⟩ := G.call_ex _ hb
  clear hb
  (try clear g)
  revert g1
  intro g
  go_wp2_with (with_reducible refine G.any_mark _ ?_; (try generalize Array.size (World.heap (G.w _)) = bk); (try dsimp only [List.set_cons_zero, List.set_cons_succ]); (try clear g); intro g)
  refine (C2.out _ (G.sl g (by simp) h2)).mono ?_
  rintro e w1 ⟨rfl, hb⟩
  obtain ⟨g1, rfl⟩ := G.call_ex _ hb
  clear hb
  (try clear g)
  revert g1
  intro g
  go_wp2_with (with_reducible refine G.any_mark _ ?_; (try generalize Array.size (World.heap (G.w _)) = bk); (try dsimp only [List.set_cons_zero, List.set_cons_succ]); (try clear g); intro g)
  refine (C3.out _ (G.sl g (by simp) h1)).mono ?_
  rintro e w1 ⟨A, c, F, rfl, hs, hn⟩
  have hnn := fun k o hk => Nat.le_trans g.chg.size (hn.new k o hk)
  obtain ⟨g1, rfl⟩ := G.new_ex _ hn
  clear hn
  (try clear g)
  revert g1
  intro g
  go_wp2_with (with_reducible refine G.any_mark _ ?_; (try generalize Array.size (World.heap (G.w _)) = bk); (try dsimp only [List.set_cons_zero, List.set_cons_succ]); (try clear g); intro g)
  go_ret2
  exact ⟨none, 0, (fun _ => none), _, _, _, by rw [limbs_zero]; rfl, by rw [limbs_zero]; exact Frag.Sl.nil _ _, hs, g.none, g.pass (by simp) hnn⟩
set_option maxRecDepth 20000 in
set_option maxHeartbeats 4000000 in
theorem rquot_more (A1 A2 : Option Addr) (c1 c2 a b n0 : Nat) (w : World) (h1 : SlW w A1 c1 (limbs a)) (h2 : SlW w A2 c2 (limbs b)) (hl1 : (limbs a).length ≤ 10000000) (hb0 : b ≠ 0) (hn : nb a = nb b + n0) :
    Calls Try.prog 68 #[.slice A1 (limbs a).length c1, .slice A2 (limbs b).length c2] w (RNN (a / b) (a % b) w) := by
  refine calls_b fun g => ?_
  have hl2 : (limbs b).length ≤ 10000000 := by
    refine Nat.le_trans ((limbs_len _ _).2 ?_) hl1
    have := (limbs_len a _).1 (Nat.le_refl _)
    rw [pow32] at this ⊢
    exact (nb_le _ _).1 (by have := (nb_le a _).2 this; omega)
  have hna : nb a ≤ 320000000 := by have := nb_len a; omega
  have ha0 : a ≠ 0 := by
    intro e
    subst e
    have := nb_pos hb0
    rw [nb_zero] at hn
    omega
  have hn9 : n0 ≤ 320000000 := by omega
  have C1 := Lib.hid (fun w h1 => rbits_any A1 c1 a w h1 (by omega))
  have C2 := Lib.hid (fun w h2 => rbits_any A2 c2 b w h2 (by omega))
  have C3 := Lib.hid (fun w h => own_own A1 c1 (limbs a) w h (by omega) (len_ne ha0))
  have C4 := Lib.hid (fun w h => rshift_own A2 c2 (limbs b) n0 w h (by omega) (by omega))
  rw [val_limbs] at C4
  unfold ROwn at C3 C4
  have hld : (limbs (b * 2 ^ n0)).length = (limbs a).length := len_nb (by rw [nb_shift hb0]; exact hn.symm)
  rw [hld] at C4
  have HQ := Lib.hid (Qb.start hb0 hn)
  have HDV : Hid (val (limbs (b * 2 ^ n0)) = b * 2 ^ n0) := Lib.hid (val_limbs _)
  have HRV : Hid (val (limbs a) = a) := Lib.hid (val_limbs _)
  have oa := ok_limbs a
  have od := ok_limbs (b * 2 ^ n0)
  have hf : ((nb a : Nat) : Int) - ((nb b : Nat) : Int) = (n0 : Int) := by omega
  have hwn : IntKind.i64.wrap (n0 : Int) = (n0 : Int) := by rw [IntKind.wrap_i64]; omega
  obtain ⟨la, hla⟩ : ∃ la, (limbs a).length = la := ⟨_, rfl⟩
  rw [hla] at C1 C3 C4 hld hl1 ⊢
  have HLA := Lib.hid hla
  have HLD := Lib.hid hld
  obtain ⟨lb, hlb⟩ : ∃ lb, (limbs b).length = lb := ⟨_, rfl⟩
  rw [hlb] at C2 C4 ⊢
  clear hla hld hlb hl2
  generalize limbs (b * 2 ^ n0) = dl0 at *
  obtain ⟨m, hm⟩ : ∃ m, n0 / 32 + 1 = m := ⟨_, rfl⟩
  have hq1 : Int.tdiv (n0 : Int) 32 = ((n0 / 32 : Nat) : Int) := by rw [Int.tdiv_eq_ediv_of_nonneg (by omega)]; omega
  have hq2 : ((n0 / 32 : Nat) : Int) + 1 = (m : Int) := by omega
  have hmk : ∀ w, (Instr.makeSlice 24 (.int .i64 (m : Int)) (.int .i64 (m : Int))).run Try.prog w = .ok (.slice (some ⟨w.heap.size, 0, none⟩) m m) (w.alloc (.cells (u32s (List.replicate m 0)).toArray 30)) := fun w => make_nat m (by omega) w
  have hm9 : m ≤ 10000001 := by omega
  have hmn : ∀ k, k ≤ n0 → k / 32 < m := fun k hk => by omega
  have HMN := Lib.hid hmn
  clear hm hmn ha0 hna
  generalize n0 / 32 = n32 at *
  generalize nb a = na at *
  generalize nb b = nb' at *
  clear hn
  go_enter Try.func68, Try.ntmps68
  go_wp2_with (with_reducible refine G.any_mark _ ?_; (try generalize Array.size (World.heap (G.w _)) = bk); (try dsimp only [List.set_cons_zero, List.set_cons_succ]); (try clear g); intro g)
  refine (C1.out _ (G.sl g (by simp) h1)).mono ?_
  rintro e w1 ⟨rfl, hb⟩
  obtain ⟨g1, rfl⟩ := G.call_ex _ hb
  clear hb
  (try clear g)
  revert g1
  intro g
  go_wp2_with (with_reducible refine G.any_mark _ ?_; (try generalize Array.size (World.heap (G.w _)) = bk); (try dsimp only [List.set_cons_zero, List.set_cons_succ]); (try clear g); intro g)
  refine (C2.out _ (G.sl g (by simp) h2)).mono ?_
  rintro e w1 ⟨rfl, hb⟩
  obtain ⟨g1, rfl⟩ := G.call_ex _ hb
  clear hb
  (try clear g)
  revert g1
  intro g
  go_wp2_with (with_reducible refine G.any_mark _ ?_; (try generalize Array.size (World.heap (G.w _)) = bk); (try dsimp only [List.set_cons_zero, List.set_cons_succ]); (try clear g); intro g)
  refine (C3.out _ (G.sl g (by simp) h1)).mono ?_
  rintro e w1 ⟨rb, rcap, rcs, rfl, hrow, hbe, hfr, hbl⟩
  obtain ⟨g1, rfl⟩ := G.own_ex g hbe hfr hbl
  clear hbe hfr hbl g
  revert g1
  intro g
  go_wp2_with (with_reducible refine G.any_mark _ ?_; (try generalize Array.size (World.heap (G.w _)) = bk); (try dsimp only [List.set_cons_zero, List.set_cons_succ]); (try clear g); intro g)
  refine (C4.out _ (G.sl g (by simp) h2)).mono ?_
  rintro e w1 ⟨db, dcap, dcs, rfl, hdrow, hbe, hfr, hbl⟩
  obtain ⟨g1, rfl⟩ := G.own_ex g hbe hfr hbl
  clear hbe hfr hbl g
  revert g1
  intro g
  go_wp2_with (with_reducible refine G.any_mark _ ?_; (try generalize Array.size (World.heap (G.w _)) = bk); (try dsimp only [List.set_cons_zero, List.set_cons_succ]); (try clear g); intro g)
  clear C1 C2 C3 C4 hmk hq1 hq2 hf hwn
  obtain ⟨qb, rfl⟩ : ∃ qb : Nat, qb = bk := ⟨_, rfl⟩
  have HI0 : Hid ((limbs a).length = la ∧ Ok (limbs a) ∧ dl0.length = la ∧ Ok dl0 ∧ (List.replicate m 0).length = m ∧ Ok (List.replicate m 0) ∧ (∀ k, n0 + 1 = k + 1 → val dl0 = b * 2 ^ k) ∧ Qb a b (n0 + 1) (val (limbs a)) (val (List.replicate m 0))) :=
    Lib.hid ⟨HLA.out, oa, HLD.out, od, List.length_replicate, Ok.zeros _, fun k hk => by rw [show k = n0 by omega]; exact HDV.out, by rw [HRV.out, val_zeros]; exact HQ.out⟩
  clear HQ HDV HRV HLA HLD
  go_loopg [6] (n0 + 1) (fun gk s6 wr => ∃ (rl dl ql : List Nat) (rcs dcs : List Value), s6 = .int .i64 ((gk : Int) - 1) ∧ gk ≤ n0 + 1 ∧ Hid (rl.length = la ∧ Ok rl ∧ dl.length = la ∧ Ok dl ∧ ql.length = m ∧ Ok ql ∧ (∀ k, gk = k + 1 → val dl = b * 2 ^ k) ∧ Qb a b gk (val rl) (val ql)) ∧ Row 30 1 la (u32s rl) rcap rcs ∧ Row 30 1 la (u32s dl) dcap dcs ∧ ∃ g : G w [] [(qb, 30, u32s ql), (db, 30, dcs), (rb, 30, rcs)] [heapOf w], wr = g.w)
  case atStart => exact ⟨limbs a, dl0, List.replicate m 0, rcs, dcs, by go_num, Nat.le_refl _, HI0, hrow, hdrow, g, rfl⟩
  case round =>
    clear g hrow hdrow HI0 rcs dcs
    obtain ⟨rl, dl, ql, rcs, dcs, rfl, hg, HI, hrow, hdrow, g, rfl⟩ := hrel
    cases gk with
    | zero =>
      obtain ⟨i1, i2, i3, i4, i5, i6, _, i8⟩ := HI.out
      obtain ⟨e1, e2⟩ := i8.stop
      have T1 := Lib.hid (fun w h => rtrim_any (some ⟨qb, 0, none⟩) m ql w h)
      have T2 := Lib.hid (fun w h => rtrim_any (some ⟨rb, 0, none⟩) rcap rl w h)
      rw [i5, e1] at T1
      rw [i1, e2] at T2
      have S1 := Lib.hid (sl_trim (sl_blk (b := qb) (T := 30) (l := ql) (fr := (0, 0)) (c := m) (by omega) (by omega) i6))
      have S2 := Lib.hid (sl_trim (sl_row (b := rb) hrow i1 (by omega) i2))
      rw [e1] at S1
      rw [e2] at S2
      have P1 := Lib.hid (fun (g : G w [] [(qb, 30, u32s ql), (db, 30, dcs), (rb, 30, rcs)] [heapOf w]) => (sl_blk (b := qb) (T := 30) (l := ql) (fr := (0, 0)) (c := m) (by omega) (by omega) i6).at (blkF_sub g.blk0))
      have P2 := Lib.hid (fun (g : G w [] [(qb, 30, u32s ql), (db, 30, dcs), (rb, 30, rcs)] [heapOf w]) => (sl_row (b := rb) hrow i1 (by omega) i2).at (blkF_sub g.blk2))
      clear i1 i2 i3 i4 i5 i6 i8 e1 e2 HI
      generalize a / b = q at *
      generalize a % b = r at *
      go_wp2_with (with_reducible refine G.any_mark _ ?_; (try generalize Array.size (World.heap (G.w _)) = bk); (try dsimp only [List.set_cons_zero, List.set_cons_succ]); (try clear g); intro g)
      refine (T1.out _ (P1.out g)).mono ?_
      rintro e w1 ⟨rfl, hb⟩
      obtain ⟨g1, rfl⟩ := G.call_ex _ hb
      clear hb
      (try clear g)
      revert g1
      intro g
      go_wp2_with (with_reducible refine G.any_mark _ ?_; (try generalize Array.size (World.heap (G.w _)) = bk); (try dsimp only [List.set_cons_zero, List.set_cons_succ]); (try clear g); intro g)
      refine (T2.out _ (P2.out g)).mono ?_
      rintro e w1 ⟨rfl, hb⟩
      obtain ⟨g1, rfl⟩ := G.call_ex _ hb
      clear hb
      (try clear g)
      revert g1
      intro g
      go_wp2_with (with_reducible refine G.any_mark _ ?_; (try generalize Array.size (World.heap (G.w _)) = bk); (try dsimp only [List.set_cons_zero, List.set_cons_succ]); (try clear g); intro g)
      go_ret2
      exact ⟨_, _, _, _, _, _, rfl, S1.out, S2.out, g.give (List.mem_cons_self ..), g.give (by simp)⟩
    | succ k =>
      rw [show ((k + 1 : Nat) : Int) - 1 = (k : Int) by omega]
      have hk0 : (0 : Int) ≤ (k : Int) := by omega
      have CB := Lib.hid (fun (g : G w [] [(qb, 30, u32s ql), (db, 30, dcs), (rb, 30, rcs)] [heapOf w]) => rbelow_any (some ⟨rb, 0, none⟩) (some ⟨db, 0, none⟩) rcap dcap la rl dl g.w ((sl_row (b := rb) hrow HI.out.1 (by omega) HI.out.2.1).at (blkF_sub g.blk2)) ((sl_row (b := db) hdrow HI.out.2.2.1 (by omega) HI.out.2.2.2.1).at (blkF_sub g.blk1)) HI.out.1 HI.out.2.2.1 (by omega))
      by_cases hlt : val rl < val dl
      · rw [decide_eq_true hlt] at CB
        have CH := Lib.hid (fun (g : G w [] [(qb, 30, u32s ql), (db, 30, dcs), (rb, 30, rcs)] [heapOf w]) => rhalve_any db la dcap dcs dl g.w g.blk1 hdrow HI.out.2.2.1 HI.out.2.2.2.1 (by omega))
        have HK : Hid (Qb a b k (val rl) (val ql)) := Lib.hid (HI.out.2.2.2.2.2.2.2.keep (by rw [← HI.out.2.2.2.2.2.2.1 k rfl]; exact hlt))
        clear hlt
        go_wp2_with (with_reducible refine G.any_mark _ ?_; (try generalize Array.size (World.heap (G.w _)) = bk); (try dsimp only [List.set_cons_zero, List.set_cons_succ]); (try clear g); intro g)
        refine (CB.out g).mono ?_
        rintro e w1 ⟨rfl, rfl⟩
        go_wp2_with (with_reducible refine G.any_mark _ ?_; (try generalize Array.size (World.heap (G.w _)) = bk); (try dsimp only [List.set_cons_zero, List.set_cons_succ]); (try clear g); intro g)
        refine (CH.out g).mono ?_
        rintro e w1 ⟨rfl, hch, dl', dcs', hhb, hdrow', j1, j2, j3⟩
        obtain ⟨g1, rfl⟩ := G.mut1 g hch hhb
        clear hch hhb g
        revert g1
        intro g
        have HI2 : Hid (rl.length = la ∧ Ok rl ∧ dl'.length = la ∧ Ok dl' ∧ ql.length = m ∧ Ok ql ∧ (∀ k', k = k' + 1 → val dl' = b * 2 ^ k') ∧ Qb a b k (val rl) (val ql)) :=
          Lib.hid ⟨HI.out.1, HI.out.2.1, j1, j2, HI.out.2.2.2.2.1, HI.out.2.2.2.2.2.1, fun k' hk' => by
            rw [j3, HI.out.2.2.2.2.2.2.1 k rfl, hk', Nat.pow_succ, ← Nat.mul_assoc, Nat.mul_div_cancel _ (by decide)], HK.out⟩
        have HRW := Lib.hid hdrow'
        clear j1 j2 j3 hdrow' CB CH
        go_wp2_with (with_reducible refine G.any_mark _ ?_; (try generalize Array.size (World.heap (G.w _)) = bk); (try dsimp only [List.set_cons_zero, List.set_cons_succ]); (try clear g); intro g)
        go_roundg k
        case measure => omega
        case rel => exact ⟨rl, dl', ql, rcs, dcs', by go_num, by omega, HI2, hrow, HRW.out, g, rfl⟩
      · rw [decide_eq_false hlt] at CB
        have CTk := Lib.hid (fun (g : G w [] [(qb, 30, u32s ql), (db, 30, dcs), (rb, 30, rcs)] [heapOf w]) => rtake_any rb la rcap rcs rl dl (some ⟨db, 0, none⟩) dcap g.w g.blk2 hrow ((sl_row (b := db) hdrow HI.out.2.2.1 (by omega) HI.out.2.2.2.1).at (blkF_sub g.blk1)) (apart_m g (i := 1) (j := 2) rfl rfl (by decide)) HI.out.1 HI.out.2.2.1 HI.out.2.1 (by omega) (by omega))
        have hkm := HMN.out k (by omega)
        obtain ⟨s1, s2, s3⟩ := bit_set (q := ql) (k := k) HI.out.2.2.2.2.2.1 (by rw [HI.out.2.2.2.2.1]; exact hkm) HI.out.2.2.2.2.2.2.2.dvd
        have HK : Hid (Qb a b k (val rl - val dl) (val ql + 2 ^ k)) := Lib.hid (by
          have e := HI.out.2.2.2.2.2.2.1 k rfl
          rw [e]
          exact HI.out.2.2.2.2.2.2.2.sub (by rw [← e]; omega))
        have hql9 := HI.out.2.2.2.2.2.1.getD (k / 32)
        have hcell := u32s_getD (l := ql) (j := k / 32) (by rw [HI.out.2.2.2.2.1]; exact hkm)
        obtain ⟨j, hj⟩ : ∃ j, k / 32 = j := ⟨_, rfl⟩
        obtain ⟨r, hr⟩ : ∃ r, k % 32 = r := ⟨_, rfl⟩
        rw [hj] at hkm s1 s2 s3 hql9 hcell
        rw [hr] at s1 s2 s3
        have hr32 : r < 32 := by omega
        have f1 : Int.tdiv (k : Int) 32 = (j : Int) := by rw [Int.tdiv_eq_ediv_of_nonneg (by omega)]; omega
        have f2 : Int.tmod (k : Int) 32 = (r : Int) := by rw [Int.tmod_eq_emod_of_nonneg (by omega)]; omega
        generalize ql.getD j 0 = y at *
        have hpr : 2 ^ r < 2 ^ (r + 1) := Nat.pow_lt_pow_right (by decide) (by omega)
        have hp9 : 2 ^ r < 4294967296 := Nat.lt_of_lt_of_le (Nat.pow_lt_pow_right (a := 2) (by decide) hr32) (Nat.le_refl _)
        have hor : bits .or .u32 (y : Int) ((2 ^ r : Nat) : Int) = ((y + 2 ^ r : Nat) : Int) := by
          rw [K3.or32_comm, K3.or32_add _ _ (r + 1) (by omega) hpr (by omega) s1]
        have hpi : (2 : Int) ^ r = ((2 ^ r : Nat) : Int) := by rw [Int.natCast_pow]; rfl
        have hset := Lib.hid (u32s_set ql j (y + 2 ^ r))
        have hv2 := Lib.hid s3
        have hok2 := HI.out.2.2.2.2.2.1.set j s2
        generalize 2 ^ r = p at *
        obtain ⟨yp, hyp⟩ : ∃ yp, y + p = yp := ⟨_, rfl⟩
        rw [hyp] at hor hset hv2 hok2 s2
        have hwp : IntKind.u32.wrap (p : Int) = (p : Int) := by rw [IntKind.wrap_u32]; omega
        have hwy : IntKind.u32.wrap (yp : Int) = (yp : Int) := by rw [IntKind.wrap_u32]; omega
        have hr0 : ¬ ((r : Int) < 0) := by omega
        have hr1 : (0 : Int) ≤ (r : Int) := by omega
        have hj0 : (0 : Int) ≤ (j : Int) := by omega
        have hjm : (j : Int) < (m : Int) := by omega
        have hwj : IntKind.i64.wrap (j : Int) = (j : Int) := by rw [IntKind.wrap_i64]; omega
        have hwr : IntKind.i64.wrap (r : Int) = (r : Int) := by rw [IntKind.wrap_i64]; omega
        have hlq : (ql.set j yp).length = m := by rw [List.length_set]; exact HI.out.2.2.2.2.1
        clear s1 s2 s3 hpr hj hr hyp hlt
        go_wp2_with (with_reducible refine G.any_mark _ ?_; (try generalize Array.size (World.heap (G.w _)) = bk); (try dsimp only [List.set_cons_zero, List.set_cons_succ]); (try clear g); intro g)
        refine (CB.out g).mono ?_
        rintro e w1 ⟨rfl, rfl⟩
        go_wp2_with (with_reducible refine G.any_mark _ ?_; (try generalize Array.size (World.heap (G.w _)) = bk); (try dsimp only [List.set_cons_zero, List.set_cons_succ]); (try clear g); intro g)
        refine (CTk.out g).mono ?_
        rintro e w1 ⟨rfl, hch, rl', rcs', hhb, hrow', j1, j2, j3⟩
        obtain ⟨g1, rfl⟩ := G.mut2 g hch hhb
        clear hch hhb g CB CTk
        revert g1
        intro g
        go_wp2_with (with_reducible refine G.any_mark _ ?_; (try generalize Array.size (World.heap (G.w _)) = bk); (try dsimp only [List.set_cons_zero, List.set_cons_succ]); (try clear g); intro g)
        go_region
        all_goals ((try simp only [G.drew_eq, G.drewN_eq]); (refine G.any_mark _ ?_; (try generalize Array.size (World.heap (G.w _)) = bk); (try dsimp only [List.set_cons_zero, List.set_cons_succ]); (try clear g); intro g))
        all_goals go_wp2_with (with_reducible refine G.any_mark _ ?_; (try generalize Array.size (World.heap (G.w _)) = bk); (try dsimp only [List.set_cons_zero, List.set_cons_succ]); (try clear g); intro g)
        all_goals
          obtain ⟨g2, hg2⟩ := g.as (by rw [hset.out])
          rw [hg2]
          clear hg2 g
          refine (rhalve_any db la dcap dcs dl g2.w g2.blk1 hdrow HI.out.2.2.1 HI.out.2.2.2.1 (by omega)).mono ?_
          rintro e w1 ⟨rfl, hch, dl', dcs', hhb, hdrow', q1, q2, q3⟩
          obtain ⟨g1, rfl⟩ := G.mut1 g2 hch hhb
          clear hch hhb g2
          revert g1
          intro g
          have HI2 : Hid (rl'.length = la ∧ Ok rl' ∧ dl'.length = la ∧ Ok dl' ∧ (ql.set j yp).length = m ∧ Ok (ql.set j yp) ∧ (∀ k', k = k' + 1 → val dl' = b * 2 ^ k') ∧ Qb a b k (val rl') (val (ql.set j yp))) :=
            Lib.hid ⟨j1, j2, q1, q2, hlq, hok2, fun k' hk' => by
              rw [q3, HI.out.2.2.2.2.2.2.1 k rfl, hk', Nat.pow_succ, ← Nat.mul_assoc, Nat.mul_div_cancel _ (by decide)], by rw [j3, hv2.out]; exact HK.out⟩
          have HRW := Lib.hid hdrow'
          have HRW2 := Lib.hid hrow'
          clear q1 q2 q3 hdrow' j1 j2 j3 hrow'
          go_wp2_with (with_reducible refine G.any_mark _ ?_; (try generalize Array.size (World.heap (G.w _)) = bk); (try dsimp only [List.set_cons_zero, List.set_cons_succ]); (try clear g); intro g)
          go_roundg k
          case measure => omega
          case rel => exact ⟨rl', dl', ql.set j yp, rcs', dcs', by go_num, by omega, HI2, HRW2.out, HRW.out, g, rfl⟩
theorem rquot_any (A1 A2 : Option Addr) (c1 c2 a b : Nat) (w : World) (h1 : SlW w A1 c1 (limbs a)) (h2 : SlW w A2 c2 (limbs b)) (hl1 : (limbs a).length ≤ 10000000) (hl2 : (limbs b).length ≤ 10000000) (hb0 : b ≠ 0) :
    Calls Try.prog 68 #[.slice A1 (limbs a).length c1, .slice A2 (limbs b).length c2] w (RNN (a / b) (a % b) w) := by
  by_cases h : nb a < nb b
  · exact rquot_less A1 A2 c1 c2 a b w h1 h2 (by omega) (by omega) h
  · exact rquot_more A1 A2 c1 c2 a b (nb a - nb b) w h1 h2 hl1 hb0 (by omega)
end Go.Proofs.Ytfifcpgjcgoinaa
namespace Go.Proofs.Ytfifcpgjcgoinaa
open Go.RowKit GW NL
set_option maxRecDepth 20000 in
theorem rDiv_err (A1 A2 : Option Addr) (c1 c2 : Nat) (l1 l2 : List Nat) (w : World) (h1 : SlW w A1 c1 l1) (h2 : SlW w A2 c2 l2) (hx : chk2 l1 l2 ≠ 0) :
    Calls Try.prog 29 #[.slice A1 l1.length c1, .slice A2 l2.length c2] w (RNNE 0 0 (chk2 l1 l2) w) := by
  refine calls_b fun g => ?_
  have CK := Lib.hid (fun w h1 h2 => both_any A1 A2 c1 c2 l1 l2 w h1 h2)
  have hx' : (chk2 l1 l2 == 0) = false := by simpa using hx
  clear hx
  generalize chk2 l1 l2 = r at *
  generalize l1.length = n1 at *
  generalize l2.length = n2 at *
  go_enter Try.func29, Try.ntmps29
  go_wp2_with (with_reducible refine G.any_mark _ ?_; (try generalize Array.size (World.heap (G.w _)) = bk); (try dsimp only [List.set_cons_zero, List.set_cons_succ]); (try clear g); intro g)
  refine (CK.out _ (G.sl g (by simp) h1) (G.sl g (by simp) h2)).mono ?_
  rintro e w1 ⟨rfl, hb⟩
  obtain ⟨g1, rfl⟩ := G.call_ex _ hb
  clear hb
  (try clear g)
  revert g1
  intro g
  go_wp2_with (with_reducible refine G.any_mark _ ?_; (try generalize Array.size (World.heap (G.w _)) = bk); (try dsimp only [List.set_cons_zero, List.set_cons_succ]); (try clear g); intro g)
  go_ret3
  exact rnne_err g r
set_option maxRecDepth 20000 in
theorem rDiv_zero (A1 A2 : Option Addr) (c1 c2 : Nat) (l1 : List Nat) (w : World) (h1 : SlW w A1 c1 l1) (h2 : SlW w A2 c2 []) (hx : chk2 l1 [] = 0) :
    Calls Try.prog 29 #[.slice A1 l1.length c1, .slice A2 0 c2] w (RNNE 0 0 6 w) := by
  refine calls_b fun g => ?_
  have CK := Lib.hid (fun w h1 h2 => both_any A1 A2 c1 c2 l1 [] w h1 h2)
  rw [hx, List.length_nil] at CK
  clear hx
  generalize l1.length = n1 at *
  go_enter Try.func29, Try.ntmps29
  go_wp2_with (with_reducible refine G.any_mark _ ?_; (try generalize Array.size (World.heap (G.w _)) = bk); (try dsimp only [List.set_cons_zero, List.set_cons_succ]); (try clear g); intro g)
  refine (CK.out _ (G.sl g (by simp) h1) (G.sl g (by simp) h2)).mono ?_
  rintro e w1 ⟨rfl, hb⟩
  obtain ⟨g1, rfl⟩ := G.call_ex _ hb
  clear hb
  (try clear g)
  revert g1
  intro g
  go_wp2_with (with_reducible refine G.any_mark _ ?_; (try generalize Array.size (World.heap (G.w _)) = bk); (try dsimp only [List.set_cons_zero, List.set_cons_succ]); (try clear g); intro g)
  go_ret3
  exact rnne_err g 6
set_option maxRecDepth 20000 in
theorem rDiv_ok (A1 A2 : Option Addr) (c1 c2 a b : Nat) (w : World) (h1 : SlW w A1 c1 (limbs a)) (h2 : SlW w A2 c2 (limbs b)) (ha : a < 2 ^ 8192) (hb : b < 2 ^ 8192) (hb0 : b ≠ 0) :
    Calls Try.prog 29 #[.slice A1 (limbs a).length c1, .slice A2 (limbs b).length c2] w (RNNE (a / b) (a % b) 0 w) := by
  refine calls_b fun g => ?_
  have CK := Lib.hid (fun w h1 h2 => both_any A1 A2 c1 c2 (limbs a) (limbs b) w h1 h2)
  have hx : chk2 (limbs a) (limbs b) = 0 := by unfold chk2; rw [chk_limbs ha, chk_limbs hb]; rfl
  rw [hx] at CK
  have hl : (limbs a).length ≤ 256 := (limbs_len a 256).2 (by rw [pow32]; exact ha)
  have hlb : (limbs b).length ≤ 256 := (limbs_len b 256).2 (by rw [pow32]; exact hb)
  have CD := Lib.hid (fun w h1 h2 => rquot_any A1 A2 c1 c2 a b w h1 h2 (by omega) (by omega) hb0)
  have hne : (((limbs b).length : Int) == 0) = false := by
    rw [beq_eq_false_iff_ne]
    intro e
    exact hb0 (limbs_nil.1 (List.eq_nil_of_length_eq_zero (by omega)))
  clear hx hl hb0 ha hb hlb
  generalize a / b = q at *
  generalize a % b = r at *
  go_enter Try.func29, Try.ntmps29
  go_wp2_with (with_reducible refine G.any_mark _ ?_; (try generalize Array.size (World.heap (G.w _)) = bk); (try dsimp only [List.set_cons_zero, List.set_cons_succ]); (try clear g); intro g)
  refine (CK.out _ (G.sl g (by simp) h1) (G.sl g (by simp) h2)).mono ?_
  rintro e w1 ⟨rfl, hb⟩
  obtain ⟨g1, rfl⟩ := G.call_ex _ hb
  clear hb
  (try clear g)
  revert g1
  intro g
  go_wp2_with (with_reducible refine G.any_mark _ ?_; (try generalize Array.size (World.heap (G.w _)) = bk); (try dsimp only [List.set_cons_zero, List.set_cons_succ]); (try clear g); intro g)
  refine (CD.out _ (G.sl g (by simp) h1) (G.sl g (by simp) h2)).mono ?_
  rintro e w1 ⟨Aq, cq, Fq, Ar, cr, Fr, rfl, hsq, hsr, hn1, hn2⟩
  have hnq := fun k o hk => Nat.le_trans g.chg.size (hn1.new k o hk)
  have hnr := fun k o hk => Nat.le_trans g.chg.size (hn2.new k o hk)
  obtain ⟨g1, rfl⟩ := G.new2_ex _ hn1 hn2
  clear hn1 hn2 g
  revert g1
  intro g
  go_wp2_with (with_reducible refine G.any_mark _ ?_; (try generalize Array.size (World.heap (G.w _)) = bk); (try dsimp only [List.set_cons_zero, List.set_cons_succ]); (try clear g); intro g)
  go_ret3
  exact ⟨_, _, _, _, _, _, rfl, hsq, hsr, g.pass (by simp) hnq, g.pass (by simp) hnr⟩
theorem rDiv_any (A1 A2 : Option Addr) (c1 c2 : Nat) (l1 l2 : List Nat) (w : World) (h1 : SlW w A1 c1 l1) (h2 : SlW w A2 c2 l2) :
    Calls Try.prog 29 #[.slice A1 l1.length c1, .slice A2 l2.length c2] w (RNNE (outD (chk2 l1 l2) (val l1) (val l2)).1 (outD (chk2 l1 l2) (val l1) (val l2)).2.1 (outD (chk2 l1 l2) (val l1) (val l2)).2.2 w) := by
  unfold outD
  by_cases hx : chk2 l1 l2 = 0
  · rw [if_neg (by simpa using hx)]
    obtain ⟨k1, k2⟩ := chk2_ok hx
    obtain ⟨e1, b1, _⟩ := chk_ok h1.ok k1
    obtain ⟨e2, b2, _⟩ := chk_ok h2.ok k2
    by_cases h0 : val l2 = 0
    · rw [if_pos h0]
      rw [h0, limbs_zero] at e2
      subst e2
      exact rDiv_zero A1 A2 c1 c2 l1 w h1 h2 hx
    · rw [if_neg h0]
      have := rDiv_ok A1 A2 c1 c2 (val l1) (val l2) w (by rw [← e1]; exact h1) (by rw [← e2]; exact h2) b1 b2 h0
      rwa [← e1, ← e2] at this
  · rw [if_pos hx]
    exact rDiv_err A1 A2 c1 c2 l1 l2 w h1 h2 hx
set_option maxRecDepth 20000 in
theorem rGcd_err (A1 A2 : Option Addr) (c1 c2 : Nat) (l1 l2 : List Nat) (w : World) (h1 : SlW w A1 c1 l1) (h2 : SlW w A2 c2 l2) (hx : chk2 l1 l2 ≠ 0) :
    Calls Try.prog 30 #[.slice A1 l1.length c1, .slice A2 l2.length c2] w (RNE (0, chk2 l1 l2) w) := by
  refine calls_b fun g => ?_
  have CK := Lib.hid (fun w h1 h2 => both_any A1 A2 c1 c2 l1 l2 w h1 h2)
  have hx' : (chk2 l1 l2 == 0) = false := by simpa using hx
  clear hx
  generalize chk2 l1 l2 = r at *
  generalize l1.length = n1 at *
  generalize l2.length = n2 at *
  go_enter Try.func30, Try.ntmps30
  go_wp2_with (with_reducible refine G.any_mark _ ?_; (try generalize Array.size (World.heap (G.w _)) = bk); (try dsimp only [List.set_cons_zero, List.set_cons_succ]); (try clear g); intro g)
  refine (CK.out _ (G.sl g (by simp) h1) (G.sl g (by simp) h2)).mono ?_
  rintro e w1 ⟨rfl, hb⟩
  obtain ⟨g1, rfl⟩ := G.call_ex _ hb
  clear hb
  (try clear g)
  revert g1
  intro g
  go_wp2_with (with_reducible refine G.any_mark _ ?_; (try generalize Array.size (World.heap (G.w _)) = bk); (try dsimp only [List.set_cons_zero, List.set_cons_succ]); (try clear g); intro g)
  go_ret2
  exact rne_err g r
set_option maxRecDepth 20000 in
theorem rGcd_ok (A1 A2 : Option Addr) (c1 c2 a b : Nat) (w : World) (h1 : SlW w A1 c1 (limbs a)) (h2 : SlW w A2 c2 (limbs b)) (ha : a < 2 ^ 8192) (hb : b < 2 ^ 8192) :
    Calls Try.prog 30 #[.slice A1 (limbs a).length c1, .slice A2 (limbs b).length c2] w (RNE (Nat.gcd a b, 0) w) := by
  refine calls_b fun g => ?_
  have CK := Lib.hid (fun w h1 h2 => both_any A1 A2 c1 c2 (limbs a) (limbs b) w h1 h2)
  have hx : chk2 (limbs a) (limbs b) = 0 := by unfold chk2; rw [chk_limbs ha, chk_limbs hb]; rfl
  rw [hx] at CK
  clear hx
  go_enter Try.func30, Try.ntmps30
  go_wp2_with (with_reducible refine G.any_mark _ ?_; (try generalize Array.size (World.heap (G.w _)) = bk); (try dsimp only [List.set_cons_zero, List.set_cons_succ]); (try clear g); intro g)
  refine (CK.out _ (G.sl g (by simp) h1) (G.sl g (by simp) h2)).mono ?_
  rintro e w1 ⟨rfl, hb⟩
  obtain ⟨g1, rfl⟩ := G.call_ex _ hb
  clear hb
  (try clear g)
  revert g1
  intro g
  go_wp2_with (with_reducible refine G.any_mark _ ?_; (try generalize Array.size (World.heap (G.w _)) = bk); (try dsimp only [List.set_cons_zero, List.set_cons_succ]); (try clear g); intro g)
  go_loopg [0, 1] b (fun gk s0 s1 wr => ∃ (x : Nat) (Ax : Option Addr) (cx : Nat) (Ay : Option Addr) (cy : Nat) (Fx Fy : Frag), s0 = .slice Ax (limbs x).length cx ∧ s1 = .slice Ay (limbs gk).length cy ∧ Fx.Sl Ax cx (limbs x) ∧ Fy.Sl Ay cy (limbs gk) ∧ Hid (Nat.gcd x gk = Nat.gcd a b ∧ x < 2 ^ 8192 ∧ gk < 2 ^ 8192) ∧ ∃ g : G w [] [] [Fx, Fy, heapOf w], wr = g.w)
  case atStart =>
    obtain ⟨g2, hg2⟩ := g.less (M' := []) (List.nil_sublist _)
    obtain ⟨g3, hg3⟩ := g2.lessI (I' := [heapOf w, heapOf w, heapOf w]) (by simp)
    exact ⟨a, A1, c1, A2, c2, heapOf w, heapOf w, rfl, rfl, h1, h2, ⟨rfl, ha, hb⟩, g3, hg2.trans hg3⟩
  case round =>
    clear g CK
    obtain ⟨x, Ax, cx, Ay, cy, Fx, Fy, rfl, rfl, hFx, hFy, HI, g, rfl⟩ := hrel
    have hlx : (limbs x).length ≤ 256 := (limbs_len x 256).2 (by rw [pow32]; exact HI.out.2.1)
    have hlg : (limbs gk).length ≤ 256 := (limbs_len gk 256).2 (by rw [pow32]; exact HI.out.2.2)
    by_cases h0 : gk = 0
    · subst h0
      have hgx : x = Nat.gcd a b := by have := HI.out.1; rwa [Nat.gcd_zero_right] at this
      rw [limbs_zero]
      have CC := Lib.hid (fun w h => own_any Ax cx (limbs x) w h (by omega))
      have HG := Lib.hid hgx
      clear hgx
      go_wp2_with (with_reducible refine G.any_mark _ ?_; (try generalize Array.size (World.heap (G.w _)) = bk); (try dsimp only [List.set_cons_zero, List.set_cons_succ]); (try clear g); intro g)
      refine (CC.out _ (G.sl g (by simp) hFx)).mono ?_
      rintro e w1 ⟨A, c, F, rfl, hs, hn⟩
      have hnn := fun k o hk => Nat.le_trans g.chg.size (hn.new k o hk)
      obtain ⟨g1, rfl⟩ := G.new_ex _ hn
      clear hn
      (try clear g)
      revert g1
      intro g
      go_wp2_with (with_reducible refine G.any_mark _ ?_; (try generalize Array.size (World.heap (G.w _)) = bk); (try dsimp only [List.set_cons_zero, List.set_cons_succ]); (try clear g); intro g)
      go_ret2
      rw [← HG.out]
      exact rne_pass g hs (by simp) hnn 0
    · have CD := Lib.hid (fun w h1 h2 => rquot_any Ax Ay cx cy x gk w h1 h2 (by omega) (by omega) h0)
      have hlt := Nat.mod_lt x (Nat.pos_of_ne_zero h0)
      have HI2 : Hid (Nat.gcd gk (x % gk) = Nat.gcd a b ∧ gk < 2 ^ 8192 ∧ x % gk < 2 ^ 8192) := Lib.hid ⟨by rw [← HI.out.1, Nat.gcd_comm gk, ← Nat.gcd_rec, Nat.gcd_comm], HI.out.2.2, Nat.lt_trans hlt HI.out.2.2⟩
      have hpos : 0 < (limbs gk).length := by
        rcases Nat.eq_zero_or_pos (limbs gk).length with h | h
        · exact absurd (limbs_nil.1 (List.eq_nil_of_length_eq_zero h)) h0
        · exact h
      generalize x / gk = q at *
      generalize x % gk = r at *
      go_wp2_with (with_reducible refine G.any_mark _ ?_; (try generalize Array.size (World.heap (G.w _)) = bk); (try dsimp only [List.set_cons_zero, List.set_cons_succ]); (try clear g); intro g)
      refine (CD.out _ (G.sl g (by simp) hFx) (G.sl g (by simp) hFy)).mono ?_
      rintro e w1 ⟨Aq, cq, Fq, Ar, cr, Fr, rfl, hsq, hsr, hn1, hn2⟩
      obtain ⟨g1, rfl⟩ := G.new2_ex _ hn1 hn2
      clear hn1 hn2 g
      revert g1
      intro g
      go_wp2_with (with_reducible refine G.any_mark _ ?_; (try generalize Array.size (World.heap (G.w _)) = bk); (try dsimp only [List.set_cons_zero, List.set_cons_succ]); (try clear g); intro g)
      obtain ⟨g3, hg3⟩ := g.lessI (I' := [Fy, Fr, heapOf w]) (by simp)
      go_roundg r
      case measure => exact hlt
      case rel => exact ⟨gk, Ay, cy, Ar, cr, Fy, Fr, rfl, rfl, hFy, hsr, HI2, g3, hg3⟩
theorem rGcd_any (A1 A2 : Option Addr) (c1 c2 : Nat) (l1 l2 : List Nat) (w : World) (h1 : SlW w A1 c1 l1) (h2 : SlW w A2 c2 l2) :
    Calls Try.prog 30 #[.slice A1 l1.length c1, .slice A2 l2.length c2] w (RNE (outG (chk2 l1 l2) (val l1) (val l2)) w) := by
  unfold outG
  by_cases hx : chk2 l1 l2 = 0
  · rw [if_neg (by simpa using hx)]
    obtain ⟨k1, k2⟩ := chk2_ok hx
    obtain ⟨e1, b1, _⟩ := chk_ok h1.ok k1
    obtain ⟨e2, b2, _⟩ := chk_ok h2.ok k2
    have := rGcd_ok A1 A2 c1 c2 (val l1) (val l2) w (by rw [← e1]; exact h1) (by rw [← e2]; exact h2) b1 b2
    rwa [← e1, ← e2] at this
  · rw [if_pos hx]
    exact rGcd_err A1 A2 c1 c2 l1 l2 w h1 h2 hx
theorem sq_step {r k : Nat} : r + 2 ^ k + 2 ^ k = r + 2 ^ (k + 1) := by rw [Nat.pow_succ]; omega
theorem rRoot_err (A : Option Addr) (c : Nat) (l : List Nat) (w : World) (h : SlW w A c l) (hx : chk l ≠ 0) :
    Calls Try.prog 32 #[.slice A l.length c] w (RNE (0, chk l) w) := by
  refine calls_b fun g => ?_
  have C1 := Lib.hid (fun w h => rcheck_any A c l w h)
  have hx' : (chk l == 0) = false := by simpa using hx
  clear hx
  generalize chk l = r at *
  generalize l.length = k at *
  go_enter Try.func32, Try.ntmps32
  go_wp2_with (with_reducible refine G.any_mark _ ?_; (try generalize Array.size (World.heap (G.w _)) = bk); (try dsimp only [List.set_cons_zero, List.set_cons_succ]); (try clear g); intro g)
  refine (C1.out _ (G.sl g (by simp) h)).mono ?_
  rintro e w1 ⟨rfl, hb⟩
  obtain ⟨g1, rfl⟩ := G.call_ex _ hb
  clear hb
  (try clear g)
  revert g1
  intro g
  go_wp2_with (with_reducible refine G.any_mark _ ?_; (try generalize Array.size (World.heap (G.w _)) = bk); (try dsimp only [List.set_cons_zero, List.set_cons_succ]); (try clear g); intro g)
  go_ret2
  exact rne_err g r
set_option maxRecDepth 20000 in
set_option maxHeartbeats 1000000 in
theorem rRoot_ok (A : Option Addr) (c v : Nat) (w : World) (h : SlW w A c (limbs v)) (hv : v < 2 ^ 8192) :
    Calls Try.prog 32 #[.slice A (limbs v).length c] w (RNE (rt v, 0) w) := by
  refine calls_b fun g => ?_
  have hl : (limbs v).length ≤ 256 := (limbs_len v 256).2 (by rw [pow32]; exact hv)
  have C1 := Lib.hid (fun w h => rcheck_any A c (limbs v) w h)
  rw [chk_limbs hv] at C1
  have C2 := Lib.hid (fun w h => rbits_any A c v w h (by omega))
  have hnb : nb v ≤ 8192 := (nb_le v 8192).2 hv
  obtain ⟨s, hs⟩ : ∃ s, nb v / 2 = s := ⟨_, rfl⟩
  have hsi : Int.tdiv ((nb v : Nat) : Int) 2 = (s : Int) := by rw [Int.tdiv_eq_ediv_of_nonneg (by omega)]; omega
  have hs9 : s ≤ 4096 := by omega
  have HST : Hid (0 * 0 ≤ v ∧ v < (0 + 2 ^ (s + 1)) * (0 + 2 ^ (s + 1))) := Lib.hid ⟨by omega, by
    rw [Nat.zero_add, ← Nat.pow_add]
    exact Nat.lt_of_lt_of_le (nb_lt v) (Nat.pow_le_pow_right (by decide) (by omega))⟩
  have ee : limbs 1 = [1] := lim1 (by decide) (by decide)
  have hL1 : (limbs 1).length = 1 := by rw [ee]; rfl
  have CSH : Hid (∀ k : Nat, k ≤ 4096 → ∀ (A : Option Addr) w, SlW w A 1 (limbs 1) → Calls Try.prog 72 #[.slice A 1 1, .int .i64 (k : Int)] w (RNat (2 ^ k) w)) := Lib.hid (fun k hk A w h => by
    have := rshift_up A 1 (limbs 1) k w h (by omega) (by omega)
    rwa [val_limbs, Nat.one_mul, hL1] at this)
  have n1' : Hid ((limbs 1).length = 1 ∧ [Value.int .u32 1] = u32s (limbs 1)) := Lib.hid ⟨hL1, by rw [ee]; rfl⟩
  have HV := Lib.hid hv
  generalize nb v = b at *
  obtain ⟨lv, hlv⟩ : ∃ lv, (limbs v).length = lv := ⟨_, rfl⟩
  rw [hlv] at C1 C2 hl ⊢
  have HLV := Lib.hid hlv
  clear hv hs ee hL1 hlv
  go_enter Try.func32, Try.ntmps32
  go_wp2_with (with_reducible refine G.any_mark _ ?_; (try generalize Array.size (World.heap (G.w _)) = bk); (try dsimp only [List.set_cons_zero, List.set_cons_succ]); (try clear g); intro g)
  refine (C1.out _ (G.sl g (by simp) h)).mono ?_
  rintro e w1 ⟨rfl, hb⟩
  obtain ⟨g1, rfl⟩ := G.call_ex _ hb
  clear hb
  (try clear g)
  revert g1
  intro g
  go_wp2_with (with_reducible refine G.any_mark _ ?_; (try generalize Array.size (World.heap (G.w _)) = bk); (try dsimp only [List.set_cons_zero, List.set_cons_succ]); (try clear g); intro g)
  refine (C2.out _ (G.sl g (by simp) h)).mono ?_
  rintro e w1 ⟨rfl, hb⟩
  obtain ⟨g1, rfl⟩ := G.call_ex _ hb
  clear hb
  (try clear g)
  revert g1
  intro g
  go_wp2_with fail
  go_loopg [5, 6] (s + 1) (fun gk s5 s6 wr => ∃ (r : Nat) (A5 : Option Addr) (c5 : Nat) (F5 : Frag), s6 = .int .i64 ((gk : Int) - 1) ∧ gk ≤ s + 1 ∧ s5 = .slice A5 (limbs r).length c5 ∧ F5.Sl A5 c5 (limbs r) ∧ Hid (∀ k o, F5 k = some o → w.heap.size ≤ k) ∧ Hid (r * r ≤ v ∧ v < (r + 2 ^ gk) * (r + 2 ^ gk)) ∧ ∃ g : G w [] [] [F5, heapOf w], wr = g.w)
  case atStart =>
    obtain ⟨g2, hg2⟩ : ∃ g2 : G w [] [] [(fun _ => none), heapOf w], g.w = g2.w := ⟨g.see (fun _ => none) (by intro k o h; cases h) (by intro k o h; cases h), rfl⟩
    exact ⟨0, none, 0, fun _ => none, by go_num, Nat.le_refl _, by rw [limbs_zero]; rfl, by rw [limbs_zero]; exact Frag.Sl.nil _ _, Lib.hid (fun k o h => by cases h), HST, g2, hg2⟩
  case round =>
    clear g HST C1 C2
    obtain ⟨r, A5, c5, F5, rfl, hg, rfl, hs5, HN5, HI, g, rfl⟩ := hrel
    cases gk with
    | zero =>
      have HR : Hid (rt v = r) := Lib.hid (rt_eq ⟨HI.out.1, by have := HI.out.2; rwa [Nat.pow_zero] at this⟩)
      go_wp2_with (with_reducible refine G.any_mark _ ?_; (try generalize Array.size (World.heap (G.w _)) = bk); (try dsimp only [List.set_cons_zero, List.set_cons_succ]); (try clear g); intro g)
      go_ret2
      rw [HR.out]
      exact rne_pass g hs5 (by simp) HN5.out 0
    | succ k =>
      rw [show ((k + 1 : Nat) : Int) - 1 = (k : Int) by omega]
      have hk0 : (0 : Int) ≤ (k : Int) := by omega
      have CS1 := Lib.hid (CSH.out k (by omega))
      have hr8 : r < 2 ^ 8192 := by
        have h1 := HI.out.1
        have := HV.out
        rcases Nat.eq_zero_or_pos r with h0 | h0
        · subst h0; exact Nat.two_pow_pos _
        · have := Nat.le_mul_of_pos_left r h0; omega
      have hlr : (limbs r).length ≤ 256 := (limbs_len r 256).2 (by rw [pow32]; exact hr8)
      have hlp : (limbs (2 ^ k)).length ≤ 256 := (limbs_len _ 256).2 (by rw [pow32]; exact Nat.pow_lt_pow_right (by decide) (by omega))
      have CA := Lib.hid (fun A1 A2 c1 c2 w h1 h2 => radd_any A1 A2 c1 c2 r (2 ^ k) w h1 h2 (by omega) (by omega))
      have hsq1 : v < (r + 2 ^ k + 2 ^ k) * (r + 2 ^ k + 2 ^ k) := by rw [sq_step]; exact HI.out.2
      have hls : (limbs (r + 2 ^ k)).length ≤ 257 := (limbs_len _ 257).2 (by
        have h1 := (limbs_len r _).1 hlr
        have h2 := (limbs_len (2 ^ k) _).1 hlp
        have : 4294967296 ^ 257 = 4294967296 ^ 256 * 4294967296 := Nat.pow_succ ..
        rw [this]
        generalize 4294967296 ^ 256 = P at *
        omega)
      generalize hp : 2 ^ k = p at *
      have HP := Lib.hid hp
      clear hp
      obtain ⟨t, ht⟩ : ∃ t, r + p = t := ⟨_, rfl⟩
      rw [ht] at CA hsq1 hls
      have CM := Lib.hid (fun A1 A2 c1 c2 w h1 h2 => rmul_any A1 A2 c1 c2 (limbs t) (limbs t) w h1 h2 (by omega) (by omega))
      rw [val_limbs] at CM
      have hll : (limbs (t * t)).length ≤ 514 := (limbs_len _ 514).2 (by
        have h1 := (limbs_len t _).1 hls
        have : 4294967296 ^ 514 = 4294967296 ^ 257 * 4294967296 ^ 257 := by rw [← Nat.pow_add]
        rw [this]
        exact Nat.mul_lt_mul_of_lt_of_lt h1 h1)
      have CC := Lib.hid (fun A1 A2 c1 c2 w h1 h2 => rcmp_any A1 A2 c1 c2 (t * t) v w h1 h2 (by omega))
      rw [HLV.out] at CC
      have hord : ord (t * t) v ≤ 0 ↔ t * t ≤ v := by unfold ord; split <;> (try split) <;> omega
      have HSQ := Lib.hid hsq1
      have HT := Lib.hid ht
      generalize ord (t * t) v = C at *
      obtain ⟨tt, htt⟩ : ∃ tt, t * t = tt := ⟨_, rfl⟩
      rw [htt] at CM CC hord
      have HTT := Lib.hid htt
      clear hsq1 ht htt hll hls hlp hlr hr8
      go_wp2_with (with_reducible refine G.any_mark _ ?_; (try generalize Array.size (World.heap (G.w _)) = bk); (try dsimp only [List.set_cons_zero, List.set_cons_succ]); (try clear g); intro g)
      refine (CS1.out _ _ (G.lit0 g _ _ n1'.out.2 n1'.out.1 (by decide))).mono ?_
      rintro e w1 ⟨Ax, cx, Fx, rfl, hsx, hn⟩
      have hnnx := fun k o hk => Nat.le_trans g.chg.size (hn.new k o hk)
      obtain ⟨g1, rfl⟩ := G.new_ex _ hn
      clear hn
      (try clear g)
      revert g1
      intro g
      obtain ⟨g2, hg2⟩ := G.less g (M' := []) (List.nil_sublist _)
      rw [hg2]
      clear hg2
      (try clear g)
      revert g2
      intro g
      go_wp2_with (with_reducible refine G.any_mark _ ?_; (try generalize Array.size (World.heap (G.w _)) = bk); (try dsimp only [List.set_cons_zero, List.set_cons_succ]); (try clear g); intro g)
      refine (CA.out _ _ _ _ _ (G.sl g (by simp) hs5) (G.sl g (by simp) hsx)).mono ?_
      rintro e w1 ⟨Ay, cy, Fy, rfl, hsy, hn⟩
      have hnny := fun k o hk => Nat.le_trans g.chg.size (hn.new k o hk)
      obtain ⟨g1, rfl⟩ := G.new_ex _ hn
      clear hn
      (try clear g)
      revert g1
      intro g
      go_wp2_with (with_reducible refine G.any_mark _ ?_; (try generalize Array.size (World.heap (G.w _)) = bk); (try dsimp only [List.set_cons_zero, List.set_cons_succ]); (try clear g); intro g)
      refine (CM.out _ _ _ _ _ (G.sl g (by simp) hsy) (G.sl g (by simp) hsy)).mono ?_
      rintro e w1 ⟨Az, cz, Fz, rfl, hsz, hn⟩
      have hnnz := fun k o hk => Nat.le_trans g.chg.size (hn.new k o hk)
      obtain ⟨g1, rfl⟩ := G.new_ex _ hn
      clear hn
      (try clear g)
      revert g1
      intro g
      go_wp2_with (with_reducible refine G.any_mark _ ?_; (try generalize Array.size (World.heap (G.w _)) = bk); (try dsimp only [List.set_cons_zero, List.set_cons_succ]); (try clear g); intro g)
      refine (CC.out _ _ _ _ _ (G.sl g (by simp) hsz) (G.sl g (by simp) h)).mono ?_
      rintro e w1 ⟨rfl, hb⟩
      obtain ⟨g1, rfl⟩ := G.call_ex _ hb
      clear hb
      (try clear g)
      revert g1
      intro g
      by_cases hle : tt ≤ v
      · have hC : C ≤ 0 := hord.2 hle
        have HI2 : Hid (t * t ≤ v ∧ v < (t + p) * (t + p)) := Lib.hid ⟨by rw [HTT.out]; exact hle, HSQ.out⟩
        clear hord hle
        go_wp2_with (with_reducible refine G.any_mark _ ?_; (try generalize Array.size (World.heap (G.w _)) = bk); (try dsimp only [List.set_cons_zero, List.set_cons_succ]); (try clear g); intro g)
        obtain ⟨g3, hg3⟩ := g.lessI (I' := [Fy, heapOf w]) (by simp)
        go_roundg k
        case measure => omega
        case rel => exact ⟨t, Ay, cy, Fy, by go_num, by omega, rfl, hsy, hnny, Lib.hid (by rw [HP.out]; exact HI2.out), g3, hg3⟩
      · have hC : ¬ C ≤ 0 := fun h => hle (hord.1 h)
        have hC2 : (0 : Int) < C := by omega
        have HI2 : Hid (r * r ≤ v ∧ v < (r + p) * (r + p)) := Lib.hid ⟨HI.out.1, by rw [HT.out, HTT.out]; omega⟩
        clear hord hle
        go_wp2_with (with_reducible refine G.any_mark _ ?_; (try generalize Array.size (World.heap (G.w _)) = bk); (try dsimp only [List.set_cons_zero, List.set_cons_succ]); (try clear g); intro g)
        obtain ⟨g3, hg3⟩ := g.lessI (I' := [F5, heapOf w]) (by simp)
        go_roundg k
        case measure => omega
        case rel => exact ⟨r, A5, c5, F5, by go_num, by omega, rfl, hs5, HN5, Lib.hid (by rw [HP.out]; exact HI2.out), g3, hg3⟩
/-- what Root returns -/
noncomputable def outR (e : Int) (v : Nat) : Nat × Int := if e ≠ 0 then (0, e) else (rt v, 0)
theorem rRoot_any (A : Option Addr) (c : Nat) (l : List Nat) (w : World) (h : SlW w A c l) :
    Calls Try.prog 32 #[.slice A l.length c] w (RNE (outR (chk l) (val l)) w) := by
  unfold outR
  by_cases hx : chk l = 0
  · rw [if_neg (by simpa using hx)]
    obtain ⟨e1, b1, _⟩ := chk_ok h.ok hx
    have := rRoot_ok A c (val l) w (by rw [← e1]; exact h) b1
    rwa [← e1] at this
  · rw [if_pos hx]
    exact rRoot_err A c l w h hx
end Go.Proofs.Ytfifcpgjcgoinaa
namespace Go.Proofs.Ytfifcpgjcgoinaa
open Go.RowKit GW NL
theorem Sub_rv (a b p : Nat) (hp : a - b = p) (ha : a < 2 ^ 8192) (hb : b < 2 ^ 8192) (hab : b ≤ a) (A1 A2 : Option Addr) (c1 c2 : Nat) (w : World) (h1 : SlW w A1 c1 (limbs a)) (h2 : SlW w A2 c2 (limbs b)) :
    Calls Try.prog 25 #[.slice A1 (limbs a).length c1, .slice A2 (limbs b).length c2] w (RV p w) := by
  subst hp; exact Sub_ok A1 A2 c1 c2 a b w h1 h2 ha hb hab
theorem ShiftUp_rv (a s p : Nat) (hp : a * 2 ^ s = p) (ha : a < 2 ^ 8192) (hs : s ≤ 10000) (hpb : p < 2 ^ 8192) (A1 : Option Addr) (c1 : Nat) (w : World) (h1 : SlW w A1 c1 (limbs a)) :
    Calls Try.prog 27 #[.slice A1 (limbs a).length c1, .int .i64 (s : Int)] w (RV p w) := by
  have := Shift_up A1 c1 a s w h1 ha hs
  rw [hp] at this
  unfold outN at this
  rw [if_neg (by simp), if_pos hpb] at this
  exact this
theorem ShiftDown_rv (a s p : Nat) (hp : a / 2 ^ s = p) (ha : a < 2 ^ 8192) (hs : s ≤ 10000) (A1 : Option Addr) (c1 : Nat) (w : World) (h1 : SlW w A1 c1 (limbs a)) :
    Calls Try.prog 27 #[.slice A1 (limbs a).length c1, .int .i64 (-(s : Int))] w (RV p w) := by
  have := Shift_down A1 c1 a s w h1 ha hs
  rw [hp] at this
  exact this
theorem add_lt' {a b k : Nat} (h1 : a < 2 ^ k) (h2 : b < 2 ^ k) : a + b < 2 ^ (k + 1) := by rw [Nat.pow_succ]; omega
set_option maxRecDepth 100000 in
set_option maxHeartbeats 1000000 in
theorem ring_walk (A1 A2 A3 : Option Addr) (c1 c2 c3 : Nat) (l1 l2 l3 : List Nat) (n : Int) (hn1 : -9223372036854775808 ≤ n) (hn2 : n ≤ 9223372036854775807) (w : World) (h1 : SlW w A1 c1 l1) (h2 : SlW w A2 c2 l2) (h3 : SlW w A3 c3 l3) (hl1 : l1.length ≤ 35184372088832) (hl2 : l2.length ≤ 35184372088832) (hl3 : l3.length ≤ 35184372088832) :
    Calls Try.prog 6 #[.slice A1 l1.length c1, .slice A2 l2.length c2, .slice A3 l3.length c3, .int .i64 n] w fun e w' => e = .returned (.bool true) ∧ Below w.heap.size w w' := by
  refine calls_b fun g => ?_
  have CV1 := Lib.hid (fun w h => valid_any A1 c1 l1 40 w h hl1 (by omega))
  have CV2 := Lib.hid (fun w h => valid_any A2 c2 l2 40 w h hl2 (by omega))
  have CV3 := Lib.hid (fun w h => valid_any A3 c3 l3 40 w h hl3 (by omega))
  have b1 := cut_lt h1.ok 40
  have b2 := cut_lt h2.ok 40
  have b3 := cut_lt h3.ok 40
  generalize cut l1 40 = a at *
  generalize cut l2 40 = b at *
  generalize cut l3 40 = c at *
  have CL := Lib.hid lives_any
  have CP := Lib.hid (fun w => pick_any n hn1 hn2 w)
  obtain ⟨s1, e1⟩ : ∃ x, a + b = x := ⟨_, rfl⟩
  obtain ⟨s2, e2⟩ : ∃ x, s1 + c = x := ⟨_, rfl⟩
  obtain ⟨s3, e3⟩ : ∃ x, b + c = x := ⟨_, rfl⟩
  obtain ⟨p1, f1⟩ : ∃ x, a * b = x := ⟨_, rfl⟩
  obtain ⟨p3, f3⟩ : ∃ x, p1 * c = x := ⟨_, rfl⟩
  obtain ⟨p4, f4⟩ : ∃ x, b * c = x := ⟨_, rfl⟩
  obtain ⟨p6, f6⟩ : ∃ x, a * s3 = x := ⟨_, rfl⟩
  obtain ⟨p7, f7⟩ : ∃ x, a * c = x := ⟨_, rfl⟩
  have g1 : b + a = s1 := by omega
  have g2 : a + s3 = s2 := by omega
  have g3 : s1 - b = a := by omega
  have g4 : b * a = p1 := by rw [Nat.mul_comm]; exact f1
  have g5 : a * p4 = p3 := by rw [← f3, ← f1, ← f4, Nat.mul_assoc]
  have g6 : p1 + p7 = p6 := by rw [← f1, ← f7, ← f6, ← e3, Nat.mul_add]
  have h40 : (2 : Nat) ^ (32 * 40) = 2 ^ 1280 := rfl
  have B1 : s1 < 2 ^ 1281 := by rw [← e1]; exact add_lt' b1 b2
  have B3 : s3 < 2 ^ 1281 := by rw [← e3]; exact add_lt' b2 b3
  have P1 : p1 < 2 ^ (1280 + 1280) := by rw [← f1]; exact mul_lt' b1 b2
  have B2 : s2 < 2 ^ 8192 := by
    have : s2 < 2 ^ 1282 := by rw [← e2]; exact add_lt' B1 (Nat.lt_trans b3 (Nat.pow_lt_pow_right (by decide) (by decide)))
    exact pow_lt' this (by decide)
  have P3 : p3 < 2 ^ 8192 := by rw [← f3]; exact pow_lt' (mul_lt' P1 b3) (by decide)
  have P4 : p4 < 2 ^ 8192 := by rw [← f4]; exact pow_lt' (mul_lt' b2 b3) (by decide)
  have P6 : p6 < 2 ^ 8192 := by rw [← f6]; exact pow_lt' (mul_lt' b1 B3) (by decide)
  have P7 : p7 < 2 ^ 8192 := by rw [← f7]; exact pow_lt' (mul_lt' b1 b3) (by decide)
  have P1 := pow_lt' P1 (by decide)
  have HS : Hid (∀ k, k < 500 → a * 2 ^ k < 2 ^ 8192) := Lib.hid (fun k hk => pow_lt' (Nat.lt_of_lt_of_le (Nat.mul_lt_mul_of_pos_right b1 (Nat.two_pow_pos k)) (by rw [← Nat.pow_add]; exact Nat.pow_le_pow_right (by decide) (show 32 * 40 + k ≤ 2000 by omega))) (by decide))
  have b1 := pow_lt' b1 (by decide)
  have b2 := pow_lt' b2 (by decide)
  have b3 := pow_lt' b3 (by decide)
  have B1 := pow_lt' B1 (by decide)
  have B3 := pow_lt' B3 (by decide)
  have CA1 := Lib.hid (Add_rv a b s1 e1 b1 b2 B1)
  have CA2 := Lib.hid (Add_rv b a s1 g1 b2 b1 B1)
  have CA3 := Lib.hid (Add_rv s1 c s2 e2 B1 b3 B2)
  have CA4 := Lib.hid (Add_rv b c s3 e3 b2 b3 B3)
  have CA5 := Lib.hid (Add_rv a s3 s2 g2 b1 B3 B2)
  have CA6 := Lib.hid (Sub_rv s1 b a g3 B1 b2 (by omega))
  have CM1 := Lib.hid (Mul_rv a b p1 f1 b1 b2 P1)
  have CM2 := Lib.hid (Mul_rv b a p1 g4 b2 b1 P1)
  have CM3 := Lib.hid (Mul_rv p1 c p3 f3 P1 b3 P3)
  have CM4 := Lib.hid (Mul_rv b c p4 f4 b2 b3 P4)
  have CM5 := Lib.hid (Mul_rv a p4 p3 g5 b1 P4 P3)
  have CM6 := Lib.hid (Mul_rv a s3 p6 f6 b1 B3 P6)
  have CM7 := Lib.hid (Mul_rv a c p7 f7 b1 b3 P7)
  have CM8 := Lib.hid (Add_rv p1 p7 p6 g6 P1 P7 P6)
  have CS := Lib.hid (fun v => same_rv v)
  have HA := Lib.hid b1
  clear e1 e2 e3 f1 f3 f4 f6 f7 g1 g2 g3 g4 g5 g6 h40 b1 b2 b3 B1 B2 B3 P1 P3 P4 P6 P7 hl1 hl2 hl3 hn1 hn2
  generalize hn1 : l1.length = n1 at *
  generalize hn2 : l2.length = n2 at *
  generalize hn3 : l3.length = n3 at *
  clear hn1 hn2 hn3
  go_enter Try.func6, Try.ntmps6
  go_wp2_with (with_reducible refine G.any_mark _ ?_; (try generalize Array.size (World.heap (G.w _)) = bk); (try dsimp only [List.set_cons_zero, List.set_cons_succ]); (try clear g); intro g)
  refine (CL.out _).mono ?_
  rintro e w1 ⟨rfl, hb⟩
  obtain ⟨g1, rfl⟩ := G.call_ex _ hb
  clear hb
  (try clear g)
  revert g1
  intro g
  go_wp2_with (with_reducible refine G.any_mark _ ?_; (try generalize Array.size (World.heap (G.w _)) = bk); (try dsimp only [List.set_cons_zero, List.set_cons_succ]); (try clear g); intro g)
  refine (CV1.out _ (G.sl g (by simp) h1)).mono ?_
  rintro e w1 ⟨Aa, ca, Fa, rfl, hsa, hn⟩
  have hnna := fun k o hk => Nat.le_trans g.chg.size (hn.new k o hk)
  obtain ⟨g1, rfl⟩ := G.new_ex _ hn
  clear hn
  (try clear g)
  revert g1
  intro g
  go_wp2_with (with_reducible refine G.any_mark _ ?_; (try generalize Array.size (World.heap (G.w _)) = bk); (try dsimp only [List.set_cons_zero, List.set_cons_succ]); (try clear g); intro g)
  refine (CV2.out _ (G.sl g (by simp) h2)).mono ?_
  rintro e w1 ⟨Ab, cb, Fb, rfl, hsb, hn⟩
  have hnnb := fun k o hk => Nat.le_trans g.chg.size (hn.new k o hk)
  obtain ⟨g1, rfl⟩ := G.new_ex _ hn
  clear hn
  (try clear g)
  revert g1
  intro g
  go_wp2_with (with_reducible refine G.any_mark _ ?_; (try generalize Array.size (World.heap (G.w _)) = bk); (try dsimp only [List.set_cons_zero, List.set_cons_succ]); (try clear g); intro g)
  refine (CV3.out _ (G.sl g (by simp) h3)).mono ?_
  rintro e w1 ⟨Ac, cc, Fc, rfl, hsc, hn⟩
  have hnnc := fun k o hk => Nat.le_trans g.chg.size (hn.new k o hk)
  obtain ⟨g1, rfl⟩ := G.new_ex _ hn
  clear hn
  (try clear g)
  revert g1
  intro g
  go_wp2_with (with_reducible refine G.any_mark _ ?_; (try generalize Array.size (World.heap (G.w _)) = bk); (try dsimp only [List.set_cons_zero, List.set_cons_succ]); (try clear g); intro g)
  refine (CA1.out _ _ _ _ _ (G.sl g (by simp) hsa) (G.sl g (by simp) hsb)).mono ?_
  rintro e w1 ⟨Ad, cd, Fd, rfl, hsd, hn⟩
  have hnnd := fun k o hk => Nat.le_trans g.chg.size (hn.new k o hk)
  obtain ⟨g1, rfl⟩ := G.new_ex _ hn
  clear hn
  (try clear g)
  revert g1
  intro g
  go_wp2_with (with_reducible refine G.any_mark _ ?_; (try generalize Array.size (World.heap (G.w _)) = bk); (try dsimp only [List.set_cons_zero, List.set_cons_succ]); (try clear g); intro g)
  refine (CA2.out _ _ _ _ _ (G.sl g (by simp) hsb) (G.sl g (by simp) hsa)).mono ?_
  rintro e w1 ⟨Ae, ce, Fe, rfl, hse, hn⟩
  have hnne := fun k o hk => Nat.le_trans g.chg.size (hn.new k o hk)
  obtain ⟨g1, rfl⟩ := G.new_ex _ hn
  clear hn
  (try clear g)
  revert g1
  intro g
  go_wp2_with (with_reducible refine G.any_mark _ ?_; (try generalize Array.size (World.heap (G.w _)) = bk); (try dsimp only [List.set_cons_zero, List.set_cons_succ]); (try clear g); intro g)
  refine (CA3.out _ _ _ _ _ (G.sl g (by simp) hsd) (G.sl g (by simp) hsc)).mono ?_
  rintro e w1 ⟨Af, cf, Ff, rfl, hsf, hn⟩
  have hnnf := fun k o hk => Nat.le_trans g.chg.size (hn.new k o hk)
  obtain ⟨g1, rfl⟩ := G.new_ex _ hn
  clear hn
  (try clear g)
  revert g1
  intro g
  go_wp2_with (with_reducible refine G.any_mark _ ?_; (try generalize Array.size (World.heap (G.w _)) = bk); (try dsimp only [List.set_cons_zero, List.set_cons_succ]); (try clear g); intro g)
  refine (CA4.out _ _ _ _ _ (G.sl g (by simp) hsb) (G.sl g (by simp) hsc)).mono ?_
  rintro e w1 ⟨Ag, cg, Fg, rfl, hsg, hn⟩
  have hnng := fun k o hk => Nat.le_trans g.chg.size (hn.new k o hk)
  obtain ⟨g1, rfl⟩ := G.new_ex _ hn
  clear hn
  (try clear g)
  revert g1
  intro g
  go_wp2_with (with_reducible refine G.any_mark _ ?_; (try generalize Array.size (World.heap (G.w _)) = bk); (try dsimp only [List.set_cons_zero, List.set_cons_succ]); (try clear g); intro g)
  refine (CA5.out _ _ _ _ _ (G.sl g (by simp) hsa) (G.sl g (by simp) hsg)).mono ?_
  rintro e w1 ⟨Ah, ch, Fh, rfl, hsh, hn⟩
  have hnnh := fun k o hk => Nat.le_trans g.chg.size (hn.new k o hk)
  obtain ⟨g1, rfl⟩ := G.new_ex _ hn
  clear hn
  (try clear g)
  revert g1
  intro g
  go_wp2_with (with_reducible refine G.any_mark _ ?_; (try generalize Array.size (World.heap (G.w _)) = bk); (try dsimp only [List.set_cons_zero, List.set_cons_succ]); (try clear g); intro g)
  refine (CA6.out _ _ _ _ _ (G.sl g (by simp) hsd) (G.sl g (by simp) hsb)).mono ?_
  rintro e w1 ⟨Ai, ci, Fi, rfl, hsi, hn⟩
  have hnni := fun k o hk => Nat.le_trans g.chg.size (hn.new k o hk)
  obtain ⟨g1, rfl⟩ := G.new_ex _ hn
  clear hn
  (try clear g)
  revert g1
  intro g
  go_wp2_with (with_reducible refine G.any_mark _ ?_; (try generalize Array.size (World.heap (G.w _)) = bk); (try dsimp only [List.set_cons_zero, List.set_cons_succ]); (try clear g); intro g)
  refine (CS.out _ _ _ _ _ _ (G.sl g (by simp) hsd) (G.sl g (by simp) hse)).mono ?_
  rintro e w1 ⟨rfl, hb⟩
  obtain ⟨g1, rfl⟩ := G.call_ex _ hb
  clear hb
  (try clear g)
  revert g1
  intro g
  go_wp2_with (with_reducible refine G.any_mark _ ?_; (try generalize Array.size (World.heap (G.w _)) = bk); (try dsimp only [List.set_cons_zero, List.set_cons_succ]); (try clear g); intro g)
  refine (CS.out _ _ _ _ _ _ (G.sl g (by simp) hsf) (G.sl g (by simp) hsh)).mono ?_
  rintro e w1 ⟨rfl, hb⟩
  obtain ⟨g1, rfl⟩ := G.call_ex _ hb
  clear hb
  (try clear g)
  revert g1
  intro g
  go_wp2_with (with_reducible refine G.any_mark _ ?_; (try generalize Array.size (World.heap (G.w _)) = bk); (try dsimp only [List.set_cons_zero, List.set_cons_succ]); (try clear g); intro g)
  refine (CS.out _ _ _ _ _ _ (G.sl g (by simp) hsi) (G.sl g (by simp) hsa)).mono ?_
  rintro e w1 ⟨rfl, hb⟩
  obtain ⟨g1, rfl⟩ := G.call_ex _ hb
  clear hb
  (try clear g)
  revert g1
  intro g
  go_wp2_with (with_reducible refine G.any_mark _ ?_; (try generalize Array.size (World.heap (G.w _)) = bk); (try dsimp only [List.set_cons_zero, List.set_cons_succ]); (try clear g); intro g)
  refine (CM1.out _ _ _ _ _ (G.sl g (by simp) hsa) (G.sl g (by simp) hsb)).mono ?_
  rintro e w1 ⟨Aj, cj, Fj, rfl, hsj, hn⟩
  have hnnj := fun k o hk => Nat.le_trans g.chg.size (hn.new k o hk)
  obtain ⟨g1, rfl⟩ := G.new_ex _ hn
  clear hn
  (try clear g)
  revert g1
  intro g
  go_wp2_with (with_reducible refine G.any_mark _ ?_; (try generalize Array.size (World.heap (G.w _)) = bk); (try dsimp only [List.set_cons_zero, List.set_cons_succ]); (try clear g); intro g)
  refine (CM2.out _ _ _ _ _ (G.sl g (by simp) hsb) (G.sl g (by simp) hsa)).mono ?_
  rintro e w1 ⟨Ak, ck, Fk, rfl, hsk, hn⟩
  have hnnk := fun k o hk => Nat.le_trans g.chg.size (hn.new k o hk)
  obtain ⟨g1, rfl⟩ := G.new_ex _ hn
  clear hn
  (try clear g)
  revert g1
  intro g
  go_wp2_with (with_reducible refine G.any_mark _ ?_; (try generalize Array.size (World.heap (G.w _)) = bk); (try dsimp only [List.set_cons_zero, List.set_cons_succ]); (try clear g); intro g)
  refine (CM3.out _ _ _ _ _ (G.sl g (by simp) hsj) (G.sl g (by simp) hsc)).mono ?_
  rintro e w1 ⟨Al, cl, Fl, rfl, hsl, hn⟩
  have hnnl := fun k o hk => Nat.le_trans g.chg.size (hn.new k o hk)
  obtain ⟨g1, rfl⟩ := G.new_ex _ hn
  clear hn
  (try clear g)
  revert g1
  intro g
  go_wp2_with (with_reducible refine G.any_mark _ ?_; (try generalize Array.size (World.heap (G.w _)) = bk); (try dsimp only [List.set_cons_zero, List.set_cons_succ]); (try clear g); intro g)
  refine (CM4.out _ _ _ _ _ (G.sl g (by simp) hsb) (G.sl g (by simp) hsc)).mono ?_
  rintro e w1 ⟨Am, cm, Fm, rfl, hsm, hn⟩
  have hnnm := fun k o hk => Nat.le_trans g.chg.size (hn.new k o hk)
  obtain ⟨g1, rfl⟩ := G.new_ex _ hn
  clear hn
  (try clear g)
  revert g1
  intro g
  go_wp2_with (with_reducible refine G.any_mark _ ?_; (try generalize Array.size (World.heap (G.w _)) = bk); (try dsimp only [List.set_cons_zero, List.set_cons_succ]); (try clear g); intro g)
  refine (CM5.out _ _ _ _ _ (G.sl g (by simp) hsa) (G.sl g (by simp) hsm)).mono ?_
  rintro e w1 ⟨Ao, co, Fo, rfl, hso, hn⟩
  have hnno := fun k o hk => Nat.le_trans g.chg.size (hn.new k o hk)
  obtain ⟨g1, rfl⟩ := G.new_ex _ hn
  clear hn
  (try clear g)
  revert g1
  intro g
  go_wp2_with (with_reducible refine G.any_mark _ ?_; (try generalize Array.size (World.heap (G.w _)) = bk); (try dsimp only [List.set_cons_zero, List.set_cons_succ]); (try clear g); intro g)
  refine (CM6.out _ _ _ _ _ (G.sl g (by simp) hsa) (G.sl g (by simp) hsg)).mono ?_
  rintro e w1 ⟨Ap, cp, Fp, rfl, hsp, hn⟩
  have hnnp := fun k o hk => Nat.le_trans g.chg.size (hn.new k o hk)
  obtain ⟨g1, rfl⟩ := G.new_ex _ hn
  clear hn
  (try clear g)
  revert g1
  intro g
  go_wp2_with (with_reducible refine G.any_mark _ ?_; (try generalize Array.size (World.heap (G.w _)) = bk); (try dsimp only [List.set_cons_zero, List.set_cons_succ]); (try clear g); intro g)
  refine (CM7.out _ _ _ _ _ (G.sl g (by simp) hsa) (G.sl g (by simp) hsc)).mono ?_
  rintro e w1 ⟨Aq, cq, Fq, rfl, hsq, hn⟩
  have hnnq := fun k o hk => Nat.le_trans g.chg.size (hn.new k o hk)
  obtain ⟨g1, rfl⟩ := G.new_ex _ hn
  clear hn
  (try clear g)
  revert g1
  intro g
  go_wp2_with (with_reducible refine G.any_mark _ ?_; (try generalize Array.size (World.heap (G.w _)) = bk); (try dsimp only [List.set_cons_zero, List.set_cons_succ]); (try clear g); intro g)
  refine (CM8.out _ _ _ _ _ (G.sl g (by simp) hsj) (G.sl g (by simp) hsq)).mono ?_
  rintro e w1 ⟨Ar, cr, Fr, rfl, hsr, hn⟩
  have hnnr := fun k o hk => Nat.le_trans g.chg.size (hn.new k o hk)
  obtain ⟨g1, rfl⟩ := G.new_ex _ hn
  clear hn
  (try clear g)
  revert g1
  intro g
  go_wp2_with (with_reducible refine G.any_mark _ ?_; (try generalize Array.size (World.heap (G.w _)) = bk); (try dsimp only [List.set_cons_zero, List.set_cons_succ]); (try clear g); intro g)
  refine (CS.out _ _ _ _ _ _ (G.sl g (by simp) hsj) (G.sl g (by simp) hsk)).mono ?_
  rintro e w1 ⟨rfl, hb⟩
  obtain ⟨g1, rfl⟩ := G.call_ex _ hb
  clear hb
  (try clear g)
  revert g1
  intro g
  go_wp2_with (with_reducible refine G.any_mark _ ?_; (try generalize Array.size (World.heap (G.w _)) = bk); (try dsimp only [List.set_cons_zero, List.set_cons_succ]); (try clear g); intro g)
  refine (CS.out _ _ _ _ _ _ (G.sl g (by simp) hsl) (G.sl g (by simp) hso)).mono ?_
  rintro e w1 ⟨rfl, hb⟩
  obtain ⟨g1, rfl⟩ := G.call_ex _ hb
  clear hb
  (try clear g)
  revert g1
  intro g
  go_wp2_with (with_reducible refine G.any_mark _ ?_; (try generalize Array.size (World.heap (G.w _)) = bk); (try dsimp only [List.set_cons_zero, List.set_cons_succ]); (try clear g); intro g)
  refine (CS.out _ _ _ _ _ _ (G.sl g (by simp) hsp) (G.sl g (by simp) hsr)).mono ?_
  rintro e w1 ⟨rfl, hb⟩
  obtain ⟨g1, rfl⟩ := G.call_ex _ hb
  clear hb
  (try clear g)
  revert g1
  intro g
  go_wp2_with (with_reducible refine G.any_mark _ ?_; (try generalize Array.size (World.heap (G.w _)) = bk); (try dsimp only [List.set_cons_zero, List.set_cons_succ]); (try clear g); intro g)
  refine (CP.out _).mono ?_
  rintro e w1 ⟨k, hk, rfl, rfl⟩
  have hsS := HS.out k hk
  obtain ⟨S, hS⟩ : ∃ S, a * 2 ^ k = S := ⟨_, rfl⟩
  rw [hS] at hsS
  obtain ⟨T, hT⟩ : ∃ T, 1 * 2 ^ k = T := ⟨_, rfl⟩
  have hTb : T < 2 ^ 8192 := by rw [← hT, Nat.one_mul]; exact Nat.pow_lt_pow_right (by decide) (by omega)
  have hu : a * T = S := by rw [← hT, ← hS, Nat.one_mul]
  have hback : S / 2 ^ k = a := by rw [← hS]; exact Nat.mul_div_cancel _ (Nat.two_pow_pos k)
  have one8 : 1 < 2 ^ 8192 := small_lt (by decide)
  have CH1 := Lib.hid (ShiftUp_rv a k S hS HA.out (by omega) hsS)
  have CH2 := Lib.hid (ShiftDown_rv S k a hback hsS (by omega))
  have CH3 := Lib.hid (ShiftUp_rv 1 k T hT one8 (by omega) hTb)
  have CM9 := Lib.hid (Mul_rv a T S hu HA.out hTb hsS)
  have ee : limbs 1 = [1] := lim1 (by decide) (by decide)
  have hL1 : (limbs 1).length = 1 := by rw [ee]; rfl
  rw [hL1] at CH3
  have n1' : Hid ((limbs 1).length = 1 ∧ [Value.int .u32 1] = u32s (limbs 1)) := Lib.hid ⟨hL1, by rw [ee]; rfl⟩
  obtain ⟨N, hN⟩ : ∃ N, -(k : Int) = N := ⟨_, rfl⟩
  have hwn : IntKind.i64.wrap N = N := by rw [IntKind.wrap_i64]; omega
  rw [hN] at CH2
  clear hsS hS hT hTb hu hback one8 ee hL1 CA1 CA2 CA3 CA4 CA5 CA6 CM1 CM2 CM3 CM4 CM5 CM6 CM7 CM8 CV1 CV2 CV3 HS CP hk
  go_wp2_with (with_reducible refine G.any_mark _ ?_; (try generalize Array.size (World.heap (G.w _)) = bk); (try dsimp only [List.set_cons_zero, List.set_cons_succ]); (try clear g); intro g)
  refine (CH1.out _ _ _ (G.sl g (by simp) hsa)).mono ?_
  rintro e w1 ⟨As, cs, Fs, rfl, hss, hn⟩
  have hnns := fun k o hk => Nat.le_trans g.chg.size (hn.new k o hk)
  obtain ⟨g1, rfl⟩ := G.new_ex _ hn
  clear hn
  (try clear g)
  revert g1
  intro g
  go_wp2_with (with_reducible refine G.any_mark _ ?_; (try generalize Array.size (World.heap (G.w _)) = bk); (try dsimp only [List.set_cons_zero, List.set_cons_succ]); (try clear g); intro g)
  refine (CH2.out _ _ _ (G.sl g (by simp) hss)).mono ?_
  rintro e w1 ⟨At, ct, Ft, rfl, hst, hn⟩
  have hnnt := fun k o hk => Nat.le_trans g.chg.size (hn.new k o hk)
  obtain ⟨g1, rfl⟩ := G.new_ex _ hn
  clear hn
  (try clear g)
  revert g1
  intro g
  go_wp2_with (with_reducible refine G.any_mark _ ?_; (try generalize Array.size (World.heap (G.w _)) = bk); (try dsimp only [List.set_cons_zero, List.set_cons_succ]); (try clear g); intro g)
  refine (CH3.out _ _ _ (G.lit0 g _ _ n1'.out.2 n1'.out.1 (by decide))).mono ?_
  rintro e w1 ⟨Au, cu, Fu, rfl, hsu, hn⟩
  have hnnu := fun k o hk => Nat.le_trans g.chg.size (hn.new k o hk)
  obtain ⟨g1, rfl⟩ := G.new_ex _ hn
  clear hn
  (try clear g)
  revert g1
  intro g
  go_wp2_with (with_reducible refine G.any_mark _ ?_; (try generalize Array.size (World.heap (G.w _)) = bk); (try dsimp only [List.set_cons_zero, List.set_cons_succ]); (try clear g); intro g)
  refine (CM9.out _ _ _ _ _ (G.sl g (by simp) hsa) (G.sl g (by simp) hsu)).mono ?_
  rintro e w1 ⟨Av, cv, Fv, rfl, hsv, hn⟩
  have hnnv := fun k o hk => Nat.le_trans g.chg.size (hn.new k o hk)
  obtain ⟨g1, rfl⟩ := G.new_ex _ hn
  clear hn
  (try clear g)
  revert g1
  intro g
  go_wp2_with (with_reducible refine G.any_mark _ ?_; (try generalize Array.size (World.heap (G.w _)) = bk); (try dsimp only [List.set_cons_zero, List.set_cons_succ]); (try clear g); intro g)
  refine (CS.out _ _ _ _ _ _ (G.sl g (by simp) hss) (G.sl g (by simp) hsv)).mono ?_
  rintro e w1 ⟨rfl, hb⟩
  obtain ⟨g1, rfl⟩ := G.call_ex _ hb
  clear hb
  (try clear g)
  revert g1
  intro g
  go_wp2_with (with_reducible refine G.any_mark _ ?_; (try generalize Array.size (World.heap (G.w _)) = bk); (try dsimp only [List.set_cons_zero, List.set_cons_succ]); (try clear g); intro g)
  refine (CS.out _ _ _ _ _ _ (G.sl g (by simp) hst) (G.sl g (by simp) hsa)).mono ?_
  rintro e w1 ⟨rfl, hb⟩
  obtain ⟨g1, rfl⟩ := G.call_ex _ hb
  clear hb
  (try clear g)
  revert g1
  intro g
  go_wp2_with (with_reducible refine G.any_mark _ ?_; (try generalize Array.size (World.heap (G.w _)) = bk); (try dsimp only [List.set_cons_zero, List.set_cons_succ]); (try clear g); intro g)
  go_ret
  exact ⟨rfl, g.below⟩
end Go.Proofs.Ytfifcpgjcgoinaa
