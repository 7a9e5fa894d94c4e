/- Plain facts and contracts of functions of the program, out of walks. Their conditions stand ahead of each. -/
import Derived.Test.YtodigegjngnknaaDe3
import Derived.Test.YtodigegjngnknaaDe32
import Derived.Below
import Derived.BigQuiet
import Derived.Deep.Draws
import Derived.Deep.LoopGhost
import Derived.Deep.QuietTactic
import Derived.Deep.RegionHeld3
import Derived.Defers
import Derived.Laws.BytesString
import Derived.Laws.Cells
import Derived.Laws.CopyOwn
import Derived.Laws.NewBlocks
import Derived.Laws.OwnMore
import Derived.Laws.Pointers
import Derived.Laws.Rows
import Derived.Lib.BitFns
import Derived.Lib.Hide
import Derived.Lib.ItoaNum
import Derived.LoopIn
import Derived.LoopNIn
import Derived.Maps.AppendAt
import Derived.OrdersIn
import Derived.OwnWalk
import Derived.OwnWalkIn
import Derived.RangeFuncBound
import Derived.RangeFuncBox
import Derived.RangeFuncCalls
import Derived.RangeFuncLeaves
import Derived.RangeFuncNested
import Derived.RowKit3
import Derived.Shelf.Abstract
import Derived.Shelf.RegionOpen
import Derived.StillTactics
import Derived.StillTailTactics
import Derived.TacticsInMore
import Derived.Test.YtodigegjngnknaaProg
import Derived.WalkKit
import Derived.WalkLawsBesides
import Derived.WalkMore
import Derived.WalkSpells
set_option linter.unusedVariables false
set_option linter.unusedSimpArgs false
set_option exponentiation.threshold 10000
namespace Go.Proofs.Ytodigegjngnknaa
open Go.RowKit GW NL
theorem len_nb {u v : Nat} (h : nb u = nb v) : (limbs u).length = (limbs v).length := by
  have key : ∀ {x y : Nat}, nb x = nb y → (limbs x).length ≤ (limbs y).length := by
    intro x y h
    refine (limbs_len _ _).2 ?_
    have := (limbs_len y _).1 (Nat.le_refl _)
    rw [pow32] at this ⊢
    exact (nb_le _ _).1 (by rw [h]; exact (nb_le _ _).2 this)
  exact Nat.le_antisymm (key h) (key h.symm)
theorem nb_len (a : Nat) : nb a ≤ 32 * (limbs a).length := by
  have := (limbs_len a _).1 (Nat.le_refl _)
  rw [pow32] at this
  exact (nb_le a _).2 this
theorem nb_shift {b n : Nat} (hb : b ≠ 0) : nb (b * 2 ^ n) = nb b + n := by
  apply nb_uniq
  · rw [Nat.pow_add]; exact Nat.mul_lt_mul_of_pos_right (nb_lt b) (Nat.two_pow_pos n)
  · right
    have h1 := nb_pos hb
    rw [show nb b + n - 1 = (nb b - 1) + n by omega, Nat.pow_add]
    exact Nat.mul_le_mul_right _ (nb_ge hb)
theorem apart_m {w0 : World} {X : List Nat} {M : List Blk} {I : List Frag} (g : G w0 X M I) {i j : Nat} {x y : Blk} (hi : M[i]? = some x) (hj : M[j]? = some y) (hne : i ≠ j) : Apart (some ⟨x.1, 0, none⟩) y.1 := by
  intro a e
  cases e
  exact dist_ne g.dist hi hj hne
theorem rquot_less (A1 A2 : Option Addr) (c1 c2 a b : Nat) (w : World) (h1 : SlW w A1 c1 (limbs a)) (h2 : SlW w A2 c2 (limbs b)) (hl1 : (limbs a).length ≤ 100000000) (hl2 : (limbs b).length ≤ 100000000) (hn : nb a < nb b) :
    Calls Try.prog 58 #[.slice A1 (limbs a).length c1, .slice A2 (limbs b).length c2] w (RNN (a / b) (a % b) w) := by
  refine calls_b fun g => ?_
  have hab : a < b := by
    rcases Nat.lt_or_ge a b with h | h
    · exact h
    · have h3 := nb_lt a
      have : nb b ≤ nb a := (nb_le b _).2 (Nat.lt_of_le_of_lt h h3)
      omega
  rw [Nat.div_eq_of_lt hab, Nat.mod_eq_of_lt hab]
  have C1 := Lib.hid (fun w h1 => rbits_any A1 c1 a w h1 (by omega))
  have C2 := Lib.hid (fun w h2 => rbits_any A2 c2 b w h2 (by omega))
  have C3 := Lib.hid (fun w h => own_any A1 c1 (limbs a) w h (by omega))
  unfold RLim at C3
  have hna : nb a ≤ 3200000000 := by have := nb_len a; omega
  have hnb : nb b ≤ 3200000000 := by have := nb_len b; omega
  generalize nb a = na at *
  generalize nb b = nb' at *
  obtain ⟨N, hN⟩ : ∃ N, (na : Int) - (nb' : Int) = N := ⟨_, rfl⟩
  have hN0 : N < 0 := by omega
  have hw : IntKind.i64.wrap N = N := by rw [IntKind.wrap_i64]; omega
  clear hab hn hna hnb
  go_enter Try.func58, Try.ntmps58
  go_wp2_with (with_reducible refine G.any_mark _ ?_; (try generalize Array.size (World.heap (G.w _)) = bk); (try dsimp only [List.set_cons_zero, List.set_cons_succ]); (try clear g); intro g)
  refine (C1.out _ (G.sl g (by simp) h1)).mono ?_
  rintro e w1 ⟨rfl, hb⟩
  obtain ⟨g1, rfl⟩ := G.call_ex _ hb
  clear hb
  (try clear g)
  revert g1
  intro g
  go_wp2_with (with_reducible refine G.any_mark _ ?_; (try generalize Array.size (World.heap (G.w _)) = bk); (try dsimp only [List.set_cons_zero, List.set_cons_succ]); (try clear g); intro g)
  refine (C2.out _ (G.sl g (by simp) h2)).mono ?_
  rintro e w1 ⟨rfl, hb⟩
  obtain ⟨g1, rfl⟩ := G.call_ex _ hb
  clear hb
  (try clear g)
  revert g1
  intro g
  go_wp2_with (with_reducible refine G.any_mark _ ?_; (try generalize Array.size (World.heap (G.w _)) = bk); (try dsimp only [List.set_cons_zero, List.set_cons_succ]); (try clear g); intro g)
  refine (C3.out _ (G.sl g (by simp) h1)).mono ?_
  rintro e w1 ⟨A, c, F, rfl, hs, hn⟩
  have hnn := fun k o hk => Nat.le_trans g.chg.size (hn.new k o hk)
  obtain ⟨g1, rfl⟩ := G.new_ex _ hn
  clear hn
  (try clear g)
  revert g1
  intro g
  go_wp2_with (with_reducible refine G.any_mark _ ?_; (try generalize Array.size (World.heap (G.w _)) = bk); (try dsimp only [List.set_cons_zero, List.set_cons_succ]); (try clear g); intro g)
  go_ret2
  exact ⟨none, 0, (fun _ => none), _, _, _, by rw [limbs_zero]; rfl, by rw [limbs_zero]; exact Frag.Sl.nil _ _, hs, g.none, g.pass (by simp) hnn⟩
set_option maxRecDepth 20000 in
set_option maxHeartbeats 4000000 in
theorem rquot_more (A1 A2 : Option Addr) (c1 c2 a b n0 : Nat) (w : World) (h1 : SlW w A1 c1 (limbs a)) (h2 : SlW w A2 c2 (limbs b)) (hl1 : (limbs a).length ≤ 10000000) (hb0 : b ≠ 0) (hn : nb a = nb b + n0) :
    Calls Try.prog 58 #[.slice A1 (limbs a).length c1, .slice A2 (limbs b).length c2] w (RNN (a / b) (a % b) w) := by
  refine calls_b fun g => ?_
  have hl2 : (limbs b).length ≤ 10000000 := by
    refine Nat.le_trans ((limbs_len _ _).2 ?_) hl1
    have := (limbs_len a _).1 (Nat.le_refl _)
    rw [pow32] at this ⊢
    exact (nb_le _ _).1 (by have := (nb_le a _).2 this; omega)
  have hna : nb a ≤ 320000000 := by have := nb_len a; omega
  have ha0 : a ≠ 0 := by
    intro e
    subst e
    have := nb_pos hb0
    rw [nb_zero] at hn
    omega
  have hn9 : n0 ≤ 320000000 := by omega
  have C1 := Lib.hid (fun w h1 => rbits_any A1 c1 a w h1 (by omega))
  have C2 := Lib.hid (fun w h2 => rbits_any A2 c2 b w h2 (by omega))
  have C3 := Lib.hid (fun w h => own_own A1 c1 (limbs a) w h (by omega) (len_ne ha0))
  have C4 := Lib.hid (fun w h => rshift_own A2 c2 (limbs b) n0 w h (by omega) (by omega))
  rw [val_limbs] at C4
  unfold ROwn at C3 C4
  have hld : (limbs (b * 2 ^ n0)).length = (limbs a).length := len_nb (by rw [nb_shift hb0]; exact hn.symm)
  rw [hld] at C4
  have HQ := Lib.hid (Qb.start hb0 hn)
  have HDV : Hid (val (limbs (b * 2 ^ n0)) = b * 2 ^ n0) := Lib.hid (val_limbs _)
  have HRV : Hid (val (limbs a) = a) := Lib.hid (val_limbs _)
  have oa := ok_limbs a
  have od := ok_limbs (b * 2 ^ n0)
  have hf : ((nb a : Nat) : Int) - ((nb b : Nat) : Int) = (n0 : Int) := by omega
  have hwn : IntKind.i64.wrap (n0 : Int) = (n0 : Int) := by rw [IntKind.wrap_i64]; omega
  obtain ⟨la, hla⟩ : ∃ la, (limbs a).length = la := ⟨_, rfl⟩
  rw [hla] at C1 C3 C4 hld hl1 ⊢
  have HLA := Lib.hid hla
  have HLD := Lib.hid hld
  obtain ⟨lb, hlb⟩ : ∃ lb, (limbs b).length = lb := ⟨_, rfl⟩
  rw [hlb] at C2 C4 ⊢
  clear hla hld hlb hl2
  generalize limbs (b * 2 ^ n0) = dl0 at *
  obtain ⟨m, hm⟩ : ∃ m, n0 / 32 + 1 = m := ⟨_, rfl⟩
  have hq1 : Int.tdiv (n0 : Int) 32 = ((n0 / 32 : Nat) : Int) := by rw [Int.tdiv_eq_ediv_of_nonneg (by omega)]; omega
  have hq2 : ((n0 / 32 : Nat) : Int) + 1 = (m : Int) := by omega
  have hmk : ∀ w, (Instr.makeSlice 65 (.int .i64 (m : Int)) (.int .i64 (m : Int))).run Try.prog w = .ok (.slice (some ⟨w.heap.size, 0, none⟩) m m) (w.alloc (.cells (u32s (List.replicate m 0)).toArray 82)) := fun w => make_nat m (by omega) w
  have hm9 : m ≤ 10000001 := by omega
  have hmn : ∀ k, k ≤ n0 → k / 32 < m := fun k hk => by omega
  have HMN := Lib.hid hmn
  clear hm hmn ha0 hna
  generalize n0 / 32 = n32 at *
  generalize nb a = na at *
  generalize nb b = nb' at *
  clear hn
  go_enter Try.func58, Try.ntmps58
  go_wp2_with (with_reducible refine G.any_mark _ ?_; (try generalize Array.size (World.heap (G.w _)) = bk); (try dsimp only [List.set_cons_zero, List.set_cons_succ]); (try clear g); intro g)
  refine (C1.out _ (G.sl g (by simp) h1)).mono ?_
  rintro e w1 ⟨rfl, hb⟩
  obtain ⟨g1, rfl⟩ := G.call_ex _ hb
  clear hb
  (try clear g)
  revert g1
  intro g
  go_wp2_with (with_reducible refine G.any_mark _ ?_; (try generalize Array.size (World.heap (G.w _)) = bk); (try dsimp only [List.set_cons_zero, List.set_cons_succ]); (try clear g); intro g)
  refine (C2.out _ (G.sl g (by simp) h2)).mono ?_
  rintro e w1 ⟨rfl, hb⟩
  obtain ⟨g1, rfl⟩ := G.call_ex _ hb
  clear hb
  (try clear g)
  revert g1
  intro g
  go_wp2_with (with_reducible refine G.any_mark _ ?_; (try generalize Array.size (World.heap (G.w _)) = bk); (try dsimp only [List.set_cons_zero, List.set_cons_succ]); (try clear g); intro g)
  refine (C3.out _ (G.sl g (by simp) h1)).mono ?_
  rintro e w1 ⟨rb, rcap, rcs, rfl, hrow, hbe, hfr, hbl⟩
  obtain ⟨g1, rfl⟩ := G.own_ex g hbe hfr hbl
  clear hbe hfr hbl g
  revert g1
  intro g
  go_wp2_with (with_reducible refine G.any_mark _ ?_; (try generalize Array.size (World.heap (G.w _)) = bk); (try dsimp only [List.set_cons_zero, List.set_cons_succ]); (try clear g); intro g)
  refine (C4.out _ (G.sl g (by simp) h2)).mono ?_
  rintro e w1 ⟨db, dcap, dcs, rfl, hdrow, hbe, hfr, hbl⟩
  obtain ⟨g1, rfl⟩ := G.own_ex g hbe hfr hbl
  clear hbe hfr hbl g
  revert g1
  intro g
  go_wp2_with (with_reducible refine G.any_mark _ ?_; (try generalize Array.size (World.heap (G.w _)) = bk); (try dsimp only [List.set_cons_zero, List.set_cons_succ]); (try clear g); intro g)
  clear C1 C2 C3 C4 hmk hq1 hq2 hf hwn
  obtain ⟨qb, rfl⟩ : ∃ qb : Nat, qb = bk := ⟨_, rfl⟩
  have HI0 : Hid ((limbs a).length = la ∧ Ok (limbs a) ∧ dl0.length = la ∧ Ok dl0 ∧ (List.replicate m 0).length = m ∧ Ok (List.replicate m 0) ∧ (∀ k, n0 + 1 = k + 1 → val dl0 = b * 2 ^ k) ∧ Qb a b (n0 + 1) (val (limbs a)) (val (List.replicate m 0))) :=
    Lib.hid ⟨HLA.out, oa, HLD.out, od, List.length_replicate, Ok.zeros _, fun k hk => by rw [show k = n0 by omega]; exact HDV.out, by rw [HRV.out, val_zeros]; exact HQ.out⟩
  clear HQ HDV HRV HLA HLD
  go_loopg [6] (n0 + 1) (fun gk s6 wr => ∃ (rl dl ql : List Nat) (rcs dcs : List Value), s6 = .int .i64 ((gk : Int) - 1) ∧ gk ≤ n0 + 1 ∧ Hid (rl.length = la ∧ Ok rl ∧ dl.length = la ∧ Ok dl ∧ ql.length = m ∧ Ok ql ∧ (∀ k, gk = k + 1 → val dl = b * 2 ^ k) ∧ Qb a b gk (val rl) (val ql)) ∧ Row 82 1 la (u32s rl) rcap rcs ∧ Row 82 1 la (u32s dl) dcap dcs ∧ ∃ g : G w [] [(qb, 82, u32s ql), (db, 82, dcs), (rb, 82, rcs)] [heapOf w], wr = g.w)
  case atStart => exact ⟨limbs a, dl0, List.replicate m 0, rcs, dcs, by go_num, Nat.le_refl _, HI0, hrow, hdrow, g, rfl⟩
  case round =>
    clear g hrow hdrow HI0 rcs dcs
    obtain ⟨rl, dl, ql, rcs, dcs, rfl, hg, HI, hrow, hdrow, g, rfl⟩ := hrel
    cases gk with
    | zero =>
      obtain ⟨i1, i2, i3, i4, i5, i6, _, i8⟩ := HI.out
      obtain ⟨e1, e2⟩ := i8.stop
      have T1 := Lib.hid (fun w h => rtrim_any (some ⟨qb, 0, none⟩) m ql w h)
      have T2 := Lib.hid (fun w h => rtrim_any (some ⟨rb, 0, none⟩) rcap rl w h)
      rw [i5, e1] at T1
      rw [i1, e2] at T2
      have S1 := Lib.hid (sl_trim (sl_blk (b := qb) (T := 82) (l := ql) (fr := (0, 0)) (c := m) (by omega) (by omega) i6))
      have S2 := Lib.hid (sl_trim (sl_row (b := rb) hrow i1 (by omega) i2))
      rw [e1] at S1
      rw [e2] at S2
      have P1 := Lib.hid (fun (g : G w [] [(qb, 82, u32s ql), (db, 82, dcs), (rb, 82, rcs)] [heapOf w]) => (sl_blk (b := qb) (T := 82) (l := ql) (fr := (0, 0)) (c := m) (by omega) (by omega) i6).at (blkF_sub g.blk0))
      have P2 := Lib.hid (fun (g : G w [] [(qb, 82, u32s ql), (db, 82, dcs), (rb, 82, rcs)] [heapOf w]) => (sl_row (b := rb) hrow i1 (by omega) i2).at (blkF_sub g.blk2))
      clear i1 i2 i3 i4 i5 i6 i8 e1 e2 HI
      generalize a / b = q at *
      generalize a % b = r at *
      go_wp2_with (with_reducible refine G.any_mark _ ?_; (try generalize Array.size (World.heap (G.w _)) = bk); (try dsimp only [List.set_cons_zero, List.set_cons_succ]); (try clear g); intro g)
      refine (T1.out _ (P1.out g)).mono ?_
      rintro e w1 ⟨rfl, hb⟩
      obtain ⟨g1, rfl⟩ := G.call_ex _ hb
      clear hb
      (try clear g)
      revert g1
      intro g
      go_wp2_with (with_reducible refine G.any_mark _ ?_; (try generalize Array.size (World.heap (G.w _)) = bk); (try dsimp only [List.set_cons_zero, List.set_cons_succ]); (try clear g); intro g)
      refine (T2.out _ (P2.out g)).mono ?_
      rintro e w1 ⟨rfl, hb⟩
      obtain ⟨g1, rfl⟩ := G.call_ex _ hb
      clear hb
      (try clear g)
      revert g1
      intro g
      go_wp2_with (with_reducible refine G.any_mark _ ?_; (try generalize Array.size (World.heap (G.w _)) = bk); (try dsimp only [List.set_cons_zero, List.set_cons_succ]); (try clear g); intro g)
      go_ret2
      exact ⟨_, _, _, _, _, _, rfl, S1.out, S2.out, g.give (List.mem_cons_self ..), g.give (by simp)⟩
    | succ k =>
      rw [show ((k + 1 : Nat) : Int) - 1 = (k : Int) by omega]
      have hk0 : (0 : Int) ≤ (k : Int) := by omega
      have CBq := Lib.hid (fun (g : G w [] [(qb, 82, u32s ql), (db, 82, dcs), (rb, 82, rcs)] [heapOf w]) => rbelow_any (some ⟨rb, 0, none⟩) (some ⟨db, 0, none⟩) rcap dcap la rl dl g.w ((sl_row (b := rb) hrow HI.out.1 (by omega) HI.out.2.1).at (blkF_sub g.blk2)) ((sl_row (b := db) hdrow HI.out.2.2.1 (by omega) HI.out.2.2.2.1).at (blkF_sub g.blk1)) HI.out.1 HI.out.2.2.1 (by omega))
      by_cases hlt : val rl < val dl
      · rw [decide_eq_true hlt] at CBq
        have CH := Lib.hid (fun (g : G w [] [(qb, 82, u32s ql), (db, 82, dcs), (rb, 82, rcs)] [heapOf w]) => rhalve_any db la dcap dcs dl g.w g.blk1 hdrow HI.out.2.2.1 HI.out.2.2.2.1 (by omega))
        have HK : Hid (Qb a b k (val rl) (val ql)) := Lib.hid (HI.out.2.2.2.2.2.2.2.keep (by rw [← HI.out.2.2.2.2.2.2.1 k rfl]; exact hlt))
        clear hlt
        go_wp2_with (with_reducible refine G.any_mark _ ?_; (try generalize Array.size (World.heap (G.w _)) = bk); (try dsimp only [List.set_cons_zero, List.set_cons_succ]); (try clear g); intro g)
        refine (CBq.out g).mono ?_
        rintro e w1 ⟨rfl, rfl⟩
        go_wp2_with (with_reducible refine G.any_mark _ ?_; (try generalize Array.size (World.heap (G.w _)) = bk); (try dsimp only [List.set_cons_zero, List.set_cons_succ]); (try clear g); intro g)
        refine (CH.out g).mono ?_
        rintro e w1 ⟨rfl, hch, dl', dcs', hhb, hdrow', j1, j2, j3⟩
        obtain ⟨g1, rfl⟩ := G.mut1 g hch hhb
        clear hch hhb g
        revert g1
        intro g
        have HI2 : Hid (rl.length = la ∧ Ok rl ∧ dl'.length = la ∧ Ok dl' ∧ ql.length = m ∧ Ok ql ∧ (∀ k', k = k' + 1 → val dl' = b * 2 ^ k') ∧ Qb a b k (val rl) (val ql)) :=
          Lib.hid ⟨HI.out.1, HI.out.2.1, j1, j2, HI.out.2.2.2.2.1, HI.out.2.2.2.2.2.1, fun k' hk' => by
            rw [j3, HI.out.2.2.2.2.2.2.1 k rfl, hk', Nat.pow_succ, ← Nat.mul_assoc, Nat.mul_div_cancel _ (by decide)], HK.out⟩
        have HRW := Lib.hid hdrow'
        clear j1 j2 j3 hdrow' CBq CH
        go_wp2_with (with_reducible refine G.any_mark _ ?_; (try generalize Array.size (World.heap (G.w _)) = bk); (try dsimp only [List.set_cons_zero, List.set_cons_succ]); (try clear g); intro g)
        go_roundg k
        case measure => omega
        case rel => exact ⟨rl, dl', ql, rcs, dcs', by go_num, by omega, HI2, hrow, HRW.out, g, rfl⟩
      · rw [decide_eq_false hlt] at CBq
        have CTk := Lib.hid (fun (g : G w [] [(qb, 82, u32s ql), (db, 82, dcs), (rb, 82, rcs)] [heapOf w]) => rtake_any rb la rcap rcs rl dl (some ⟨db, 0, none⟩) dcap g.w g.blk2 hrow ((sl_row (b := db) hdrow HI.out.2.2.1 (by omega) HI.out.2.2.2.1).at (blkF_sub g.blk1)) (apart_m g (i := 1) (j := 2) rfl rfl (by decide)) HI.out.1 HI.out.2.2.1 HI.out.2.1 (by omega) (by omega))
        have hkm := HMN.out k (by omega)
        obtain ⟨s1, s2, s3⟩ := bit_set (q := ql) (k := k) HI.out.2.2.2.2.2.1 (by rw [HI.out.2.2.2.2.1]; exact hkm) HI.out.2.2.2.2.2.2.2.dvd
        have HK : Hid (Qb a b k (val rl - val dl) (val ql + 2 ^ k)) := Lib.hid (by
          have e := HI.out.2.2.2.2.2.2.1 k rfl
          rw [e]
          exact HI.out.2.2.2.2.2.2.2.sub (by rw [← e]; omega))
        have hql9 := HI.out.2.2.2.2.2.1.getD (k / 32)
        have hcell := u32s_getD (l := ql) (j := k / 32) (by rw [HI.out.2.2.2.2.1]; exact hkm)
        obtain ⟨j, hj⟩ : ∃ j, k / 32 = j := ⟨_, rfl⟩
        obtain ⟨r, hr⟩ : ∃ r, k % 32 = r := ⟨_, rfl⟩
        rw [hj] at hkm s1 s2 s3 hql9 hcell
        rw [hr] at s1 s2 s3
        have hr32 : r < 32 := by omega
        have f1 : Int.tdiv (k : Int) 32 = (j : Int) := by rw [Int.tdiv_eq_ediv_of_nonneg (by omega)]; omega
        have f2 : Int.tmod (k : Int) 32 = (r : Int) := by rw [Int.tmod_eq_emod_of_nonneg (by omega)]; omega
        generalize ql.getD j 0 = y at *
        have hpr : 2 ^ r < 2 ^ (r + 1) := Nat.pow_lt_pow_right (by decide) (by omega)
        have hp9 : 2 ^ r < 4294967296 := Nat.lt_of_lt_of_le (Nat.pow_lt_pow_right (a := 2) (by decide) hr32) (Nat.le_refl _)
        have hor : bits .or .u32 (y : Int) ((2 ^ r : Nat) : Int) = ((y + 2 ^ r : Nat) : Int) := by
          rw [K3.or32_comm, K3.or32_add _ _ (r + 1) (by omega) hpr (by omega) s1]
        have hpi : (2 : Int) ^ r = ((2 ^ r : Nat) : Int) := by rw [Int.natCast_pow]; rfl
        have hset := Lib.hid (u32s_set ql j (y + 2 ^ r))
        have hv2 := Lib.hid s3
        have hok2 := HI.out.2.2.2.2.2.1.set j s2
        generalize 2 ^ r = p at *
        obtain ⟨yp, hyp⟩ : ∃ yp, y + p = yp := ⟨_, rfl⟩
        rw [hyp] at hor hset hv2 hok2 s2
        have hwp : IntKind.u32.wrap (p : Int) = (p : Int) := by rw [IntKind.wrap_u32]; omega
        have hwy : IntKind.u32.wrap (yp : Int) = (yp : Int) := by rw [IntKind.wrap_u32]; omega
        have hr0 : ¬ ((r : Int) < 0) := by omega
        have hr1 : (0 : Int) ≤ (r : Int) := by omega
        have hj0 : (0 : Int) ≤ (j : Int) := by omega
        have hjm : (j : Int) < (m : Int) := by omega
        have hwj : IntKind.i64.wrap (j : Int) = (j : Int) := by rw [IntKind.wrap_i64]; omega
        have hwr : IntKind.i64.wrap (r : Int) = (r : Int) := by rw [IntKind.wrap_i64]; omega
        have hlq : (ql.set j yp).length = m := by rw [List.length_set]; exact HI.out.2.2.2.2.1
        clear s1 s2 s3 hpr hj hr hyp hlt
        go_wp2_with (with_reducible refine G.any_mark _ ?_; (try generalize Array.size (World.heap (G.w _)) = bk); (try dsimp only [List.set_cons_zero, List.set_cons_succ]); (try clear g); intro g)
        refine (CBq.out g).mono ?_
        rintro e w1 ⟨rfl, rfl⟩
        go_wp2_with (with_reducible refine G.any_mark _ ?_; (try generalize Array.size (World.heap (G.w _)) = bk); (try dsimp only [List.set_cons_zero, List.set_cons_succ]); (try clear g); intro g)
        refine (CTk.out g).mono ?_
        rintro e w1 ⟨rfl, hch, rl', rcs', hhb, hrow', j1, j2, j3⟩
        obtain ⟨g1, rfl⟩ := G.mut2 g hch hhb
        clear hch hhb g CBq CTk
        revert g1
        intro g
        go_wp2_with (with_reducible refine G.any_mark _ ?_; (try generalize Array.size (World.heap (G.w _)) = bk); (try dsimp only [List.set_cons_zero, List.set_cons_succ]); (try clear g); intro g)
        go_region
        all_goals ((try simp only [G.drew_eq, G.drewN_eq]); (refine G.any_mark _ ?_; (try generalize Array.size (World.heap (G.w _)) = bk); (try dsimp only [List.set_cons_zero, List.set_cons_succ]); (try clear g); intro g))
        all_goals go_wp2_with (with_reducible refine G.any_mark _ ?_; (try generalize Array.size (World.heap (G.w _)) = bk); (try dsimp only [List.set_cons_zero, List.set_cons_succ]); (try clear g); intro g)
        all_goals
          obtain ⟨g2, hg2⟩ := g.as (by rw [hset.out])
          rw [hg2]
          clear hg2 g
          refine (rhalve_any db la dcap dcs dl g2.w g2.blk1 hdrow HI.out.2.2.1 HI.out.2.2.2.1 (by omega)).mono ?_
          rintro e w1 ⟨rfl, hch, dl', dcs', hhb, hdrow', q1, q2, q3⟩
          obtain ⟨g1, rfl⟩ := G.mut1 g2 hch hhb
          clear hch hhb g2
          revert g1
          intro g
          have HI2 : Hid (rl'.length = la ∧ Ok rl' ∧ dl'.length = la ∧ Ok dl' ∧ (ql.set j yp).length = m ∧ Ok (ql.set j yp) ∧ (∀ k', k = k' + 1 → val dl' = b * 2 ^ k') ∧ Qb a b k (val rl') (val (ql.set j yp))) :=
            Lib.hid ⟨j1, j2, q1, q2, hlq, hok2, fun k' hk' => by
              rw [q3, HI.out.2.2.2.2.2.2.1 k rfl, hk', Nat.pow_succ, ← Nat.mul_assoc, Nat.mul_div_cancel _ (by decide)], by rw [j3, hv2.out]; exact HK.out⟩
          have HRW := Lib.hid hdrow'
          have HRW2 := Lib.hid hrow'
          clear q1 q2 q3 hdrow' j1 j2 j3 hrow'
          go_wp2_with (with_reducible refine G.any_mark _ ?_; (try generalize Array.size (World.heap (G.w _)) = bk); (try dsimp only [List.set_cons_zero, List.set_cons_succ]); (try clear g); intro g)
          go_roundg k
          case measure => omega
          case rel => exact ⟨rl', dl', ql.set j yp, rcs', dcs', by go_num, by omega, HI2, HRW2.out, HRW.out, g, rfl⟩
theorem rquot_any (A1 A2 : Option Addr) (c1 c2 a b : Nat) (w : World) (h1 : SlW w A1 c1 (limbs a)) (h2 : SlW w A2 c2 (limbs b)) (hl1 : (limbs a).length ≤ 10000000) (hl2 : (limbs b).length ≤ 10000000) (hb0 : b ≠ 0) :
    Calls Try.prog 58 #[.slice A1 (limbs a).length c1, .slice A2 (limbs b).length c2] w (RNN (a / b) (a % b) w) := by
  by_cases h : nb a < nb b
  · exact rquot_less A1 A2 c1 c2 a b w h1 h2 (by omega) (by omega) h
  · exact rquot_more A1 A2 c1 c2 a b (nb a - nb b) w h1 h2 hl1 hb0 (by omega)
end Go.Proofs.Ytodigegjngnknaa
