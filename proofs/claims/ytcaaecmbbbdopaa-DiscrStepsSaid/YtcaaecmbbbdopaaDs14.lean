/- Plain facts and contracts of functions of the program, out of walks. Their conditions stand ahead of each. -/
import Derived.Test.YtcaaecmbbbdopaaDs1
import Derived.Test.YtcaaecmbbbdopaaDs11
import Derived.Test.YtcaaecmbbbdopaaDs12
import Derived.Below
import Derived.BigQuiet
import Derived.Deep.DeepCutAuto
import Derived.Deep.Draws
import Derived.Deep.QuietTactic
import Derived.Deep.RegionHeld3
import Derived.Deep.WholeRow
import Derived.Great.BuildSlice
import Derived.Laws.Bits128
import Derived.Laws.NewBlocks
import Derived.Laws.OwnMore
import Derived.Laws.Pointers
import Derived.Laws.Rows
import Derived.Lib.Hide
import Derived.Maps.AppendAt
import Derived.RowKit3
import Derived.StillTactics
import Derived.StillTailTactics
import Derived.Test.YtcaaecmbbbdopaaProg
import Derived.WalkKit
import Derived.WalkLawsBesides
import Derived.WalkSpells
set_option linter.unusedVariables false
set_option linter.unusedSimpArgs false
namespace Go.Proofs.Ytcaaecmbbbdopaa
open Go.RowKit GW
/-- the chip of a sample, its phase, the sample -/
def xF (p : Nat) (dl : Int) (ov : Nat) (n : Int) : Int := cc p (((n - stF dl ov (plF dl ov n)) / (ov : Int)).toNat)
def phF (ph st k : Int) : Int := advF ph st k / 67108864
def atF (p : Nat) (dl : Int) (ov : Nat) (ph st n : Int) : Int × Int := (xF p dl ov n * Ang.ti (phF ph st (plF dl ov n)), xF p dl ov n * Ang.tq (phF ph st (plF dl ov n)))
theorem ti_small (k : Int) : -127 ≤ Ang.ti k ∧ Ang.ti k ≤ 127 ∧ -127 ≤ Ang.tq k ∧ Ang.tq k ≤ 127 := by
  have h : ∀ q : Fin 64, -127 ≤ (Ang.tabL.getD q.val (0, 0)).1 ∧ (Ang.tabL.getD q.val (0, 0)).1 ≤ 127 ∧ -127 ≤ (Ang.tabL.getD q.val (0, 0)).2 ∧ (Ang.tabL.getD q.val (0, 0)).2 ≤ 127 := by decide
  have := h ⟨(k % 64).toNat, by omega⟩
  unfold Ang.ti Ang.tq
  rw [Ang.tab_lit]
  exact this
def mnq (x y : Int) : Int := if y < x then y else x
theorem run_mnq {P : Program} (w : World) (ts : Array TypeId) (t : TypeId) (k k' : IntKind) (x y : Int) :
    (Builtin.min_ ts t #[.int k x, .int k' y]).run P w = .ok (.int k (mnq x y)) w := by
  simp [Builtin.min_, Builtin.min2, mnq]
attribute [local go_sem ↓] run_mnq
theorem at_any (p : Nat) (ov : Nat) (o1 : 1 ≤ ov) (o2 : ov ≤ 3) (pb nz fi dl st ph ba n : Int) (v : Value) (C : Option Addr) (cs : Nat) (d1 : 0 ≤ dl) (d2 : dl < 93) (n1 : 0 ≤ n) (n2 : n ≤ 5000) (hst : 0 ≤ ph ∧ ph < 4294967296) (w : World) (hc : SiW w C cs (codeF p)) :
    Calls Try.prog 24 #[planV 5 ov pb 1 1 nz v, emV fi dl 0 st ph 1 ba (.slice none 0 0), .slice C 31 cs, .int .i64 n] w fun e w' => e = .returned (.agg #[.int .i64 (atF p dl ov ph st n).1, .int .i64 (atF p dl ov ph st n).2]) ∧ Below w.heap.size w w' := by
  refine calls_b fun g => ?_
  obtain ⟨b1, b2, b3, b4, b5⟩ := plF_is d1 d2 o1 o2 n1 n2
  have hcap := hc.cap
  have hmax := hc.max
  rw [codeF_len] at hcap
  obtain ⟨bc, oc, rfl, hcell⟩ := ints_cells hc.ints (by rw [codeF_len]; decide)
  rw [codeF_len] at hcell
  have CP := Lib.hid (fun w => place_any ov o1 o2 pb nz fi dl st ph ba n v (.slice none 0 0) d1 d2 n1 n2 w)
  unfold atF xF
  dsimp only
  obtain ⟨P, hP⟩ : ∃ P, plF dl ov n = P := ⟨_, rfl⟩
  rw [hP] at b1 b2 b3 b4 b5 CP ⊢
  have CS := Lib.hid (fun w => start_any ov o2 pb nz fi dl st ph ba P v (.slice none 0 0) d1 d2 (by omega) (by omega) w)
  have CB := Lib.hid (fun w => bit_any ov pb nz fi dl st ph ba P v w)
  have CA := Lib.hid (fun w => rAdvance_any ph st P w)
  have hph : 0 ≤ advF ph st P ∧ advF ph st P < 4294967296 := by unfold advF; omega
  have CC := Lib.hid (fun w => rCarrier_any (advF ph st P) hph.1 hph.2 w)
  have HPF : advF ph st P / 67108864 = phF ph st P := rfl
  rw [HPF] at CC
  clear HPF
  generalize stF dl ov P = S1 at *
  obtain ⟨t1, t2, t3, t4⟩ := ti_small (phF ph st P)
  generalize phF ph st P = F at *
  generalize Ang.ti F = TI at *
  generalize Ang.tq F = TQ at *
  obtain ⟨R, hR⟩ : ∃ R : Nat, n - S1 = (R : Int) := ⟨(n - S1).toNat, by omega⟩
  obtain ⟨q, hq⟩ : ∃ q : Nat, R / ov = q := ⟨_, rfl⟩
  have hq2 : q < 31 := by rw [← hq]; exact Nat.div_lt_of_lt_mul (by rw [Nat.mul_comm]; omega)
  have hqi : (n - S1) / (ov : Int) = (q : Int) := by rw [hR, ← Int.natCast_ediv, hq]
  rw [hqi, Int.toNat_natCast]
  have hx := cc1 p q
  have hcq : ∀ (M : List Blk) (g : G w [] M [heapOf w]), g.w.cell? ⟨bc, oc + q, none⟩ = some (.int .i64 (cc p q)) := fun M g => by
    have := hcell q hq2 _ _ _ _ g (List.mem_singleton.2 rfl)
    rw [codeF_get _ _ hq2] at this
    exact this
  obtain ⟨x, hxx⟩ : ∃ x, cc p q = x := ⟨_, rfl⟩
  rw [hxx] at hx hcq ⊢
  have e1 : IntKind.i64.wrap (n - S1) = (R : Int) := by rw [hR]; exact wrI (by omega) (by omega)
  have e2 : IntKind.i64.wrap (Int.tdiv (R : Int) (ov : Int)) = (q : Int) := by
    rw [Int.tdiv_eq_ediv_of_nonneg (by omega), ← Int.natCast_ediv, hq]; exact wrI (by omega) (by omega)
  have e2' : IntKind.i64.wrap ((R : Int) / (ov : Int)) = (q : Int) := by rw [← Int.natCast_ediv, hq]; exact wrI (by omega) (by omega)
  have ho0n : ¬ (ov = 0) := by omega
  have ho1 : ((ov : Int) == 0) = false := by rw [beq_eq_false_iff_ne]; omega
  have e3 : IntKind.i64.wrap (31 - 1) = 30 := by decide
  have e3' : IntKind.i64.wrap 30 = 30 := by decide
  have e4 : mnq (q : Int) 30 = (q : Int) := by unfold mnq; rw [if_neg (by omega)]
  have e5 : IntKind.i64.wrap (1 * x) = x := by rw [Int.one_mul]; rcases hx with rfl | rfl <;> decide
  have e5' : IntKind.i64.wrap x = x := by rcases hx with rfl | rfl <;> decide
  have e6 : wrap64 (x * TI) = x * TI := by rcases hx with rfl | rfl <;> exact wrM (by omega) (by omega)
  have e7 : wrap64 (x * TQ) = x * TQ := by rcases hx with rfl | rfl <;> exact wrM (by omega) (by omega)
  have hqi31 : (q : Int) < 31 := by omega
  have hq0 : (0 : Int) ≤ (q : Int) := by omega
  have ho0 : ¬ ((ov : Int) = 0) := by omega
  clear b1 b2 b3 b4 b5 hcell hP t1 t2 t3 t4 hR hq hqi hx hxx hph hc d1 d2 n1 n2
  go_enter Try.func24, Try.ntmps24
  go_wp2_with (with_reducible refine G.any_mark _ ?_; (try generalize Array.size (World.heap (G.w _)) = bk); (try dsimp only [List.set_cons_zero, List.set_cons_succ]); (try clear g); intro g)
  refine (CP.out _).mono ?_
  rintro e w1 ⟨rfl, hb⟩
  obtain ⟨g1, rfl⟩ := G.call_ex _ hb
  clear hb
  (try clear g)
  revert g1
  intro g
  go_wp2_with (with_reducible refine G.any_mark _ ?_; (try generalize Array.size (World.heap (G.w _)) = bk); (try dsimp only [List.set_cons_zero, List.set_cons_succ]); (try clear g); intro g)
  rename_i bq be K0 Q0
  go_cut [9, 10] (fun r9 r10 wx => ∃ (g : G w [] [(bk, 41, [.int .i64 0, .int .i64 0]), (be, 30, [.int .i64 fi, .int .i64 dl, .int .i64 0, .int .u32 st, .int .u32 ph, .int .i64 1, .int .i64 ba, .slice none 0 0]), (bq, 26, [.int .i64 5, .int .i64 ov, .int .i64 pb, .int .i64 2, .int .i64 1, .int .i64 1, .int .i64 nz, v])] [heapOf w]), r9 = .int .i64 P ∧ r10 = .int .i64 x ∧ wx = g.w)
  case first =>
    go_region_held3 (fun W => G.heldN g [false, true, true] W ∧ W.cell? ⟨bc, oc + q, none⟩ = some (.int .i64 x)) (first | exact ⟨(by simp [G.heldN, HeldN, go_sem]), hcq _ _⟩ | ((simp only [G.drew_eq, G.drewN_eq]); exact ⟨(by simp [G.heldN, HeldN, go_sem]), hcq _ _⟩)) (first
      | (go_at_call 40; (with_reducible refine (CS.out _).mono ?_); rintro e w1 ⟨rfl, hb⟩; obtain ⟨g1, rfl⟩ := G.call_ex _ hb; clear hb; (try clear g); revert g1; intro g))
    all_goals (first | ((try simp only [G.drew_eq, G.drewN_eq]); (refine G.any_mark _ ?_; (try clear g); intro g)) | skip)
    all_goals go_wp2_with fail
    all_goals go_meet
    all_goals exact ⟨g, rfl, rfl, rfl⟩
  case rest =>
  obtain ⟨g, rfl, rfl, rfl⟩ := hcut
  clear CP CS
  go_wp2_with (with_reducible refine G.any_mark _ ?_; (try generalize Array.size (World.heap (G.w _)) = bk); (try dsimp only [List.set_cons_zero, List.set_cons_succ]); (try clear g); intro g)
  refine (CB.out _).mono ?_
  rintro e w1 ⟨rfl, hb⟩
  obtain ⟨g1, rfl⟩ := G.call_ex _ hb
  clear hb
  (try clear g)
  revert g1
  intro g
  go_wp2_with (with_reducible refine G.any_mark _ ?_; (try generalize Array.size (World.heap (G.w _)) = bk); (try dsimp only [List.set_cons_zero, List.set_cons_succ]); (try clear g); intro g)
  refine (CA.out _).mono ?_
  rintro e w1 ⟨rfl, rfl⟩
  go_wp2_with (with_reducible refine G.any_mark _ ?_; (try generalize Array.size (World.heap (G.w _)) = bk); (try dsimp only [List.set_cons_zero, List.set_cons_succ]); (try clear g); intro g)
  refine (CC.out _).mono ?_
  rintro e w1 ⟨rfl, hb⟩
  obtain ⟨g1, rfl⟩ := G.call_ex _ hb
  clear hb
  (try clear g)
  revert g1
  intro g
  go_wp2_with (with_reducible refine G.any_mark _ ?_; (try generalize Array.size (World.heap (G.w _)) = bk); (try dsimp only [List.set_cons_zero, List.set_cons_succ]); (try clear g); intro g)
  (first | ((try simp only [G.drew_eq, G.drewN_eq]); (refine G.any_mark _ ?_; (try clear g); intro g)) | skip)
  refine bodyPost_ret (v := .agg #[.int .i64 (x * TI), .int .i64 (x * TQ)]) (by simp [results, Try.results24, go_sem]) rfl ⟨rfl, G.below _⟩
end Go.Proofs.Ytcaaecmbbbdopaa
namespace Go.Proofs.Ytcaaecmbbbdopaa
open Go.RowKit GW
set_option maxRecDepth 20000 in
theorem cplan_ex (B : Option Addr) (c n ov : Nat) (pb nz fi : Int) (o1 : 1 ≤ ov) (o2 : ov ≤ 3) (p1 : 1 ≤ pb) (p2 : pb ≤ 3) (z1 : 0 ≤ nz) (z2 : nz ≤ 100) (n1 : 1 ≤ n) (n3 : n ≤ 3) (f1 : 1 ≤ fi) (f2 : fi ≤ 20) (w : World) (hp : SiW w B c (prns fi n)) :
    Calls Try.prog 22 #[planV 5 ov pb 1 1 nz (.slice B n c)] w fun e w' => e = .returned (.int .i64 0) ∧ Below w.heap.size w w' := by
  refine calls_b fun g => ?_
  have hcap := hp.cap
  have hmax := hp.max
  rw [prns_len] at hcap
  obtain ⟨bp, op, rfl, hcell⟩ := ints_cells hp.ints (by rw [prns_len]; omega)
  rw [prns_len] at hcell
  have HC : Hid (∀ j, j < n → ∀ (M : List Blk) (g : G w [] M [heapOf w]), g.w.cell? ⟨bp, op + j, none⟩ = some (.int .i64 (fi + 4 * (j : Int)))) := Lib.hid fun j hj M g => by
    have := hcell j hj _ _ _ _ g (List.mem_singleton.2 rfl)
    rw [prns_get _ _ _ hj] at this
    exact this
  have HY : Hid (∀ j : Nat, j < n → 1 ≤ fi + 4 * (j : Int) ∧ fi + 4 * (j : Int) ≤ 33) := Lib.hid fun j hj => by omega
  have HD : Hid (∀ i j : Nat, j < i → fi + 4 * (j : Int) ≠ fi + 4 * (i : Int)) := Lib.hid fun i j h => by omega
  have a1 : ¬ ((ov : Int) < 1) := by omega
  have a2 : ¬ (8 < (ov : Int)) := by omega
  have a3 : ¬ (pb < 1) := by omega
  have a4 : ¬ (20 < pb) := by omega
  have a5 : ¬ (nz < 0) := by omega
  have a6 : ¬ (100000 < nz) := by omega
  have a7 : ¬ ((n : Int) = 0) := by omega
  have a8 : ¬ (8 < (n : Int)) := by omega
  have a9 : ((n : Int) == 0) = false := by rw [beq_eq_false_iff_ne]; omega
  have HN := Lib.hid n3
  clear hcell hp o1 o2 p1 p2 z1 z2 n1 n3 f1 f2
  go_enter Try.func22, Try.ntmps22
  go_wp2_with (with_reducible refine G.any_mark _ ?_; (try generalize Array.size (World.heap (G.w _)) = bk); (try dsimp only [List.set_cons_zero, List.set_cons_succ]); (try clear g); intro g)
  refine (length5 _).mono ?_
  rintro e w1 ⟨rfl, hb⟩
  obtain ⟨g1, rfl⟩ := G.call_ex _ hb
  clear hb
  (try clear g)
  revert g1
  intro g
  go_wp2_with (with_reducible refine G.any_mark _ ?_; (try generalize Array.size (World.heap (G.w _)) = bk); (try dsimp only [List.set_cons_zero, List.set_cons_succ]); (try clear g); intro g)
  obtain ⟨bq, rfl⟩ : ∃ b : Nat, b = bk := ⟨_, rfl⟩
  go_loopg [5] n (fun gk s5 wr => ∃ (k : Nat), k + gk = n ∧ s5 = .int .i64 (k : Int) ∧ ∃ g : G w [] [(bq, 26, [.int .i64 5, .int .i64 ov, .int .i64 pb, .int .i64 2, .int .i64 1, .int .i64 1, .int .i64 nz, .slice (some ⟨bp, op, none⟩) n c])] [heapOf w], wr = g.w)
  case atStart => exact ⟨0, by omega, rfl, g, rfl⟩
  case round =>
    clear g
    obtain ⟨ko, rfl⟩ : ∃ kq : Nat, kq = gk := ⟨_, rfl⟩
    obtain ⟨k, hkg, rfl, g, rfl⟩ := hrel
    by_cases hk : k < n
    · have hki : (k : Int) < (n : Int) := by omega
      have hk0 : (0 : Int) ≤ (k : Int) := by omega
      have hy := HY.out k hk
      have hcy := HC.out k hk
      have hne := Lib.hid (HD.out k)
      obtain ⟨y, hyy⟩ : ∃ y, fi + 4 * (k : Int) = y := ⟨_, rfl⟩
      rw [hyy] at hy hcy hne
      have y1 : ¬ (y < 1) := by omega
      have y2 : ¬ (33 < y) := by omega
      have ey := hcy _ g
      clear hyy hy
      go_wp2_with (with_reducible refine G.any_mark _ ?_; (try generalize Array.size (World.heap (G.w _)) = bk); (try dsimp only [List.set_cons_zero, List.set_cons_succ]); (try clear g); intro g)
      clear ey
      go_loopg [6] k (fun gk s6 wr => ∃ (j : Nat), j + gk = k ∧ s6 = .int .i64 (j : Int) ∧ ∃ g : G w [] [(bq, 26, [.int .i64 5, .int .i64 ov, .int .i64 pb, .int .i64 2, .int .i64 1, .int .i64 1, .int .i64 nz, .slice (some ⟨bp, op, none⟩) n c])] [heapOf w], wr = g.w)
      case atStart => exact ⟨0, by omega, rfl, g, rfl⟩
      case round =>
        clear g
        obtain ⟨kq, rfl⟩ : ∃ kq : Nat, kq = gk := ⟨_, rfl⟩
        obtain ⟨j, hjg, rfl, g, rfl⟩ := hrel
        by_cases hj : j < k
        · have hji : (j : Int) < (k : Int) := by omega
          have hjn : (j : Int) < (n : Int) := by omega
          have hj0 : (0 : Int) ≤ (j : Int) := by omega
          have hn2 : j < n := by omega
          have hcx := HC.out j (by omega)
          have hxy := hne.out j hj
          generalize fi + 4 * (j : Int) = x at *
          go_wp2_with (with_reducible refine G.any_mark _ ?_; (try generalize Array.size (World.heap (G.w _)) = bk); (try dsimp only [List.set_cons_zero, List.set_cons_succ]); (try clear g); intro g)
          go_region_held3 (fun W => G.heldN g [true] W ∧ W.cell? ⟨bp, op + j, none⟩ = some (.int .i64 x) ∧ W.cell? ⟨bp, op + k, none⟩ = some (.int .i64 y)) (first | exact ⟨(by simp [G.heldN, HeldN, go_sem]), hcx _ _, hcy _ _⟩ | ((simp only [G.drew_eq, G.drewN_eq]); exact ⟨(by simp [G.heldN, HeldN, go_sem]), hcx _ _, hcy _ _⟩)) (fail)
          all_goals (first | ((try simp only [G.drew_eq, G.drewN_eq]); (refine G.any_mark _ ?_; (try clear g); intro g)) | skip)
          all_goals go_wp2_with (with_reducible refine G.any_mark _ ?_; (try generalize Array.size (World.heap (G.w _)) = bk); (try dsimp only [List.set_cons_zero, List.set_cons_succ]); (try clear g); intro g)
          go_roundg (kq - 1)
          case measure => omega
          case rel => exact ⟨j + 1, by omega, by go_num, g, rfl⟩
        · have hji : ¬ ((j : Int) < (k : Int)) := by omega
          have hjk : j = k := by omega
          go_wp2_with (with_reducible refine G.any_mark _ ?_; (try generalize Array.size (World.heap (G.w _)) = bk); (try dsimp only [List.set_cons_zero, List.set_cons_succ]); (try clear g); intro g)
          go_roundg (ko - 1)
          case measure => omega
          case rel => exact ⟨k + 1, by omega, by go_num, g, rfl⟩
    · have hkn : k = n := by omega
      subst hkn
      have hki : ¬ ((k : Int) < (k : Int)) := by omega
      go_wp2_with (with_reducible refine G.any_mark _ ?_; (try generalize Array.size (World.heap (G.w _)) = bk); (try dsimp only [List.set_cons_zero, List.set_cons_succ]); (try clear g); intro g)
      go_ret
      exact ⟨rfl, G.below _⟩
end Go.Proofs.Ytcaaecmbbbdopaa
namespace Go.Proofs.Ytcaaecmbbbdopaa
open Go.RowKit GW
theorem inside14_any (x y : Int) (x1 : -127 ≤ x) (x2 : x ≤ 127) (y1 : -127 ≤ y) (y2 : y ≤ 127) (w : World) : Calls Try.prog 44 #[.agg #[.int .i64 x, .int .i64 y], .int .i64 127] w fun e w' => e = .returned (.bool true) ∧ Below w.heap.size w w' := by
  refine calls_b fun g => ?_
  go_enter Try.func44, Try.ntmps44
  go_wp2_with (with_reducible refine G.any_mark _ ?_; (try generalize Array.size (World.heap (G.w _)) = bk); (try dsimp only [List.set_cons_zero, List.set_cons_succ]); (try clear g); intro g)
  go_ret
  exact ⟨rfl, G.below _⟩
/-- all samples are small -/
def Small (S : List (Int × Int)) : Prop := ∀ j, -127 ≤ (S.getD j (0, 0)).1 ∧ (S.getD j (0, 0)).1 ≤ 127 ∧ -127 ≤ (S.getD j (0, 0)).2 ∧ (S.getD j (0, 0)).2 ≤ 127
theorem sams_cells {F : Frag} {A : Option Addr} {l : List (Int × Int)} (h : F.Sams A l) (hl : 0 < l.length) : ∃ b o, A = some ⟨b, o, none⟩ ∧ ∀ j, j < l.length → ∀ (w0 : World) (X : List Nat) (M : List Blk) (I : List Frag) (g : G w0 X M I), F ∈ I → g.w.cell? ⟨b, o + j * 2, none⟩ = some (.int .i64 (l.getD j (0, 0)).1) ∧ g.w.cell? ⟨b, o + j * 2 + 1, none⟩ = some (.int .i64 (l.getD j (0, 0)).2) := by
  obtain ⟨b, o, e, cs, T, fr, hb, hc⟩ := h hl
  refine ⟨b, o, e, fun j hj w0 X M I g hF => ?_⟩
  have h1 := hc j hj
  constructor
  · refine g.frag_cell hF ?_
    unfold Frag.cell
    simp only [hb]
    exact h1.1
  · refine g.frag_cell hF ?_
    unfold Frag.cell
    simp only [hb]
    exact h1.2
set_option maxRecDepth 20000 in
theorem check14_ex (A : Option Addr) (c p ov : Nat) (S : List (Int × Int)) (at' : Int) (p1 : 1 ≤ p) (p2 : p ≤ 33) (o1 : 1 ≤ ov) (o2 : ov ≤ 3) (t1 : 0 ≤ at') (t2 : at' ≤ 5000) (w : World) (hs : SpW w A c S) (hl : S.length ≤ 5000) (h0 : 0 < S.length) (hsm : Small S) :
    Calls Try.prog 25 #[.slice A S.length c, .int .i64 5, .int .i64 (ov : Int), .int .i64 (p : Int), .int .i64 at'] w (RSmp p ov w) := by
  refine calls_b fun g => ?_
  have CS := Lib.hid (fun w => samples_ex p ov p1 p2 o1 o2 w)
  unfold RSmp at *
  have hcap := hs.cap
  have hmax := hs.max
  obtain ⟨bs, os, rfl, hcell⟩ := sams_cells hs.sams h0
  have HC := Lib.hid hcell
  have HS := Lib.hid hsm
  have a1 : ¬ (at' < -2000000) := by omega
  have a2 : ¬ (2000000 < at') := by omega
  obtain ⟨n, hn⟩ : ∃ n, S.length = n := ⟨_, rfl⟩
  rw [hn] at HC hcap hl ⊢
  have a3 : ¬ (1048576 < (n : Int)) := by omega
  clear hcell hsm hs h0 hn p1 p2 o1 o2 t1 t2
  go_enter Try.func25, Try.ntmps25
  go_wp2_with (with_reducible refine G.any_mark _ ?_; (try generalize Array.size (World.heap (G.w _)) = bk); (try dsimp only [List.set_cons_zero, List.set_cons_succ]); (try clear g); intro g)
  go_loopg [12] n (fun gk s12 wr => ∃ (k : Nat), k + gk = n ∧ s12 = .int .i64 (k : Int) ∧ ∃ g : G w [] [] [heapOf w], wr = g.w)
  case atStart => exact ⟨0, by omega, rfl, g, rfl⟩
  case round =>
    clear g
    obtain ⟨kq, rfl⟩ : ∃ kq : Nat, kq = gk := ⟨_, rfl⟩
    obtain ⟨k, hkg, rfl, g, rfl⟩ := hrel
    by_cases hk : k < n
    · have hki : (k : Int) < (n : Int) := by omega
      have hk0 : (0 : Int) ≤ (k : Int) := by omega
      obtain ⟨e1, e2⟩ := HC.out k hk _ _ _ _ g (List.mem_singleton.2 rfl)
      obtain ⟨s1, s2, s3, s4⟩ := HS.out k
      generalize (S.getD k (0, 0)).1 = x at *
      generalize (S.getD k (0, 0)).2 = y at *
      have CI := Lib.hid (fun w => inside14_any x y s1 s2 s3 s4 w)
      clear s1 s2 s3 s4
      go_wp2_with (with_reducible refine G.any_mark _ ?_; (try generalize Array.size (World.heap (G.w _)) = bk); (try dsimp only [List.set_cons_zero, List.set_cons_succ]); (try clear g); intro g)
      refine (CI.out _).mono ?_
      rintro e w1 ⟨rfl, hb⟩
      obtain ⟨g1, rfl⟩ := G.call_ex _ hb
      clear hb
      (try clear g)
      revert g1
      intro g
      go_wp2_with (with_reducible refine G.any_mark _ ?_; (try generalize Array.size (World.heap (G.w _)) = bk); (try dsimp only [List.set_cons_zero, List.set_cons_succ]); (try clear g); intro g)
      go_roundg (kq - 1)
      case measure => omega
      case rel => exact ⟨k + 1, by omega, by go_num, g, rfl⟩
    · have hkn : k = n := by omega
      subst hkn
      have hki : ¬ ((k : Int) < (k : Int)) := by omega
      go_wp2_with (with_reducible refine G.any_mark _ ?_; (try generalize Array.size (World.heap (G.w _)) = bk); (try dsimp only [List.set_cons_zero, List.set_cons_succ]); (try clear g); intro g)
      refine (CS.out _).mono ?_
      rintro e w1 ⟨br, cr, Fr, rfl, hr, hn'⟩
      have hnn := fun k o hk => Nat.le_trans g.chg.size (hn'.new k o hk)
      obtain ⟨g1, rfl⟩ := G.new_ex _ hn'
      clear hn' g
      revert g1
      intro g
      go_wp2_with (with_reducible refine G.any_mark _ ?_; (try generalize Array.size (World.heap (G.w _)) = bk); (try dsimp only [List.set_cons_zero, List.set_cons_succ]); (try clear g); intro g)
      go_ret2
      exact ⟨br, cr, Fr, rfl, hr, g.pass (List.mem_cons_self ..) hnn⟩
/-- the sums over the first samples -/
def sI (S : List (Int × Int)) (c : List Int) (a : Nat) : Nat → Int
  | 0 => 0
  | i + 1 => sI S c a i + (S.getD (a + i) (0, 0)).1 * c.getD i 0
def sQ (S : List (Int × Int)) (c : List Int) (a : Nat) : Nat → Int
  | 0 => 0
  | i + 1 => sQ S c a i + (S.getD (a + i) (0, 0)).2 * c.getD i 0
theorem prod_bd {x c : Int} (h1 : -127 ≤ x) (h2 : x ≤ 127) (hc : c = 1 ∨ c = -1 ∨ c = 0) : -127 ≤ x * c ∧ x * c ≤ 127 := by
  rcases hc with rfl | rfl | rfl <;> omega
theorem sIQ_bd {S : List (Int × Int)} {c : List Int} (hS : Small S) (hc : ∀ j, c.getD j 0 = 1 ∨ c.getD j 0 = -1 ∨ c.getD j 0 = 0) (a : Nat) : ∀ i : Nat, -127 * (i : Int) ≤ sI S c a i ∧ sI S c a i ≤ 127 * (i : Int) ∧ -127 * (i : Int) ≤ sQ S c a i ∧ sQ S c a i ≤ 127 * (i : Int)
  | 0 => by simp [sI, sQ]
  | i + 1 => by
    obtain ⟨h1, h2, h3, h4⟩ := sIQ_bd hS hc a i
    obtain ⟨s1, s2, s3, s4⟩ := hS (a + i)
    have b1 := prod_bd s1 s2 (hc i)
    have b2 := prod_bd s3 s4 (hc i)
    rw [sI, sQ]
    omega
set_option maxRecDepth 20000 in
set_option maxHeartbeats 4000000 in
theorem sum14_ex (A B : Option Addr) (c cc' n a : Nat) (S : List (Int × Int)) (l : List Int) (hn : l.length = n) (w : World) (hs : SpW w A c S) (hc : SiW w B cc' l) (hlc : ∀ j, l.getD j 0 = 1 ∨ l.getD j 0 = -1 ∨ l.getD j 0 = 0) (hsm : Small S) (hN : S.length ≤ 5000) (h1 : 0 < n) (h2 : n ≤ 93) (ha : a + n ≤ S.length) :
    Calls Try.prog 26 #[.slice A S.length c, .slice B n cc', .int .i64 (a : Int)] w fun e w' => e = .returned (.agg #[.int .i64 (sI S l a n), .int .i64 (sQ S l a n)]) ∧ Below w.heap.size w w' := by
  refine calls_b fun g => ?_
  have hcap := hs.cap
  have hmax := hs.max
  have hcap2 := hc.cap
  have hmax2 := hc.max
  rw [hn] at hcap2
  obtain ⟨bs, os, rfl, hcell⟩ := sams_cells hs.sams (by omega)
  obtain ⟨bc, oc, rfl, hcel2⟩ := ints_cells hc.ints (by omega)
  rw [hn] at hcel2
  have HC := Lib.hid hcell
  have HD := Lib.hid hcel2
  have HB := Lib.hid (fun i => sIQ_bd hsm hlc a i)
  have HS := Lib.hid hsm
  have HL := Lib.hid hlc
  have HI0 : Hid (sI S l a 0 = 0 ∧ sQ S l a 0 = 0) := Lib.hid ⟨rfl, rfl⟩
  have HIS : Hid (∀ i, sI S l a (i + 1) = sI S l a i + (S.getD (a + i) (0, 0)).1 * l.getD i 0 ∧ sQ S l a (i + 1) = sQ S l a i + (S.getD (a + i) (0, 0)).2 * l.getD i 0) := Lib.hid fun i => ⟨rfl, rfl⟩
  obtain ⟨N, hNN⟩ : ∃ N, S.length = N := ⟨_, rfl⟩
  rw [hNN] at HC hcap hN ha ⊢
  have hneg : wrap64 (-(a : Int)) = -(a : Int) := wrM (by omega) (by omega)
  have hmx : ∀ (w : World) (ts : Array TypeId) (t : TypeId), (Builtin.max_ ts t #[.int .i64 0, .int .i64 (-(a : Int))]).run Try.prog w = .ok (.int .i64 0) w := fun w ts t => by
    have h : ¬ (-(a : Int) > 0) := by omega
    simp [Builtin.max_, Builtin.max2]
    omega
  clear hcell hcel2 hs hc hsm hlc hn hNN
  go_enter Try.func26, Try.ntmps26
  go_wp2_with (with_reducible refine G.any_mark _ ?_; (try generalize Array.size (World.heap (G.w _)) = bk); (try dsimp only [List.set_cons_zero, List.set_cons_succ]); (try clear g); intro g)
  rename_i br K0 Q0
  obtain ⟨bo, rfl⟩ : ∃ b : Nat, b = bk := ⟨_, rfl⟩
  (refine G.any_mark _ ?_; (try dsimp only [List.set_cons_zero, List.set_cons_succ]); (try clear g); intro g)
  go_loopg [8] n (fun gk s8 wr => ∃ (i : Nat), i + gk = n ∧ s8 = .int .i64 (i : Int) ∧ ∃ g : G w [] [(bo, 41, [.int .i64 (sI S l a i), .int .i64 (sQ S l a i)]), (br, 41, [.int .i64 0, .int .i64 0])] [heapOf w], wr = g.w)
  case atStart => exact ⟨0, by omega, rfl, g, rfl⟩
  case round =>
    clear g
    obtain ⟨kq, rfl⟩ : ∃ kq : Nat, kq = gk := ⟨_, rfl⟩
    obtain ⟨i, hig, rfl, g, rfl⟩ := hrel
    by_cases hi : i < n
    · have hki : (i : Int) < (n : Int) := by omega
      have hk0 : (0 : Int) ≤ (i : Int) := by omega
      have hai : (a : Int) + (i : Int) < (N : Int) := by omega
      have hai2 : a + i < N := by omega
      have hc1 := fun (M : List Blk) (g : G w [] M [heapOf w]) => HC.out (a + i) hai2 _ _ _ _ g (List.mem_singleton.2 rfl)
      have hc2 := fun (M : List Blk) (g : G w [] M [heapOf w]) => HD.out i hi _ _ _ _ g (List.mem_singleton.2 rfl)
      obtain ⟨b1, b2, b3, b4⟩ := HB.out i
      obtain ⟨s1, s2, s3, s4⟩ := HS.out (a + i)
      have hd := HL.out i
      have hst := HIS.out i
      generalize (S.getD (a + i) (0, 0)).1 = x at *
      generalize (S.getD (a + i) (0, 0)).2 = y at *
      generalize l.getD i 0 = d at *
      generalize sI S l a i = P at *
      generalize sQ S l a i = Q at *
      have v1 := prod_bd s1 s2 hd
      have v2 := prod_bd s3 s4 hd
      have w1 : IntKind.i64.wrap (x * d) = x * d := wrI (by omega) (by omega)
      have w2 : IntKind.i64.wrap (y * d) = y * d := wrI (by omega) (by omega)
      have w3 : IntKind.i64.wrap (P + x * d) = P + x * d := wrI (by omega) (by omega)
      have w4 : IntKind.i64.wrap (Q + y * d) = Q + y * d := wrI (by omega) (by omega)
      have w5 : IntKind.i64.wrap ((a : Int) + (i : Int)) = (a : Int) + (i : Int) := wrI (by omega) (by omega)
      have hcx := fun M g => (hc1 M g).1
      have hcy := fun M g => (hc1 M g).2
      have HST := Lib.hid hst
      clear hst hc1 b1 b2 b3 b4 s1 s2 s3 s4 hd v1 v2
      go_wp2_with (with_reducible refine G.any_mark _ ?_; (try generalize Array.size (World.heap (G.w _)) = bk); (try dsimp only [List.set_cons_zero, List.set_cons_succ]); (try clear g); intro g)
      go_cut [7] (fun r7 wx => ∃ g : G w [] [(bo, 41, [.int .i64 (P + x * d), .int .i64 Q]), (br, 41, [.int .i64 0, .int .i64 0])] [heapOf w], r7 = .pointer (some ⟨bo, 0, none⟩) ∧ wx = g.w)
      case first =>
        clear w2 w4 hcy
        go_region_with (fail)
        all_goals (first | ((try simp only [G.drew_eq, G.drewN_eq]); (refine G.any_mark _ ?_; (try clear g); intro g)) | skip)
        all_goals go_wp2_with fail
        all_goals go_meet
        all_goals exact ⟨g, rfl, rfl⟩
      case rest =>
      obtain ⟨g, rfl, rfl⟩ := hcut
      clear w1 w3 hcx
      go_wp2_with (with_reducible refine G.any_mark _ ?_; (try generalize Array.size (World.heap (G.w _)) = bk); (try dsimp only [List.set_cons_zero, List.set_cons_succ]); (try clear g); intro g)
      go_region_with (fail)
      all_goals (first | ((try simp only [G.drew_eq, G.drewN_eq]); (refine G.any_mark _ ?_; (try clear g); intro g)) | skip)
      all_goals clear hc2 hcy w2 w4 w5
      all_goals go_wp2_with (with_reducible refine G.any_mark _ ?_; (try generalize Array.size (World.heap (G.w _)) = bk); (try dsimp only [List.set_cons_zero, List.set_cons_succ]); (try clear g); intro g)
      all_goals (go_roundg (kq - 1); (case measure => omega); (case rel => exact ⟨i + 1, by omega, by go_num, G.as g (by rw [HST.out.1, HST.out.2])⟩))
    · have hin : i = n := by omega
      have hki : ¬ ((i : Int) < (n : Int)) := by omega
      have hsI : sI S l a i = sI S l a n := by rw [hin]
      have hsQ : sQ S l a i = sQ S l a n := by rw [hin]
      have HI := Lib.hid hsI
      have HQ := Lib.hid hsQ
      clear hsI hsQ hin
      generalize sI S l a i = P at *
      generalize sQ S l a i = Q at *
      go_wp2_with (with_reducible refine G.any_mark _ ?_; (try generalize Array.size (World.heap (G.w _)) = bk); (try dsimp only [List.set_cons_zero, List.set_cons_succ]); (try clear g); intro g)
      (first | ((try simp only [G.drew_eq, G.drewN_eq]); (refine G.any_mark _ ?_; (try clear g); intro g)) | skip)
      refine bodyPost_ret (v := .agg #[.int .i64 P, .int .i64 Q]) (by simp [results, Try.results26, go_sem]) rfl ⟨by rw [HI.out, HQ.out], G.below _⟩
end Go.Proofs.Ytcaaecmbbbdopaa
namespace Go.Proofs.Ytcaaecmbbbdopaa
open Go.RowKit GW
theorem smp_pm' (p ov k j : Nat) : (smp p ov k).getD j 0 = 1 ∨ (smp p ov k).getD j 0 = -1 ∨ (smp p ov k).getD j 0 = 0 := by
  by_cases h : j < k
  · rw [smp_get p ov k j h]
    rcases cc1 p (j / ov) with e | e
    · exact .inl e
    · exact .inr (.inl e)
  · rw [List.getD_eq_getElem?_getD, List.getElem?_eq_none (by rw [smp_len]; omega)]; exact .inr (.inr rfl)
set_option maxRecDepth 20000 in
theorem Sum14_ex (A : Option Addr) (c p ov a : Nat) (S : List (Int × Int)) (p1 : 1 ≤ p) (p2 : p ≤ 33) (o1 : 1 ≤ ov) (o2 : ov ≤ 3) (w : World) (hs : SpW w A c S) (hl : S.length ≤ 5000) (hsm : Small S) (ha : a + 31 * ov ≤ S.length) :
    Calls Try.prog 10 #[.slice A S.length c, .int .i64 5, .int .i64 (ov : Int), .int .i64 (p : Int), .int .i64 (a : Int)] w fun e w' => e = .returned (.tuple #[.agg #[.int .i64 (sI S (smp p ov (31 * ov)) a (31 * ov)), .int .i64 (sQ S (smp p ov (31 * ov)) a (31 * ov))], .int .i64 0]) ∧ Below w.heap.size w w' := by
  refine calls_b fun g => ?_
  have CC := Lib.hid (fun w hs => check14_ex A c p ov S (a : Int) p1 p2 o1 o2 (by omega) (by omega) w hs hl (by omega) hsm)
  unfold RSmp at CC
  have CS := Lib.hid (fun B cc' w hs hc => sum14_ex A B c cc' (31 * ov) a S (smp p ov (31 * ov)) (smp_len _ _ _) w hs hc (smp_pm' p ov _) hsm hl (by omega) (by omega) ha)
  have HS := Lib.hid hs
  clear hs
  generalize sI S (smp p ov (31 * ov)) a (31 * ov) = X at *
  generalize sQ S (smp p ov (31 * ov)) a (31 * ov) = Y at *
  obtain ⟨n, hn⟩ : ∃ n, 31 * ov = n := ⟨_, rfl⟩
  rw [hn] at CC CS
  obtain ⟨N, hN⟩ : ∃ N, S.length = N := ⟨_, rfl⟩
  rw [hN] at CC CS ⊢
  clear hl ha hsm hN hn p1 p2 o1 o2
  go_enter Try.func10, Try.ntmps10
  go_wp2_with (with_reducible refine G.any_mark _ ?_; (try generalize Array.size (World.heap (G.w _)) = bk); (try dsimp only [List.set_cons_zero, List.set_cons_succ]); (try clear g); intro g)
  refine (CC.out _ (G.sp g (by simp) HS.out)).mono ?_
  rintro e w1 ⟨br, cr, Fr, rfl, hr, hn'⟩
  obtain ⟨g1, rfl⟩ := G.new_ex _ hn'
  clear hn' g CC
  revert g1
  intro g
  go_wp2_with (with_reducible refine G.any_mark _ ?_; (try generalize Array.size (World.heap (G.w _)) = bk); (try dsimp only [List.set_cons_zero, List.set_cons_succ]); (try clear g); intro g)
  refine (CS.out _ _ _ (G.sp g (by simp) HS.out) (G.si g (by simp) hr)).mono ?_
  rintro e w1 ⟨rfl, hb⟩
  obtain ⟨g1, rfl⟩ := G.call_ex _ hb
  clear hb
  (try clear g)
  revert g1
  intro g
  go_wp2_with (with_reducible refine G.any_mark _ ?_; (try generalize Array.size (World.heap (G.w _)) = bk); (try dsimp only [List.set_cons_zero, List.set_cons_succ]); (try clear g); intro g)
  (first | ((try simp only [G.drew_eq, G.drewN_eq]); (refine G.any_mark _ ?_; (try clear g); intro g)) | skip)
  refine bodyPost_ret (v := .tuple #[.agg #[.int .i64 X, .int .i64 Y], .int .i64 0]) (by simp [results, Try.results10, go_sem]) rfl ⟨rfl, G.below _⟩
end Go.Proofs.Ytcaaecmbbbdopaa
