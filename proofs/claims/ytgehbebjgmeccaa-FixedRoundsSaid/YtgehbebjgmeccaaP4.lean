/- Plain facts. No conditions. -/
import Derived.Test.YtgehbebjgmeccaaP3
import Derived.Test.YtgehbebjgmeccaaM1
set_option linter.unusedVariables false
set_option linter.unusedSimpArgs false
namespace Go.Proofs.Ytgehbebjgmeccaa.Fx
open Go Go.RowKit
theorem or_comm' (x y : Int) : bits .or .u64 x y = bits .or .u64 y x := by
  show IntKind.u64.wrap ((BitVec.ofInt 64 x ||| BitVec.ofInt 64 y).toNat : Nat) = IntKind.u64.wrap ((BitVec.ofInt 64 y ||| BitVec.ofInt 64 x).toNat : Nat)
  rw [BitVec.or_comm]
theorem div_setup (hi lo y : Int) (s : Nat) (hs : s ≤ 63) (h0 : 1 ≤ hi) (h1 : hi < y) (l0 : 0 ≤ lo) (l1 : lo < 18446744073709551616) (s3 : 9223372036854775808 ≤ y * 2 ^ s) (s4 : y * 2 ^ s < 18446744073709551616) :
    ∃ Y a b U V u1 u0 : Int, y * 2 ^ s = Y ∧ IntKind.u64.wrap Y = Y ∧ Y / 4294967296 = a ∧ bits .and .u64 Y 4294967295 = b ∧ bits .or .u64 (IntKind.u64.wrap (hi * 2 ^ s)) (lo / 2 ^ (64 - s)) = U ∧ IntKind.u64.wrap (lo * 2 ^ s) = V ∧
      V / 4294967296 = u1 ∧ bits .and .u64 V 4294967295 = u0 ∧ Giv U u1 a b ∧ Y = a * 4294967296 + b ∧ V = u1 * 4294967296 + u0 ∧ 0 ≤ u0 ∧ u0 < 4294967296 ∧ (hi * 18446744073709551616 + lo) * 2 ^ s = U * 18446744073709551616 + V := by
  have p1 := pow_pos' s
  have p2 := pow_pos' (64 - s)
  have hb : (2 : Int) ^ s * 2 ^ (64 - s) = 18446744073709551616 := by rw [← Int.pow_add, show s + (64 - s) = 64 by omega]; rfl
  have q0 : 0 ≤ lo / 2 ^ (64 - s) := Int.ediv_nonneg l0 (by omega)
  have q1 : lo / 2 ^ (64 - s) < 2 ^ s := Int.ediv_lt_of_lt_mul p2 (by rw [hb]; exact l1)
  have m0 : 0 ≤ hi * 2 ^ s := Int.mul_nonneg (by omega) (by omega)
  have m1 : (hi + 1) * 2 ^ s ≤ y * 2 ^ s := Int.mul_le_mul_of_nonneg_right (by omega) (by omega)
  rw [Int.add_mul] at m1
  have wh : IntKind.u64.wrap (hi * 2 ^ s) = hi * 2 ^ s := by rw [IntKind.wrap_u64]; omega
  have hor := K.u64or_add (lo / 2 ^ (64 - s)) (hi * 2 ^ s) s (by omega) q0 q1 m0 (by omega) (Int.mul_emod_left _ _)
  have hor2 : bits .or .u64 (hi * 2 ^ s) (lo / 2 ^ (64 - s)) = hi * 2 ^ s + lo / 2 ^ (64 - s) := by
    rw [← hor, or_comm']
  have eV : IntKind.u64.wrap (lo * 2 ^ s) = lo % 2 ^ (64 - s) * 2 ^ s := by
    rw [IntKind.wrap_u64]
    have d : lo * 2 ^ s = lo % 2 ^ (64 - s) * 2 ^ s + 18446744073709551616 * (lo / 2 ^ (64 - s)) := by
      have := Int.mul_ediv_add_emod lo (2 ^ (64 - s))
      rw [← hb]
      conv => lhs; rw [← this]
      grind
    have r0 := Int.emod_nonneg lo (show (2 : Int) ^ (64 - s) ≠ 0 by omega)
    have r1 := Int.emod_lt_of_pos lo p2
    have e2 : lo % 2 ^ (64 - s) * 2 ^ s ≤ (2 ^ (64 - s) - 1) * 2 ^ s := Int.mul_le_mul_of_nonneg_right (by omega) (by omega)
    have e4 : 0 ≤ lo % 2 ^ (64 - s) * 2 ^ s := Int.mul_nonneg r0 (by omega)
    rw [Int.sub_mul, Int.mul_comm (2 ^ (64 - s))] at e2
    rw [d, Int.add_mul_emod_self_left, Int.emod_eq_of_lt e4 (by omega)]
  have V0 : 0 ≤ lo % 2 ^ (64 - s) * 2 ^ s := Int.mul_nonneg (Int.emod_nonneg lo (by omega)) (by omega)
  have V1 : lo % 2 ^ (64 - s) * 2 ^ s < 18446744073709551616 := by
    have := Int.mul_lt_mul_of_pos_right (Int.emod_lt_of_pos lo p2) p1
    rw [Int.mul_comm (2 ^ (64 - s))] at this; omega
  have aY := K.u64and32 (y * 2 ^ s) (by omega) s4
  have aV := K.u64and32 (lo % 2 ^ (64 - s) * 2 ^ s) V0 V1
  have fin : (hi * 18446744073709551616 + lo) * 2 ^ s = (hi * 2 ^ s + lo / 2 ^ (64 - s)) * 18446744073709551616 + lo % 2 ^ (64 - s) * 2 ^ s := by
    have := Int.mul_ediv_add_emod lo (2 ^ (64 - s))
    rw [← hb]
    conv => lhs; rw [← this]
    grind
  rw [wh, hor2, eV]
  generalize lo % 2 ^ (64 - s) * 2 ^ s = V at *
  generalize lo / 2 ^ (64 - s) = W at *
  generalize hY : y * 2 ^ s = Y at *
  generalize hi * 2 ^ s = H at *
  have wY : IntKind.u64.wrap Y = Y := by rw [IntKind.wrap_u64]; omega
  refine ⟨Y, _, _, _, V, _, _, rfl, wY, rfl, rfl, rfl, rfl, rfl, rfl, ?_, ?_, ?_, ?_, ?_, fin⟩
  · rw [aY]; exact ⟨by omega, by omega, by omega, by omega, by omega, by omega, by omega, by omega⟩
  · rw [aY]; omega
  · rw [aV]; omega
  · rw [aV]; omega
  · rw [aV]; omega
theorem loop_setup {U u a b : Int} (g : Giv U u a b) : ∃ Q P R : Int, U.tdiv a = Q ∧ U / a = Q ∧ IntKind.u64.wrap Q = Q ∧ IntKind.u64.wrap (Q * a) = P ∧ IntKind.u64.wrap (U - P) = R ∧ Est U u a b Q R := by
  obtain ⟨e, e'⟩ := est_start g
  have a0 := g.a0; have a1 := g.a1; have b1 := g.b1; have b0 := g.b0; have U0 := g.U0; have U1 := g.U1
  have q0 := e.q0; have q1 := e.q1; have ee := e.e; have r0 := e.r0; have r1 := e.r1
  have X0 : 0 ≤ U / a * a := Int.mul_nonneg q0 (by omega)
  refine ⟨U / a, U / a * a, U - U / a * a, ?_, rfl, ?_, ?_, ?_, e⟩
  · exact Int.tdiv_eq_ediv_of_nonneg U0
  · rw [IntKind.wrap_u64]; omega
  · rw [IntKind.wrap_u64]
    generalize U / a * a = X at *
    omega
  · rw [IntKind.wrap_u64]
    generalize U / a * a = X at *
    omega
theorem step_setup {U u a b x z : Int} (g : Giv U u a b) (h : Est U u a b x z) : ∃ X Z T : Int, IntKind.u64.wrap (x * b) = X ∧ IntKind.u64.wrap (4294967296 * z) = Z ∧ IntKind.u64.wrap (Z + u) = T ∧ (T < X ↔ 4294967296 * z + u < x * b) ∧
    (1 ≤ x → IntKind.u64.wrap (x - 1) = x - 1) ∧ IntKind.u64.wrap (z + a) = z + a := by
  obtain ⟨p0, p1, -⟩ := est_prod g h
  have r0 := h.r0; have r1 := h.r1; have u0 := g.u0; have u1 := g.u1; have a1 := g.a1; have a0 := g.a0; have q1 := h.q1
  refine ⟨x * b, 4294967296 * z, 4294967296 * z + u, ?_, ?_, ?_, Iff.rfl, ?_, ?_⟩
  · rw [IntKind.wrap_u64]; omega
  · rw [IntKind.wrap_u64]; omega
  · rw [IntKind.wrap_u64]; omega
  · intro h; rw [IntKind.wrap_u64]; omega
  · rw [IntKind.wrap_u64]; omega
theorem next_setup {U u a b q Y u0 : Int} (g : Giv U u a b) (hY : Y = a * 4294967296 + b) (hq : (U * 4294967296 + u) / (a * 4294967296 + b) = q) (k0 : 0 ≤ u0) (k1 : u0 < 4294967296) :
    ∃ A1 A2 A3 U2 : Int, IntKind.u64.wrap (U * 4294967296) = A1 ∧ IntKind.u64.wrap (A1 + u) = A2 ∧ IntKind.u64.wrap (q * Y) = A3 ∧ IntKind.u64.wrap (A2 - A3) = U2 ∧ Giv U2 u0 a b ∧ U2 = U * 4294967296 + u - q * Y ∧ 0 ≤ q ∧ q < 4294967296 := by
  obtain ⟨l1, l0⟩ := est_lt g
  obtain ⟨a0, a1, b0, b1, u0', u1, U0, U1⟩ := g
  rw [hq] at l1 l0
  have m := Int.mul_ediv_add_emod (U * 4294967296 + u) (a * 4294967296 + b)
  have r0 := Int.emod_nonneg (U * 4294967296 + u) (show a * 4294967296 + b ≠ 0 by omega)
  have r1 := Int.emod_lt_of_pos (U * 4294967296 + u) (show 0 < a * 4294967296 + b by omega)
  rw [hq, ← hY, Int.mul_comm] at m
  rw [← hY] at r0 r1
  refine ⟨_, _, _, U * 4294967296 + u - q * Y, rfl, rfl, rfl, ?_, ⟨a0, a1, b0, b1, k0, k1, by omega, by omega⟩, rfl, l0, l1⟩
  simp only [IntKind.wrap_u64]
  generalize q * Y = X at *
  omega
theorem fin_setup (hi lo y Y U V u1 u0 a b q1 q0 U2 q r : Int) (s : Nat) (h : (hi * 18446744073709551616 + lo) * 2 ^ s = U * 18446744073709551616 + V) (hY : y * 2 ^ s = Y) (hYa : Y = a * 4294967296 + b) (hV : V = u1 * 4294967296 + u0) (k0 : 0 ≤ u0) (k1 : u0 < 4294967296)
    (y0 : 0 < y) (Y1 : Y < 18446744073709551616) (hU2 : U2 = U * 4294967296 + u1 - q1 * Y) (g : Giv U2 u0 a b) (hq0 : (U2 * 4294967296 + u0) / (a * 4294967296 + b) = q0) (q10 : 0 ≤ q1) (q11 : q1 < 4294967296)
    (hq : (hi * 18446744073709551616 + lo) / y = q) (hr : (hi * 18446744073709551616 + lo) % y = r) :
    ∃ B1 C1 C2 C3 C4 : Int, IntKind.u64.wrap (q1 * 4294967296) = B1 ∧ IntKind.u64.wrap (B1 + q0) = q ∧ IntKind.u64.wrap (U2 * 4294967296) = C1 ∧ IntKind.u64.wrap (C1 + u0) = C2 ∧ IntKind.u64.wrap (q0 * Y) = C3 ∧ IntKind.u64.wrap (C2 - C3) = C4 ∧ C4 / 2 ^ s = r ∧ 0 ≤ C4 := by
  obtain ⟨l1, l0⟩ := est_lt g
  rw [hq0] at l1 l0
  have p := pow_pos' s
  obtain ⟨a0, a1, b0, b1, u0', u1', U0, U1⟩ := g
  have m := Int.mul_ediv_add_emod (U2 * 4294967296 + u0) (a * 4294967296 + b)
  have r0 := Int.emod_nonneg (U2 * 4294967296 + u0) (show a * 4294967296 + b ≠ 0 by omega)
  have r1 := Int.emod_lt_of_pos (U2 * 4294967296 + u0) (show 0 < a * 4294967296 + b by omega)
  rw [hq0, ← hYa, Int.mul_comm] at m
  rw [← hYa] at r0 r1
  generalize hRR : (U2 * 4294967296 + u0) % Y = RR at *
  -- the scaled number is Y * (q1 * 2^32 + q0) + RR
  have e1 : (hi * 18446744073709551616 + lo) * 2 ^ s = Y * (q1 * 4294967296 + q0) + RR := by
    rw [h, hV]
    have : Y * (q1 * 4294967296 + q0) = q1 * Y * 4294967296 + q0 * Y := by grind
    rw [this]
    omega
  have e2 : (hi * 18446744073709551616 + lo) / y = q1 * 4294967296 + q0 := by
    have : (hi * 18446744073709551616 + lo) * 2 ^ s / (y * 2 ^ s) = (hi * 18446744073709551616 + lo) / y := Int.mul_ediv_mul_of_pos_left _ _ p
    rw [← this, hY, e1, Int.mul_add_ediv_left _ _ (by omega), Int.ediv_eq_zero_of_lt r0 r1]
    omega
  have e3 : RR = (hi * 18446744073709551616 + lo) % y * 2 ^ s := by
    have d := Int.mul_ediv_add_emod (hi * 18446744073709551616 + lo) y
    rw [e2] at d
    have : (y * (q1 * 4294967296 + q0) + (hi * 18446744073709551616 + lo) % y) * 2 ^ s = Y * (q1 * 4294967296 + q0) + RR := by rw [d, e1]
    rw [← hY] at this
    have t2 : (y * (q1 * 4294967296 + q0) + (hi * 18446744073709551616 + lo) % y) * 2 ^ s = y * 2 ^ s * (q1 * 4294967296 + q0) + (hi * 18446744073709551616 + lo) % y * 2 ^ s := by grind
    rw [t2] at this
    omega
  refine ⟨_, _, _, _, RR, rfl, ?_, rfl, rfl, rfl, ?_, ?_, r0⟩
  · rw [← hq, e2]; simp only [IntKind.wrap_u64]; omega
  · simp only [IntKind.wrap_u64]
    generalize q0 * Y = X at *
    omega
  · rw [e3, hr]; exact Int.mul_ediv_cancel _ (by omega)
end Go.Proofs.Ytgehbebjgmeccaa.Fx
