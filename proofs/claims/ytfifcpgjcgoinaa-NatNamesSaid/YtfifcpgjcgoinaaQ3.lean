/- Plain facts and contracts of functions of the program, out of walks. Their conditions stand ahead of each. -/
import Derived.Test.YtfifcpgjcgoinaaQ2
import Derived.Test.YtfifcpgjcgoinaaRows
import Derived.JoinedOf
import Derived.KernelRfl
import Derived.ProofKit
import Derived.OpenShut
import Derived.HandedShaped
import Derived.SizedLaws
set_option linter.unusedVariables false
set_option linter.unusedSimpArgs false
namespace Go.Proofs.Ytfifcpgjcgoinaa
open Go Go.ChangeShapes Go.WideShapes Go.ChangeAt Go.RowKit GW NL
theorem and_mk {a b : Bool} (ha : a = true) (hb : b = true) : (a && b) = true := by rw [ha, hb]; rfl
theorem closed1 : laidOutB Try.prog = true := by kernel_rfl
theorem closed2 : mapsRowed Try.prog = true := by kernel_rfl
theorem closed3 : (Try.prog.stops == []) = true := by kernel_rfl
theorem closed4 : (Try.prog.stopKnobs == []) = true := by kernel_rfl
theorem closed5 : Try.prog.stopsHeard = true := by kernel_rfl
theorem closed6 : Try.prog.mayEnter = true := by kernel_rfl
theorem cellsU32 : Try.prog.cellsOf 30 = 1 := by kernel_rfl
theorem bytesU32 : Try.prog.bytesOf 30 = 4 := by kernel_rfl
theorem cell_block {w : World} {b o : Nat} {v : Value} (h : w.cell? ⟨b, o, none⟩ = some v) : ∃ cs T fr, w.heap[b]? = some (.cells cs T fr) ∧ cs[o]? = some v := by
  unfold World.cell? at h
  cases hb : w.heap[b]? with
  | none => simp [hb] at h
  | some ob =>
    cases ob with
    | cells cs T fr => simp [hb] at h; exact ⟨cs, T, fr, rfl, h⟩
    | _ => simp [hb] at h
/-- A slice of uint32 among the arguments. -/
theorem open_u32s {H : Type} {enc : TypeId × Value → H} {W : World} {base : Nat} {T : TypeId} {v : Value} {d : DataW H} {p : List MemPlace} (hT : Try.prog.underlying T = some (.slice 30)) (hval : Value.okWide Try.prog W .any base T v)
    (h : DataW.Trod enc Try.prog W 0 (fun _ => true) true T v d p) :
    ∃ A c l, v = .slice A l.length c ∧ ((d = .nil ∧ l.length = 0) ∨ ∃ xs ys, d = .slice xs ys ∧ xs.length = l.length) ∧ (l.length ≤ 140737488355328 → SlW W A c l) := by
  obtain ⟨a0, len, cap, rfl⟩ := okWide_slice hT hval
  obtain ⟨fuel, hf⟩ := h
  rcases open_ints hT Try.underlying30 cellsU32 hf with ⟨hcs, hx⟩ | ⟨a, len', cap', zs, hcs, _, hl, hm, hz, hx, hcell, hwz⟩
  · simp [Value.cells] at hcs
    obtain ⟨rfl, rfl, rfl⟩ := hcs
    simp only [Prod.mk.injEq] at hx
    exact ⟨none, 0, [], rfl, .inl ⟨hx.1, rfl⟩, fun _ => Frag.Sl.nil _ _⟩
  · simp [Value.cells] at hcs
    obtain ⟨rfl, rfl, rfl⟩ := hcs
    simp only [Prod.mk.injEq] at hx
    simp only [if_true] at hz
    have hll : ((zs.take len).map Int.toNat).length = len := by simp; omega
    refine ⟨some a, cap, (zs.take len).map Int.toNat, by rw [hll], .inr ⟨_, _, hx.1, by simp [lits]⟩, fun h9 => ⟨by omega, by unfold maxLen at hm; omega, h9, ?_, ?_⟩⟩
    · intro hpos
      obtain ⟨b, o, rfl, hc⟩ := ints_at hcell (by omega)
      obtain ⟨cs, T', fr, hb, _⟩ := cell_block (hc 0 (by omega))
      refine ⟨b, o, rfl, cs, T', fr, hb, fun j hj => ?_⟩
      have hj' : j < zs.length := by omega
      have e := hc j hj'
      simp only [World.cell?, hb] at e
      have e2 : cs[o + j]? = some (.int .u32 (zs.getD j 0)) := by simpa using e
      rw [e2]
      have hb2 := bounds_u32 (hwz (zs.getD j 0) (by rw [List.getD_eq_getElem?_getD, List.getElem?_eq_getElem hj']; exact List.getElem_mem hj'))
      have e3 : ((zs.take len).map Int.toNat).getD j 0 = (zs.getD j 0).toNat := by
        rw [List.getD_eq_getElem?_getD, List.getElem?_map, List.getElem?_take_of_lt (by omega), List.getElem?_eq_getElem hj', List.getD_eq_getElem?_getD, List.getElem?_eq_getElem hj']
        rfl
      rw [e3, Int.toNat_of_nonneg hb2.1]
    · intro x hx
      obtain ⟨z, hz2, rfl⟩ := List.mem_map.1 hx
      have := bounds_u32 (hwz z (List.mem_of_mem_take hz2))
      omega
/-- How long it is at most. -/
theorem reach_u32s {H : Type} {ts : List TypeId} {ds : List (DataW H)} (hs : (DataW.weightsEach Try.prog ts ds).all (· ≤ reachBytes) = true) {j : Nat} {T : TypeId} {d : DataW H} {n : Nat} (ht : ts[j]? = some T) (hd : ds[j]? = some d) (hT : Try.prog.underlying T = some (.slice 30))
    (h : (d = .nil ∧ n = 0) ∨ ∃ xs ys, d = .slice xs ys ∧ xs.length = n) : n ≤ 35184372088832 := by
  rcases h with ⟨_, rfl⟩ | ⟨xs, ys, rfl, rfl⟩
  · omega
  · have := sized_slice hs ht hd hT
    rw [bytesU32] at this
    simp only [reachBytes] at this
    omega
end Go.Proofs.Ytfifcpgjcgoinaa
namespace Go.Proofs.Ytfifcpgjcgoinaa.K3
open Go
open Go Go.RowKit
theorem wrap_bv32 (x : BitVec 32) : IntKind.u32.wrap (x.toNat : Int) = (x.toNat : Int) := by
  rw [IntKind.wrap_u32]; have := x.isLt; omega
theorem or32 (x y : Int) : bits .or .u32 x y = ((BitVec.ofInt 32 x ||| BitVec.ofInt 32 y).toNat : Int) := wrap_bv32 _
theorem and32 (x y : Int) : bits .and .u32 x y = ((BitVec.ofInt 32 x &&& BitVec.ofInt 32 y).toNat : Int) := wrap_bv32 _
theorem xor32 (x y : Int) : bits .xor .u32 x y = ((BitVec.ofInt 32 x ^^^ BitVec.ofInt 32 y).toNat : Int) := wrap_bv32 _
theorem back32 (b : BitVec 32) : BitVec.ofInt 32 (b.toNat : Int) = b := by
  apply BitVec.eq_of_toNat_eq
  rw [BitVec.ofInt_natCast, BitVec.toNat_ofNat]
  exact Nat.mod_eq_of_lt b.isLt
theorem top32 (b : BitVec 32) : (b.toNat : Int) / 2147483648 = if b.msb then 1 else 0 := by
  rw [BitVec.msb_eq_decide]
  have := b.isLt
  by_cases h : 2 ^ (32 - 1) ≤ b.toNat
  · rw [decide_eq_true h]; simp; omega
  · rw [decide_eq_false h]; simp; omega
theorem msbN (x : Nat) (h : x < 4294967296) : (BitVec.ofInt 32 (x : Int)).msb = decide (2147483648 ≤ x) := by
  rw [BitVec.msb_eq_decide, BitVec.ofInt_natCast, BitVec.toNat_ofNat, Nat.mod_eq_of_lt (by omega)]
theorem borrow32 (x y c : Nat) (hx : x < 4294967296) (hy : y < 4294967296) (hc : c ≤ 1) :
    bits .or .u32 (bits .and .u32 (bits .xor .u32 IntKind.u32.max (x : Int)) (y : Int)) (bits .and .u32 (bits .xor .u32 IntKind.u32.max (bits .xor .u32 (x : Int) (y : Int))) (((x : Int) - (y : Int) - (c : Int)) % 4294967296)) / 2147483648 = ((if x < y + c then 1 else 0 : Nat) : Int) := by
  obtain ⟨d, hd, hd1⟩ : ∃ d : Nat, ((x : Int) - y - c) % 4294967296 = (d : Int) ∧ d < 4294967296 := ⟨(((x : Int) - y - c) % 4294967296).toNat, by omega, by omega⟩
  rw [hd]
  have hm : (BitVec.ofInt 32 IntKind.u32.max).msb = true := by decide
  simp only [or32, and32, xor32, back32, top32, BitVec.msb_or, BitVec.msb_and, BitVec.msb_xor, msbN x hx, msbN y hy, msbN d hd1, hm]
  by_cases a : 2147483648 ≤ x <;> by_cases b : 2147483648 ≤ y <;> by_cases e : 2147483648 ≤ d <;> simp [a, b, e] <;> (split <;> omega)
/-- numbers that share no bit: or is the sum -/
theorem or32_add (x y k : Nat) (hk : k ≤ 32) (hx : x < 2 ^ k) (hy : y < 4294967296) (hd : y % 2 ^ k = 0) : bits .or .u32 (x : Int) (y : Int) = ((y + x : Nat) : Int) := by
  have lt : 2 ^ k ≤ 2 ^ 32 := Nat.pow_le_pow_right (by omega) hk
  rw [or32]
  congr 1
  rw [BitVec.toNat_or, BitVec.ofInt_natCast, BitVec.ofInt_natCast, BitVec.toNat_ofNat, BitVec.toNat_ofNat, Nat.mod_eq_of_lt (by omega), Nat.mod_eq_of_lt (by omega)]
  have hm : y = 2 ^ k * (y / 2 ^ k) := by have := Nat.div_add_mod y (2 ^ k); omega
  rw [Nat.or_comm]
  conv => lhs; rw [hm]
  rw [← Nat.two_pow_add_eq_or_of_lt hx]
  omega
theorem wrap_bv64 (x : BitVec 64) : IntKind.u64.wrap (x.toNat : Int) = (x.toNat : Int) := by
  rw [IntKind.wrap_u64]; have := x.isLt; omega
theorem or64 (x y : Int) : bits .or .u64 x y = ((BitVec.ofInt 64 x ||| BitVec.ofInt 64 y).toNat : Int) := wrap_bv64 _
theorem or64_add (x y k : Nat) (hk : k ≤ 64) (hx : x < 2 ^ k) (hy : y < 18446744073709551616) (hd : y % 2 ^ k = 0) : bits .or .u64 (x : Int) (y : Int) = ((y + x : Nat) : Int) := by
  have lt : 2 ^ k ≤ 2 ^ 64 := Nat.pow_le_pow_right (by omega) hk
  rw [or64]
  congr 1
  rw [BitVec.toNat_or, BitVec.ofInt_natCast, BitVec.ofInt_natCast, BitVec.toNat_ofNat, BitVec.toNat_ofNat, Nat.mod_eq_of_lt (by omega), Nat.mod_eq_of_lt (by omega)]
  have hm : y = 2 ^ k * (y / 2 ^ k) := by have := Nat.div_add_mod y (2 ^ k); omega
  rw [Nat.or_comm]
  conv => lhs; rw [hm]
  rw [← Nat.two_pow_add_eq_or_of_lt hx]
  omega
theorem or64_comm (x y : Int) : bits .or .u64 x y = bits .or .u64 y x := by rw [or64, or64, BitVec.or_comm]
theorem or32_comm (x y : Int) : bits .or .u32 x y = bits .or .u32 y x := by rw [or32, or32, BitVec.or_comm]
end Go.Proofs.Ytfifcpgjcgoinaa.K3
namespace Go.Proofs.Ytfifcpgjcgoinaa.K3
open Go
open Go Go.RowKit
theorem or_i64_add (x y k : Nat) (hk : k ≤ 63) (hx : x < 2 ^ k) (hy : y + x < 9223372036854775808) (hd : y % 2 ^ k = 0) : bits .or .i64 (x : Int) (y : Int) = ((y + x : Nat) : Int) := by
  have lt : 2 ^ k ≤ 2 ^ 63 := Nat.pow_le_pow_right (by omega) hk
  have e : (BitVec.ofInt 64 (x : Int) ||| BitVec.ofInt 64 (y : Int)).toNat = y + x := by
    rw [BitVec.toNat_or, BitVec.ofInt_natCast, BitVec.ofInt_natCast, BitVec.toNat_ofNat, BitVec.toNat_ofNat, Nat.mod_eq_of_lt (by omega), Nat.mod_eq_of_lt (by omega)]
    have hm : y = 2 ^ k * (y / 2 ^ k) := by have := Nat.div_add_mod y (2 ^ k); omega
    rw [Nat.or_comm]
    conv => lhs; rw [hm]
    rw [← Nat.two_pow_add_eq_or_of_lt hx]
    omega
  show IntKind.i64.wrap ((BitVec.ofInt 64 (x : Int) ||| BitVec.ofInt 64 (y : Int)).toNat : Int) = _
  rw [e, IntKind.wrap_i64]
  omega
theorem or_i64_comm (x y : Int) : bits .or .i64 x y = bits .or .i64 y x := by
  show IntKind.i64.wrap ((BitVec.ofInt 64 x ||| BitVec.ofInt 64 y).toNat : Int) = IntKind.i64.wrap ((BitVec.ofInt 64 y ||| BitVec.ofInt 64 x).toNat : Int)
  rw [BitVec.or_comm]
end Go.Proofs.Ytfifcpgjcgoinaa.K3
