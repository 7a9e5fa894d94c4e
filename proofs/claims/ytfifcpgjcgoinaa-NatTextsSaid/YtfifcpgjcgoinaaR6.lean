/- Contracts of functions of the program, out of walks. Their conditions stand ahead of each. -/
import Derived.Test.YtfifcpgjcgoinaaNp3
import Derived.Test.YtfifcpgjcgoinaaN17
import Derived.Laws.IdiomStrings
import Derived.Test.YtfifcpgjcgoinaaGp
import Derived.Test.YtfifcpgjcgoinaaN28
import Derived.Test.YtfifcpgjcgoinaaR1
import Derived.Test.YtfifcpgjcgoinaaR4
import Derived.Laws.Concat
import Derived.Laws.Runes
set_option linter.unusedVariables false
set_option linter.unusedSimpArgs false
namespace Go.Proofs.Ytfifcpgjcgoinaa.NL
open Go
/-- the number of the first k digits -/
def dv (l : List Nat) (k : Nat) : Nat := dval ((l.take k).map (· - 48))
theorem dv_zero (l : List Nat) : dv l 0 = 0 := rfl
theorem dv_succ {l : List Nat} {k : Nat} (h : k < l.length) : dv l (k + 1) = 10 * dv l k + (l.getD k 0 - 48) := by
  unfold dv
  rw [take_succ h, List.map_append, List.map_cons, List.map_nil, dval_snoc, List.getD_eq_getElem?_getD, List.getElem?_eq_getElem h]
  rfl
theorem dv_lt {l : List Nat} : ∀ {k : Nat}, k ≤ l.length → (∀ j, j < k → l.getD j 0 ≤ 57) → dv l k < 10 ^ k := by
  intro k
  induction k with
  | zero => intro _ _; rw [dv_zero]; decide
  | succ k ih =>
    intro h hd
    rw [dv_succ (by omega), Nat.pow_succ]
    have := ih (by omega) (fun j hj => hd j (by omega))
    have := hd k (by omega)
    omega
/-- ten times a number, limb by limb -/
structure Ten (xs : List Nat) (d j c : Nat) (pre : List Nat) : Prop where
  len : pre.length = j
  ok : Ok pre
  lt : c < 4294967296
  eq : val pre + 4294967296 ^ j * c = 10 * val (xs.take j) + d
theorem Ten.start {xs : List Nat} {d : Nat} (h : d < 4294967296) : Ten xs d 0 d [] := ⟨rfl, Ok.nil, h, by simp [val]⟩
theorem Ten.step {xs : List Nat} {d j c' : Nat} {pre : List Nat} (h : Ten xs d j c' pre) (ho : Ok xs) : Ten xs d (j + 1) ((xs.getD j 0 * 10 + 0 + c') / 4294967296) (pre ++ [(xs.getD j 0 * 10 + 0 + c') % 4294967296]) := by
  have hx := ho.getD j
  have hc := h.lt
  refine ⟨by rw [List.length_append, h.len]; rfl, h.ok.append (Ok.cons (Nat.mod_lt _ (by decide)) Ok.nil), by omega, ?_⟩
  rw [val_snoc, h.len, val_take_getD]
  have p := pow_split j (xs.getD j 0 * 10 + 0 + c')
  have e := h.eq
  rw [Nat.mul_add _ (xs.getD j 0 * 10 + 0), Nat.add_zero, Nat.mul_comm (xs.getD j 0) 10, Nat.mul_left_comm] at p
  rw [Nat.add_zero, Nat.mul_comm (xs.getD j 0) 10]
  generalize 4294967296 ^ j * ((10 * xs.getD j 0 + c') % 4294967296) = a1 at *
  generalize 4294967296 ^ (j + 1) * ((10 * xs.getD j 0 + c') / 4294967296) = a2 at *
  generalize 4294967296 ^ j * c' = a3 at *
  generalize 4294967296 ^ j * xs.getD j 0 = a4 at *
  omega
theorem Ten.more {N d c : Nat} {pre : List Nat} (h : Ten (limbs N) d (limbs N).length c pre) (hc : c ≠ 0) : pre ++ [c] = limbs (10 * N + d) := by
  have e := h.eq
  rw [List.take_length, val_limbs] at e
  have hv : val (pre ++ [c]) = 10 * N + d := by rw [val_snoc, h.len]; exact e
  rw [← hv, limbs_val (h.ok.append (Ok.cons h.lt Ok.nil)) ?_]
  intro k hk
  rw [List.length_append, List.length_singleton] at hk
  rw [List.getD_eq_getElem?_getD, List.getElem?_append_right (by omega), show k - pre.length = 0 by omega]
  exact hc
theorem Ten.same {N d : Nat} {pre : List Nat} (h : Ten (limbs N) d (limbs N).length 0 pre) : pre = limbs (10 * N + d) := by
  have e := h.eq
  rw [List.take_length, val_limbs, Nat.mul_zero, Nat.add_zero] at e
  have h1 := limbs_prefix h.ok
  rw [e] at h1
  have h2 := limbs_len_mono (m := N) (n := 10 * N + d) (by omega)
  rw [← h1, List.take_of_length_le (by rw [h.len]; exact h2)]
end Go.Proofs.Ytfifcpgjcgoinaa.NL

set_option exponentiation.threshold 10000
namespace Go.Proofs.Ytfifcpgjcgoinaa
open Go.RowKit GW NL
/-- the bytes of a text -/
def bl (s : ByteArray) : List Nat := s.data.toList.map UInt8.toNat
theorem bl_len (s : ByteArray) : (bl s).length = s.size := by simp [bl]
theorem bl_lt (s : ByteArray) : ∀ x ∈ bl s, x < 256 := by
  intro x hx
  obtain ⟨u, _, rfl⟩ := List.mem_map.1 hx
  exact u.toNat_lt
/-- In part F, block b reads as the bytes l. -/
def ByL (F : Frag) (b : Nat) (l : List Nat) : Prop := ∃ cs T f, F b = some (.cells cs T f) ∧ ∀ j, j < l.length → cs[j]? = some (.int .u8 ((l.getD j 0 : Nat) : Int))
theorem ByL.cell {F : Frag} {b : Nat} {l : List Nat} (h : ByL F b l) {w0 : World} {X : List Nat} {M : List Blk} {I : List Frag} (g : G w0 X M I) (hF : F ∈ I) {j : Nat} (hj : j < l.length) : g.w.cell? ⟨b, j, none⟩ = some (.int .u8 ((l.getD j 0 : Nat) : Int)) := by
  obtain ⟨cs, T, f, hb, hc⟩ := h
  have := g.sub F hF b _ hb
  simp [World.cell?, this, hc j hj]
theorem bytesRow_get (s : ByteArray) (c : Nat) (j : Nat) (hj : j < (bl s).length) : (bytesRow s c)[j]? = some (.int .u8 (((bl s).getD j 0 : Nat) : Int)) := by
  have hj' : j < s.data.toList.length := by simpa [bl] using hj
  have hj2 : j < s.data.size := by simpa using hj'
  unfold bytesRow
  rw [Array.getElem?_append_left (by simpa using hj2), Array.getElem?_map, Array.getElem?_eq_getElem hj2]
  unfold bl
  rw [List.getD_eq_getElem?_getD, List.getElem?_map, List.getElem?_eq_getElem hj']
  rfl
/-- a text turned to bytes -/
theorem conv_ex (s : ByteArray) : ∃ (capOf : World → Nat) (cvW : World → World) (fr : World → Frag), ∀ w, (convert 9 65 (.string s)).run Try.prog w = .ok (.slice (some ⟨w.heap.size, 0, none⟩) s.size (capOf w)) (cvW w) ∧ New w (cvW w) (fr w) ∧ ByL (fr w) w.heap.size (bl s) := by
  refine ⟨fun w => grownCap w s.size 0 5, fun w => w.drew.alloc (.cells (bytesRow s (grownCap w s.size 0 5)) 5 ((bytesRow s (grownCap w s.size 0 5)).size, (bytesRow s (grownCap w s.size 0 5)).size + 1)),
    fun w => blkF w.heap.size (.cells (bytesRow s (grownCap w s.size 0 5)) 5 ((bytesRow s (grownCap w s.size 0 5)).size, (bytesRow s (grownCap w s.size 0 5)).size + 1)), fun w => ⟨run_bytes_of_string w _ _ _ s Try.underlying9 Try.underlying65 Try.underlying5, ?_, ?_⟩⟩
  · refine ⟨⟨rfl, rfl, rfl, ?_, fun k hk => ?_⟩, blkF_sub ?_, fun k o hk => ?_⟩
    · show w.heap.size ≤ (w.heap.push _).size
      simp
    · show (w.heap.push _)[k]? = w.heap[k]?
      rw [Array.getElem?_push, if_neg (by omega)]
    · show (w.heap.push _)[w.heap.size]? = _
      simp
    · rw [blkF_at hk]; exact Nat.le_refl _
  · exact ⟨bytesRow s (grownCap w s.size 0 5), 5, _, if_pos rfl, fun j hj => bytesRow_get s _ j hj⟩
theorem digit_any (x : Nat) (hx : x < 256) (w : World) : Calls Try.prog 62 #[.int .u8 (x : Int)] w fun e w' => e = .returned (.bool (decide (x < 48 ∨ 57 < x))) ∧ w = w' := by
  by_cases h1 : x < 48
  · have h1i : (x : Int) < 48 := by omega
    rw [decide_eq_true (Or.inl h1)]
    go_enter Try.func62, Try.ntmps62
    go_wp2_with fail
    go_ret
    exact ⟨rfl, rfl⟩
  · have h1i : ¬ ((x : Int) < 48) := by omega
    have h1j : decide ((x : Int) < 48) = false := decide_eq_false h1i
    by_cases h2 : 57 < x
    · have h2i : (57 : Int) < (x : Int) := by omega
      rw [decide_eq_true (Or.inr h2)]
      clear h1 h2
      go_enter Try.func62, Try.ntmps62
      go_wp2_with fail
      go_ret
      exact ⟨rfl, rfl⟩
    · have h2j : decide ((57 : Int) < (x : Int)) = false := decide_eq_false (by omega)
      have h2i : ¬ ((57 : Int) < (x : Int)) := by omega
      rw [decide_eq_false (by omega)]
      clear h1 h2
      go_enter Try.func62, Try.ntmps62
      go_wp2_with fail
      go_ret
      exact ⟨rfl, rfl⟩
/-- no digit -/
def NoDig (x : Nat) : Prop := x < 48 ∨ 57 < x
instance (x : Nat) : Decidable (NoDig x) := by unfold NoDig; infer_instance
theorem index_any (b n cap : Nat) (l : List Nat) (w : World) (hn : l.length = n) (hn9 : n ≤ 1000000000) (hl : ∀ x ∈ l, x < 256) (hc : ∀ j, j < n → w.cell? ⟨b, j, none⟩ = some (.int .u8 ((l.getD j 0 : Nat) : Int))) :
    Calls Try.prog 61 #[.slice (some ⟨b, 0, none⟩) n cap, .func (.func 62) #[] #[]] w fun e w' => w = w' ∧ ((∃ i, i < n ∧ NoDig (l.getD i 0) ∧ (∀ j, j < i → ¬ NoDig (l.getD j 0)) ∧ e = .returned (.int .i64 (i : Int))) ∨ ((∀ j, j < n → ¬ NoDig (l.getD j 0)) ∧ e = .returned (.int .i64 (-1)))) := by
  go_enter Try.func61, Try.ntmps61
  go_wp2_with fail
  go_loopg [8] n (fun gk s8 wr => ∃ k : Nat, k + gk = n ∧ s8 = .int .i64 (k : Int) ∧ Hid (∀ j, j < k → ¬ NoDig (l.getD j 0)) ∧ wr = w)
  case atStart => exact ⟨0, by omega, rfl, fun j hj => by omega, rfl⟩
  case round =>
    obtain ⟨k, hk, rfl, HA, rfl⟩ := hrel
    by_cases hlt : k < n
    · have e1 := hc k hlt
      have hx : l.getD k 0 < 256 := by
        rw [List.getD_eq_getElem?_getD, List.getElem?_eq_getElem (by omega)]
        exact hl _ (List.getElem_mem _)
      have C1 := Lib.hid (fun w => digit_any (l.getD k 0) hx w)
      have HAll := HA
      clear hc
      have hki : (k : Int) < (n : Int) := by omega
      by_cases hb : NoDig (l.getD k 0)
      · rw [decide_eq_true (show l.getD k 0 < 48 ∨ 57 < l.getD k 0 from hb)] at C1
        have HB := Lib.hid hb
        clear hb hl
        generalize hgx : l.getD k 0 = x at *
        have HGX := Lib.hid hgx
        clear hgx
        go_wp2_with fail
        refine (C1.out _).mono ?_
        rintro e w1 ⟨rfl, rfl⟩
        go_wp2_with fail
        go_ret
        exact ⟨rfl, .inl ⟨k, hlt, by rw [HGX.out]; exact HB.out, HA.out, rfl⟩⟩
      · rw [decide_eq_false (show ¬ (l.getD k 0 < 48 ∨ 57 < l.getD k 0) from hb)] at C1
        have HB := Lib.hid hb
        clear hb hl
        generalize hgx : l.getD k 0 = x at *
        have HGX := Lib.hid hgx
        clear hgx
        go_wp2_with fail
        refine (C1.out _).mono ?_
        rintro e w1 ⟨rfl, rfl⟩
        go_wp2_with fail
        go_roundg (gk - 1)
        case measure => omega
        case rel => exact ⟨k + 1, by omega, by go_num, fun j hj => by
          rcases Nat.lt_or_ge j k with h | h
          · exact HA.out j h
          · obtain rfl : j = k := by omega
            rw [HGX.out]; exact HB.out, rfl⟩
    · have hkn : k = n := by omega
      have hki : ¬ ((k : Int) < (n : Int)) := by omega
      clear hc hl
      go_wp2_with fail
      go_ret
      exact ⟨rfl, .inr ⟨by rw [← hkn]; exact HA.out, rfl⟩⟩
end Go.Proofs.Ytfifcpgjcgoinaa

set_option exponentiation.threshold 10000
namespace Go.Proofs.Ytfifcpgjcgoinaa
open Go.RowKit GW NL
/-- a number and a fault -/
def RNF (v : Nat) (er pl : Int) (w : World) (e : Ending) (w' : World) : Prop := ∃ A c F, e = .returned (.tuple #[.slice A (limbs v).length c, .agg #[.int .i64 er, .int .i64 pl]]) ∧ F.Sl A c (limbs v) ∧ New w w' F
theorem bl_first (s : ByteArray) (h : 0 < s.size) : (s[0]'h).toNat = (bl s).getD 0 0 := by
  have h' : 0 < s.data.toList.length := by simpa using h
  unfold bl
  rw [List.getD_eq_getElem?_getD, List.getElem?_map, List.getElem?_eq_getElem h']
  simp
  rfl
theorem len_digits {v k : Nat} (h : v < 10 ^ k) (hk : k ≤ 2500) : (limbs v).length ≤ 300 :=
  (limbs_len v 300).2 (Nat.lt_of_lt_of_le h (Nat.le_trans (Nat.pow_le_pow_right (by decide) hk) (Nat.le_of_ble_eq_true rfl)))
set_option maxRecDepth 20000 in
set_option maxHeartbeats 8000000 in
theorem Parse_digits (s : ByteArray) (w : World) (hn : s.size ≤ 2467) (hn0 : s.size ≠ 0) (hd : ∀ j, j < s.size → ¬ NoDig ((bl s).getD j 0)) (hz : ¬ (1 < s.size ∧ (bl s).getD 0 0 = 48)) :
    Calls Try.prog 23 #[.string s] w (fun e w' => (dv (bl s) s.size < 2 ^ 8192 → RNF (dv (bl s) s.size) 0 0 w e w') ∧ (¬ dv (bl s) s.size < 2 ^ 8192 → RNF 0 5 0 w e w')) := by
  refine calls_b fun g => ?_
  obtain ⟨capOf, cvW, fr, hcv⟩ := conv_ex s
  have hcv1 := fun w => (hcv w).1
  have HCV := Lib.hid (fun w => (hcv w).2)
  clear hcv
  obtain ⟨l, hl⟩ : ∃ l, bl s = l := ⟨_, rfl⟩
  have hll := bl_len s
  have hlt := bl_lt s
  rw [hl] at hll hlt hd hz
  rw [hl] at HCV ⊢
  obtain ⟨n, hsz⟩ : ∃ n, s.size = n := ⟨_, rfl⟩
  rw [hsz] at hn hn0 hd hz hll hcv1 ⊢
  have hszi : ((s.size : Nat) : Int) = (n : Int) := by omega
  have hsl : Builtin.len = Builtin.len := rfl
  have h1i : ¬ ((2467 : Int) < (n : Int)) := by omega
  have hdec : decide ((2467 : Int) < (n : Int)) = false := decide_eq_false h1i
  go_enter Try.func23, Try.ntmps23
  go_wp2_with (with_reducible refine G.any_mark _ ?_; (try generalize Array.size (World.heap (G.w _)) = bk); (try dsimp only [List.set_cons_zero, List.set_cons_succ]); (try clear g); intro g)
  obtain ⟨rc, rfl⟩ : ∃ rc : Nat, rc = bk := ⟨_, rfl⟩
  have hby := (HCV.out g.w).2
  obtain ⟨g1, hg1⟩ := g.new_ex (HCV.out g.w).1
  rw [hg1]
  clear hg1
  have CI := index_any g.w.heap.size n (capOf g.w) l g1.w hll (by omega) hlt (fun j hj => hby.cell g1 (by simp) (by omega))
  generalize capOf g.w = cc at *
  generalize fr g.w = F0 at *
  generalize g.w.heap.size = bb at *
  clear g
  revert g1
  intro g CI
  refine CI.mono ?_
  rintro e w1 ⟨rfl, ⟨i, hi, hb, _⟩ | ⟨_, rfl⟩⟩
  · exact absurd hb (hd i hi)
  clear CI hby
  have hn0i : ((n : Int) == 0) = false := by rw [beq_eq_false_iff_ne]; omega
  by_cases h1n : 1 < n
  · have h1ni : (1 : Int) < (n : Int) := by omega
    have hz' : l.getD 0 0 ≠ 48 := fun e => hz ⟨h1n, e⟩
    have hs0 : ∀ h : 0 < s.size, (((s[0]'h).toNat : Int) == 48) = false := fun h => by
      have := bl_first s h
      rw [hl] at this
      rw [beq_eq_false_iff_ne]
      omega
    clear hz hl
    go_wp2_with fail
    have hby := (HCV.out g.w).2
    obtain ⟨g1, hg1⟩ := g.new_ex (HCV.out g.w).1
    rw [hg1]
    clear hg1
    generalize capOf g.w = cc2 at *
    generalize fr g.w = F1 at *
    generalize g.w.heap.size = b2 at *
    clear g hcv1
    revert g1
    intro g
    obtain ⟨gl, hgl⟩ := g.lessI (I' := [F1, heapOf w]) (by simp)
    rw [hgl]
    clear hgl g
    obtain ⟨i0, hi, hzz0, hzz1, hzz2⟩ := info_parts infoU32
    go_loopg [40, 5] n (fun gk s40 s5 wr => ∃ k : Nat, k + gk = n ∧ s40 = .int .i64 (k : Int) ∧ Hid (dv l k < 10 ^ k) ∧ ((Hid (dv l k = 0) ∧ s5 = .slice none 0 0 ∧ ∃ g : G w [] [(rc, 40, [.int .i64 0, .int .i64 0])] [F1, heapOf w], wr = g.w) ∨ (∃ N b cap cs, Hid (dv l k = N ∧ N ≠ 0) ∧ s5 = .slice (some ⟨b, 0, none⟩) (limbs N).length cap ∧ Row 30 1 (limbs N).length (u32s (limbs N)) cap cs ∧ w.heap.size ≤ b ∧ ∃ g : G w [] [(b, 30, cs), (rc, 40, [.int .i64 0, .int .i64 0])] [F1, heapOf w], wr = g.w)))
    case atStart => exact ⟨0, by omega, rfl, Lib.hid (by rw [dv_zero]; decide), .inl ⟨dv_zero l, rfl, gl, rfl⟩⟩
    case round =>
      clear gl
      obtain ⟨ko, rfl⟩ : ∃ ko : Nat, ko = gk := ⟨_, rfl⟩
      obtain ⟨k, hkg, rfl, HLT, hcase⟩ := hrel
      by_cases hk : k < n
      · have hki : (k : Int) < (n : Int) := by omega
        have hxd := hd k hk
        obtain ⟨x, hx⟩ : ∃ x, l.getD k 0 = x := ⟨_, rfl⟩
        rw [hx] at hxd
        have hx1 : 48 ≤ x ∧ x ≤ 57 := by unfold NoDig at hxd; omega
        obtain ⟨d, hdd⟩ : ∃ d, x - 48 = d := ⟨_, rfl⟩
        have hd10 : d < 10 := by omega
        have hsub : IntKind.u8.wrap ((x : Int) - 48) = (d : Int) := by rw [IntKind.wrap_u8]; omega
        have hsub2 : (x : Int) - 48 = (d : Int) := by omega
        have hwd : IntKind.u32.wrap (d : Int) = (d : Int) := by rw [IntKind.wrap_u32]; omega
        have hwd8 : IntKind.u8.wrap (d : Int) = (d : Int) := by rw [IntKind.wrap_u8]; omega
        have HS : Hid (dv l (k + 1) = 10 * dv l k + d) := Lib.hid (by rw [dv_succ (by omega), hx, hdd])
        have HL2 : Hid (dv l (k + 1) < 10 ^ (k + 1)) := Lib.hid (by rw [HS.out, Nat.pow_succ]; have := HLT.out; omega)
        have HX := Lib.hid hx
        have hkn : k + 1 ≤ 2467 := by omega
        clear hxd hx1 hdd hd hx
        rcases hcase with ⟨HZ, rfl, g, rfl⟩ | ⟨N, b, cap, cs, HN, rfl, hrow, hb, g, rfl⟩
        · have e1 := hby.cell g (by simp) (j := k) (by omega)
          rw [HX.out] at e1
          go_wp2_with (with_reducible refine G.any_mark _ ?_; (try generalize Array.size (World.heap (G.w _)) = bk); (try dsimp only [List.set_cons_zero, List.set_cons_succ]); (try clear g); intro g)
          clear e1
          obtain ⟨kb, rfl⟩ : ∃ kb : Nat, kb = bk := ⟨_, rfl⟩
          go_loopg [51] 0 (fun gk s51 wr => s51 = .int .i64 0 ∧ ∃ g : G w [] [(kb, 74, [.int .u32 (d : Int)]), (rc, 40, [.int .i64 0, .int .i64 0])] [F1, heapOf w], wr = g.w)
          case atStart => exact ⟨rfl, g, rfl⟩
          case round =>
            clear g
            obtain ⟨rfl, g, rfl⟩ := hrel
            by_cases hd0 : d = 0
            · subst hd0
              have HZ2 : Hid (dv l (k + 1) = 0) := Lib.hid (by rw [HS.out, HZ.out])
              go_wp2_with (with_reducible refine G.any_mark _ ?_; (try generalize Array.size (World.heap (G.w _)) = bk); (try dsimp only [List.set_cons_zero, List.set_cons_succ]); (try clear g); intro g)
              obtain ⟨g2, hg2⟩ := g.less (M' := [(rc, 40, [.int .i64 0, .int .i64 0])]) (by simp)
              go_roundg (ko - 1)
              case measure => omega
              case rel => exact ⟨k + 1, by omega, by go_num, HL2, .inl ⟨HZ2, rfl, g2, hg2⟩⟩
            · have hdi : (0 : Int) < (d : Int) := by omega
              have HN2 : Hid (dv l (k + 1) = d ∧ d ≠ 0) := Lib.hid ⟨by rw [HS.out, HZ.out]; omega, hd0⟩
              have ed : limbs d = [d] := limbs_one hd0 (by omega)
              have HRW : Hid ((limbs d).length = 1 ∧ u32s (limbs d) = [.int .u32 (d : Int)]) := Lib.hid ⟨by rw [ed]; rfl, by rw [ed]; rfl⟩
              have H1 : ∀ u ∈ [Value.int .u32 (d : Int)], u.oneCell' = true := by intro u hu; rw [List.mem_singleton.1 hu]; rfl
              clear ed
              go_wp2_with (first | (with_reducible refine G.any_mark _ ?_; (try generalize Array.size (World.heap (G.w _)) = bk); (try dsimp only [List.set_cons_zero, List.set_cons_succ]); (try clear g); intro g) | (at_builtin; refine wpList_append_lit0 rfl _ _ 24 rfl 30 i0 _ 1 4 Try.underlying24 hi hzz0 hzz1 hzz2 rfl (by decide) g rfl 1 rfl rfl H1 (by decide) (by decide) (by decide) ?_; clear g; intro b cap cs g hb hrow))
              obtain ⟨g2, hg2⟩ := g.less (M' := [(b, 30, cs), (rc, 40, [.int .i64 0, .int .i64 0])]) (by simp)
              go_roundg (ko - 1)
              case measure => omega
              case rel => exact ⟨k + 1, by omega, by go_num, HL2, .inr ⟨d, b, cap, cs, HN2, by rw [HRW.out.1], by rw [HRW.out.1, HRW.out.2]; exact hrow, hb, g2, hg2⟩⟩
        · have e1 := hby.cell g (by simp) (j := k) (by omega)
          rw [HX.out] at e1
          have hm300 : (limbs N).length ≤ 300 := len_digits (k := k) (by rw [← HN.out.1]; exact HLT.out) (by omega)
          have hokN := ok_limbs N
          have TS : Hid (Ten (limbs N) d 0 d []) := Lib.hid (Ten.start (by omega))
          obtain ⟨m, hm⟩ : ∃ m, (limbs N).length = m := ⟨_, rfl⟩
          rw [hm] at hrow hm300 ⊢
          have HM := Lib.hid hm
          clear hm
          go_wp2_with (with_reducible refine G.any_mark _ ?_; (try generalize Array.size (World.heap (G.w _)) = bk); (try dsimp only [List.set_cons_zero, List.set_cons_succ]); (try clear g); intro g)
          clear e1
          obtain ⟨kb, rfl⟩ : ∃ kb : Nat, kb = bk := ⟨_, rfl⟩
          obtain ⟨g2, hg2⟩ := g.perm (List.Perm.swap _ _ _)
          rw [hg2]
          clear hg2 g
          revert g2
          intro g
          go_loopg [51] m (fun gk s51 wr => ∃ (j c : Nat) (pre : List Nat) (cs' : List Value), j + gk = m ∧ s51 = .int .i64 (j : Int) ∧ Hid (Ten (limbs N) d j c pre) ∧ Row 30 1 m (u32s (pre ++ (limbs N).drop j)) cap cs' ∧ ∃ g : G w [] [(b, 30, cs'), (kb, 74, [.int .u32 (c : Int)]), (rc, 40, [.int .i64 0, .int .i64 0])] [F1, heapOf w], wr = g.w)
          case atStart => exact ⟨0, d, [], cs, by omega, rfl, TS, hrow, g, rfl⟩
          case round =>
            clear g hrow TS
            obtain ⟨j, c, pre, cs', hjg, rfl, TJ, hrow, g, rfl⟩ := hrel
            by_cases hj : j < m
            · have hji : (j : Int) < (m : Int) := by omega
              have hle := hrow.le
              have hlenr : (pre ++ (limbs N).drop j).length = m := by rw [List.length_append, List.length_drop, TJ.out.len, HM.out]; omega
              have hcell := hrow.get hlenr hj
              rw [ten_get TJ.out.len] at hcell
              have hy := hokN.getD j
              have hc := TJ.out.lt
              have TJ2 := Lib.hid (TJ.out.step hokN)
              have CM := fun w => cmul_any kb c ((limbs N).getD j 0) 10 0 hy (by decide) (by decide) hc w
              have hlow : ((limbs N).getD j 0 * 10 + 0 + c) % 4294967296 < 4294967296 := Nat.mod_lt _ (by decide)
              have hset := ten_set (xs := limbs N) (x := ((limbs N).getD j 0 * 10 + 0 + c) % 4294967296) TJ.out.len (by rw [HM.out]; exact hj)
              generalize ((limbs N).getD j 0 * 10 + 0 + c) % 4294967296 = lo at *
              generalize ((limbs N).getD j 0 * 10 + 0 + c) / 4294967296 = hi' at *
              generalize (limbs N).getD j 0 = y at *
              rw [show ((0 : Nat) : Int) = 0 from rfl, show ((10 : Nat) : Int) = 10 from rfl] at CM
              replace CM := Lib.hid CM
              have hrow2 := hrow.set (x := lo) hj
              rw [hset] at hrow2
              have HROW := Lib.hid hrow2
              clear hset hrow hrow2 hlenr
              go_wp2_with (with_reducible refine G.any_mark _ ?_; (try generalize Array.size (World.heap (G.w _)) = bk); (try dsimp only [List.set_cons_zero, List.set_cons_succ]); (try clear g); intro g)
              refine (CM.out _ (G.blk1 _)).mono ?_
              rintro e w1 ⟨rfl, hch, hcb⟩
              obtain ⟨g1, rfl⟩ := G.mut1 g (cs' := [.int .u32 ((hi' : Nat) : Int)]) hch hcb
              clear hch hcb g
              revert g1
              intro g
              go_wp2_with (with_reducible refine G.any_mark _ ?_; (try generalize Array.size (World.heap (G.w _)) = bk); (try dsimp only [List.set_cons_zero, List.set_cons_succ]); (try clear g); intro g)
              go_roundg (gk - 1)
              case measure => omega
              case rel => exact ⟨j + 1, hi', pre ++ [lo], _, by omega, by go_num, TJ2, HROW.out, g, rfl⟩
            · obtain rfl : j = m := by omega
              have hji : ¬ ((j : Int) < (j : Int)) := by omega
              have TE := TJ.out
              rw [← HM.out] at TE
              rw [List.drop_of_length_le (by rw [HM.out]; exact Nat.le_refl _), List.append_nil] at hrow
              by_cases hc0 : c = 0
              · subst hc0
                have hpre := TE.same
                have HN2 : Hid (dv l (k + 1) = 10 * N + d ∧ 10 * N + d ≠ 0) := Lib.hid ⟨by rw [HS.out, HN.out.1], by have := HN.out.2; omega⟩
                have HLN : Hid ((limbs (10 * N + d)).length = j) := Lib.hid (by rw [← hpre, TE.len, HM.out])
                have HROW : Hid (Row 30 1 j (u32s (limbs (10 * N + d))) cap cs') := Lib.hid (by rw [← hpre]; exact hrow)
                clear hpre hrow TE TJ
                go_wp2_with (with_reducible refine G.any_mark _ ?_; (try generalize Array.size (World.heap (G.w _)) = bk); (try dsimp only [List.set_cons_zero, List.set_cons_succ]); (try clear g); intro g)
                obtain ⟨g2, hg2⟩ := g.less (M' := [(b, 30, cs'), (rc, 40, [.int .i64 0, .int .i64 0])]) (by simp)
                go_roundg (ko - 1)
                case measure => omega
                case rel => exact ⟨k + 1, by omega, by go_num, HL2, .inr ⟨10 * N + d, b, cap, cs', HN2, by rw [HLN.out], by rw [HLN.out]; exact HROW.out, hb, g2, hg2⟩⟩
              · have hci : (0 : Int) < (c : Int) := by omega
                have hpre := TE.more hc0
                have HN2 : Hid (dv l (k + 1) = 10 * N + d ∧ 10 * N + d ≠ 0) := Lib.hid ⟨by rw [HS.out, HN.out.1], by have := HN.out.2; omega⟩
                have HLN : Hid ((limbs (10 * N + d)).length = j + 1) := Lib.hid (by rw [← hpre, List.length_append, TE.len, HM.out]; rfl)
                have HAP : Hid (u32s (limbs (10 * N + d)) = u32s pre ++ [.int .u32 (c : Int)]) := Lib.hid (by rw [← hpre, u32s_append]; rfl)
                have H1 : ∀ u ∈ [Value.int .u32 (c : Int)], u.oneCell' = true := by intro u hu; rw [List.mem_singleton.1 hu]; rfl
                have H2 : j + 1 ≤ maxLen := by show j + 1 ≤ 9223372036854775807; omega
                have H3 : (j + 1) * 4 ≤ 140737488355328 := by omega
                clear hpre TE TJ
                go_wp2_with (first | (with_reducible refine G.any_mark _ ?_; (try generalize Array.size (World.heap (G.w _)) = bk); (try dsimp only [List.set_cons_zero, List.set_cons_succ]); (try clear g); intro g) | (at_builtin; refine wpList_append_lit rfl _ _ 24 rfl 30 i0 _ 1 4 Try.underlying24 hi hzz0 hzz1 hzz2 rfl (by decide) g hrow hb rfl 1 rfl rfl H1 (by decide) H2 H3 ?_; clear hb hrow g; intro b cap cs g hb hrow))
                obtain ⟨g2, hg2⟩ := g.less (M' := [(b, 30, cs), (rc, 40, [.int .i64 0, .int .i64 0])]) (by simp)
                go_roundg (ko - 1)
                case measure => omega
                case rel => exact ⟨k + 1, by omega, by go_num, HL2, .inr ⟨10 * N + d, b, cap, cs, HN2, by rw [HLN.out], by rw [HLN.out, HAP.out]; exact hrow, hb, g2, hg2⟩⟩
      · obtain rfl : k = n := by omega
        have hki : ¬ ((k : Int) < (k : Int)) := by omega
        rcases hcase with ⟨HZ, rfl, g, rfl⟩ | ⟨N, b, cap, cs, HN, rfl, hrow, hb, g, rfl⟩
        · have CF := fits_yes none 0 0
          rw [limbs_zero, List.length_nil] at CF
          replace CF := Lib.hid CF
          have HB0 : Hid (0 < 2 ^ 8192) := Lib.hid (Nat.two_pow_pos _)
          have hsn : SlW g.w none 0 [] := Frag.Sl.nil _ _
          go_wp2_with (with_reducible refine G.any_mark _ ?_; (try generalize Array.size (World.heap (G.w _)) = bk); (try dsimp only [List.set_cons_zero, List.set_cons_succ]); (try clear g); intro g)
          refine (CF.out _ hsn HB0.out).mono ?_
          rintro e w1 ⟨rfl, hb⟩
          obtain ⟨g1, rfl⟩ := G.call_ex _ hb
          clear hb
          (try clear g)
          revert g1
          intro g
          clear hsn
          go_wp2_with (with_reducible refine G.any_mark _ ?_; (try generalize Array.size (World.heap (G.w _)) = bk); (try dsimp only [List.set_cons_zero, List.set_cons_succ]); (try clear g); intro g)
          ((try simp only [G.drew_eq, G.drewN_eq]); (refine G.any_mark _ ?_; (try generalize Array.size (World.heap (G.w _)) = bk); (try dsimp only [List.set_cons_zero, List.set_cons_succ]); (try clear g); intro g))
          refine bodyPost_ret (v := .tuple #[.slice none 0 0, .agg #[.int .i64 0, .int .i64 0]]) (by simp [results, Try.f23, go_sem]) rfl ⟨fun _ => ?_, fun h => absurd (by rw [HZ.out]; exact HB0.out) h⟩
          rw [HZ.out]
          exact ⟨none, 0, (fun _ => none), by rw [limbs_zero]; rfl, by rw [limbs_zero]; exact Frag.Sl.nil _ _, g.none⟩
        · have hsl : SlW g.w (some ⟨b, 0, none⟩) cap (limbs N) := (sl_row hrow rfl (by have h300 : (limbs N).length ≤ 300 := len_digits (v := N) (k := k) (by rw [← HN.out.1]; exact HLT.out) (by omega); omega) (ok_limbs N)).at (blkF_sub g.blk0)
          have HM0 : Hid ((limbs N).length ≤ 140737488355328) := Lib.hid (by have h300 : (limbs N).length ≤ 300 := len_digits (v := N) (k := k) (by rw [← HN.out.1]; exact HLT.out) (by omega); omega)
          by_cases hN8 : N < 2 ^ 8192
          · have CF := Lib.hid (fun w h => fits_yes (some ⟨b, 0, none⟩) cap N w h hN8)
            have H8 := Lib.hid hN8
            clear hN8
            go_wp2_with (with_reducible refine G.any_mark _ ?_; (try generalize Array.size (World.heap (G.w _)) = bk); (try dsimp only [List.set_cons_zero, List.set_cons_succ]); (try clear g); intro g)
            refine (CF.out _ hsl).mono ?_
            rintro e w1 ⟨rfl, hb⟩
            obtain ⟨g1, rfl⟩ := G.call_ex _ hb
            clear hb
            (try clear g)
            revert g1
            intro g
            clear hsl
            go_wp2_with (with_reducible refine G.any_mark _ ?_; (try generalize Array.size (World.heap (G.w _)) = bk); (try dsimp only [List.set_cons_zero, List.set_cons_succ]); (try clear g); intro g)
            ((try simp only [G.drew_eq, G.drewN_eq]); (refine G.any_mark _ ?_; (try generalize Array.size (World.heap (G.w _)) = bk); (try dsimp only [List.set_cons_zero, List.set_cons_succ]); (try clear g); intro g))
            have hlen := HM0.out
            refine bodyPost_ret (v := .tuple #[.slice (some ⟨b, 0, none⟩) (limbs N).length cap, .agg #[.int .i64 0, .int .i64 0]]) (by simp [results, Try.f23, go_sem]) rfl ⟨fun _ => ?_, fun h => absurd (by rw [HN.out.1]; exact H8.out) h⟩
            rw [HN.out.1]
            exact ⟨_, cap, _, rfl, sl_row hrow rfl hlen (ok_limbs N), g.give (List.mem_cons_self ..)⟩
          · have CF := Lib.hid (fun w h => fits_no (some ⟨b, 0, none⟩) cap N w h hN8)
            have H8 := Lib.hid hN8
            clear hN8
            go_wp2_with (with_reducible refine G.any_mark _ ?_; (try generalize Array.size (World.heap (G.w _)) = bk); (try dsimp only [List.set_cons_zero, List.set_cons_succ]); (try clear g); intro g)
            refine (CF.out _ hsl).mono ?_
            rintro e w1 ⟨rfl, hb⟩
            obtain ⟨g1, rfl⟩ := G.call_ex _ hb
            clear hb
            (try clear g)
            revert g1
            intro g
            clear hsl
            go_wp2_with (with_reducible refine G.any_mark _ ?_; (try generalize Array.size (World.heap (G.w _)) = bk); (try dsimp only [List.set_cons_zero, List.set_cons_succ]); (try clear g); intro g)
            ((try simp only [G.drew_eq, G.drewN_eq]); (refine G.any_mark _ ?_; (try generalize Array.size (World.heap (G.w _)) = bk); (try dsimp only [List.set_cons_zero, List.set_cons_succ]); (try clear g); intro g))
            refine bodyPost_ret (v := .tuple #[.slice none 0 0, .agg #[.int .i64 5, .int .i64 0]]) (by simp [results, Try.f23, go_sem]) rfl ⟨fun h => absurd (by rw [HN.out.1] at h; exact h) H8.out, fun _ => ?_⟩
            exact ⟨none, 0, (fun _ => none), by rw [limbs_zero]; rfl, by rw [limbs_zero]; exact Frag.Sl.nil _ _, g.none⟩

  · have h1ni : ¬ ((1 : Int) < (n : Int)) := by omega
    clear hz hl
    go_wp2_with fail
    have hby := (HCV.out g.w).2
    obtain ⟨g1, hg1⟩ := g.new_ex (HCV.out g.w).1
    rw [hg1]
    clear hg1
    generalize capOf g.w = cc2 at *
    generalize fr g.w = F1 at *
    generalize g.w.heap.size = b2 at *
    clear g hcv1
    revert g1
    intro g
    obtain ⟨gl, hgl⟩ := g.lessI (I' := [F1, heapOf w]) (by simp)
    rw [hgl]
    clear hgl g
    obtain ⟨i0, hi, hzz0, hzz1, hzz2⟩ := info_parts infoU32
    go_loopg [40, 5] n (fun gk s40 s5 wr => ∃ k : Nat, k + gk = n ∧ s40 = .int .i64 (k : Int) ∧ Hid (dv l k < 10 ^ k) ∧ ((Hid (dv l k = 0) ∧ s5 = .slice none 0 0 ∧ ∃ g : G w [] [(rc, 40, [.int .i64 0, .int .i64 0])] [F1, heapOf w], wr = g.w) ∨ (∃ N b cap cs, Hid (dv l k = N ∧ N ≠ 0) ∧ s5 = .slice (some ⟨b, 0, none⟩) (limbs N).length cap ∧ Row 30 1 (limbs N).length (u32s (limbs N)) cap cs ∧ w.heap.size ≤ b ∧ ∃ g : G w [] [(b, 30, cs), (rc, 40, [.int .i64 0, .int .i64 0])] [F1, heapOf w], wr = g.w)))
    case atStart => exact ⟨0, by omega, rfl, Lib.hid (by rw [dv_zero]; decide), .inl ⟨dv_zero l, rfl, gl, rfl⟩⟩
    case round =>
      clear gl
      obtain ⟨ko, rfl⟩ : ∃ ko : Nat, ko = gk := ⟨_, rfl⟩
      obtain ⟨k, hkg, rfl, HLT, hcase⟩ := hrel
      by_cases hk : k < n
      · have hki : (k : Int) < (n : Int) := by omega
        have hxd := hd k hk
        obtain ⟨x, hx⟩ : ∃ x, l.getD k 0 = x := ⟨_, rfl⟩
        rw [hx] at hxd
        have hx1 : 48 ≤ x ∧ x ≤ 57 := by unfold NoDig at hxd; omega
        obtain ⟨d, hdd⟩ : ∃ d, x - 48 = d := ⟨_, rfl⟩
        have hd10 : d < 10 := by omega
        have hsub : IntKind.u8.wrap ((x : Int) - 48) = (d : Int) := by rw [IntKind.wrap_u8]; omega
        have hsub2 : (x : Int) - 48 = (d : Int) := by omega
        have hwd : IntKind.u32.wrap (d : Int) = (d : Int) := by rw [IntKind.wrap_u32]; omega
        have hwd8 : IntKind.u8.wrap (d : Int) = (d : Int) := by rw [IntKind.wrap_u8]; omega
        have HS : Hid (dv l (k + 1) = 10 * dv l k + d) := Lib.hid (by rw [dv_succ (by omega), hx, hdd])
        have HL2 : Hid (dv l (k + 1) < 10 ^ (k + 1)) := Lib.hid (by rw [HS.out, Nat.pow_succ]; have := HLT.out; omega)
        have HX := Lib.hid hx
        have hkn : k + 1 ≤ 2467 := by omega
        clear hxd hx1 hdd hd hx
        rcases hcase with ⟨HZ, rfl, g, rfl⟩ | ⟨N, b, cap, cs, HN, rfl, hrow, hb, g, rfl⟩
        · have e1 := hby.cell g (by simp) (j := k) (by omega)
          rw [HX.out] at e1
          go_wp2_with (with_reducible refine G.any_mark _ ?_; (try generalize Array.size (World.heap (G.w _)) = bk); (try dsimp only [List.set_cons_zero, List.set_cons_succ]); (try clear g); intro g)
          clear e1
          obtain ⟨kb, rfl⟩ : ∃ kb : Nat, kb = bk := ⟨_, rfl⟩
          go_loopg [51] 0 (fun gk s51 wr => s51 = .int .i64 0 ∧ ∃ g : G w [] [(kb, 74, [.int .u32 (d : Int)]), (rc, 40, [.int .i64 0, .int .i64 0])] [F1, heapOf w], wr = g.w)
          case atStart => exact ⟨rfl, g, rfl⟩
          case round =>
            clear g
            obtain ⟨rfl, g, rfl⟩ := hrel
            by_cases hd0 : d = 0
            · subst hd0
              have HZ2 : Hid (dv l (k + 1) = 0) := Lib.hid (by rw [HS.out, HZ.out])
              go_wp2_with (with_reducible refine G.any_mark _ ?_; (try generalize Array.size (World.heap (G.w _)) = bk); (try dsimp only [List.set_cons_zero, List.set_cons_succ]); (try clear g); intro g)
              obtain ⟨g2, hg2⟩ := g.less (M' := [(rc, 40, [.int .i64 0, .int .i64 0])]) (by simp)
              go_roundg (ko - 1)
              case measure => omega
              case rel => exact ⟨k + 1, by omega, by go_num, HL2, .inl ⟨HZ2, rfl, g2, hg2⟩⟩
            · have hdi : (0 : Int) < (d : Int) := by omega
              have HN2 : Hid (dv l (k + 1) = d ∧ d ≠ 0) := Lib.hid ⟨by rw [HS.out, HZ.out]; omega, hd0⟩
              have ed : limbs d = [d] := limbs_one hd0 (by omega)
              have HRW : Hid ((limbs d).length = 1 ∧ u32s (limbs d) = [.int .u32 (d : Int)]) := Lib.hid ⟨by rw [ed]; rfl, by rw [ed]; rfl⟩
              have H1 : ∀ u ∈ [Value.int .u32 (d : Int)], u.oneCell' = true := by intro u hu; rw [List.mem_singleton.1 hu]; rfl
              clear ed
              go_wp2_with (first | (with_reducible refine G.any_mark _ ?_; (try generalize Array.size (World.heap (G.w _)) = bk); (try dsimp only [List.set_cons_zero, List.set_cons_succ]); (try clear g); intro g) | (at_builtin; refine wpList_append_lit0 rfl _ _ 24 rfl 30 i0 _ 1 4 Try.underlying24 hi hzz0 hzz1 hzz2 rfl (by decide) g rfl 1 rfl rfl H1 (by decide) (by decide) (by decide) ?_; clear g; intro b cap cs g hb hrow))
              obtain ⟨g2, hg2⟩ := g.less (M' := [(b, 30, cs), (rc, 40, [.int .i64 0, .int .i64 0])]) (by simp)
              go_roundg (ko - 1)
              case measure => omega
              case rel => exact ⟨k + 1, by omega, by go_num, HL2, .inr ⟨d, b, cap, cs, HN2, by rw [HRW.out.1], by rw [HRW.out.1, HRW.out.2]; exact hrow, hb, g2, hg2⟩⟩
        · have e1 := hby.cell g (by simp) (j := k) (by omega)
          rw [HX.out] at e1
          have hm300 : (limbs N).length ≤ 300 := len_digits (k := k) (by rw [← HN.out.1]; exact HLT.out) (by omega)
          have hokN := ok_limbs N
          have TS : Hid (Ten (limbs N) d 0 d []) := Lib.hid (Ten.start (by omega))
          obtain ⟨m, hm⟩ : ∃ m, (limbs N).length = m := ⟨_, rfl⟩
          rw [hm] at hrow hm300 ⊢
          have HM := Lib.hid hm
          clear hm
          go_wp2_with (with_reducible refine G.any_mark _ ?_; (try generalize Array.size (World.heap (G.w _)) = bk); (try dsimp only [List.set_cons_zero, List.set_cons_succ]); (try clear g); intro g)
          clear e1
          obtain ⟨kb, rfl⟩ : ∃ kb : Nat, kb = bk := ⟨_, rfl⟩
          obtain ⟨g2, hg2⟩ := g.perm (List.Perm.swap _ _ _)
          rw [hg2]
          clear hg2 g
          revert g2
          intro g
          go_loopg [51] m (fun gk s51 wr => ∃ (j c : Nat) (pre : List Nat) (cs' : List Value), j + gk = m ∧ s51 = .int .i64 (j : Int) ∧ Hid (Ten (limbs N) d j c pre) ∧ Row 30 1 m (u32s (pre ++ (limbs N).drop j)) cap cs' ∧ ∃ g : G w [] [(b, 30, cs'), (kb, 74, [.int .u32 (c : Int)]), (rc, 40, [.int .i64 0, .int .i64 0])] [F1, heapOf w], wr = g.w)
          case atStart => exact ⟨0, d, [], cs, by omega, rfl, TS, hrow, g, rfl⟩
          case round =>
            clear g hrow TS
            obtain ⟨j, c, pre, cs', hjg, rfl, TJ, hrow, g, rfl⟩ := hrel
            by_cases hj : j < m
            · have hji : (j : Int) < (m : Int) := by omega
              have hle := hrow.le
              have hlenr : (pre ++ (limbs N).drop j).length = m := by rw [List.length_append, List.length_drop, TJ.out.len, HM.out]; omega
              have hcell := hrow.get hlenr hj
              rw [ten_get TJ.out.len] at hcell
              have hy := hokN.getD j
              have hc := TJ.out.lt
              have TJ2 := Lib.hid (TJ.out.step hokN)
              have CM := fun w => cmul_any kb c ((limbs N).getD j 0) 10 0 hy (by decide) (by decide) hc w
              have hlow : ((limbs N).getD j 0 * 10 + 0 + c) % 4294967296 < 4294967296 := Nat.mod_lt _ (by decide)
              have hset := ten_set (xs := limbs N) (x := ((limbs N).getD j 0 * 10 + 0 + c) % 4294967296) TJ.out.len (by rw [HM.out]; exact hj)
              generalize ((limbs N).getD j 0 * 10 + 0 + c) % 4294967296 = lo at *
              generalize ((limbs N).getD j 0 * 10 + 0 + c) / 4294967296 = hi' at *
              generalize (limbs N).getD j 0 = y at *
              rw [show ((0 : Nat) : Int) = 0 from rfl, show ((10 : Nat) : Int) = 10 from rfl] at CM
              replace CM := Lib.hid CM
              have hrow2 := hrow.set (x := lo) hj
              rw [hset] at hrow2
              have HROW := Lib.hid hrow2
              clear hset hrow hrow2 hlenr
              go_wp2_with (with_reducible refine G.any_mark _ ?_; (try generalize Array.size (World.heap (G.w _)) = bk); (try dsimp only [List.set_cons_zero, List.set_cons_succ]); (try clear g); intro g)
              refine (CM.out _ (G.blk1 _)).mono ?_
              rintro e w1 ⟨rfl, hch, hcb⟩
              obtain ⟨g1, rfl⟩ := G.mut1 g (cs' := [.int .u32 ((hi' : Nat) : Int)]) hch hcb
              clear hch hcb g
              revert g1
              intro g
              go_wp2_with (with_reducible refine G.any_mark _ ?_; (try generalize Array.size (World.heap (G.w _)) = bk); (try dsimp only [List.set_cons_zero, List.set_cons_succ]); (try clear g); intro g)
              go_roundg (gk - 1)
              case measure => omega
              case rel => exact ⟨j + 1, hi', pre ++ [lo], _, by omega, by go_num, TJ2, HROW.out, g, rfl⟩
            · obtain rfl : j = m := by omega
              have hji : ¬ ((j : Int) < (j : Int)) := by omega
              have TE := TJ.out
              rw [← HM.out] at TE
              rw [List.drop_of_length_le (by rw [HM.out]; exact Nat.le_refl _), List.append_nil] at hrow
              by_cases hc0 : c = 0
              · subst hc0
                have hpre := TE.same
                have HN2 : Hid (dv l (k + 1) = 10 * N + d ∧ 10 * N + d ≠ 0) := Lib.hid ⟨by rw [HS.out, HN.out.1], by have := HN.out.2; omega⟩
                have HLN : Hid ((limbs (10 * N + d)).length = j) := Lib.hid (by rw [← hpre, TE.len, HM.out])
                have HROW : Hid (Row 30 1 j (u32s (limbs (10 * N + d))) cap cs') := Lib.hid (by rw [← hpre]; exact hrow)
                clear hpre hrow TE TJ
                go_wp2_with (with_reducible refine G.any_mark _ ?_; (try generalize Array.size (World.heap (G.w _)) = bk); (try dsimp only [List.set_cons_zero, List.set_cons_succ]); (try clear g); intro g)
                obtain ⟨g2, hg2⟩ := g.less (M' := [(b, 30, cs'), (rc, 40, [.int .i64 0, .int .i64 0])]) (by simp)
                go_roundg (ko - 1)
                case measure => omega
                case rel => exact ⟨k + 1, by omega, by go_num, HL2, .inr ⟨10 * N + d, b, cap, cs', HN2, by rw [HLN.out], by rw [HLN.out]; exact HROW.out, hb, g2, hg2⟩⟩
              · have hci : (0 : Int) < (c : Int) := by omega
                have hpre := TE.more hc0
                have HN2 : Hid (dv l (k + 1) = 10 * N + d ∧ 10 * N + d ≠ 0) := Lib.hid ⟨by rw [HS.out, HN.out.1], by have := HN.out.2; omega⟩
                have HLN : Hid ((limbs (10 * N + d)).length = j + 1) := Lib.hid (by rw [← hpre, List.length_append, TE.len, HM.out]; rfl)
                have HAP : Hid (u32s (limbs (10 * N + d)) = u32s pre ++ [.int .u32 (c : Int)]) := Lib.hid (by rw [← hpre, u32s_append]; rfl)
                have H1 : ∀ u ∈ [Value.int .u32 (c : Int)], u.oneCell' = true := by intro u hu; rw [List.mem_singleton.1 hu]; rfl
                have H2 : j + 1 ≤ maxLen := by show j + 1 ≤ 9223372036854775807; omega
                have H3 : (j + 1) * 4 ≤ 140737488355328 := by omega
                clear hpre TE TJ
                go_wp2_with (first | (with_reducible refine G.any_mark _ ?_; (try generalize Array.size (World.heap (G.w _)) = bk); (try dsimp only [List.set_cons_zero, List.set_cons_succ]); (try clear g); intro g) | (at_builtin; refine wpList_append_lit rfl _ _ 24 rfl 30 i0 _ 1 4 Try.underlying24 hi hzz0 hzz1 hzz2 rfl (by decide) g hrow hb rfl 1 rfl rfl H1 (by decide) H2 H3 ?_; clear hb hrow g; intro b cap cs g hb hrow))
                obtain ⟨g2, hg2⟩ := g.less (M' := [(b, 30, cs), (rc, 40, [.int .i64 0, .int .i64 0])]) (by simp)
                go_roundg (ko - 1)
                case measure => omega
                case rel => exact ⟨k + 1, by omega, by go_num, HL2, .inr ⟨10 * N + d, b, cap, cs, HN2, by rw [HLN.out], by rw [HLN.out, HAP.out]; exact hrow, hb, g2, hg2⟩⟩
      · obtain rfl : k = n := by omega
        have hki : ¬ ((k : Int) < (k : Int)) := by omega
        rcases hcase with ⟨HZ, rfl, g, rfl⟩ | ⟨N, b, cap, cs, HN, rfl, hrow, hb, g, rfl⟩
        · have CF := fits_yes none 0 0
          rw [limbs_zero, List.length_nil] at CF
          replace CF := Lib.hid CF
          have HB0 : Hid (0 < 2 ^ 8192) := Lib.hid (Nat.two_pow_pos _)
          have hsn : SlW g.w none 0 [] := Frag.Sl.nil _ _
          go_wp2_with (with_reducible refine G.any_mark _ ?_; (try generalize Array.size (World.heap (G.w _)) = bk); (try dsimp only [List.set_cons_zero, List.set_cons_succ]); (try clear g); intro g)
          refine (CF.out _ hsn HB0.out).mono ?_
          rintro e w1 ⟨rfl, hb⟩
          obtain ⟨g1, rfl⟩ := G.call_ex _ hb
          clear hb
          (try clear g)
          revert g1
          intro g
          clear hsn
          go_wp2_with (with_reducible refine G.any_mark _ ?_; (try generalize Array.size (World.heap (G.w _)) = bk); (try dsimp only [List.set_cons_zero, List.set_cons_succ]); (try clear g); intro g)
          ((try simp only [G.drew_eq, G.drewN_eq]); (refine G.any_mark _ ?_; (try generalize Array.size (World.heap (G.w _)) = bk); (try dsimp only [List.set_cons_zero, List.set_cons_succ]); (try clear g); intro g))
          refine bodyPost_ret (v := .tuple #[.slice none 0 0, .agg #[.int .i64 0, .int .i64 0]]) (by simp [results, Try.f23, go_sem]) rfl ⟨fun _ => ?_, fun h => absurd (by rw [HZ.out]; exact HB0.out) h⟩
          rw [HZ.out]
          exact ⟨none, 0, (fun _ => none), by rw [limbs_zero]; rfl, by rw [limbs_zero]; exact Frag.Sl.nil _ _, g.none⟩
        · have hsl : SlW g.w (some ⟨b, 0, none⟩) cap (limbs N) := (sl_row hrow rfl (by have h300 : (limbs N).length ≤ 300 := len_digits (v := N) (k := k) (by rw [← HN.out.1]; exact HLT.out) (by omega); omega) (ok_limbs N)).at (blkF_sub g.blk0)
          have HM0 : Hid ((limbs N).length ≤ 140737488355328) := Lib.hid (by have h300 : (limbs N).length ≤ 300 := len_digits (v := N) (k := k) (by rw [← HN.out.1]; exact HLT.out) (by omega); omega)
          by_cases hN8 : N < 2 ^ 8192
          · have CF := Lib.hid (fun w h => fits_yes (some ⟨b, 0, none⟩) cap N w h hN8)
            have H8 := Lib.hid hN8
            clear hN8
            go_wp2_with (with_reducible refine G.any_mark _ ?_; (try generalize Array.size (World.heap (G.w _)) = bk); (try dsimp only [List.set_cons_zero, List.set_cons_succ]); (try clear g); intro g)
            refine (CF.out _ hsl).mono ?_
            rintro e w1 ⟨rfl, hb⟩
            obtain ⟨g1, rfl⟩ := G.call_ex _ hb
            clear hb
            (try clear g)
            revert g1
            intro g
            clear hsl
            go_wp2_with (with_reducible refine G.any_mark _ ?_; (try generalize Array.size (World.heap (G.w _)) = bk); (try dsimp only [List.set_cons_zero, List.set_cons_succ]); (try clear g); intro g)
            ((try simp only [G.drew_eq, G.drewN_eq]); (refine G.any_mark _ ?_; (try generalize Array.size (World.heap (G.w _)) = bk); (try dsimp only [List.set_cons_zero, List.set_cons_succ]); (try clear g); intro g))
            have hlen := HM0.out
            refine bodyPost_ret (v := .tuple #[.slice (some ⟨b, 0, none⟩) (limbs N).length cap, .agg #[.int .i64 0, .int .i64 0]]) (by simp [results, Try.f23, go_sem]) rfl ⟨fun _ => ?_, fun h => absurd (by rw [HN.out.1]; exact H8.out) h⟩
            rw [HN.out.1]
            exact ⟨_, cap, _, rfl, sl_row hrow rfl hlen (ok_limbs N), g.give (List.mem_cons_self ..)⟩
          · have CF := Lib.hid (fun w h => fits_no (some ⟨b, 0, none⟩) cap N w h hN8)
            have H8 := Lib.hid hN8
            clear hN8
            go_wp2_with (with_reducible refine G.any_mark _ ?_; (try generalize Array.size (World.heap (G.w _)) = bk); (try dsimp only [List.set_cons_zero, List.set_cons_succ]); (try clear g); intro g)
            refine (CF.out _ hsl).mono ?_
            rintro e w1 ⟨rfl, hb⟩
            obtain ⟨g1, rfl⟩ := G.call_ex _ hb
            clear hb
            (try clear g)
            revert g1
            intro g
            clear hsl
            go_wp2_with (with_reducible refine G.any_mark _ ?_; (try generalize Array.size (World.heap (G.w _)) = bk); (try dsimp only [List.set_cons_zero, List.set_cons_succ]); (try clear g); intro g)
            ((try simp only [G.drew_eq, G.drewN_eq]); (refine G.any_mark _ ?_; (try generalize Array.size (World.heap (G.w _)) = bk); (try dsimp only [List.set_cons_zero, List.set_cons_succ]); (try clear g); intro g))
            refine bodyPost_ret (v := .tuple #[.slice none 0 0, .agg #[.int .i64 5, .int .i64 0]]) (by simp [results, Try.f23, go_sem]) rfl ⟨fun h => absurd (by rw [HN.out.1] at h; exact h) H8.out, fun _ => ?_⟩
            exact ⟨none, 0, (fun _ => none), by rw [limbs_zero]; rfl, by rw [limbs_zero]; exact Frag.Sl.nil _ _, g.none⟩
end Go.Proofs.Ytfifcpgjcgoinaa

set_option exponentiation.threshold 10000
namespace Go.Proofs.Ytfifcpgjcgoinaa
open Go.RowKit GW NL
theorem rnf_err {w0 : World} {M : List Blk} {I : List Frag} (g : G w0 [] M I) (x y : Int) : RNF 0 x y w0 (.returned (.tuple #[.slice none 0 0, .agg #[.int .i64 x, .int .i64 y]])) g.w :=
  ⟨none, 0, (fun _ => none), by rw [limbs_zero]; rfl, by rw [limbs_zero]; exact Frag.Sl.nil _ _, g.none⟩
theorem Parse_long (s : ByteArray) (w : World) (hn : 2467 < s.size) (hn9 : s.size ≤ 1000000000) :
    Calls Try.prog 23 #[.string s] w (RNF 0 4 2467 w) := by
  refine calls_b fun g => ?_
  obtain ⟨n, hsz⟩ : ∃ n, s.size = n := ⟨_, rfl⟩
  rw [hsz] at hn hn9
  have h1i : (2467 : Int) < (n : Int) := by omega
  clear hn
  go_enter Try.func23, Try.ntmps23
  go_wp2_with (with_reducible refine G.any_mark _ ?_; (try generalize Array.size (World.heap (G.w _)) = bk); (try dsimp only [List.set_cons_zero, List.set_cons_succ]); (try clear g); intro g)
  ((try simp only [G.drew_eq, G.drewN_eq]); (refine G.any_mark _ ?_; (try generalize Array.size (World.heap (G.w _)) = bk); (try dsimp only [List.set_cons_zero, List.set_cons_succ]); (try clear g); intro g))
  refine bodyPost_ret (v := .tuple #[.slice none 0 0, .agg #[.int .i64 4, .int .i64 2467]]) (by simp [results, Try.f23, go_sem]) rfl ?_
  exact rnf_err g _ _
set_option maxRecDepth 20000 in
theorem Parse_bad (s : ByteArray) (w : World) (hn : s.size ≤ 2467) (i : Nat) (hi : i < s.size) (hb : NoDig ((bl s).getD i 0)) (hd : ∀ j, j < i → ¬ NoDig ((bl s).getD j 0)) :
    Calls Try.prog 23 #[.string s] w (RNF 0 11 i w) := by
  refine calls_b fun g => ?_
  obtain ⟨capOf, cvW, fr, hcv⟩ := conv_ex s
  have hcv1 := fun w => (hcv w).1
  have HCV := Lib.hid (fun w => (hcv w).2)
  clear hcv
  obtain ⟨l, hl⟩ : ∃ l, bl s = l := ⟨_, rfl⟩
  have hll := bl_len s
  have hlt := bl_lt s
  rw [hl] at hll hlt hd hb
  rw [hl] at HCV
  obtain ⟨n, hsz⟩ : ∃ n, s.size = n := ⟨_, rfl⟩
  rw [hsz] at hn hi hll hcv1
  have h1i : ¬ ((2467 : Int) < (n : Int)) := by omega
  go_enter Try.func23, Try.ntmps23
  go_wp2_with (with_reducible refine G.any_mark _ ?_; (try generalize Array.size (World.heap (G.w _)) = bk); (try dsimp only [List.set_cons_zero, List.set_cons_succ]); (try clear g); intro g)
  obtain ⟨rc, rfl⟩ : ∃ rc : Nat, rc = bk := ⟨_, rfl⟩
  have hby := (HCV.out g.w).2
  obtain ⟨g1, hg1⟩ := g.new_ex (HCV.out g.w).1
  rw [hg1]
  clear hg1
  have CI := index_any g.w.heap.size n (capOf g.w) l g1.w hll (by omega) hlt (fun j hj => hby.cell g1 (by simp) (by omega))
  generalize capOf g.w = cc at *
  generalize fr g.w = F0 at *
  generalize g.w.heap.size = bb at *
  clear g
  revert g1
  intro g CI
  refine CI.mono ?_
  rintro e w1 ⟨rfl, ⟨i', hi', hb', hd', rfl⟩ | ⟨hall, rfl⟩⟩
  · obtain rfl : i' = i := by
      rcases Nat.lt_trichotomy i' i with h | h | h
      · exact absurd hb' (hd i' h)
      · exact h
      · exact absurd hb (hd' i h)
    have hi0 : (0 : Int) ≤ (i' : Int) := by omega
    clear CI hby hb hd hb' hd' hi'
    go_wp2_with (with_reducible refine G.any_mark _ ?_; (try generalize Array.size (World.heap (G.w _)) = bk); (try dsimp only [List.set_cons_zero, List.set_cons_succ]); (try clear g); intro g)
    ((try simp only [G.drew_eq, G.drewN_eq]); (refine G.any_mark _ ?_; (try generalize Array.size (World.heap (G.w _)) = bk); (try dsimp only [List.set_cons_zero, List.set_cons_succ]); (try clear g); intro g))
    refine bodyPost_ret (v := .tuple #[.slice none 0 0, .agg #[.int .i64 11, .int .i64 (i' : Int)]]) (by simp [results, Try.f23, go_sem]) rfl ?_
    exact rnf_err g _ _
  · exact absurd hb (hall i hi)
set_option maxRecDepth 20000 in
theorem Parse_form (s : ByteArray) (w : World) (hn : s.size ≤ 2467) (hd : ∀ j, j < s.size → ¬ NoDig ((bl s).getD j 0)) (hz : s.size = 0 ∨ (1 < s.size ∧ (bl s).getD 0 0 = 48)) :
    Calls Try.prog 23 #[.string s] w (RNF 0 11 0 w) := by
  refine calls_b fun g => ?_
  obtain ⟨capOf, cvW, fr, hcv⟩ := conv_ex s
  have hcv1 := fun w => (hcv w).1
  have HCV := Lib.hid (fun w => (hcv w).2)
  clear hcv
  obtain ⟨l, hl⟩ : ∃ l, bl s = l := ⟨_, rfl⟩
  have hll := bl_len s
  have hlt := bl_lt s
  rw [hl] at hll hlt hd hz
  rw [hl] at HCV
  obtain ⟨n, hsz⟩ : ∃ n, s.size = n := ⟨_, rfl⟩
  rw [hsz] at hn hll hcv1 hd hz
  have h1i : ¬ ((2467 : Int) < (n : Int)) := by omega
  go_enter Try.func23, Try.ntmps23
  go_wp2_with (with_reducible refine G.any_mark _ ?_; (try generalize Array.size (World.heap (G.w _)) = bk); (try dsimp only [List.set_cons_zero, List.set_cons_succ]); (try clear g); intro g)
  obtain ⟨rc, rfl⟩ : ∃ rc : Nat, rc = bk := ⟨_, rfl⟩
  have hby := (HCV.out g.w).2
  obtain ⟨g1, hg1⟩ := g.new_ex (HCV.out g.w).1
  rw [hg1]
  clear hg1
  have CI := index_any g.w.heap.size n (capOf g.w) l g1.w hll (by omega) hlt (fun j hj => hby.cell g1 (by simp) (by omega))
  generalize capOf g.w = cc at *
  generalize fr g.w = F0 at *
  generalize g.w.heap.size = bb at *
  clear g
  revert g1
  intro g CI
  refine CI.mono ?_
  rintro e w1 ⟨rfl, ⟨i', hi', hb', _, _⟩ | ⟨_, rfl⟩⟩
  · exact absurd hb' (hd i' hi')
  · clear CI hby hd
    rcases hz with h0 | ⟨h1n, hz'⟩
    · have hn0i : ((n : Int) == 0) = true := by rw [beq_iff_eq]; omega
      have hn0 : (n : Int) = 0 := by omega
      clear h0
      go_wp2_with (with_reducible refine G.any_mark _ ?_; (try generalize Array.size (World.heap (G.w _)) = bk); (try dsimp only [List.set_cons_zero, List.set_cons_succ]); (try clear g); intro g)
      ((try simp only [G.drew_eq, G.drewN_eq]); (refine G.any_mark _ ?_; (try generalize Array.size (World.heap (G.w _)) = bk); (try dsimp only [List.set_cons_zero, List.set_cons_succ]); (try clear g); intro g))
      refine bodyPost_ret (v := .tuple #[.slice none 0 0, .agg #[.int .i64 11, .int .i64 0]]) (by simp [results, Try.f23, go_sem]) rfl ?_
      exact rnf_err g _ _
    · have h1ni : (1 : Int) < (n : Int) := by omega
      have hn0i : ((n : Int) == 0) = false := by rw [beq_eq_false_iff_ne]; omega
      have hs0 : ∀ h : 0 < s.size, (((s[0]'h).toNat : Int) == 48) = true := fun h => by
        have := bl_first s h
        rw [hl] at this
        rw [beq_iff_eq]
        omega
      clear hl hz'
      go_wp2_with (with_reducible refine G.any_mark _ ?_; (try generalize Array.size (World.heap (G.w _)) = bk); (try dsimp only [List.set_cons_zero, List.set_cons_succ]); (try clear g); intro g)
      ((try simp only [G.drew_eq, G.drewN_eq]); (refine G.any_mark _ ?_; (try generalize Array.size (World.heap (G.w _)) = bk); (try dsimp only [List.set_cons_zero, List.set_cons_succ]); (try clear g); intro g))
      refine bodyPost_ret (v := .tuple #[.slice none 0 0, .agg #[.int .i64 11, .int .i64 0]]) (by simp [results, Try.f23, go_sem]) rfl ?_
      exact rnf_err g _ _
end Go.Proofs.Ytfifcpgjcgoinaa

set_option exponentiation.threshold 10000
namespace Go.Proofs.Ytfifcpgjcgoinaa
open Go.RowKit GW NL
theorem Sub_rv (a b p : Nat) (hp : a - b = p) (ha : a < 2 ^ 8192) (hb : b < 2 ^ 8192) (hab : b ≤ a) (A1 A2 : Option Addr) (c1 c2 : Nat) (w : World) (h1 : SlW w A1 c1 (limbs a)) (h2 : SlW w A2 c2 (limbs b)) :
    Calls Try.prog 25 #[.slice A1 (limbs a).length c1, .slice A2 (limbs b).length c2] w (RV p w) := by
  subst hp; exact Sub_ok A1 A2 c1 c2 a b w h1 h2 ha hb hab
theorem ShiftUp_rv (a s p : Nat) (hp : a * 2 ^ s = p) (ha : a < 2 ^ 8192) (hs : s ≤ 10000) (hpb : p < 2 ^ 8192) (A1 : Option Addr) (c1 : Nat) (w : World) (h1 : SlW w A1 c1 (limbs a)) :
    Calls Try.prog 27 #[.slice A1 (limbs a).length c1, .int .i64 (s : Int)] w (RV p w) := by
  have := Shift_up A1 c1 a s w h1 ha hs
  rw [hp] at this
  unfold outN at this
  rw [if_neg (by simp), if_pos hpb] at this
  exact this
theorem ShiftDown_rv (a s p : Nat) (hp : a / 2 ^ s = p) (ha : a < 2 ^ 8192) (hs : s ≤ 10000) (A1 : Option Addr) (c1 : Nat) (w : World) (h1 : SlW w A1 c1 (limbs a)) :
    Calls Try.prog 27 #[.slice A1 (limbs a).length c1, .int .i64 (-(s : Int))] w (RV p w) := by
  have := Shift_down A1 c1 a s w h1 ha hs
  rw [hp] at this
  exact this
theorem add_lt' {a b k : Nat} (h1 : a < 2 ^ k) (h2 : b < 2 ^ k) : a + b < 2 ^ (k + 1) := by rw [Nat.pow_succ]; omega
set_option maxRecDepth 100000 in
set_option maxHeartbeats 1000000 in
theorem ring_walk (A1 A2 A3 : Option Addr) (c1 c2 c3 : Nat) (l1 l2 l3 : List Nat) (n : Int) (hn1 : -9223372036854775808 ≤ n) (hn2 : n ≤ 9223372036854775807) (w : World) (h1 : SlW w A1 c1 l1) (h2 : SlW w A2 c2 l2) (h3 : SlW w A3 c3 l3) (hl1 : l1.length ≤ 35184372088832) (hl2 : l2.length ≤ 35184372088832) (hl3 : l3.length ≤ 35184372088832) :
    Calls Try.prog 6 #[.slice A1 l1.length c1, .slice A2 l2.length c2, .slice A3 l3.length c3, .int .i64 n] w fun e w' => e = .returned (.bool true) ∧ Below w.heap.size w w' := by
  refine calls_b fun g => ?_
  have CV1 := Lib.hid (fun w h => valid_any A1 c1 l1 40 w h hl1 (by omega))
  have CV2 := Lib.hid (fun w h => valid_any A2 c2 l2 40 w h hl2 (by omega))
  have CV3 := Lib.hid (fun w h => valid_any A3 c3 l3 40 w h hl3 (by omega))
  have b1 := cut_lt h1.ok 40
  have b2 := cut_lt h2.ok 40
  have b3 := cut_lt h3.ok 40
  generalize cut l1 40 = a at *
  generalize cut l2 40 = b at *
  generalize cut l3 40 = c at *
  have CL := Lib.hid lives_any
  have CP := Lib.hid (fun w => pick_any n hn1 hn2 w)
  obtain ⟨s1, e1⟩ : ∃ x, a + b = x := ⟨_, rfl⟩
  obtain ⟨s2, e2⟩ : ∃ x, s1 + c = x := ⟨_, rfl⟩
  obtain ⟨s3, e3⟩ : ∃ x, b + c = x := ⟨_, rfl⟩
  obtain ⟨p1, f1⟩ : ∃ x, a * b = x := ⟨_, rfl⟩
  obtain ⟨p3, f3⟩ : ∃ x, p1 * c = x := ⟨_, rfl⟩
  obtain ⟨p4, f4⟩ : ∃ x, b * c = x := ⟨_, rfl⟩
  obtain ⟨p6, f6⟩ : ∃ x, a * s3 = x := ⟨_, rfl⟩
  obtain ⟨p7, f7⟩ : ∃ x, a * c = x := ⟨_, rfl⟩
  have g1 : b + a = s1 := by omega
  have g2 : a + s3 = s2 := by omega
  have g3 : s1 - b = a := by omega
  have g4 : b * a = p1 := by rw [Nat.mul_comm]; exact f1
  have g5 : a * p4 = p3 := by rw [← f3, ← f1, ← f4, Nat.mul_assoc]
  have g6 : p1 + p7 = p6 := by rw [← f1, ← f7, ← f6, ← e3, Nat.mul_add]
  have h40 : (2 : Nat) ^ (32 * 40) = 2 ^ 1280 := rfl
  have B1 : s1 < 2 ^ 1281 := by rw [← e1]; exact add_lt' b1 b2
  have B3 : s3 < 2 ^ 1281 := by rw [← e3]; exact add_lt' b2 b3
  have P1 : p1 < 2 ^ (1280 + 1280) := by rw [← f1]; exact mul_lt' b1 b2
  have B2 : s2 < 2 ^ 8192 := by
    have : s2 < 2 ^ 1282 := by rw [← e2]; exact add_lt' B1 (Nat.lt_trans b3 (Nat.pow_lt_pow_right (by decide) (by decide)))
    exact pow_lt' this (by decide)
  have P3 : p3 < 2 ^ 8192 := by rw [← f3]; exact pow_lt' (mul_lt' P1 b3) (by decide)
  have P4 : p4 < 2 ^ 8192 := by rw [← f4]; exact pow_lt' (mul_lt' b2 b3) (by decide)
  have P6 : p6 < 2 ^ 8192 := by rw [← f6]; exact pow_lt' (mul_lt' b1 B3) (by decide)
  have P7 : p7 < 2 ^ 8192 := by rw [← f7]; exact pow_lt' (mul_lt' b1 b3) (by decide)
  have P1 := pow_lt' P1 (by decide)
  have HS : Hid (∀ k, k < 500 → a * 2 ^ k < 2 ^ 8192) := Lib.hid (fun k hk => pow_lt' (Nat.lt_of_lt_of_le (Nat.mul_lt_mul_of_pos_right b1 (Nat.two_pow_pos k)) (by rw [← Nat.pow_add]; exact Nat.pow_le_pow_right (by decide) (show 32 * 40 + k ≤ 2000 by omega))) (by decide))
  have b1 := pow_lt' b1 (by decide)
  have b2 := pow_lt' b2 (by decide)
  have b3 := pow_lt' b3 (by decide)
  have B1 := pow_lt' B1 (by decide)
  have B3 := pow_lt' B3 (by decide)
  have CA1 := Lib.hid (Add_rv a b s1 e1 b1 b2 B1)
  have CA2 := Lib.hid (Add_rv b a s1 g1 b2 b1 B1)
  have CA3 := Lib.hid (Add_rv s1 c s2 e2 B1 b3 B2)
  have CA4 := Lib.hid (Add_rv b c s3 e3 b2 b3 B3)
  have CA5 := Lib.hid (Add_rv a s3 s2 g2 b1 B3 B2)
  have CA6 := Lib.hid (Sub_rv s1 b a g3 B1 b2 (by omega))
  have CM1 := Lib.hid (Mul_rv a b p1 f1 b1 b2 P1)
  have CM2 := Lib.hid (Mul_rv b a p1 g4 b2 b1 P1)
  have CM3 := Lib.hid (Mul_rv p1 c p3 f3 P1 b3 P3)
  have CM4 := Lib.hid (Mul_rv b c p4 f4 b2 b3 P4)
  have CM5 := Lib.hid (Mul_rv a p4 p3 g5 b1 P4 P3)
  have CM6 := Lib.hid (Mul_rv a s3 p6 f6 b1 B3 P6)
  have CM7 := Lib.hid (Mul_rv a c p7 f7 b1 b3 P7)
  have CM8 := Lib.hid (Add_rv p1 p7 p6 g6 P1 P7 P6)
  have CS := Lib.hid (fun v => same_rv v)
  have HA := Lib.hid b1
  clear e1 e2 e3 f1 f3 f4 f6 f7 g1 g2 g3 g4 g5 g6 h40 b1 b2 b3 B1 B2 B3 P1 P3 P4 P6 P7 hl1 hl2 hl3 hn1 hn2
  generalize hn1 : l1.length = n1 at *
  generalize hn2 : l2.length = n2 at *
  generalize hn3 : l3.length = n3 at *
  clear hn1 hn2 hn3
  go_enter Try.func6, Try.ntmps6
  go_wp2_with (with_reducible refine G.any_mark _ ?_; (try generalize Array.size (World.heap (G.w _)) = bk); (try dsimp only [List.set_cons_zero, List.set_cons_succ]); (try clear g); intro g)
  refine (CL.out _).mono ?_
  rintro e w1 ⟨rfl, hb⟩
  obtain ⟨g1, rfl⟩ := G.call_ex _ hb
  clear hb
  (try clear g)
  revert g1
  intro g
  go_wp2_with (with_reducible refine G.any_mark _ ?_; (try generalize Array.size (World.heap (G.w _)) = bk); (try dsimp only [List.set_cons_zero, List.set_cons_succ]); (try clear g); intro g)
  refine (CV1.out _ (G.sl g (by simp) h1)).mono ?_
  rintro e w1 ⟨Aa, ca, Fa, rfl, hsa, hn⟩
  have hnna := fun k o hk => Nat.le_trans g.chg.size (hn.new k o hk)
  obtain ⟨g1, rfl⟩ := G.new_ex _ hn
  clear hn
  (try clear g)
  revert g1
  intro g
  go_wp2_with (with_reducible refine G.any_mark _ ?_; (try generalize Array.size (World.heap (G.w _)) = bk); (try dsimp only [List.set_cons_zero, List.set_cons_succ]); (try clear g); intro g)
  refine (CV2.out _ (G.sl g (by simp) h2)).mono ?_
  rintro e w1 ⟨Ab, cb, Fb, rfl, hsb, hn⟩
  have hnnb := fun k o hk => Nat.le_trans g.chg.size (hn.new k o hk)
  obtain ⟨g1, rfl⟩ := G.new_ex _ hn
  clear hn
  (try clear g)
  revert g1
  intro g
  go_wp2_with (with_reducible refine G.any_mark _ ?_; (try generalize Array.size (World.heap (G.w _)) = bk); (try dsimp only [List.set_cons_zero, List.set_cons_succ]); (try clear g); intro g)
  refine (CV3.out _ (G.sl g (by simp) h3)).mono ?_
  rintro e w1 ⟨Ac, cc, Fc, rfl, hsc, hn⟩
  have hnnc := fun k o hk => Nat.le_trans g.chg.size (hn.new k o hk)
  obtain ⟨g1, rfl⟩ := G.new_ex _ hn
  clear hn
  (try clear g)
  revert g1
  intro g
  go_wp2_with (with_reducible refine G.any_mark _ ?_; (try generalize Array.size (World.heap (G.w _)) = bk); (try dsimp only [List.set_cons_zero, List.set_cons_succ]); (try clear g); intro g)
  refine (CA1.out _ _ _ _ _ (G.sl g (by simp) hsa) (G.sl g (by simp) hsb)).mono ?_
  rintro e w1 ⟨Ad, cd, Fd, rfl, hsd, hn⟩
  have hnnd := fun k o hk => Nat.le_trans g.chg.size (hn.new k o hk)
  obtain ⟨g1, rfl⟩ := G.new_ex _ hn
  clear hn
  (try clear g)
  revert g1
  intro g
  go_wp2_with (with_reducible refine G.any_mark _ ?_; (try generalize Array.size (World.heap (G.w _)) = bk); (try dsimp only [List.set_cons_zero, List.set_cons_succ]); (try clear g); intro g)
  refine (CA2.out _ _ _ _ _ (G.sl g (by simp) hsb) (G.sl g (by simp) hsa)).mono ?_
  rintro e w1 ⟨Ae, ce, Fe, rfl, hse, hn⟩
  have hnne := fun k o hk => Nat.le_trans g.chg.size (hn.new k o hk)
  obtain ⟨g1, rfl⟩ := G.new_ex _ hn
  clear hn
  (try clear g)
  revert g1
  intro g
  go_wp2_with (with_reducible refine G.any_mark _ ?_; (try generalize Array.size (World.heap (G.w _)) = bk); (try dsimp only [List.set_cons_zero, List.set_cons_succ]); (try clear g); intro g)
  refine (CA3.out _ _ _ _ _ (G.sl g (by simp) hsd) (G.sl g (by simp) hsc)).mono ?_
  rintro e w1 ⟨Af, cf, Ff, rfl, hsf, hn⟩
  have hnnf := fun k o hk => Nat.le_trans g.chg.size (hn.new k o hk)
  obtain ⟨g1, rfl⟩ := G.new_ex _ hn
  clear hn
  (try clear g)
  revert g1
  intro g
  go_wp2_with (with_reducible refine G.any_mark _ ?_; (try generalize Array.size (World.heap (G.w _)) = bk); (try dsimp only [List.set_cons_zero, List.set_cons_succ]); (try clear g); intro g)
  refine (CA4.out _ _ _ _ _ (G.sl g (by simp) hsb) (G.sl g (by simp) hsc)).mono ?_
  rintro e w1 ⟨Ag, cg, Fg, rfl, hsg, hn⟩
  have hnng := fun k o hk => Nat.le_trans g.chg.size (hn.new k o hk)
  obtain ⟨g1, rfl⟩ := G.new_ex _ hn
  clear hn
  (try clear g)
  revert g1
  intro g
  go_wp2_with (with_reducible refine G.any_mark _ ?_; (try generalize Array.size (World.heap (G.w _)) = bk); (try dsimp only [List.set_cons_zero, List.set_cons_succ]); (try clear g); intro g)
  refine (CA5.out _ _ _ _ _ (G.sl g (by simp) hsa) (G.sl g (by simp) hsg)).mono ?_
  rintro e w1 ⟨Ah, ch, Fh, rfl, hsh, hn⟩
  have hnnh := fun k o hk => Nat.le_trans g.chg.size (hn.new k o hk)
  obtain ⟨g1, rfl⟩ := G.new_ex _ hn
  clear hn
  (try clear g)
  revert g1
  intro g
  go_wp2_with (with_reducible refine G.any_mark _ ?_; (try generalize Array.size (World.heap (G.w _)) = bk); (try dsimp only [List.set_cons_zero, List.set_cons_succ]); (try clear g); intro g)
  refine (CA6.out _ _ _ _ _ (G.sl g (by simp) hsd) (G.sl g (by simp) hsb)).mono ?_
  rintro e w1 ⟨Ai, ci, Fi, rfl, hsi, hn⟩
  have hnni := fun k o hk => Nat.le_trans g.chg.size (hn.new k o hk)
  obtain ⟨g1, rfl⟩ := G.new_ex _ hn
  clear hn
  (try clear g)
  revert g1
  intro g
  go_wp2_with (with_reducible refine G.any_mark _ ?_; (try generalize Array.size (World.heap (G.w _)) = bk); (try dsimp only [List.set_cons_zero, List.set_cons_succ]); (try clear g); intro g)
  refine (CS.out _ _ _ _ _ _ (G.sl g (by simp) hsd) (G.sl g (by simp) hse)).mono ?_
  rintro e w1 ⟨rfl, hb⟩
  obtain ⟨g1, rfl⟩ := G.call_ex _ hb
  clear hb
  (try clear g)
  revert g1
  intro g
  go_wp2_with (with_reducible refine G.any_mark _ ?_; (try generalize Array.size (World.heap (G.w _)) = bk); (try dsimp only [List.set_cons_zero, List.set_cons_succ]); (try clear g); intro g)
  refine (CS.out _ _ _ _ _ _ (G.sl g (by simp) hsf) (G.sl g (by simp) hsh)).mono ?_
  rintro e w1 ⟨rfl, hb⟩
  obtain ⟨g1, rfl⟩ := G.call_ex _ hb
  clear hb
  (try clear g)
  revert g1
  intro g
  go_wp2_with (with_reducible refine G.any_mark _ ?_; (try generalize Array.size (World.heap (G.w _)) = bk); (try dsimp only [List.set_cons_zero, List.set_cons_succ]); (try clear g); intro g)
  refine (CS.out _ _ _ _ _ _ (G.sl g (by simp) hsi) (G.sl g (by simp) hsa)).mono ?_
  rintro e w1 ⟨rfl, hb⟩
  obtain ⟨g1, rfl⟩ := G.call_ex _ hb
  clear hb
  (try clear g)
  revert g1
  intro g
  go_wp2_with (with_reducible refine G.any_mark _ ?_; (try generalize Array.size (World.heap (G.w _)) = bk); (try dsimp only [List.set_cons_zero, List.set_cons_succ]); (try clear g); intro g)
  refine (CM1.out _ _ _ _ _ (G.sl g (by simp) hsa) (G.sl g (by simp) hsb)).mono ?_
  rintro e w1 ⟨Aj, cj, Fj, rfl, hsj, hn⟩
  have hnnj := fun k o hk => Nat.le_trans g.chg.size (hn.new k o hk)
  obtain ⟨g1, rfl⟩ := G.new_ex _ hn
  clear hn
  (try clear g)
  revert g1
  intro g
  go_wp2_with (with_reducible refine G.any_mark _ ?_; (try generalize Array.size (World.heap (G.w _)) = bk); (try dsimp only [List.set_cons_zero, List.set_cons_succ]); (try clear g); intro g)
  refine (CM2.out _ _ _ _ _ (G.sl g (by simp) hsb) (G.sl g (by simp) hsa)).mono ?_
  rintro e w1 ⟨Ak, ck, Fk, rfl, hsk, hn⟩
  have hnnk := fun k o hk => Nat.le_trans g.chg.size (hn.new k o hk)
  obtain ⟨g1, rfl⟩ := G.new_ex _ hn
  clear hn
  (try clear g)
  revert g1
  intro g
  go_wp2_with (with_reducible refine G.any_mark _ ?_; (try generalize Array.size (World.heap (G.w _)) = bk); (try dsimp only [List.set_cons_zero, List.set_cons_succ]); (try clear g); intro g)
  refine (CM3.out _ _ _ _ _ (G.sl g (by simp) hsj) (G.sl g (by simp) hsc)).mono ?_
  rintro e w1 ⟨Al, cl, Fl, rfl, hsl, hn⟩
  have hnnl := fun k o hk => Nat.le_trans g.chg.size (hn.new k o hk)
  obtain ⟨g1, rfl⟩ := G.new_ex _ hn
  clear hn
  (try clear g)
  revert g1
  intro g
  go_wp2_with (with_reducible refine G.any_mark _ ?_; (try generalize Array.size (World.heap (G.w _)) = bk); (try dsimp only [List.set_cons_zero, List.set_cons_succ]); (try clear g); intro g)
  refine (CM4.out _ _ _ _ _ (G.sl g (by simp) hsb) (G.sl g (by simp) hsc)).mono ?_
  rintro e w1 ⟨Am, cm, Fm, rfl, hsm, hn⟩
  have hnnm := fun k o hk => Nat.le_trans g.chg.size (hn.new k o hk)
  obtain ⟨g1, rfl⟩ := G.new_ex _ hn
  clear hn
  (try clear g)
  revert g1
  intro g
  go_wp2_with (with_reducible refine G.any_mark _ ?_; (try generalize Array.size (World.heap (G.w _)) = bk); (try dsimp only [List.set_cons_zero, List.set_cons_succ]); (try clear g); intro g)
  refine (CM5.out _ _ _ _ _ (G.sl g (by simp) hsa) (G.sl g (by simp) hsm)).mono ?_
  rintro e w1 ⟨Ao, co, Fo, rfl, hso, hn⟩
  have hnno := fun k o hk => Nat.le_trans g.chg.size (hn.new k o hk)
  obtain ⟨g1, rfl⟩ := G.new_ex _ hn
  clear hn
  (try clear g)
  revert g1
  intro g
  go_wp2_with (with_reducible refine G.any_mark _ ?_; (try generalize Array.size (World.heap (G.w _)) = bk); (try dsimp only [List.set_cons_zero, List.set_cons_succ]); (try clear g); intro g)
  refine (CM6.out _ _ _ _ _ (G.sl g (by simp) hsa) (G.sl g (by simp) hsg)).mono ?_
  rintro e w1 ⟨Ap, cp, Fp, rfl, hsp, hn⟩
  have hnnp := fun k o hk => Nat.le_trans g.chg.size (hn.new k o hk)
  obtain ⟨g1, rfl⟩ := G.new_ex _ hn
  clear hn
  (try clear g)
  revert g1
  intro g
  go_wp2_with (with_reducible refine G.any_mark _ ?_; (try generalize Array.size (World.heap (G.w _)) = bk); (try dsimp only [List.set_cons_zero, List.set_cons_succ]); (try clear g); intro g)
  refine (CM7.out _ _ _ _ _ (G.sl g (by simp) hsa) (G.sl g (by simp) hsc)).mono ?_
  rintro e w1 ⟨Aq, cq, Fq, rfl, hsq, hn⟩
  have hnnq := fun k o hk => Nat.le_trans g.chg.size (hn.new k o hk)
  obtain ⟨g1, rfl⟩ := G.new_ex _ hn
  clear hn
  (try clear g)
  revert g1
  intro g
  go_wp2_with (with_reducible refine G.any_mark _ ?_; (try generalize Array.size (World.heap (G.w _)) = bk); (try dsimp only [List.set_cons_zero, List.set_cons_succ]); (try clear g); intro g)
  refine (CM8.out _ _ _ _ _ (G.sl g (by simp) hsj) (G.sl g (by simp) hsq)).mono ?_
  rintro e w1 ⟨Ar, cr, Fr, rfl, hsr, hn⟩
  have hnnr := fun k o hk => Nat.le_trans g.chg.size (hn.new k o hk)
  obtain ⟨g1, rfl⟩ := G.new_ex _ hn
  clear hn
  (try clear g)
  revert g1
  intro g
  go_wp2_with (with_reducible refine G.any_mark _ ?_; (try generalize Array.size (World.heap (G.w _)) = bk); (try dsimp only [List.set_cons_zero, List.set_cons_succ]); (try clear g); intro g)
  refine (CS.out _ _ _ _ _ _ (G.sl g (by simp) hsj) (G.sl g (by simp) hsk)).mono ?_
  rintro e w1 ⟨rfl, hb⟩
  obtain ⟨g1, rfl⟩ := G.call_ex _ hb
  clear hb
  (try clear g)
  revert g1
  intro g
  go_wp2_with (with_reducible refine G.any_mark _ ?_; (try generalize Array.size (World.heap (G.w _)) = bk); (try dsimp only [List.set_cons_zero, List.set_cons_succ]); (try clear g); intro g)
  refine (CS.out _ _ _ _ _ _ (G.sl g (by simp) hsl) (G.sl g (by simp) hso)).mono ?_
  rintro e w1 ⟨rfl, hb⟩
  obtain ⟨g1, rfl⟩ := G.call_ex _ hb
  clear hb
  (try clear g)
  revert g1
  intro g
  go_wp2_with (with_reducible refine G.any_mark _ ?_; (try generalize Array.size (World.heap (G.w _)) = bk); (try dsimp only [List.set_cons_zero, List.set_cons_succ]); (try clear g); intro g)
  refine (CS.out _ _ _ _ _ _ (G.sl g (by simp) hsp) (G.sl g (by simp) hsr)).mono ?_
  rintro e w1 ⟨rfl, hb⟩
  obtain ⟨g1, rfl⟩ := G.call_ex _ hb
  clear hb
  (try clear g)
  revert g1
  intro g
  go_wp2_with (with_reducible refine G.any_mark _ ?_; (try generalize Array.size (World.heap (G.w _)) = bk); (try dsimp only [List.set_cons_zero, List.set_cons_succ]); (try clear g); intro g)
  refine (CP.out _).mono ?_
  rintro e w1 ⟨k, hk, rfl, rfl⟩
  have hsS := HS.out k hk
  obtain ⟨S, hS⟩ : ∃ S, a * 2 ^ k = S := ⟨_, rfl⟩
  rw [hS] at hsS
  obtain ⟨T, hT⟩ : ∃ T, 1 * 2 ^ k = T := ⟨_, rfl⟩
  have hTb : T < 2 ^ 8192 := by rw [← hT, Nat.one_mul]; exact Nat.pow_lt_pow_right (by decide) (by omega)
  have hu : a * T = S := by rw [← hT, ← hS, Nat.one_mul]
  have hback : S / 2 ^ k = a := by rw [← hS]; exact Nat.mul_div_cancel _ (Nat.two_pow_pos k)
  have one8 : 1 < 2 ^ 8192 := small_lt (by decide)
  have CH1 := Lib.hid (ShiftUp_rv a k S hS HA.out (by omega) hsS)
  have CH2 := Lib.hid (ShiftDown_rv S k a hback hsS (by omega))
  have CH3 := Lib.hid (ShiftUp_rv 1 k T hT one8 (by omega) hTb)
  have CM9 := Lib.hid (Mul_rv a T S hu HA.out hTb hsS)
  have ee : limbs 1 = [1] := lim1 (by decide) (by decide)
  have hL1 : (limbs 1).length = 1 := by rw [ee]; rfl
  rw [hL1] at CH3
  have n1' : Hid ((limbs 1).length = 1 ∧ [Value.int .u32 1] = u32s (limbs 1)) := Lib.hid ⟨hL1, by rw [ee]; rfl⟩
  obtain ⟨N, hN⟩ : ∃ N, -(k : Int) = N := ⟨_, rfl⟩
  have hwn : IntKind.i64.wrap N = N := by rw [IntKind.wrap_i64]; omega
  rw [hN] at CH2
  clear hsS hS hT hTb hu hback one8 ee hL1 CA1 CA2 CA3 CA4 CA5 CA6 CM1 CM2 CM3 CM4 CM5 CM6 CM7 CM8 CV1 CV2 CV3 HS CP hk
  go_wp2_with (with_reducible refine G.any_mark _ ?_; (try generalize Array.size (World.heap (G.w _)) = bk); (try dsimp only [List.set_cons_zero, List.set_cons_succ]); (try clear g); intro g)
  refine (CH1.out _ _ _ (G.sl g (by simp) hsa)).mono ?_
  rintro e w1 ⟨As, cs, Fs, rfl, hss, hn⟩
  have hnns := fun k o hk => Nat.le_trans g.chg.size (hn.new k o hk)
  obtain ⟨g1, rfl⟩ := G.new_ex _ hn
  clear hn
  (try clear g)
  revert g1
  intro g
  go_wp2_with (with_reducible refine G.any_mark _ ?_; (try generalize Array.size (World.heap (G.w _)) = bk); (try dsimp only [List.set_cons_zero, List.set_cons_succ]); (try clear g); intro g)
  refine (CH2.out _ _ _ (G.sl g (by simp) hss)).mono ?_
  rintro e w1 ⟨At, ct, Ft, rfl, hst, hn⟩
  have hnnt := fun k o hk => Nat.le_trans g.chg.size (hn.new k o hk)
  obtain ⟨g1, rfl⟩ := G.new_ex _ hn
  clear hn
  (try clear g)
  revert g1
  intro g
  go_wp2_with (with_reducible refine G.any_mark _ ?_; (try generalize Array.size (World.heap (G.w _)) = bk); (try dsimp only [List.set_cons_zero, List.set_cons_succ]); (try clear g); intro g)
  refine (CH3.out _ _ _ (G.lit0 g _ _ n1'.out.2 n1'.out.1 (by decide))).mono ?_
  rintro e w1 ⟨Au, cu, Fu, rfl, hsu, hn⟩
  have hnnu := fun k o hk => Nat.le_trans g.chg.size (hn.new k o hk)
  obtain ⟨g1, rfl⟩ := G.new_ex _ hn
  clear hn
  (try clear g)
  revert g1
  intro g
  go_wp2_with (with_reducible refine G.any_mark _ ?_; (try generalize Array.size (World.heap (G.w _)) = bk); (try dsimp only [List.set_cons_zero, List.set_cons_succ]); (try clear g); intro g)
  refine (CM9.out _ _ _ _ _ (G.sl g (by simp) hsa) (G.sl g (by simp) hsu)).mono ?_
  rintro e w1 ⟨Av, cv, Fv, rfl, hsv, hn⟩
  have hnnv := fun k o hk => Nat.le_trans g.chg.size (hn.new k o hk)
  obtain ⟨g1, rfl⟩ := G.new_ex _ hn
  clear hn
  (try clear g)
  revert g1
  intro g
  go_wp2_with (with_reducible refine G.any_mark _ ?_; (try generalize Array.size (World.heap (G.w _)) = bk); (try dsimp only [List.set_cons_zero, List.set_cons_succ]); (try clear g); intro g)
  refine (CS.out _ _ _ _ _ _ (G.sl g (by simp) hss) (G.sl g (by simp) hsv)).mono ?_
  rintro e w1 ⟨rfl, hb⟩
  obtain ⟨g1, rfl⟩ := G.call_ex _ hb
  clear hb
  (try clear g)
  revert g1
  intro g
  go_wp2_with (with_reducible refine G.any_mark _ ?_; (try generalize Array.size (World.heap (G.w _)) = bk); (try dsimp only [List.set_cons_zero, List.set_cons_succ]); (try clear g); intro g)
  refine (CS.out _ _ _ _ _ _ (G.sl g (by simp) hst) (G.sl g (by simp) hsa)).mono ?_
  rintro e w1 ⟨rfl, hb⟩
  obtain ⟨g1, rfl⟩ := G.call_ex _ hb
  clear hb
  (try clear g)
  revert g1
  intro g
  go_wp2_with (with_reducible refine G.any_mark _ ?_; (try generalize Array.size (World.heap (G.w _)) = bk); (try dsimp only [List.set_cons_zero, List.set_cons_succ]); (try clear g); intro g)
  go_ret
  exact ⟨rfl, g.below⟩
end Go.Proofs.Ytfifcpgjcgoinaa

set_option exponentiation.threshold 10000
namespace Go.Proofs.Ytfifcpgjcgoinaa
open Go.RowKit GW NL
theorem Root_err (A : Option Addr) (c : Nat) (l : List Nat) (w : World) (h : SlW w A c l) (hx : chk l ≠ 0) :
    Calls Try.prog 31 #[.slice A l.length c] w (RNE (0, chk l) w) := by
  refine calls_b fun g => ?_
  have C1 := Lib.hid (fun w h => check_any A c l w h)
  have hx' : (chk l == 0) = false := by simpa using hx
  clear hx
  generalize chk l = r at *
  generalize l.length = k at *
  go_enter Try.func31, Try.ntmps31
  go_wp2_with (with_reducible refine G.any_mark _ ?_; (try generalize Array.size (World.heap (G.w _)) = bk); (try dsimp only [List.set_cons_zero, List.set_cons_succ]); (try clear g); intro g)
  refine (C1.out _ (G.sl g (by simp) h)).mono ?_
  rintro e w1 ⟨rfl, hb⟩
  obtain ⟨g1, rfl⟩ := G.call_ex _ hb
  clear hb
  (try clear g)
  revert g1
  intro g
  go_wp2_with (with_reducible refine G.any_mark _ ?_; (try generalize Array.size (World.heap (G.w _)) = bk); (try dsimp only [List.set_cons_zero, List.set_cons_succ]); (try clear g); intro g)
  go_ret2
  exact rne_err g r
theorem Root_zero (A : Option Addr) (c : Nat) (w : World) (h : SlW w A c []) :
    Calls Try.prog 31 #[.slice A 0 c] w (RNE (0, 0) w) := by
  refine calls_b fun g => ?_
  have C1 := Lib.hid (fun w h => check_any A c [] w h)
  have hck : chk [] = 0 := by decide
  rw [hck, List.length_nil] at C1
  go_enter Try.func31, Try.ntmps31
  go_wp2_with (with_reducible refine G.any_mark _ ?_; (try generalize Array.size (World.heap (G.w _)) = bk); (try dsimp only [List.set_cons_zero, List.set_cons_succ]); (try clear g); intro g)
  refine (C1.out _ (G.sl g (by simp) h)).mono ?_
  rintro e w1 ⟨rfl, hb⟩
  obtain ⟨g1, rfl⟩ := G.call_ex _ hb
  clear hb
  (try clear g)
  revert g1
  intro g
  go_wp2_with (with_reducible refine G.any_mark _ ?_; (try generalize Array.size (World.heap (G.w _)) = bk); (try dsimp only [List.set_cons_zero, List.set_cons_succ]); (try clear g); intro g)
  go_ret2
  exact rne_err g 0
set_option maxRecDepth 20000 in
theorem Root_pos (A : Option Addr) (c v : Nat) (w : World) (h : SlW w A c (limbs v)) (hv : v < 2 ^ 8192) (h0 : v ≠ 0) :
    Calls Try.prog 31 #[.slice A (limbs v).length c] w (RNE (rt v, 0) w) := by
  refine calls_b fun g => ?_
  have hl : (limbs v).length ≤ 256 := (limbs_len v 256).2 (by rw [pow32]; exact hv)
  have C1 := Lib.hid (fun w h => check_any A c (limbs v) w h)
  rw [chk_limbs hv] at C1
  have C2 := Lib.hid (fun w h => length_any A c v w h (by omega))
  have hnb : nb v ≤ 8192 := (nb_le v 8192).2 hv
  obtain ⟨s, hs⟩ : ∃ s, (nb v + 1) / 2 = s := ⟨_, rfl⟩
  have hsi : Int.tdiv ((nb v : Nat) + 1 : Int) 2 = (s : Int) := by rw [Int.tdiv_eq_ediv_of_nonneg (by omega)]; omega
  have hs9 : s ≤ 5000 := by omega
  have HST := Lib.hid (root_start v)
  rw [hs] at HST
  have ee : limbs 1 = [1] := lim1 (by decide) (by decide)
  have hL1 : (limbs 1).length = 1 := by rw [ee]; rfl
  have CSH : Hid (∀ (A : Option Addr) w, SlW w A 1 (limbs 1) → Calls Try.prog 66 #[.slice A 1 1, .int .i64 (s : Int)] w (RNat (2 ^ s) w)) := Lib.hid (fun A w h => by
    have := shift_up A 1 (limbs 1) s w h (by omega) (by omega)
    rwa [val_limbs, Nat.one_mul, hL1] at this)
  have n1' : Hid ((limbs 1).length = 1 ∧ [Value.int .u32 1] = u32s (limbs 1)) := Lib.hid ⟨hL1, by rw [ee]; rfl⟩
  have hne : (((limbs v).length : Int) == 0) = false := by
    have := len_ne h0
    rw [beq_eq_false_iff_ne]; omega
  have HX0 : Hid (2 ^ s < 2 ^ 8192) := Lib.hid (Nat.pow_lt_pow_right (by decide) (by omega))
  have HP0 : Hid (0 < 2 ^ s) := Lib.hid (Nat.two_pow_pos s)
  have H0 := Lib.hid h0
  have HV := Lib.hid hv
  generalize nb v = b at *
  clear hv h0 hs ee hL1
  generalize 2 ^ s = X at *
  go_enter Try.func31, Try.ntmps31
  go_wp2_with (with_reducible refine G.any_mark _ ?_; (try generalize Array.size (World.heap (G.w _)) = bk); (try dsimp only [List.set_cons_zero, List.set_cons_succ]); (try clear g); intro g)
  refine (C1.out _ (G.sl g (by simp) h)).mono ?_
  rintro e w1 ⟨rfl, hb⟩
  obtain ⟨g1, rfl⟩ := G.call_ex _ hb
  clear hb
  (try clear g)
  revert g1
  intro g
  go_wp2_with (with_reducible refine G.any_mark _ ?_; (try generalize Array.size (World.heap (G.w _)) = bk); (try dsimp only [List.set_cons_zero, List.set_cons_succ]); (try clear g); intro g)
  refine (C2.out _ (G.sl g (by simp) h)).mono ?_
  rintro e w1 ⟨rfl, hb⟩
  obtain ⟨g1, rfl⟩ := G.call_ex _ hb
  clear hb
  (try clear g)
  revert g1
  intro g
  go_wp2_with (with_reducible refine G.any_mark _ ?_; (try generalize Array.size (World.heap (G.w _)) = bk); (try dsimp only [List.set_cons_zero, List.set_cons_succ]); (try clear g); intro g)
  refine (CSH.out _ _ (G.lit0 g _ _ n1'.out.2 n1'.out.1 (by decide))).mono ?_
  rintro e w1 ⟨Ax, cx, Fx, rfl, hsx, hn⟩
  have hnnx := fun k o hk => Nat.le_trans g.chg.size (hn.new k o hk)
  obtain ⟨g1, rfl⟩ := G.new_ex _ hn
  clear hn
  (try clear g)
  revert g1
  intro g
  obtain ⟨g2, hg2⟩ := G.less g (M' := []) (List.nil_sublist _)
  rw [hg2]
  clear hg2
  (try clear g)
  revert g2
  intro g
  go_wp2_with fail
  go_loopg [5] X (fun gk s5 wr => ∃ (A5 : Option Addr) (c5 : Nat) (F5 : Frag), s5 = .slice A5 (limbs gk).length c5 ∧ F5.Sl A5 c5 (limbs gk) ∧ Hid (∀ k o, F5 k = some o → w.heap.size ≤ k) ∧ Hid (v < (gk + 1) * (gk + 1) ∧ 0 < gk ∧ gk < 2 ^ 8192) ∧ ∃ g : G w [] [] [F5, heapOf w], wr = g.w)
  case atStart => exact ⟨Ax, cx, Fx, rfl, hsx, hnnx, ⟨HST.out, HP0.out, HX0.out⟩, g, rfl⟩
  case round =>
    clear g hnnx hsx HST HP0 HX0 C1 C2 CSH
    obtain ⟨A5, c5, F5, rfl, hs5, HN5, HI, g, rfl⟩ := hrel
    have CD := Lib.hid (fun w h1 h2 => divide_any A A5 c c5 v gk w h1 h2 (by omega) (by have := HI.out.2.1; omega))
    have hlg : (limbs gk).length ≤ 256 := (limbs_len gk 256).2 (by rw [pow32]; exact HI.out.2.2)
    have hlq : (limbs (v / gk)).length ≤ 256 := (limbs_len _ 256).2 (by rw [pow32]; exact Nat.lt_of_le_of_lt (Nat.div_le_self _ _) HV.out)
    have CA := Lib.hid (fun A1 A2 c1 c2 w h1 h2 => add_any A1 A2 c1 c2 (limbs gk) (limbs (v / gk)) w h1 h2 (by omega) (by omega))
    rw [val_limbs, val_limbs] at CA
    have hls : (limbs (gk + v / gk)).length ≤ 257 := (limbs_len _ 257).2 (by
      have h1 := (limbs_len gk _).1 hlg
      have h2 := (limbs_len (v / gk) _).1 hlq
      have : 4294967296 ^ 257 = 4294967296 ^ 256 * 4294967296 := Nat.pow_succ ..
      rw [this]
      generalize 4294967296 ^ 256 = P at *
      omega)
    have CS1 := Lib.hid (fun A1 c1 w h1 => shift_down A1 c1 (limbs (gk + v / gk)) 1 (-1) w h1 (by omega) rfl (by decide) (by decide))
    rw [val_limbs, Nat.pow_one] at CS1
    have HNW := Lib.hid (newton_ge v gk HI.out.2.1)
    have HNE := Lib.hid (fun h => newton_end (v := v) HI.out.2.1 HI.out.1 h)
    have HNP := Lib.hid (newton_pos HI.out.2.1 (Nat.pos_of_ne_zero H0.out))
    generalize v / gk = q at *
    obtain ⟨t, ht⟩ : ∃ t, gk + q = t := ⟨_, rfl⟩
    rw [ht] at CA CS1 HNW HNE HNP hls
    obtain ⟨x, hx⟩ : ∃ x, t / 2 = x := ⟨_, rfl⟩
    rw [hx] at CS1 HNW HNE HNP
    have hxl : (limbs x).length ≤ 257 := Nat.le_trans (limbs_len_mono (by omega)) hls
    have CC := Lib.hid (fun A1 A2 c1 c2 w h1 h2 => compare_any A1 A2 c1 c2 x gk w h1 h2 (by omega))
    have ho : ord x gk < 0 ↔ x < gk := by unfold ord; split <;> (try split) <;> omega
    obtain ⟨r, hr⟩ : ∃ r, v % gk = r := ⟨_, rfl⟩
    rw [hr] at CD
    generalize ord x gk = C at *
    clear ht hx hr hls hxl hlq
    go_wp2_with (with_reducible refine G.any_mark _ ?_; (try generalize Array.size (World.heap (G.w _)) = bk); (try dsimp only [List.set_cons_zero, List.set_cons_succ]); (try clear g); intro g)
    refine (CD.out _ (G.sl g (by simp) h) (G.sl g (by simp) hs5)).mono ?_
    rintro e w1 ⟨Aq, cq, Fq, Ar, cr, Fr, rfl, hsq, hsr, hn1, hn2⟩
    obtain ⟨g1, rfl⟩ := G.new2_ex _ hn1 hn2
    clear hn1 hn2 g
    revert g1
    intro g
    go_wp2_with (with_reducible refine G.any_mark _ ?_; (try generalize Array.size (World.heap (G.w _)) = bk); (try dsimp only [List.set_cons_zero, List.set_cons_succ]); (try clear g); intro g)
    refine (CA.out _ _ _ _ _ (G.sl g (by simp) hs5) (G.sl g (by simp) hsq)).mono ?_
    rintro e w1 ⟨At, ct, Ft, rfl, hst, hn⟩
    have hnnt := fun k o hk => Nat.le_trans g.chg.size (hn.new k o hk)
    obtain ⟨g1, rfl⟩ := G.new_ex _ hn
    clear hn
    (try clear g)
    revert g1
    intro g
    go_wp2_with (with_reducible refine G.any_mark _ ?_; (try generalize Array.size (World.heap (G.w _)) = bk); (try dsimp only [List.set_cons_zero, List.set_cons_succ]); (try clear g); intro g)
    refine (CS1.out _ _ _ (G.sl g (by simp) hst)).mono ?_
    rintro e w1 ⟨Ax, cx, Fx, rfl, hsx, hn⟩
    have hnnx := fun k o hk => Nat.le_trans g.chg.size (hn.new k o hk)
    obtain ⟨g1, rfl⟩ := G.new_ex _ hn
    clear hn
    (try clear g)
    revert g1
    intro g
    go_wp2_with (with_reducible refine G.any_mark _ ?_; (try generalize Array.size (World.heap (G.w _)) = bk); (try dsimp only [List.set_cons_zero, List.set_cons_succ]); (try clear g); intro g)
    refine (CC.out _ _ _ _ _ (G.sl g (by simp) hsx) (G.sl g (by simp) hs5)).mono ?_
    rintro e w1 ⟨rfl, hb⟩
    obtain ⟨g1, rfl⟩ := G.call_ex _ hb
    clear hb
    (try clear g)
    revert g1
    intro g
    by_cases hlt : x < gk
    · have hC : C < 0 := ho.2 hlt
      have HLT := Lib.hid hlt
      clear ho hlt
      go_wp2_with (with_reducible refine G.any_mark _ ?_; (try generalize Array.size (World.heap (G.w _)) = bk); (try dsimp only [List.set_cons_zero, List.set_cons_succ]); (try clear g); intro g)
      obtain ⟨g3, hg3⟩ := g.lessI (I' := [Fx, heapOf w]) (by simp)
      go_roundg x
      case measure => exact HLT.out
      case rel => exact ⟨Ax, cx, Fx, rfl, hsx, hnnx, ⟨HNW.out, HNP.out, Nat.lt_trans HLT.out HI.out.2.2⟩, g3, hg3⟩
    · have hC : 0 ≤ C := by have h3 := fun h => hlt (ho.1 h); omega
      have hrt : rt v = gk := rt_eq (HNE.out (by omega))
      have HR := Lib.hid hrt
      clear ho hlt hrt
      go_wp2_with (with_reducible refine G.any_mark _ ?_; (try generalize Array.size (World.heap (G.w _)) = bk); (try dsimp only [List.set_cons_zero, List.set_cons_succ]); (try clear g); intro g)
      go_ret2
      rw [HR.out]
      exact rne_pass g hs5 (by simp) HN5.out 0
end Go.Proofs.Ytfifcpgjcgoinaa

set_option exponentiation.threshold 10000
namespace Go.Proofs.Ytfifcpgjcgoinaa
open Go.RowKit GW NL
theorem calls_mark {P : Program} {f : FuncId} {args : Array Value} {R : Ending → World → Prop} {w0 : World} {X : List Nat} {M : List Blk} {I : List Frag} (g : G w0 X M I) (h : ∀ g' : G w0 X M I, Calls P f args g'.w R) : Calls P f args g.mark.w R := h _
theorem foldl_push_bytes : ∀ (l : List Nat) (r : ByteArray), (l.map fun x : Nat => (x : Int)).foldl (fun r n => r.push (UInt8.ofNat n.toNat)) r = ⟨r.data ++ (l.map UInt8.ofNat).toArray⟩
  | [], r => by simp
  | b :: l, r => by
    simp only [List.map_cons, List.foldl_cons]
    rw [foldl_push_bytes l]
    simp [ByteArray.push]
theorem bl_bstr {l : List Nat} (h : ∀ x ∈ l, x < 256) : bl (bstr l) = l := by
  unfold bl bstr
  rw [foldl_push_bytes]
  show (ByteArray.empty.data ++ (l.map UInt8.ofNat).toArray).toList.map UInt8.toNat = l
  have e : (ByteArray.empty.data ++ (l.map UInt8.ofNat).toArray).toList = l.map UInt8.ofNat := by
    show ((#[] : Array UInt8) ++ (l.map UInt8.ofNat).toArray).toList = _
    simp
  rw [e, List.map_map]
  have : ∀ x ∈ l, (UInt8.toNat ∘ UInt8.ofNat) x = x := by
    intro x hx
    have := h x hx
    simp [Nat.mod_eq_of_lt this]
  rw [List.map_congr_left this, List.map_id']
theorem dec_dig (v : Nat) : ∀ x ∈ dec v, 48 ≤ x ∧ x ≤ 57 := by
  intro x hx
  unfold dec at hx
  split at hx
  · rw [List.mem_singleton.1 hx]; decide
  · rw [List.mem_reverse] at hx
    obtain ⟨y, hy, rfl⟩ := List.mem_map.1 hx
    have := digs_lt v y hy
    omega
theorem dv_dec (v : Nat) : dv (dec v) (dec v).length = v := by
  unfold dv dec
  rw [List.take_length]
  split
  · next h => subst h; rfl
  · rw [List.map_reverse, List.map_map]
    have : ∀ x ∈ digs v, ((fun x => x - 48) ∘ fun x => 48 + x) x = x := by intro x _; simp
    rw [List.map_congr_left this, List.map_id']
    exact dval_digs v
theorem dec_head (v : Nat) (h : 1 < (dec v).length) : (dec v).getD 0 0 ≠ 48 := by
  unfold dec at *
  split
  · next h0 => rw [if_pos h0] at h; simp at h
  · next h0 =>
    rw [if_neg h0, List.length_reverse, List.length_map] at h
    obtain ⟨k, hk⟩ : ∃ k, (digs v).length = k + 1 := ⟨(digs v).length - 1, by omega⟩
    have hl := digs_last v k hk
    have hk2 : k < (digs v).length := by omega
    rw [List.getD_eq_getElem?_getD, List.getElem?_eq_getElem hk2] at hl
    rw [List.getD_eq_getElem?_getD, List.getElem?_reverse (by rw [List.length_map]; omega), List.getElem?_map, List.length_map, hk, show k + 1 - 1 - 0 = k by omega, List.getElem?_eq_getElem hk2]
    simp at hl ⊢
    omega
theorem Parse_dec (v : Nat) (hv : v < 2 ^ 8192) (w : World) : Calls Try.prog 23 #[.string (bstr (dec v))] w (RNF v 0 0 w) := by
  have hb : bl (bstr (dec v)) = dec v := bl_bstr fun x hx => by have := dec_dig v x hx; omega
  have hs : (bstr (dec v)).size = (dec v).length := by rw [← bl_len, hb]
  have hle : (dec v).length ≤ 2467 := by
    unfold dec
    split
    · simp
    · rw [List.length_reverse, List.length_map]
      exact digs_len v 2467 (Nat.lt_of_lt_of_le hv (Nat.le_of_ble_eq_true rfl))
  have hne : (dec v).length ≠ 0 := by
    unfold dec
    split
    · simp
    · next h0 => rw [List.length_reverse, List.length_map, digs_pos h0]; simp
  have := Parse_digits (bstr (dec v)) w (by rw [hs]; exact hle) (by rw [hs]; exact hne) (fun j hj => by
      rw [hb]
      rw [hs] at hj
      have := dec_dig v ((dec v).getD j 0) (by rw [List.getD_eq_getElem?_getD, List.getElem?_eq_getElem hj]; exact List.getElem_mem hj)
      unfold NoDig
      omega) (by rw [hs, hb]; exact fun h => dec_head v h.1 h.2)
  rw [hb, hs, dv_dec] at this
  exact this.mono fun e w' h => h.1 hv
theorem Root_rv (v r : Nat) (hr : rt v = r) (hv : v < 2 ^ 8192) (A : Option Addr) (c : Nat) (w : World) (h : SlW w A c (limbs v)) :
    Calls Try.prog 31 #[.slice A (limbs v).length c] w (RV r w) := by
  subst hr
  by_cases h0 : v = 0
  · subst h0
    rw [limbs_zero] at h ⊢
    have e : rt 0 = 0 := rt_eq ⟨by decide, by decide⟩
    rw [e]
    exact Root_zero A c w h
  · exact Root_pos A c v w h hv h0
theorem Text_rv (v : Nat) (hv : v < 2 ^ 8192) (A : Option Addr) (c : Nat) (w : World) (h : SlW w A c (limbs v)) :
    Calls Try.prog 21 #[.slice A (limbs v).length c] w fun e w' => e = .returned (.tuple #[.string (bstr (dec v)), .int .i64 0]) ∧ Below w.heap.size w w' := Text_ok A c v w h hv
theorem div_top {v : Nat} (h : v ≠ 0) : v / 2 ^ (nb v - 1) = 1 := by
  have h1 := nb_ge h
  have h2 := nb_lt v
  have h3 := nb_pos h
  have e : 2 ^ nb v = 2 * 2 ^ (nb v - 1) := by
    rw [← Nat.pow_succ']; congr 1; omega
  rw [e] at h2
  have := Nat.two_pow_pos (nb v - 1)
  exact Nat.div_eq_of_lt_le (by omega) (by omega)
set_option maxRecDepth 100000 in
set_option maxHeartbeats 1000000 in
theorem back_walk (A1 : Option Addr) (c1 : Nat) (l1 : List Nat) (w : World) (h1 : SlW w A1 c1 l1) (hl1 : l1.length ≤ 35184372088832) :
    Calls Try.prog 9 #[.slice A1 l1.length c1] w fun e w' => e = .returned (.bool true) ∧ Below w.heap.size w w' := by
  refine calls_b fun g => ?_
  have CV1 := Lib.hid (fun w h => valid_any A1 c1 l1 30 w h hl1 (by omega))
  have b1 := cut_lt h1.ok 30
  generalize cut l1 30 = v at *
  have CL := Lib.hid lives_any
  have hv := pow_lt' b1 (by decide)
  have CT := Lib.hid (Text_rv v hv)
  have CP := Lib.hid (Parse_dec v hv)
  have CB := Lib.hid (fun A c w h => Bits_ok A c v w h hv)
  obtain ⟨n, hn⟩ : ∃ n, nb v = n := ⟨_, rfl⟩
  obtain ⟨m, hm⟩ : ∃ m, nb v - 1 = m := ⟨_, rfl⟩
  have hn8 : n ≤ 8192 := by rw [← hn]; exact (nb_le v 8192).2 hv
  have hz0 : v / 2 ^ n = 0 := by rw [← hn]; exact Nat.div_eq_of_lt (nb_lt v)
  obtain ⟨hi, hhi⟩ : ∃ x, v / 2 ^ m = x := ⟨_, rfl⟩
  have hh1 : v ≠ 0 → hi = 1 := fun h => by rw [← hhi, ← hm]; exact div_top h
  have CS1 := Lib.hid (ShiftDown_rv v m hi hhi hv (by omega))
  have CS2 := Lib.hid (ShiftDown_rv v n 0 hz0 hv (by omega))
  rw [hn] at CB
  have hmax : max (0 : Int) ((n : Int) - 1) = (m : Int) := by omega
  have hw1 : IntKind.i64.wrap ((n : Int) - 1) = (n : Int) - 1 := by rw [IntKind.wrap_i64]; omega
  obtain ⟨N1, hN1⟩ : ∃ N, -(m : Int) = N := ⟨_, rfl⟩
  obtain ⟨N2, hN2⟩ : ∃ N, -(n : Int) = N := ⟨_, rfl⟩
  have hw2 : IntKind.i64.wrap N1 = N1 := by rw [IntKind.wrap_i64]; omega
  have hw3 : IntKind.i64.wrap N2 = N2 := by rw [IntKind.wrap_i64]; omega
  rw [hN1] at CS1
  rw [hN2] at CS2
  obtain ⟨r, hr⟩ : ∃ r, rt v = r := ⟨_, rfl⟩
  have hi1 := rt_is v
  rw [hr] at hi1
  obtain ⟨q, hq⟩ : ∃ q, r * r = q := ⟨_, rfl⟩
  obtain ⟨mo, hmo⟩ : ∃ x, r + 1 = x := ⟨_, rfl⟩
  obtain ⟨p, hp⟩ : ∃ x, mo * mo = x := ⟨_, rfl⟩
  have i1 : q ≤ v := by rw [← hq]; exact hi1.1
  have i2 : v < p := by rw [← hp, ← hmo]; exact hi1.2
  have hrv : r ≤ v := by
    rcases Nat.eq_zero_or_pos r with h | h
    · omega
    · have := Nat.le_mul_of_pos_left r h; omega
  have br : r < 2 ^ 8192 := Nat.lt_of_le_of_lt hrv hv
  have bm' : mo < 2 ^ 961 := by
    rw [← hmo]
    have h961 : (2 : Nat) ^ 961 = 2 ^ 960 * 2 := Nat.pow_succ ..
    have h960 : v < 2 ^ 960 := b1
    have := Nat.two_pow_pos 960
    omega
  have bp : p < 2 ^ 8192 := by rw [← hp]; exact pow_lt' (mul_lt' bm' bm') (by decide)
  have bm := pow_lt' bm' (by decide)
  have bq : q < 2 ^ 8192 := Nat.lt_of_le_of_lt i1 hv
  have hrp : rt p = mo := rt_eq ⟨by rw [hp]; exact Nat.le_refl _, by rw [← hp]; exact Nat.mul_lt_mul_of_lt_of_lt (Nat.lt_succ_self _) (Nat.lt_succ_self _)⟩
  have one8 : 1 < 2 ^ 8192 := small_lt (by decide)
  have CR1 := Lib.hid (Root_rv v r hr hv)
  have CM1 := Lib.hid (Mul_rv r r q hq br br bq)
  have CA1 := Lib.hid (Add_rv r 1 mo hmo br one8 bm)
  have CM2 := Lib.hid (Mul_rv mo mo p hp bm bm bp)
  have CC1 := Lib.hid (Cmp_ok q v bq hv)
  have CC2 := Lib.hid (Cmp_ok p v bp hv)
  have CR2 := Lib.hid (Root_rv p mo hrp bp)
  obtain ⟨o1, ho1⟩ : ∃ x, ord q v = x := ⟨_, rfl⟩
  have ho1' : o1 ≤ 0 := by rw [← ho1]; unfold ord; split <;> (try split) <;> omega
  have ho2 : ord p v = 1 := by unfold ord; rw [if_neg (by omega), if_pos i2]
  rw [ho1] at CC1
  rw [ho2] at CC2
  have CS := Lib.hid (fun v => same_rv v)
  have ee : limbs 1 = [1] := lim1 (by decide) (by decide)
  have hL1 : (limbs 1).length = 1 := by rw [ee]; rfl
  have n1' : Hid ((limbs 1).length = 1 ∧ [Value.int .u32 1] = u32s (limbs 1)) := Lib.hid ⟨hL1, by rw [ee]; rfl⟩
  have hz : (limbs 0).length = 0 := by rw [limbs_zero]; rfl
  rw [hL1] at CA1
  have hlv : v ≠ 0 → 0 < (limbs v).length := len_ne
  have CS3 : Hid (∀ (A1 A2 : Option Addr) (c1 c2 : Nat) (w : World), SlW w A1 c1 (limbs 1) → SlW w A2 c2 (limbs 1) → Calls Try.prog 15 #[.slice A1 1 c1, .slice A2 1 c2] w fun e w' => e = .returned (.bool true) ∧ Below w.heap.size w w') := Lib.hid (fun A1 A2 c1 c2 w h1 h2 => by
    have := same_rv 1 A1 A2 c1 c2 w h1 h2
    rwa [hL1] at this)
  generalize hs : bstr (dec v) = s at *
  clear hs b1 hv hn hm hn8 hz0 hhi hr hi1 hq hmo hp i1 i2 hrv br bm' bp bm bq hrp one8 ho1 ho2 ee hl1
  generalize hn1 : l1.length = n1 at *
  clear hn1
  by_cases h0 : v = 0
  · subst h0
    clear hh1 hlv
    have CSz := Lib.hid (same_rv 0)
    rw [hz] at CSz CT CB CS1 CS2 CC1 CC2 CR1
    go_enter Try.func9, Try.ntmps9
    go_wp2_with (with_reducible refine G.any_mark _ ?_; (try generalize Array.size (World.heap (G.w _)) = bk); (try dsimp only [List.set_cons_zero, List.set_cons_succ]); (try clear g); intro g)
    refine (CL.out _).mono ?_
    rintro e w1 ⟨rfl, hb⟩
    obtain ⟨g1, rfl⟩ := G.call_ex _ hb
    clear hb
    (try clear g)
    revert g1
    intro g
    go_wp2_with (with_reducible refine G.any_mark _ ?_; (try generalize Array.size (World.heap (G.w _)) = bk); (try dsimp only [List.set_cons_zero, List.set_cons_succ]); (try clear g); intro g)
    refine (CV1.out _ (G.sl g (by simp) h1)).mono ?_
    rintro e w1 ⟨Aa, ca, Fa, rfl, hsa, hn⟩
    have hnna := fun k o hk => Nat.le_trans g.chg.size (hn.new k o hk)
    obtain ⟨g1, rfl⟩ := G.new_ex _ hn
    clear hn
    (try clear g)
    revert g1
    intro g
    go_wp2_with (with_reducible refine G.any_mark _ ?_; (try generalize Array.size (World.heap (G.w _)) = bk); (try dsimp only [List.set_cons_zero, List.set_cons_succ]); (try clear g); intro g)
    refine (CT.out _ _ _ (G.sl g (by simp) hsa)).mono ?_
    rintro e w1 ⟨rfl, hb⟩
    obtain ⟨g1, rfl⟩ := G.call_ex _ hb
    clear hb
    (try clear g)
    revert g1
    intro g
    go_wp2_with (with_reducible refine G.any_mark _ ?_; (try generalize Array.size (World.heap (G.w _)) = bk); (try dsimp only [List.set_cons_zero, List.set_cons_succ]); (try clear g); intro g)
    refine (CP.out _).mono ?_
    rintro e w1 ⟨Ab, cb, Fb, rfl, hsb, hn⟩
    have hnnb := fun k o hk => Nat.le_trans g.chg.size (hn.new k o hk)
    obtain ⟨g1, rfl⟩ := G.new_ex _ hn
    clear hn
    (try clear g)
    revert g1
    intro g
    go_wp2_with (with_reducible refine G.any_mark _ ?_; (try generalize Array.size (World.heap (G.w _)) = bk); (try dsimp only [List.set_cons_zero, List.set_cons_succ]); (try clear g); intro g)
    refine calls_mark _ ?_
    clear g
    intro g
    refine (CB.out _ _ _ (G.sl g (by simp) hsa)).mono ?_
    rintro e w1 ⟨rfl, hb⟩
    obtain ⟨g1, rfl⟩ := G.call_ex _ hb
    clear hb
    (try clear g)
    revert g1
    intro g
    go_wp2_with (with_reducible refine G.any_mark _ ?_; (try generalize Array.size (World.heap (G.w _)) = bk); (try dsimp only [List.set_cons_zero, List.set_cons_succ]); (try clear g); intro g)
    refine (CS1.out _ _ _ (G.sl g (by simp) hsa)).mono ?_
    rintro e w1 ⟨Ac, cc, Fc, rfl, hsc, hn⟩
    have hnnc := fun k o hk => Nat.le_trans g.chg.size (hn.new k o hk)
    obtain ⟨g1, rfl⟩ := G.new_ex _ hn
    clear hn
    (try clear g)
    revert g1
    intro g
    go_wp2_with (with_reducible refine G.any_mark _ ?_; (try generalize Array.size (World.heap (G.w _)) = bk); (try dsimp only [List.set_cons_zero, List.set_cons_succ]); (try clear g); intro g)
    refine (CS2.out _ _ _ (G.sl g (by simp) hsa)).mono ?_
    rintro e w1 ⟨Ad, cd, Fd, rfl, hsd, hn⟩
    have hnnd := fun k o hk => Nat.le_trans g.chg.size (hn.new k o hk)
    obtain ⟨g1, rfl⟩ := G.new_ex _ hn
    clear hn
    (try clear g)
    revert g1
    intro g
    go_wp2_with (with_reducible refine G.any_mark _ ?_; (try generalize Array.size (World.heap (G.w _)) = bk); (try dsimp only [List.set_cons_zero, List.set_cons_succ]); (try clear g); intro g)
    refine (CSz.out _ _ _ _ _ (G.sl g (by simp) hsa) (G.sl g (by simp) hsb)).mono ?_
    rintro e w1 ⟨rfl, hb⟩
    obtain ⟨g1, rfl⟩ := G.call_ex _ hb
    clear hb
    (try clear g)
    revert g1
    intro g
    go_wp2_with (with_reducible refine G.any_mark _ ?_; (try generalize Array.size (World.heap (G.w _)) = bk); (try dsimp only [List.set_cons_zero, List.set_cons_succ]); (try clear g); intro g)
    refine (CR1.out _ _ _ (G.sl g (by simp) hsa)).mono ?_
    rintro e w1 ⟨Ae, ce, Fe, rfl, hse, hn⟩
    have hnne := fun k o hk => Nat.le_trans g.chg.size (hn.new k o hk)
    obtain ⟨g1, rfl⟩ := G.new_ex _ hn
    clear hn
    (try clear g)
    revert g1
    intro g
    go_wp2_with (with_reducible refine G.any_mark _ ?_; (try generalize Array.size (World.heap (G.w _)) = bk); (try dsimp only [List.set_cons_zero, List.set_cons_succ]); (try clear g); intro g)
    refine (CM1.out _ _ _ _ _ (G.sl g (by simp) hse) (G.sl g (by simp) hse)).mono ?_
    rintro e w1 ⟨Af, cf, Ff, rfl, hsf, hn⟩
    have hnnf := fun k o hk => Nat.le_trans g.chg.size (hn.new k o hk)
    obtain ⟨g1, rfl⟩ := G.new_ex _ hn
    clear hn
    (try clear g)
    revert g1
    intro g
    go_wp2_with (with_reducible refine G.any_mark _ ?_; (try generalize Array.size (World.heap (G.w _)) = bk); (try dsimp only [List.set_cons_zero, List.set_cons_succ]); (try clear g); intro g)
    refine (CA1.out _ _ _ _ _ (G.sl g (by simp) hse) (G.lit0 g _ _ n1'.out.2 n1'.out.1 (by decide))).mono ?_
    rintro e w1 ⟨Ah, ch, Fh, rfl, hsh, hn⟩
    have hnnh := fun k o hk => Nat.le_trans g.chg.size (hn.new k o hk)
    obtain ⟨g1, rfl⟩ := G.new_ex _ hn
    clear hn
    (try clear g)
    revert g1
    intro g
    obtain ⟨g2, hg2⟩ := G.less g (M' := []) (List.nil_sublist _)
    rw [hg2]
    clear hg2
    (try clear g)
    revert g2
    intro g
    go_wp2_with (with_reducible refine G.any_mark _ ?_; (try generalize Array.size (World.heap (G.w _)) = bk); (try dsimp only [List.set_cons_zero, List.set_cons_succ]); (try clear g); intro g)
    refine (CM2.out _ _ _ _ _ (G.sl g (by simp) hsh) (G.sl g (by simp) hsh)).mono ?_
    rintro e w1 ⟨Ai, ci, Fi, rfl, hsi, hn⟩
    have hnni := fun k o hk => Nat.le_trans g.chg.size (hn.new k o hk)
    obtain ⟨g1, rfl⟩ := G.new_ex _ hn
    clear hn
    (try clear g)
    revert g1
    intro g
    go_wp2_with (with_reducible refine G.any_mark _ ?_; (try generalize Array.size (World.heap (G.w _)) = bk); (try dsimp only [List.set_cons_zero, List.set_cons_succ]); (try clear g); intro g)
    refine (CC1.out _ _ _ _ _ (G.sl g (by simp) hsf) (G.sl g (by simp) hsa)).mono ?_
    rintro e w1 ⟨rfl, hb⟩
    obtain ⟨g1, rfl⟩ := G.call_ex _ hb
    clear hb
    (try clear g)
    revert g1
    intro g
    go_wp2_with (with_reducible refine G.any_mark _ ?_; (try generalize Array.size (World.heap (G.w _)) = bk); (try dsimp only [List.set_cons_zero, List.set_cons_succ]); (try clear g); intro g)
    refine (CC2.out _ _ _ _ _ (G.sl g (by simp) hsi) (G.sl g (by simp) hsa)).mono ?_
    rintro e w1 ⟨rfl, hb⟩
    obtain ⟨g1, rfl⟩ := G.call_ex _ hb
    clear hb
    (try clear g)
    revert g1
    intro g
    go_wp2_with (with_reducible refine G.any_mark _ ?_; (try generalize Array.size (World.heap (G.w _)) = bk); (try dsimp only [List.set_cons_zero, List.set_cons_succ]); (try clear g); intro g)
    refine (CR2.out _ _ _ (G.sl g (by simp) hsi)).mono ?_
    rintro e w1 ⟨Aj, cj, Fj, rfl, hsj, hn⟩
    have hnnj := fun k o hk => Nat.le_trans g.chg.size (hn.new k o hk)
    obtain ⟨g1, rfl⟩ := G.new_ex _ hn
    clear hn
    (try clear g)
    revert g1
    intro g
    go_wp2_with (with_reducible refine G.any_mark _ ?_; (try generalize Array.size (World.heap (G.w _)) = bk); (try dsimp only [List.set_cons_zero, List.set_cons_succ]); (try clear g); intro g)
    refine (CS.out _ _ _ _ _ _ (G.sl g (by simp) hsj) (G.sl g (by simp) hsh)).mono ?_
    rintro e w1 ⟨rfl, hb⟩
    obtain ⟨g1, rfl⟩ := G.call_ex _ hb
    clear hb
    (try clear g)
    revert g1
    intro g
    go_wp2_with (with_reducible refine G.any_mark _ ?_; (try generalize Array.size (World.heap (G.w _)) = bk); (try dsimp only [List.set_cons_zero, List.set_cons_succ]); (try clear g); intro g)
    go_ret
    exact ⟨rfl, g.below⟩
  · have hhi := hh1 h0
    subst hhi
    have hlv' := hlv h0
    have hlvi : (0 : Int) < ((limbs v).length : Int) := by omega
    clear hh1 hlv h0
    go_enter Try.func9, Try.ntmps9
    go_wp2_with (with_reducible refine G.any_mark _ ?_; (try generalize Array.size (World.heap (G.w _)) = bk); (try dsimp only [List.set_cons_zero, List.set_cons_succ]); (try clear g); intro g)
    refine (CL.out _).mono ?_
    rintro e w1 ⟨rfl, hb⟩
    obtain ⟨g1, rfl⟩ := G.call_ex _ hb
    clear hb
    (try clear g)
    revert g1
    intro g
    go_wp2_with (with_reducible refine G.any_mark _ ?_; (try generalize Array.size (World.heap (G.w _)) = bk); (try dsimp only [List.set_cons_zero, List.set_cons_succ]); (try clear g); intro g)
    refine (CV1.out _ (G.sl g (by simp) h1)).mono ?_
    rintro e w1 ⟨Aa, ca, Fa, rfl, hsa, hn⟩
    have hnna := fun k o hk => Nat.le_trans g.chg.size (hn.new k o hk)
    obtain ⟨g1, rfl⟩ := G.new_ex _ hn
    clear hn
    (try clear g)
    revert g1
    intro g
    go_wp2_with (with_reducible refine G.any_mark _ ?_; (try generalize Array.size (World.heap (G.w _)) = bk); (try dsimp only [List.set_cons_zero, List.set_cons_succ]); (try clear g); intro g)
    refine (CT.out _ _ _ (G.sl g (by simp) hsa)).mono ?_
    rintro e w1 ⟨rfl, hb⟩
    obtain ⟨g1, rfl⟩ := G.call_ex _ hb
    clear hb
    (try clear g)
    revert g1
    intro g
    go_wp2_with (with_reducible refine G.any_mark _ ?_; (try generalize Array.size (World.heap (G.w _)) = bk); (try dsimp only [List.set_cons_zero, List.set_cons_succ]); (try clear g); intro g)
    refine (CP.out _).mono ?_
    rintro e w1 ⟨Ab, cb, Fb, rfl, hsb, hn⟩
    have hnnb := fun k o hk => Nat.le_trans g.chg.size (hn.new k o hk)
    obtain ⟨g1, rfl⟩ := G.new_ex _ hn
    clear hn
    (try clear g)
    revert g1
    intro g
    go_wp2_with (with_reducible refine G.any_mark _ ?_; (try generalize Array.size (World.heap (G.w _)) = bk); (try dsimp only [List.set_cons_zero, List.set_cons_succ]); (try clear g); intro g)
    refine calls_mark _ ?_
    clear g
    intro g
    refine (CB.out _ _ _ (G.sl g (by simp) hsa)).mono ?_
    rintro e w1 ⟨rfl, hb⟩
    obtain ⟨g1, rfl⟩ := G.call_ex _ hb
    clear hb
    (try clear g)
    revert g1
    intro g
    go_wp2_with (with_reducible refine G.any_mark _ ?_; (try generalize Array.size (World.heap (G.w _)) = bk); (try dsimp only [List.set_cons_zero, List.set_cons_succ]); (try clear g); intro g)
    refine (CS1.out _ _ _ (G.sl g (by simp) hsa)).mono ?_
    rintro e w1 ⟨Ac, cc, Fc, rfl, hsc, hn⟩
    have hnnc := fun k o hk => Nat.le_trans g.chg.size (hn.new k o hk)
    obtain ⟨g1, rfl⟩ := G.new_ex _ hn
    clear hn
    (try clear g)
    revert g1
    intro g
    go_wp2_with (with_reducible refine G.any_mark _ ?_; (try generalize Array.size (World.heap (G.w _)) = bk); (try dsimp only [List.set_cons_zero, List.set_cons_succ]); (try clear g); intro g)
    refine (CS2.out _ _ _ (G.sl g (by simp) hsa)).mono ?_
    rintro e w1 ⟨Ad, cd, Fd, rfl, hsd, hn⟩
    have hnnd := fun k o hk => Nat.le_trans g.chg.size (hn.new k o hk)
    obtain ⟨g1, rfl⟩ := G.new_ex _ hn
    clear hn
    (try clear g)
    revert g1
    intro g
    go_wp2_with (with_reducible refine G.any_mark _ ?_; (try generalize Array.size (World.heap (G.w _)) = bk); (try dsimp only [List.set_cons_zero, List.set_cons_succ]); (try clear g); intro g)
    refine (CS.out _ _ _ _ _ _ (G.sl g (by simp) hsa) (G.sl g (by simp) hsb)).mono ?_
    rintro e w1 ⟨rfl, hb⟩
    obtain ⟨g1, rfl⟩ := G.call_ex _ hb
    clear hb
    (try clear g)
    revert g1
    intro g
    go_wp2_with (with_reducible refine G.any_mark _ ?_; (try generalize Array.size (World.heap (G.w _)) = bk); (try dsimp only [List.set_cons_zero, List.set_cons_succ]); (try clear g); intro g)
    refine (CS3.out _ _ _ _ _ (G.sl g (by simp) hsc) (G.lit0 g _ _ n1'.out.2 n1'.out.1 (by decide))).mono ?_
    rintro e w1 ⟨rfl, hb⟩
    obtain ⟨g1, rfl⟩ := G.call_ex _ hb
    clear hb
    (try clear g)
    revert g1
    intro g
    obtain ⟨g2, hg2⟩ := G.less g (M' := []) (List.nil_sublist _)
    rw [hg2]
    clear hg2
    (try clear g)
    revert g2
    intro g
    go_wp2_with (with_reducible refine G.any_mark _ ?_; (try generalize Array.size (World.heap (G.w _)) = bk); (try dsimp only [List.set_cons_zero, List.set_cons_succ]); (try clear g); intro g)
    refine (CR1.out _ _ _ (G.sl g (by simp) hsa)).mono ?_
    rintro e w1 ⟨Ae, ce, Fe, rfl, hse, hn⟩
    have hnne := fun k o hk => Nat.le_trans g.chg.size (hn.new k o hk)
    obtain ⟨g1, rfl⟩ := G.new_ex _ hn
    clear hn
    (try clear g)
    revert g1
    intro g
    go_wp2_with (with_reducible refine G.any_mark _ ?_; (try generalize Array.size (World.heap (G.w _)) = bk); (try dsimp only [List.set_cons_zero, List.set_cons_succ]); (try clear g); intro g)
    refine (CM1.out _ _ _ _ _ (G.sl g (by simp) hse) (G.sl g (by simp) hse)).mono ?_
    rintro e w1 ⟨Af, cf, Ff, rfl, hsf, hn⟩
    have hnnf := fun k o hk => Nat.le_trans g.chg.size (hn.new k o hk)
    obtain ⟨g1, rfl⟩ := G.new_ex _ hn
    clear hn
    (try clear g)
    revert g1
    intro g
    go_wp2_with (with_reducible refine G.any_mark _ ?_; (try generalize Array.size (World.heap (G.w _)) = bk); (try dsimp only [List.set_cons_zero, List.set_cons_succ]); (try clear g); intro g)
    refine (CA1.out _ _ _ _ _ (G.sl g (by simp) hse) (G.lit0 g _ _ n1'.out.2 n1'.out.1 (by decide))).mono ?_
    rintro e w1 ⟨Ah, ch, Fh, rfl, hsh, hn⟩
    have hnnh := fun k o hk => Nat.le_trans g.chg.size (hn.new k o hk)
    obtain ⟨g1, rfl⟩ := G.new_ex _ hn
    clear hn
    (try clear g)
    revert g1
    intro g
    obtain ⟨g2, hg2⟩ := G.less g (M' := []) (List.nil_sublist _)
    rw [hg2]
    clear hg2
    (try clear g)
    revert g2
    intro g
    go_wp2_with (with_reducible refine G.any_mark _ ?_; (try generalize Array.size (World.heap (G.w _)) = bk); (try dsimp only [List.set_cons_zero, List.set_cons_succ]); (try clear g); intro g)
    refine (CM2.out _ _ _ _ _ (G.sl g (by simp) hsh) (G.sl g (by simp) hsh)).mono ?_
    rintro e w1 ⟨Ai, ci, Fi, rfl, hsi, hn⟩
    have hnni := fun k o hk => Nat.le_trans g.chg.size (hn.new k o hk)
    obtain ⟨g1, rfl⟩ := G.new_ex _ hn
    clear hn
    (try clear g)
    revert g1
    intro g
    go_wp2_with (with_reducible refine G.any_mark _ ?_; (try generalize Array.size (World.heap (G.w _)) = bk); (try dsimp only [List.set_cons_zero, List.set_cons_succ]); (try clear g); intro g)
    refine (CC1.out _ _ _ _ _ (G.sl g (by simp) hsf) (G.sl g (by simp) hsa)).mono ?_
    rintro e w1 ⟨rfl, hb⟩
    obtain ⟨g1, rfl⟩ := G.call_ex _ hb
    clear hb
    (try clear g)
    revert g1
    intro g
    go_wp2_with (with_reducible refine G.any_mark _ ?_; (try generalize Array.size (World.heap (G.w _)) = bk); (try dsimp only [List.set_cons_zero, List.set_cons_succ]); (try clear g); intro g)
    refine (CC2.out _ _ _ _ _ (G.sl g (by simp) hsi) (G.sl g (by simp) hsa)).mono ?_
    rintro e w1 ⟨rfl, hb⟩
    obtain ⟨g1, rfl⟩ := G.call_ex _ hb
    clear hb
    (try clear g)
    revert g1
    intro g
    go_wp2_with (with_reducible refine G.any_mark _ ?_; (try generalize Array.size (World.heap (G.w _)) = bk); (try dsimp only [List.set_cons_zero, List.set_cons_succ]); (try clear g); intro g)
    refine (CR2.out _ _ _ (G.sl g (by simp) hsi)).mono ?_
    rintro e w1 ⟨Aj, cj, Fj, rfl, hsj, hn⟩
    have hnnj := fun k o hk => Nat.le_trans g.chg.size (hn.new k o hk)
    obtain ⟨g1, rfl⟩ := G.new_ex _ hn
    clear hn
    (try clear g)
    revert g1
    intro g
    go_wp2_with (with_reducible refine G.any_mark _ ?_; (try generalize Array.size (World.heap (G.w _)) = bk); (try dsimp only [List.set_cons_zero, List.set_cons_succ]); (try clear g); intro g)
    refine (CS.out _ _ _ _ _ _ (G.sl g (by simp) hsj) (G.sl g (by simp) hsh)).mono ?_
    rintro e w1 ⟨rfl, hb⟩
    obtain ⟨g1, rfl⟩ := G.call_ex _ hb
    clear hb
    (try clear g)
    revert g1
    intro g
    go_wp2_with (with_reducible refine G.any_mark _ ?_; (try generalize Array.size (World.heap (G.w _)) = bk); (try dsimp only [List.set_cons_zero, List.set_cons_succ]); (try clear g); intro g)
    go_ret
    exact ⟨rfl, g.below⟩
end Go.Proofs.Ytfifcpgjcgoinaa

set_option exponentiation.threshold 10000
namespace Go.Proofs.Ytfifcpgjcgoinaa
open Go.RowKit GW NL
theorem bl_at (s : ByteArray) (k : Nat) (h : k < s.size) : (s[k]'h).toNat = (bl s).getD k 0 := by
  have h' : k < s.data.toList.length := by simpa using h
  unfold bl
  rw [List.getD_eq_getElem?_getD, List.getElem?_map, List.getElem?_eq_getElem h']
  simp
  rfl
theorem rOf_neg (a : Int) (h0 : a < 0) (h1 : -9223372036854775808 ≤ a) (w : World) : Calls Try.prog 20 #[.int .i64 a] w (RNE (0, 2) w) := by
  refine calls_b fun g => ?_
  go_enter Try.func20, Try.ntmps20
  go_wp2_with (with_reducible refine G.any_mark _ ?_; (try generalize Array.size (World.heap (G.w _)) = bk); (try dsimp only [List.set_cons_zero, List.set_cons_succ]); (try clear g); intro g)
  go_ret2
  exact rne_err g 2
theorem rOf_pos (n : Nat) (h1 : n < 9223372036854775808) (w : World) : Calls Try.prog 20 #[.int .i64 n] w (RNE (n, 0) w) := by
  refine calls_b fun g => ?_
  obtain ⟨hv, hk⟩ := two_limbs n h1
  have HV := Lib.hid hv
  have e1 : (((n % 4294967296 : Nat)) : Int) = (n : Int) % 4294967296 := by omega
  have e2 : (((n / 4294967296 : Nat)) : Int) = (n : Int) / 4294967296 := by omega
  have E1 := Lib.hid e1
  have E2 := Lib.hid e2
  clear hv e1 e2
  go_enter Try.func20, Try.ntmps20
  go_wp2_with (with_reducible refine G.any_mark _ ?_; (try generalize Array.size (World.heap (G.w _)) = bk); (try dsimp only [List.set_cons_zero, List.set_cons_succ]); (try clear g); intro g)
  obtain ⟨g2, hg2⟩ := g.as (M' := [(bk, 30, u32s [n % 4294967296, n / 4294967296])]) (by simp only [u32s, List.map_cons, List.map_nil, E1.out, E2.out])
  rw [hg2]
  clear hg2 g
  revert g2
  intro g
  have hsl : SlW g.w (some ⟨bk, 0, none⟩) 2 [n % 4294967296, n / 4294967296] := (sl_blk (by simp) (by decide) hk).at (blkF_sub g.blk0)
  refine (rtrim_any _ _ [n % 4294967296, n / 4294967296] _ hsl).mono ?_
  rintro e w1 ⟨rfl, hb⟩
  obtain ⟨g1, rfl⟩ := G.call_ex _ hb
  clear hb hsl g
  revert g1
  intro g
  rw [HV.out]
  have hfin : (blkF bk (.cells (u32s [n % 4294967296, n / 4294967296]).toArray 30 (0, 0))).Sl (some ⟨bk, 0, none⟩) 2 (limbs n) := by
    have := sl_trim (sl_blk (b := bk) (T := 30) (fr := (0, 0)) (c := 2) (by simp) (by decide) hk)
    rwa [HV.out] at this
  go_wp2_with (with_reducible refine G.any_mark _ ?_; (try generalize Array.size (World.heap (G.w _)) = bk); (try dsimp only [List.set_cons_zero, List.set_cons_succ]); (try clear g); intro g)
  go_ret2
  exact ⟨_, 2, _, rfl, hfin, g.give (List.mem_cons_self ..)⟩
theorem rParse_long (s : ByteArray) (w : World) (hn : 2467 < s.size) (hn9 : s.size ≤ 1000000000) :
    Calls Try.prog 24 #[.string s] w (RNF 0 4 2467 w) := by
  refine calls_b fun g => ?_
  obtain ⟨n, hsz⟩ : ∃ n, s.size = n := ⟨_, rfl⟩
  rw [hsz] at hn hn9
  have h1i : (2467 : Int) < (n : Int) := by omega
  clear hn
  go_enter Try.func24, Try.ntmps24
  go_wp2_with (with_reducible refine G.any_mark _ ?_; (try generalize Array.size (World.heap (G.w _)) = bk); (try dsimp only [List.set_cons_zero, List.set_cons_succ]); (try clear g); intro g)
  ((try simp only [G.drew_eq, G.drewN_eq]); (refine G.any_mark _ ?_; (try generalize Array.size (World.heap (G.w _)) = bk); (try dsimp only [List.set_cons_zero, List.set_cons_succ]); (try clear g); intro g))
  refine bodyPost_ret (v := .tuple #[.slice none 0 0, .agg #[.int .i64 4, .int .i64 2467]]) (by simp [results, Try.f24, go_sem]) rfl ?_
  exact rnf_err g _ _
set_option maxRecDepth 20000 in
theorem rParse_bad (s : ByteArray) (w : World) (hn : s.size ≤ 2467) (i : Nat) (hi : i < s.size) (hb : NoDig ((bl s).getD i 0)) (hd : ∀ j, j < i → ¬ NoDig ((bl s).getD j 0)) :
    Calls Try.prog 24 #[.string s] w (RNF 0 11 i w) := by
  refine calls_b fun g => ?_
  obtain ⟨l, hl⟩ : ∃ l, bl s = l := ⟨_, rfl⟩
  have hll := bl_len s
  have hlt := bl_lt s
  rw [hl] at hll hlt hd hb
  obtain ⟨n, hsz⟩ : ∃ n, s.size = n := ⟨_, rfl⟩
  rw [hsz] at hn hi hll
  have h1i : ¬ ((2467 : Int) < (n : Int)) := by omega
  go_enter Try.func24, Try.ntmps24
  go_wp2_with (with_reducible refine G.any_mark _ ?_; (try generalize Array.size (World.heap (G.w _)) = bk); (try dsimp only [List.set_cons_zero, List.set_cons_succ]); (try clear g); intro g)
  obtain ⟨rc, rfl⟩ : ∃ rc : Nat, rc = bk := ⟨_, rfl⟩
  go_loopg [4] n (fun gk s4 wr => ∃ k : Nat, k + gk = n ∧ s4 = .int .i64 (k : Int) ∧ Hid (∀ j, j < k → ¬ NoDig (l.getD j 0)) ∧ ∃ g : G w [] [(rc, 40, [.int .i64 0, .int .i64 0])] [heapOf w], wr = g.w)
  case atStart => exact ⟨0, by omega, rfl, fun j hj => by omega, g, rfl⟩
  case round =>
    clear g
    obtain ⟨ko, rfl⟩ : ∃ ko : Nat, ko = gk := ⟨_, rfl⟩
    obtain ⟨k, hkg, rfl, HA, g, rfl⟩ := hrel
    by_cases hk : k < n
    · have hki : (k : Int) < (n : Int) := by omega
      have hk0 : (0 : Int) ≤ (k : Int) := by omega
      have hks : k < s.size := by omega
      have hxl : l.getD k 0 < 256 := by
        rw [List.getD_eq_getElem?_getD, List.getElem?_eq_getElem (by omega)]
        exact hlt _ (List.getElem_mem _)
      obtain ⟨x, hx⟩ : ∃ x, l.getD k 0 = x := ⟨_, rfl⟩
      have hsk : ∀ h : k < s.size, ((s[k]'h).toNat : Int) = (x : Int) := fun h => by rw [bl_at s k h, hl, hx]
      rw [hx] at hxl
      have HX := Lib.hid hx
      clear hx
      by_cases hnd : NoDig x
      · obtain rfl : k = i := by
          rcases Nat.lt_trichotomy k i with h | h | h
          · exact absurd (by rw [HX.out]; exact hnd) (hd k h)
          · exact h
          · exact absurd hb (HA.out i h)
        have hc : x < 48 ∨ (¬ x < 48 ∧ 57 < x) := by unfold NoDig at hnd; omega
        clear hnd hb hd
        rcases hc with h | ⟨h, h'⟩
        · have hd1 : (x : Int) < 48 := by omega
          have hd3 : decide ((x : Int) < 48) = true := decide_eq_true hd1
          clear h
          go_wp2_with (with_reducible refine G.any_mark _ ?_; (try generalize Array.size (World.heap (G.w _)) = bk); (try dsimp only [List.set_cons_zero, List.set_cons_succ]); (try clear g); intro g)
          ((try simp only [G.drew_eq, G.drewN_eq]); (refine G.any_mark _ ?_; (try generalize Array.size (World.heap (G.w _)) = bk); (try dsimp only [List.set_cons_zero, List.set_cons_succ]); (try clear g); intro g))
          refine bodyPost_ret (v := .tuple #[.slice none 0 0, .agg #[.int .i64 11, .int .i64 (k : Int)]]) (by simp [results, Try.f24, go_sem]) rfl ?_
          exact rnf_err g _ _
        · have hd1 : ¬ ((x : Int) < 48) := by omega
          have hd2 : (57 : Int) < (x : Int) := by omega
          have hd3 : decide ((x : Int) < 48) = false := decide_eq_false hd1
          clear h h'
          go_wp2_with (with_reducible refine G.any_mark _ ?_; (try generalize Array.size (World.heap (G.w _)) = bk); (try dsimp only [List.set_cons_zero, List.set_cons_succ]); (try clear g); intro g)
          ((try simp only [G.drew_eq, G.drewN_eq]); (refine G.any_mark _ ?_; (try generalize Array.size (World.heap (G.w _)) = bk); (try dsimp only [List.set_cons_zero, List.set_cons_succ]); (try clear g); intro g))
          refine bodyPost_ret (v := .tuple #[.slice none 0 0, .agg #[.int .i64 11, .int .i64 (k : Int)]]) (by simp [results, Try.f24, go_sem]) rfl ?_
          exact rnf_err g _ _
      · clear hb hd
        have hd1 : ¬ ((x : Int) < 48) := by unfold NoDig at hnd; omega
        have hd2 : ¬ ((57 : Int) < (x : Int)) := by unfold NoDig at hnd; omega
        have hd3 : decide ((x : Int) < 48) = false := decide_eq_false hd1
        have HND := Lib.hid hnd
        clear hnd
        go_wp2_with (with_reducible refine G.any_mark _ ?_; (try generalize Array.size (World.heap (G.w _)) = bk); (try dsimp only [List.set_cons_zero, List.set_cons_succ]); (try clear g); intro g)
        go_roundg (ko - 1)
        case measure => omega
        case rel => exact ⟨k + 1, by omega, by go_num, fun j hj => by
          rcases Nat.lt_or_ge j k with h | h
          · exact HA.out j h
          · obtain rfl : j = k := by omega
            rw [HX.out]; exact HND.out, g, rfl⟩
    · have hkn : k = n := by omega
      have hki : ¬ ((k : Int) < (n : Int)) := by omega
      exact absurd hb (HA.out i (by omega))
set_option maxRecDepth 20000 in
theorem rParse_form (s : ByteArray) (w : World) (hn : s.size ≤ 2467) (hd : ∀ j, j < s.size → ¬ NoDig ((bl s).getD j 0)) (hz : s.size = 0 ∨ (1 < s.size ∧ (bl s).getD 0 0 = 48)) :
    Calls Try.prog 24 #[.string s] w (RNF 0 11 0 w) := by
  refine calls_b fun g => ?_
  obtain ⟨l, hl⟩ : ∃ l, bl s = l := ⟨_, rfl⟩
  have hll := bl_len s
  have hlt := bl_lt s
  rw [hl] at hll hlt hd hz
  obtain ⟨n, hsz⟩ : ∃ n, s.size = n := ⟨_, rfl⟩
  rw [hsz] at hn hll hd hz
  have h1i : ¬ ((2467 : Int) < (n : Int)) := by omega
  go_enter Try.func24, Try.ntmps24
  go_wp2_with (with_reducible refine G.any_mark _ ?_; (try generalize Array.size (World.heap (G.w _)) = bk); (try dsimp only [List.set_cons_zero, List.set_cons_succ]); (try clear g); intro g)
  obtain ⟨rc, rfl⟩ : ∃ rc : Nat, rc = bk := ⟨_, rfl⟩
  go_loopg [4] n (fun gk s4 wr => ∃ k : Nat, k + gk = n ∧ s4 = .int .i64 (k : Int) ∧ Hid (∀ j, j < k → ¬ NoDig (l.getD j 0)) ∧ ∃ g : G w [] [(rc, 40, [.int .i64 0, .int .i64 0])] [heapOf w], wr = g.w)
  case atStart => exact ⟨0, by omega, rfl, fun j hj => by omega, g, rfl⟩
  case round =>
    clear g
    obtain ⟨ko, rfl⟩ : ∃ ko : Nat, ko = gk := ⟨_, rfl⟩
    obtain ⟨k, hkg, rfl, HA, g, rfl⟩ := hrel
    by_cases hk : k < n
    · have hki : (k : Int) < (n : Int) := by omega
      have hk0 : (0 : Int) ≤ (k : Int) := by omega
      have hks : k < s.size := by omega
      have hxl : l.getD k 0 < 256 := by
        rw [List.getD_eq_getElem?_getD, List.getElem?_eq_getElem (by omega)]
        exact hlt _ (List.getElem_mem _)
      obtain ⟨x, hx⟩ : ∃ x, l.getD k 0 = x := ⟨_, rfl⟩
      have hsk : ∀ h : k < s.size, ((s[k]'h).toNat : Int) = (x : Int) := fun h => by rw [bl_at s k h, hl, hx]
      rw [hx] at hxl
      have HX := Lib.hid hx
      clear hx
      have hnd : ¬ NoDig x := by rw [← HX.out]; exact hd k hk
      · clear hd hz
        have hd1 : ¬ ((x : Int) < 48) := by unfold NoDig at hnd; omega
        have hd2 : ¬ ((57 : Int) < (x : Int)) := by unfold NoDig at hnd; omega
        have hd3 : decide ((x : Int) < 48) = false := decide_eq_false hd1
        have HND := Lib.hid hnd
        clear hnd
        go_wp2_with (with_reducible refine G.any_mark _ ?_; (try generalize Array.size (World.heap (G.w _)) = bk); (try dsimp only [List.set_cons_zero, List.set_cons_succ]); (try clear g); intro g)
        go_roundg (ko - 1)
        case measure => omega
        case rel => exact ⟨k + 1, by omega, by go_num, fun j hj => by
          rcases Nat.lt_or_ge j k with h | h
          · exact HA.out j h
          · obtain rfl : j = k := by omega
            rw [HX.out]; exact HND.out, g, rfl⟩
    · have hkn : k = n := by omega
      have hki : ¬ ((k : Int) < (n : Int)) := by omega
      clear hd HA
      rcases hz with h0 | ⟨h1n, hz'⟩
      · have hn0i : ((n : Int) == 0) = true := by rw [beq_iff_eq]; omega
        have hn0 : (n : Int) = 0 := by omega
        clear h0
        go_wp2_with (with_reducible refine G.any_mark _ ?_; (try generalize Array.size (World.heap (G.w _)) = bk); (try dsimp only [List.set_cons_zero, List.set_cons_succ]); (try clear g); intro g)
        ((try simp only [G.drew_eq, G.drewN_eq]); (refine G.any_mark _ ?_; (try generalize Array.size (World.heap (G.w _)) = bk); (try dsimp only [List.set_cons_zero, List.set_cons_succ]); (try clear g); intro g))
        refine bodyPost_ret (v := .tuple #[.slice none 0 0, .agg #[.int .i64 11, .int .i64 0]]) (by simp [results, Try.f24, go_sem]) rfl ?_
        exact rnf_err g _ _
      · have h1ni : (1 : Int) < (n : Int) := by omega
        have hn0i : ((n : Int) == 0) = false := by rw [beq_eq_false_iff_ne]; omega
        have hs0 : ∀ h : 0 < s.size, (((s[0]'h).toNat : Int) == 48) = true := fun h => by
          have := bl_first s h
          rw [hl] at this
          rw [beq_iff_eq]
          omega
        clear hl hz'
        go_wp2_with (with_reducible refine G.any_mark _ ?_; (try generalize Array.size (World.heap (G.w _)) = bk); (try dsimp only [List.set_cons_zero, List.set_cons_succ]); (try clear g); intro g)
        ((try simp only [G.drew_eq, G.drewN_eq]); (refine G.any_mark _ ?_; (try generalize Array.size (World.heap (G.w _)) = bk); (try dsimp only [List.set_cons_zero, List.set_cons_succ]); (try clear g); intro g))
        refine bodyPost_ret (v := .tuple #[.slice none 0 0, .agg #[.int .i64 11, .int .i64 0]]) (by simp [results, Try.f24, go_sem]) rfl ?_
        exact rnf_err g _ _
set_option maxRecDepth 20000 in
set_option maxHeartbeats 8000000 in
theorem rParse_digits (s : ByteArray) (w : World) (hn : s.size ≤ 2467) (hn0 : s.size ≠ 0) (hd : ∀ j, j < s.size → ¬ NoDig ((bl s).getD j 0)) (hz : ¬ (1 < s.size ∧ (bl s).getD 0 0 = 48)) :
    Calls Try.prog 24 #[.string s] w (fun e w' => (dv (bl s) s.size < 2 ^ 8192 → RNF (dv (bl s) s.size) 0 0 w e w') ∧ (¬ dv (bl s) s.size < 2 ^ 8192 → RNF 0 5 0 w e w')) := by
  refine calls_b fun g => ?_
  obtain ⟨l, hl⟩ : ∃ l, bl s = l := ⟨_, rfl⟩
  have hll := bl_len s
  have hlt := bl_lt s
  rw [hl] at hll hlt hd hz
  rw [hl]
  obtain ⟨n, hsz⟩ : ∃ n, s.size = n := ⟨_, rfl⟩
  rw [hsz] at hn hn0 hll hd hz ⊢
  have h1i : ¬ ((2467 : Int) < (n : Int)) := by omega
  go_enter Try.func24, Try.ntmps24
  go_wp2_with (with_reducible refine G.any_mark _ ?_; (try generalize Array.size (World.heap (G.w _)) = bk); (try dsimp only [List.set_cons_zero, List.set_cons_succ]); (try clear g); intro g)
  obtain ⟨rc, rfl⟩ : ∃ rc : Nat, rc = bk := ⟨_, rfl⟩
  go_loopg [4] n (fun gk s4 wr => ∃ k : Nat, k + gk = n ∧ s4 = .int .i64 (k : Int) ∧ Hid (∀ j, j < k → ¬ NoDig (l.getD j 0)) ∧ ∃ g : G w [] [(rc, 40, [.int .i64 0, .int .i64 0])] [heapOf w], wr = g.w)
  case atStart => exact ⟨0, by omega, rfl, fun j hj => by omega, g, rfl⟩
  case round =>
    clear g
    obtain ⟨ko, rfl⟩ : ∃ ko : Nat, ko = gk := ⟨_, rfl⟩
    obtain ⟨k, hkg, rfl, HA, g, rfl⟩ := hrel
    by_cases hk : k < n
    · have hki : (k : Int) < (n : Int) := by omega
      have hk0 : (0 : Int) ≤ (k : Int) := by omega
      have hks : k < s.size := by omega
      have hxl : l.getD k 0 < 256 := by
        rw [List.getD_eq_getElem?_getD, List.getElem?_eq_getElem (by omega)]
        exact hlt _ (List.getElem_mem _)
      obtain ⟨x, hx⟩ : ∃ x, l.getD k 0 = x := ⟨_, rfl⟩
      have hsk : ∀ h : k < s.size, ((s[k]'h).toNat : Int) = (x : Int) := fun h => by rw [bl_at s k h, hl, hx]
      rw [hx] at hxl
      have HX := Lib.hid hx
      clear hx
      have hnd : ¬ NoDig x := by rw [← HX.out]; exact hd k hk
      · clear hd hz
        have hd1 : ¬ ((x : Int) < 48) := by unfold NoDig at hnd; omega
        have hd2 : ¬ ((57 : Int) < (x : Int)) := by unfold NoDig at hnd; omega
        have hd3 : decide ((x : Int) < 48) = false := decide_eq_false hd1
        have HND := Lib.hid hnd
        clear hnd
        go_wp2_with (with_reducible refine G.any_mark _ ?_; (try generalize Array.size (World.heap (G.w _)) = bk); (try dsimp only [List.set_cons_zero, List.set_cons_succ]); (try clear g); intro g)
        go_roundg (ko - 1)
        case measure => omega
        case rel => exact ⟨k + 1, by omega, by go_num, fun j hj => by
          rcases Nat.lt_or_ge j k with h | h
          · exact HA.out j h
          · obtain rfl : j = k := by omega
            rw [HX.out]; exact HND.out, g, rfl⟩
    · have hkn : k = n := by omega
      have hki : ¬ ((k : Int) < (n : Int)) := by omega
      clear HA
      obtain ⟨i0, hi, hzz0, hzz1, hzz2⟩ := info_parts infoU32
      have hn0i : ((n : Int) == 0) = false := by rw [beq_eq_false_iff_ne]; omega
      clear hkn hki hkg
      by_cases h1n : 1 < n
      · have h1ni : (1 : Int) < (n : Int) := by omega
        have hz' : l.getD 0 0 ≠ 48 := fun e => hz ⟨h1n, e⟩
        have hs0 : ∀ h : 0 < s.size, (((s[0]'h).toNat : Int) == 48) = false := fun h => by
          have := bl_first s h
          rw [hl] at this
          rw [beq_eq_false_iff_ne]
          omega
        clear hz
        go_wp2_with (with_reducible refine G.any_mark _ ?_; (try generalize Array.size (World.heap (G.w _)) = bk); (try dsimp only [List.set_cons_zero, List.set_cons_succ]); (try clear g); intro g)
        go_loopg [5, 6] n (fun gk s5 s6 wr => ∃ k : Nat, k + gk = n ∧ s6 = .int .i64 (k : Int) ∧ Hid (dv l k < 10 ^ k) ∧ ((Hid (dv l k = 0) ∧ s5 = .slice none 0 0 ∧ ∃ g : G w [] [(rc, 40, [.int .i64 0, .int .i64 0])] [heapOf w], wr = g.w) ∨ (∃ N b cap cs, Hid (dv l k = N ∧ N ≠ 0) ∧ s5 = .slice (some ⟨b, 0, none⟩) (limbs N).length cap ∧ Row 30 1 (limbs N).length (u32s (limbs N)) cap cs ∧ w.heap.size ≤ b ∧ ∃ g : G w [] [(b, 30, cs), (rc, 40, [.int .i64 0, .int .i64 0])] [heapOf w], wr = g.w)))
        case atStart => exact ⟨0, by omega, rfl, Lib.hid (by rw [dv_zero]; decide), .inl ⟨dv_zero l, rfl, g, rfl⟩⟩
        case round =>
          clear g
          obtain ⟨kq, rfl⟩ : ∃ kq : Nat, kq = gk := ⟨_, rfl⟩
          obtain ⟨k, hkg, rfl, HLT, hcase⟩ := hrel
          by_cases hk : k < n
          · have hki : (k : Int) < (n : Int) := by omega
            have hk0 : (0 : Int) ≤ (k : Int) := by omega
            have hks : k < s.size := by omega
            have hxd := hd k hk
            obtain ⟨x, hx⟩ : ∃ x, l.getD k 0 = x := ⟨_, rfl⟩
            have hsk : ∀ h : k < s.size, ((s[k]'h).toNat : Int) = (x : Int) := fun h => by rw [bl_at s k h, hl, hx]
            rw [hx] at hxd
            have hx1 : 48 ≤ x ∧ x ≤ 57 := by unfold NoDig at hxd; omega
            obtain ⟨d, hdd⟩ : ∃ d, x - 48 = d := ⟨_, rfl⟩
            have hd10 : d < 10 := by omega
            have hsub : IntKind.u8.wrap ((x : Int) - 48) = (d : Int) := by rw [IntKind.wrap_u8]; omega
            have hsub2 : (x : Int) - 48 = (d : Int) := by omega
            have hwd : IntKind.u64.wrap (d : Int) = (d : Int) := by rw [IntKind.wrap_u64]; omega
            have hwd8 : IntKind.u8.wrap (d : Int) = (d : Int) := by rw [IntKind.wrap_u8]; omega
            have hwd32 : IntKind.u32.wrap (d : Int) = (d : Int) := by rw [IntKind.wrap_u32]; omega
            have HS : Hid (dv l (k + 1) = 10 * dv l k + d) := Lib.hid (by rw [dv_succ (by omega), hx, hdd])
            have HL2 : Hid (dv l (k + 1) < 10 ^ (k + 1)) := Lib.hid (by rw [HS.out, Nat.pow_succ]; have := HLT.out; omega)
            have hkn : k + 1 ≤ 2467 := by omega
            clear hxd hx1 hdd hd hx
            rcases hcase with ⟨HZ, rfl, g, rfl⟩ | ⟨N, b, cap, cs, HN, rfl, hrow, hb, g, rfl⟩
            · go_wp2_with (with_reducible refine G.any_mark _ ?_; (try generalize Array.size (World.heap (G.w _)) = bk); (try dsimp only [List.set_cons_zero, List.set_cons_succ]); (try clear g); intro g)
              go_loopg [7, 8] 0 (fun gk s7 s8 wr => s7 = .int .u64 (d : Int) ∧ s8 = .int .i64 0 ∧ ∃ g : G w [] [(rc, 40, [.int .i64 0, .int .i64 0])] [heapOf w], wr = g.w)
              case atStart => exact ⟨rfl, rfl, g, rfl⟩
              case round =>
                clear g
                obtain ⟨rfl, rfl, g, rfl⟩ := hrel
                by_cases hd0 : d = 0
                · subst hd0
                  have HZ2 : Hid (dv l (k + 1) = 0) := Lib.hid (by rw [HS.out, HZ.out])
                  go_wp2_with (with_reducible refine G.any_mark _ ?_; (try generalize Array.size (World.heap (G.w _)) = bk); (try dsimp only [List.set_cons_zero, List.set_cons_succ]); (try clear g); intro g)
                  go_roundg (kq - 1)
                  case measure => omega
                  case rel => exact ⟨k + 1, by omega, by go_num, HL2, .inl ⟨HZ2, rfl, g, rfl⟩⟩
                · have hdi : (0 : Int) < (d : Int) := by omega
                  have HN2 : Hid (dv l (k + 1) = d ∧ d ≠ 0) := Lib.hid ⟨by rw [HS.out, HZ.out]; omega, hd0⟩
                  have ed : limbs d = [d] := limbs_one hd0 (by omega)
                  have HRW : Hid ((limbs d).length = 1 ∧ u32s (limbs d) = [.int .u32 (d : Int)]) := Lib.hid ⟨by rw [ed]; rfl, by rw [ed]; rfl⟩
                  have H1 : ∀ u ∈ [Value.int .u32 (d : Int)], u.oneCell' = true := by intro u hu; rw [List.mem_singleton.1 hu]; rfl
                  clear ed
                  go_wp2_with (first | (with_reducible refine G.any_mark _ ?_; (try generalize Array.size (World.heap (G.w _)) = bk); (try dsimp only [List.set_cons_zero, List.set_cons_succ]); (try clear g); intro g) | (at_builtin; refine wpList_append_lit0 rfl _ _ 24 rfl 30 i0 _ 1 4 Try.underlying24 hi hzz0 hzz1 hzz2 rfl (by decide) g rfl 1 rfl rfl H1 (by decide) (by decide) (by decide) ?_; clear g; intro b cap cs g hb hrow))
                  go_roundg (kq - 1)
                  case measure => omega
                  case rel => exact ⟨k + 1, by omega, by go_num, HL2, .inr ⟨d, b, cap, cs, HN2, by rw [HRW.out.1], by rw [HRW.out.1, HRW.out.2]; exact hrow, hb, g, rfl⟩⟩
            · have hm300 : (limbs N).length ≤ 300 := len_digits (k := k) (by rw [← HN.out.1]; exact HLT.out) (by omega)
              have hokN := ok_limbs N
              have TS : Hid (Ten (limbs N) d 0 d []) := Lib.hid (Ten.start (by omega))
              obtain ⟨m, hm⟩ : ∃ m, (limbs N).length = m := ⟨_, rfl⟩
              rw [hm] at hrow hm300 ⊢
              have HM := Lib.hid hm
              clear hm
              go_wp2_with (with_reducible refine G.any_mark _ ?_; (try generalize Array.size (World.heap (G.w _)) = bk); (try dsimp only [List.set_cons_zero, List.set_cons_succ]); (try clear g); intro g)
              go_loopg [7, 8] m (fun gk s7 s8 wr => ∃ (j c : Nat) (pre : List Nat) (cs' : List Value), j + gk = m ∧ s7 = .int .u64 (c : Int) ∧ s8 = .int .i64 (j : Int) ∧ Hid (Ten (limbs N) d j c pre) ∧ Row 30 1 m (u32s (pre ++ (limbs N).drop j)) cap cs' ∧ ∃ g : G w [] [(b, 30, cs'), (rc, 40, [.int .i64 0, .int .i64 0])] [heapOf w], wr = g.w)
              case atStart => exact ⟨0, d, [], cs, by omega, rfl, rfl, TS, hrow, g, rfl⟩
              case round =>
                clear g hrow TS
                obtain ⟨j, c, pre, cs', hjg, rfl, rfl, TJ, hrow, g, rfl⟩ := hrel
                have hc := TJ.out.lt
                by_cases hj : j < m
                · have hji : (j : Int) < (m : Int) := by omega
                  have hle := hrow.le
                  have hlenr : (pre ++ (limbs N).drop j).length = m := by rw [List.length_append, List.length_drop, TJ.out.len, HM.out]; omega
                  have hcell := hrow.get hlenr hj
                  rw [ten_get TJ.out.len] at hcell
                  have hy := hokN.getD j
                  have TJ2 := Lib.hid (TJ.out.step hokN)
                  have hset := ten_set (xs := limbs N) (x := ((limbs N).getD j 0 * 10 + 0 + c) % 4294967296) TJ.out.len (by rw [HM.out]; exact hj)
                  obtain ⟨t, ht⟩ : ∃ t, (limbs N).getD j 0 * 10 + 0 + c = t := ⟨_, rfl⟩
                  rw [ht] at TJ2 hset
                  generalize (limbs N).getD j 0 = y at *
                  obtain ⟨ty, hty⟩ : ∃ ty, 10 * y = ty := ⟨_, rfl⟩
                  have f1 : 10 * (y : Int) = (ty : Int) := by omega
                  have f2 : (c : Int) + (ty : Int) = (t : Int) := by omega
                  have f3 : IntKind.u64.wrap (ty : Int) = (ty : Int) := by rw [IntKind.wrap_u64]; omega
                  have f4 : IntKind.u64.wrap (t : Int) = (t : Int) := by rw [IntKind.wrap_u64]; omega
                  have f7 : IntKind.u64.wrap (y : Int) = (y : Int) := by rw [IntKind.wrap_u64]; omega
                  obtain ⟨lo, hlo⟩ : ∃ lo, t % 4294967296 = lo := ⟨_, rfl⟩
                  obtain ⟨hi', hhi⟩ : ∃ hi', t / 4294967296 = hi' := ⟨_, rfl⟩
                  have f5 : IntKind.u32.wrap (t : Int) = (lo : Int) := by rw [IntKind.wrap_u32]; omega
                  have f6 : (t : Int) / 4294967296 = (hi' : Int) := by omega
                  rw [hlo] at TJ2 hset
                  rw [hhi] at TJ2
                  have hrow2 := hrow.set (x := lo) hj
                  rw [hset] at hrow2
                  have HROW := Lib.hid hrow2
                  clear hset hrow hrow2 hlenr ht hty hlo hhi
                  go_wp2_with (with_reducible refine G.any_mark _ ?_; (try generalize Array.size (World.heap (G.w _)) = bk); (try dsimp only [List.set_cons_zero, List.set_cons_succ]); (try clear g); intro g)
                  go_roundg (gk - 1)
                  case measure => omega
                  case rel => exact ⟨j + 1, hi', pre ++ [lo], _, by omega, rfl, by go_num, TJ2, HROW.out, g, rfl⟩
                · obtain rfl : j = m := by omega
                  have hji : ¬ ((j : Int) < (j : Int)) := by omega
                  have TE := TJ.out
                  rw [← HM.out] at TE
                  rw [List.drop_of_length_le (by rw [HM.out]; exact Nat.le_refl _), List.append_nil] at hrow
                  by_cases hc0 : c = 0
                  · subst hc0
                    have hpre := TE.same
                    have HN2 : Hid (dv l (k + 1) = 10 * N + d ∧ 10 * N + d ≠ 0) := Lib.hid ⟨by rw [HS.out, HN.out.1], by have := HN.out.2; omega⟩
                    have HLN : Hid ((limbs (10 * N + d)).length = j) := Lib.hid (by rw [← hpre, TE.len, HM.out])
                    have HROW : Hid (Row 30 1 j (u32s (limbs (10 * N + d))) cap cs') := Lib.hid (by rw [← hpre]; exact hrow)
                    clear hpre hrow TE TJ
                    go_wp2_with (with_reducible refine G.any_mark _ ?_; (try generalize Array.size (World.heap (G.w _)) = bk); (try dsimp only [List.set_cons_zero, List.set_cons_succ]); (try clear g); intro g)
                    go_roundg (kq - 1)
                    case measure => omega
                    case rel => exact ⟨k + 1, by omega, by go_num, HL2, .inr ⟨10 * N + d, b, cap, cs', HN2, by rw [HLN.out], by rw [HLN.out]; exact HROW.out, hb, g, rfl⟩⟩
                  · have hci : (0 : Int) < (c : Int) := by omega
                    have hwc : IntKind.u32.wrap (c : Int) = (c : Int) := by rw [IntKind.wrap_u32]; omega
                    have hpre := TE.more hc0
                    have HN2 : Hid (dv l (k + 1) = 10 * N + d ∧ 10 * N + d ≠ 0) := Lib.hid ⟨by rw [HS.out, HN.out.1], by have := HN.out.2; omega⟩
                    have HLN : Hid ((limbs (10 * N + d)).length = j + 1) := Lib.hid (by rw [← hpre, List.length_append, TE.len, HM.out]; rfl)
                    have HAP : Hid (u32s (limbs (10 * N + d)) = u32s pre ++ [.int .u32 (c : Int)]) := Lib.hid (by rw [← hpre, u32s_append]; rfl)
                    have H1 : ∀ u ∈ [Value.int .u32 (c : Int)], u.oneCell' = true := by intro u hu; rw [List.mem_singleton.1 hu]; rfl
                    have H2 : j + 1 ≤ maxLen := by show j + 1 ≤ 9223372036854775807; omega
                    have H3 : (j + 1) * 4 ≤ 140737488355328 := by omega
                    clear hpre TE TJ
                    go_wp2_with (first | (with_reducible refine G.any_mark _ ?_; (try generalize Array.size (World.heap (G.w _)) = bk); (try dsimp only [List.set_cons_zero, List.set_cons_succ]); (try clear g); intro g) | (at_builtin; refine wpList_append_lit rfl _ _ 24 rfl 30 i0 _ 1 4 Try.underlying24 hi hzz0 hzz1 hzz2 rfl (by decide) g hrow hb rfl 1 rfl rfl H1 (by decide) H2 H3 ?_; clear hb hrow g; intro b cap cs g hb hrow))
                    go_roundg (kq - 1)
                    case measure => omega
                    case rel => exact ⟨k + 1, by omega, by go_num, HL2, .inr ⟨10 * N + d, b, cap, cs, HN2, by rw [HLN.out], by rw [HLN.out, HAP.out]; exact hrow, hb, g, rfl⟩⟩
          · obtain rfl : k = n := by omega
            have hki : ¬ ((k : Int) < (k : Int)) := by omega
            rcases hcase with ⟨HZ, rfl, g, rfl⟩ | ⟨N, b, cap, cs, HN, rfl, hrow, hb, g, rfl⟩
            · have CF := rfits_yes none 0 0
              rw [limbs_zero, List.length_nil] at CF
              replace CF := Lib.hid CF
              have HB0 : Hid (0 < 2 ^ 8192) := Lib.hid (Nat.two_pow_pos _)
              have hsn : SlW g.w none 0 [] := Frag.Sl.nil _ _
              go_wp2_with (with_reducible refine G.any_mark _ ?_; (try generalize Array.size (World.heap (G.w _)) = bk); (try dsimp only [List.set_cons_zero, List.set_cons_succ]); (try clear g); intro g)
              refine (CF.out _ hsn HB0.out).mono ?_
              rintro e w1 ⟨rfl, hb⟩
              obtain ⟨g1, rfl⟩ := G.call_ex _ hb
              clear hb
              (try clear g)
              revert g1
              intro g
              clear hsn
              go_wp2_with (with_reducible refine G.any_mark _ ?_; (try generalize Array.size (World.heap (G.w _)) = bk); (try dsimp only [List.set_cons_zero, List.set_cons_succ]); (try clear g); intro g)
              ((try simp only [G.drew_eq, G.drewN_eq]); (refine G.any_mark _ ?_; (try generalize Array.size (World.heap (G.w _)) = bk); (try dsimp only [List.set_cons_zero, List.set_cons_succ]); (try clear g); intro g))
              refine bodyPost_ret (v := .tuple #[.slice none 0 0, .agg #[.int .i64 0, .int .i64 0]]) (by simp [results, Try.f24, go_sem]) rfl ⟨fun _ => ?_, fun h => absurd (by rw [HZ.out]; exact HB0.out) h⟩
              rw [HZ.out]
              exact ⟨none, 0, (fun _ => none), by rw [limbs_zero]; rfl, by rw [limbs_zero]; exact Frag.Sl.nil _ _, g.none⟩
            · have hsl : SlW g.w (some ⟨b, 0, none⟩) cap (limbs N) := (sl_row hrow rfl (by have h300 : (limbs N).length ≤ 300 := len_digits (v := N) (k := k) (by rw [← HN.out.1]; exact HLT.out) (by omega); omega) (ok_limbs N)).at (blkF_sub g.blk0)
              have HM0 : Hid ((limbs N).length ≤ 140737488355328) := Lib.hid (by have h300 : (limbs N).length ≤ 300 := len_digits (v := N) (k := k) (by rw [← HN.out.1]; exact HLT.out) (by omega); omega)
              by_cases hN8 : N < 2 ^ 8192
              · have CF := Lib.hid (fun w h => rfits_yes (some ⟨b, 0, none⟩) cap N w h hN8)
                have H8 := Lib.hid hN8
                clear hN8
                go_wp2_with (with_reducible refine G.any_mark _ ?_; (try generalize Array.size (World.heap (G.w _)) = bk); (try dsimp only [List.set_cons_zero, List.set_cons_succ]); (try clear g); intro g)
                refine (CF.out _ hsl).mono ?_
                rintro e w1 ⟨rfl, hb⟩
                obtain ⟨g1, rfl⟩ := G.call_ex _ hb
                clear hb
                (try clear g)
                revert g1
                intro g
                clear hsl
                go_wp2_with (with_reducible refine G.any_mark _ ?_; (try generalize Array.size (World.heap (G.w _)) = bk); (try dsimp only [List.set_cons_zero, List.set_cons_succ]); (try clear g); intro g)
                ((try simp only [G.drew_eq, G.drewN_eq]); (refine G.any_mark _ ?_; (try generalize Array.size (World.heap (G.w _)) = bk); (try dsimp only [List.set_cons_zero, List.set_cons_succ]); (try clear g); intro g))
                have hlen := HM0.out
                refine bodyPost_ret (v := .tuple #[.slice (some ⟨b, 0, none⟩) (limbs N).length cap, .agg #[.int .i64 0, .int .i64 0]]) (by simp [results, Try.f24, go_sem]) rfl ⟨fun _ => ?_, fun h => absurd (by rw [HN.out.1]; exact H8.out) h⟩
                rw [HN.out.1]
                exact ⟨_, cap, _, rfl, sl_row hrow rfl hlen (ok_limbs N), g.give (List.mem_cons_self ..)⟩
              · have CF := Lib.hid (fun w h => rfits_no (some ⟨b, 0, none⟩) cap N w h hN8)
                have H8 := Lib.hid hN8
                clear hN8
                go_wp2_with (with_reducible refine G.any_mark _ ?_; (try generalize Array.size (World.heap (G.w _)) = bk); (try dsimp only [List.set_cons_zero, List.set_cons_succ]); (try clear g); intro g)
                refine (CF.out _ hsl).mono ?_
                rintro e w1 ⟨rfl, hb⟩
                obtain ⟨g1, rfl⟩ := G.call_ex _ hb
                clear hb
                (try clear g)
                revert g1
                intro g
                clear hsl
                go_wp2_with (with_reducible refine G.any_mark _ ?_; (try generalize Array.size (World.heap (G.w _)) = bk); (try dsimp only [List.set_cons_zero, List.set_cons_succ]); (try clear g); intro g)
                ((try simp only [G.drew_eq, G.drewN_eq]); (refine G.any_mark _ ?_; (try generalize Array.size (World.heap (G.w _)) = bk); (try dsimp only [List.set_cons_zero, List.set_cons_succ]); (try clear g); intro g))
                refine bodyPost_ret (v := .tuple #[.slice none 0 0, .agg #[.int .i64 5, .int .i64 0]]) (by simp [results, Try.f24, go_sem]) rfl ⟨fun h => absurd (by rw [HN.out.1] at h; exact h) H8.out, fun _ => ?_⟩
                exact ⟨none, 0, (fun _ => none), by rw [limbs_zero]; rfl, by rw [limbs_zero]; exact Frag.Sl.nil _ _, g.none⟩
      · have h1ni : ¬ ((1 : Int) < (n : Int)) := by omega
        clear hz
        go_wp2_with (with_reducible refine G.any_mark _ ?_; (try generalize Array.size (World.heap (G.w _)) = bk); (try dsimp only [List.set_cons_zero, List.set_cons_succ]); (try clear g); intro g)
        go_loopg [5, 6] n (fun gk s5 s6 wr => ∃ k : Nat, k + gk = n ∧ s6 = .int .i64 (k : Int) ∧ Hid (dv l k < 10 ^ k) ∧ ((Hid (dv l k = 0) ∧ s5 = .slice none 0 0 ∧ ∃ g : G w [] [(rc, 40, [.int .i64 0, .int .i64 0])] [heapOf w], wr = g.w) ∨ (∃ N b cap cs, Hid (dv l k = N ∧ N ≠ 0) ∧ s5 = .slice (some ⟨b, 0, none⟩) (limbs N).length cap ∧ Row 30 1 (limbs N).length (u32s (limbs N)) cap cs ∧ w.heap.size ≤ b ∧ ∃ g : G w [] [(b, 30, cs), (rc, 40, [.int .i64 0, .int .i64 0])] [heapOf w], wr = g.w)))
        case atStart => exact ⟨0, by omega, rfl, Lib.hid (by rw [dv_zero]; decide), .inl ⟨dv_zero l, rfl, g, rfl⟩⟩
        case round =>
          clear g
          obtain ⟨kq, rfl⟩ : ∃ kq : Nat, kq = gk := ⟨_, rfl⟩
          obtain ⟨k, hkg, rfl, HLT, hcase⟩ := hrel
          by_cases hk : k < n
          · have hki : (k : Int) < (n : Int) := by omega
            have hk0 : (0 : Int) ≤ (k : Int) := by omega
            have hks : k < s.size := by omega
            have hxd := hd k hk
            obtain ⟨x, hx⟩ : ∃ x, l.getD k 0 = x := ⟨_, rfl⟩
            have hsk : ∀ h : k < s.size, ((s[k]'h).toNat : Int) = (x : Int) := fun h => by rw [bl_at s k h, hl, hx]
            rw [hx] at hxd
            have hx1 : 48 ≤ x ∧ x ≤ 57 := by unfold NoDig at hxd; omega
            obtain ⟨d, hdd⟩ : ∃ d, x - 48 = d := ⟨_, rfl⟩
            have hd10 : d < 10 := by omega
            have hsub : IntKind.u8.wrap ((x : Int) - 48) = (d : Int) := by rw [IntKind.wrap_u8]; omega
            have hsub2 : (x : Int) - 48 = (d : Int) := by omega
            have hwd : IntKind.u64.wrap (d : Int) = (d : Int) := by rw [IntKind.wrap_u64]; omega
            have hwd8 : IntKind.u8.wrap (d : Int) = (d : Int) := by rw [IntKind.wrap_u8]; omega
            have hwd32 : IntKind.u32.wrap (d : Int) = (d : Int) := by rw [IntKind.wrap_u32]; omega
            have HS : Hid (dv l (k + 1) = 10 * dv l k + d) := Lib.hid (by rw [dv_succ (by omega), hx, hdd])
            have HL2 : Hid (dv l (k + 1) < 10 ^ (k + 1)) := Lib.hid (by rw [HS.out, Nat.pow_succ]; have := HLT.out; omega)
            have hkn : k + 1 ≤ 2467 := by omega
            clear hxd hx1 hdd hd hx
            rcases hcase with ⟨HZ, rfl, g, rfl⟩ | ⟨N, b, cap, cs, HN, rfl, hrow, hb, g, rfl⟩
            · go_wp2_with (with_reducible refine G.any_mark _ ?_; (try generalize Array.size (World.heap (G.w _)) = bk); (try dsimp only [List.set_cons_zero, List.set_cons_succ]); (try clear g); intro g)
              go_loopg [7, 8] 0 (fun gk s7 s8 wr => s7 = .int .u64 (d : Int) ∧ s8 = .int .i64 0 ∧ ∃ g : G w [] [(rc, 40, [.int .i64 0, .int .i64 0])] [heapOf w], wr = g.w)
              case atStart => exact ⟨rfl, rfl, g, rfl⟩
              case round =>
                clear g
                obtain ⟨rfl, rfl, g, rfl⟩ := hrel
                by_cases hd0 : d = 0
                · subst hd0
                  have HZ2 : Hid (dv l (k + 1) = 0) := Lib.hid (by rw [HS.out, HZ.out])
                  go_wp2_with (with_reducible refine G.any_mark _ ?_; (try generalize Array.size (World.heap (G.w _)) = bk); (try dsimp only [List.set_cons_zero, List.set_cons_succ]); (try clear g); intro g)
                  go_roundg (kq - 1)
                  case measure => omega
                  case rel => exact ⟨k + 1, by omega, by go_num, HL2, .inl ⟨HZ2, rfl, g, rfl⟩⟩
                · have hdi : (0 : Int) < (d : Int) := by omega
                  have HN2 : Hid (dv l (k + 1) = d ∧ d ≠ 0) := Lib.hid ⟨by rw [HS.out, HZ.out]; omega, hd0⟩
                  have ed : limbs d = [d] := limbs_one hd0 (by omega)
                  have HRW : Hid ((limbs d).length = 1 ∧ u32s (limbs d) = [.int .u32 (d : Int)]) := Lib.hid ⟨by rw [ed]; rfl, by rw [ed]; rfl⟩
                  have H1 : ∀ u ∈ [Value.int .u32 (d : Int)], u.oneCell' = true := by intro u hu; rw [List.mem_singleton.1 hu]; rfl
                  clear ed
                  go_wp2_with (first | (with_reducible refine G.any_mark _ ?_; (try generalize Array.size (World.heap (G.w _)) = bk); (try dsimp only [List.set_cons_zero, List.set_cons_succ]); (try clear g); intro g) | (at_builtin; refine wpList_append_lit0 rfl _ _ 24 rfl 30 i0 _ 1 4 Try.underlying24 hi hzz0 hzz1 hzz2 rfl (by decide) g rfl 1 rfl rfl H1 (by decide) (by decide) (by decide) ?_; clear g; intro b cap cs g hb hrow))
                  go_roundg (kq - 1)
                  case measure => omega
                  case rel => exact ⟨k + 1, by omega, by go_num, HL2, .inr ⟨d, b, cap, cs, HN2, by rw [HRW.out.1], by rw [HRW.out.1, HRW.out.2]; exact hrow, hb, g, rfl⟩⟩
            · have hm300 : (limbs N).length ≤ 300 := len_digits (k := k) (by rw [← HN.out.1]; exact HLT.out) (by omega)
              have hokN := ok_limbs N
              have TS : Hid (Ten (limbs N) d 0 d []) := Lib.hid (Ten.start (by omega))
              obtain ⟨m, hm⟩ : ∃ m, (limbs N).length = m := ⟨_, rfl⟩
              rw [hm] at hrow hm300 ⊢
              have HM := Lib.hid hm
              clear hm
              go_wp2_with (with_reducible refine G.any_mark _ ?_; (try generalize Array.size (World.heap (G.w _)) = bk); (try dsimp only [List.set_cons_zero, List.set_cons_succ]); (try clear g); intro g)
              go_loopg [7, 8] m (fun gk s7 s8 wr => ∃ (j c : Nat) (pre : List Nat) (cs' : List Value), j + gk = m ∧ s7 = .int .u64 (c : Int) ∧ s8 = .int .i64 (j : Int) ∧ Hid (Ten (limbs N) d j c pre) ∧ Row 30 1 m (u32s (pre ++ (limbs N).drop j)) cap cs' ∧ ∃ g : G w [] [(b, 30, cs'), (rc, 40, [.int .i64 0, .int .i64 0])] [heapOf w], wr = g.w)
              case atStart => exact ⟨0, d, [], cs, by omega, rfl, rfl, TS, hrow, g, rfl⟩
              case round =>
                clear g hrow TS
                obtain ⟨j, c, pre, cs', hjg, rfl, rfl, TJ, hrow, g, rfl⟩ := hrel
                have hc := TJ.out.lt
                by_cases hj : j < m
                · have hji : (j : Int) < (m : Int) := by omega
                  have hle := hrow.le
                  have hlenr : (pre ++ (limbs N).drop j).length = m := by rw [List.length_append, List.length_drop, TJ.out.len, HM.out]; omega
                  have hcell := hrow.get hlenr hj
                  rw [ten_get TJ.out.len] at hcell
                  have hy := hokN.getD j
                  have TJ2 := Lib.hid (TJ.out.step hokN)
                  have hset := ten_set (xs := limbs N) (x := ((limbs N).getD j 0 * 10 + 0 + c) % 4294967296) TJ.out.len (by rw [HM.out]; exact hj)
                  obtain ⟨t, ht⟩ : ∃ t, (limbs N).getD j 0 * 10 + 0 + c = t := ⟨_, rfl⟩
                  rw [ht] at TJ2 hset
                  generalize (limbs N).getD j 0 = y at *
                  obtain ⟨ty, hty⟩ : ∃ ty, 10 * y = ty := ⟨_, rfl⟩
                  have f1 : 10 * (y : Int) = (ty : Int) := by omega
                  have f2 : (c : Int) + (ty : Int) = (t : Int) := by omega
                  have f3 : IntKind.u64.wrap (ty : Int) = (ty : Int) := by rw [IntKind.wrap_u64]; omega
                  have f4 : IntKind.u64.wrap (t : Int) = (t : Int) := by rw [IntKind.wrap_u64]; omega
                  have f7 : IntKind.u64.wrap (y : Int) = (y : Int) := by rw [IntKind.wrap_u64]; omega
                  obtain ⟨lo, hlo⟩ : ∃ lo, t % 4294967296 = lo := ⟨_, rfl⟩
                  obtain ⟨hi', hhi⟩ : ∃ hi', t / 4294967296 = hi' := ⟨_, rfl⟩
                  have f5 : IntKind.u32.wrap (t : Int) = (lo : Int) := by rw [IntKind.wrap_u32]; omega
                  have f6 : (t : Int) / 4294967296 = (hi' : Int) := by omega
                  rw [hlo] at TJ2 hset
                  rw [hhi] at TJ2
                  have hrow2 := hrow.set (x := lo) hj
                  rw [hset] at hrow2
                  have HROW := Lib.hid hrow2
                  clear hset hrow hrow2 hlenr ht hty hlo hhi
                  go_wp2_with (with_reducible refine G.any_mark _ ?_; (try generalize Array.size (World.heap (G.w _)) = bk); (try dsimp only [List.set_cons_zero, List.set_cons_succ]); (try clear g); intro g)
                  go_roundg (gk - 1)
                  case measure => omega
                  case rel => exact ⟨j + 1, hi', pre ++ [lo], _, by omega, rfl, by go_num, TJ2, HROW.out, g, rfl⟩
                · obtain rfl : j = m := by omega
                  have hji : ¬ ((j : Int) < (j : Int)) := by omega
                  have TE := TJ.out
                  rw [← HM.out] at TE
                  rw [List.drop_of_length_le (by rw [HM.out]; exact Nat.le_refl _), List.append_nil] at hrow
                  by_cases hc0 : c = 0
                  · subst hc0
                    have hpre := TE.same
                    have HN2 : Hid (dv l (k + 1) = 10 * N + d ∧ 10 * N + d ≠ 0) := Lib.hid ⟨by rw [HS.out, HN.out.1], by have := HN.out.2; omega⟩
                    have HLN : Hid ((limbs (10 * N + d)).length = j) := Lib.hid (by rw [← hpre, TE.len, HM.out])
                    have HROW : Hid (Row 30 1 j (u32s (limbs (10 * N + d))) cap cs') := Lib.hid (by rw [← hpre]; exact hrow)
                    clear hpre hrow TE TJ
                    go_wp2_with (with_reducible refine G.any_mark _ ?_; (try generalize Array.size (World.heap (G.w _)) = bk); (try dsimp only [List.set_cons_zero, List.set_cons_succ]); (try clear g); intro g)
                    go_roundg (kq - 1)
                    case measure => omega
                    case rel => exact ⟨k + 1, by omega, by go_num, HL2, .inr ⟨10 * N + d, b, cap, cs', HN2, by rw [HLN.out], by rw [HLN.out]; exact HROW.out, hb, g, rfl⟩⟩
                  · have hci : (0 : Int) < (c : Int) := by omega
                    have hwc : IntKind.u32.wrap (c : Int) = (c : Int) := by rw [IntKind.wrap_u32]; omega
                    have hpre := TE.more hc0
                    have HN2 : Hid (dv l (k + 1) = 10 * N + d ∧ 10 * N + d ≠ 0) := Lib.hid ⟨by rw [HS.out, HN.out.1], by have := HN.out.2; omega⟩
                    have HLN : Hid ((limbs (10 * N + d)).length = j + 1) := Lib.hid (by rw [← hpre, List.length_append, TE.len, HM.out]; rfl)
                    have HAP : Hid (u32s (limbs (10 * N + d)) = u32s pre ++ [.int .u32 (c : Int)]) := Lib.hid (by rw [← hpre, u32s_append]; rfl)
                    have H1 : ∀ u ∈ [Value.int .u32 (c : Int)], u.oneCell' = true := by intro u hu; rw [List.mem_singleton.1 hu]; rfl
                    have H2 : j + 1 ≤ maxLen := by show j + 1 ≤ 9223372036854775807; omega
                    have H3 : (j + 1) * 4 ≤ 140737488355328 := by omega
                    clear hpre TE TJ
                    go_wp2_with (first | (with_reducible refine G.any_mark _ ?_; (try generalize Array.size (World.heap (G.w _)) = bk); (try dsimp only [List.set_cons_zero, List.set_cons_succ]); (try clear g); intro g) | (at_builtin; refine wpList_append_lit rfl _ _ 24 rfl 30 i0 _ 1 4 Try.underlying24 hi hzz0 hzz1 hzz2 rfl (by decide) g hrow hb rfl 1 rfl rfl H1 (by decide) H2 H3 ?_; clear hb hrow g; intro b cap cs g hb hrow))
                    go_roundg (kq - 1)
                    case measure => omega
                    case rel => exact ⟨k + 1, by omega, by go_num, HL2, .inr ⟨10 * N + d, b, cap, cs, HN2, by rw [HLN.out], by rw [HLN.out, HAP.out]; exact hrow, hb, g, rfl⟩⟩
          · obtain rfl : k = n := by omega
            have hki : ¬ ((k : Int) < (k : Int)) := by omega
            rcases hcase with ⟨HZ, rfl, g, rfl⟩ | ⟨N, b, cap, cs, HN, rfl, hrow, hb, g, rfl⟩
            · have CF := rfits_yes none 0 0
              rw [limbs_zero, List.length_nil] at CF
              replace CF := Lib.hid CF
              have HB0 : Hid (0 < 2 ^ 8192) := Lib.hid (Nat.two_pow_pos _)
              have hsn : SlW g.w none 0 [] := Frag.Sl.nil _ _
              go_wp2_with (with_reducible refine G.any_mark _ ?_; (try generalize Array.size (World.heap (G.w _)) = bk); (try dsimp only [List.set_cons_zero, List.set_cons_succ]); (try clear g); intro g)
              refine (CF.out _ hsn HB0.out).mono ?_
              rintro e w1 ⟨rfl, hb⟩
              obtain ⟨g1, rfl⟩ := G.call_ex _ hb
              clear hb
              (try clear g)
              revert g1
              intro g
              clear hsn
              go_wp2_with (with_reducible refine G.any_mark _ ?_; (try generalize Array.size (World.heap (G.w _)) = bk); (try dsimp only [List.set_cons_zero, List.set_cons_succ]); (try clear g); intro g)
              ((try simp only [G.drew_eq, G.drewN_eq]); (refine G.any_mark _ ?_; (try generalize Array.size (World.heap (G.w _)) = bk); (try dsimp only [List.set_cons_zero, List.set_cons_succ]); (try clear g); intro g))
              refine bodyPost_ret (v := .tuple #[.slice none 0 0, .agg #[.int .i64 0, .int .i64 0]]) (by simp [results, Try.f24, go_sem]) rfl ⟨fun _ => ?_, fun h => absurd (by rw [HZ.out]; exact HB0.out) h⟩
              rw [HZ.out]
              exact ⟨none, 0, (fun _ => none), by rw [limbs_zero]; rfl, by rw [limbs_zero]; exact Frag.Sl.nil _ _, g.none⟩
            · have hsl : SlW g.w (some ⟨b, 0, none⟩) cap (limbs N) := (sl_row hrow rfl (by have h300 : (limbs N).length ≤ 300 := len_digits (v := N) (k := k) (by rw [← HN.out.1]; exact HLT.out) (by omega); omega) (ok_limbs N)).at (blkF_sub g.blk0)
              have HM0 : Hid ((limbs N).length ≤ 140737488355328) := Lib.hid (by have h300 : (limbs N).length ≤ 300 := len_digits (v := N) (k := k) (by rw [← HN.out.1]; exact HLT.out) (by omega); omega)
              by_cases hN8 : N < 2 ^ 8192
              · have CF := Lib.hid (fun w h => rfits_yes (some ⟨b, 0, none⟩) cap N w h hN8)
                have H8 := Lib.hid hN8
                clear hN8
                go_wp2_with (with_reducible refine G.any_mark _ ?_; (try generalize Array.size (World.heap (G.w _)) = bk); (try dsimp only [List.set_cons_zero, List.set_cons_succ]); (try clear g); intro g)
                refine (CF.out _ hsl).mono ?_
                rintro e w1 ⟨rfl, hb⟩
                obtain ⟨g1, rfl⟩ := G.call_ex _ hb
                clear hb
                (try clear g)
                revert g1
                intro g
                clear hsl
                go_wp2_with (with_reducible refine G.any_mark _ ?_; (try generalize Array.size (World.heap (G.w _)) = bk); (try dsimp only [List.set_cons_zero, List.set_cons_succ]); (try clear g); intro g)
                ((try simp only [G.drew_eq, G.drewN_eq]); (refine G.any_mark _ ?_; (try generalize Array.size (World.heap (G.w _)) = bk); (try dsimp only [List.set_cons_zero, List.set_cons_succ]); (try clear g); intro g))
                have hlen := HM0.out
                refine bodyPost_ret (v := .tuple #[.slice (some ⟨b, 0, none⟩) (limbs N).length cap, .agg #[.int .i64 0, .int .i64 0]]) (by simp [results, Try.f24, go_sem]) rfl ⟨fun _ => ?_, fun h => absurd (by rw [HN.out.1]; exact H8.out) h⟩
                rw [HN.out.1]
                exact ⟨_, cap, _, rfl, sl_row hrow rfl hlen (ok_limbs N), g.give (List.mem_cons_self ..)⟩
              · have CF := Lib.hid (fun w h => rfits_no (some ⟨b, 0, none⟩) cap N w h hN8)
                have H8 := Lib.hid hN8
                clear hN8
                go_wp2_with (with_reducible refine G.any_mark _ ?_; (try generalize Array.size (World.heap (G.w _)) = bk); (try dsimp only [List.set_cons_zero, List.set_cons_succ]); (try clear g); intro g)
                refine (CF.out _ hsl).mono ?_
                rintro e w1 ⟨rfl, hb⟩
                obtain ⟨g1, rfl⟩ := G.call_ex _ hb
                clear hb
                (try clear g)
                revert g1
                intro g
                clear hsl
                go_wp2_with (with_reducible refine G.any_mark _ ?_; (try generalize Array.size (World.heap (G.w _)) = bk); (try dsimp only [List.set_cons_zero, List.set_cons_succ]); (try clear g); intro g)
                ((try simp only [G.drew_eq, G.drewN_eq]); (refine G.any_mark _ ?_; (try generalize Array.size (World.heap (G.w _)) = bk); (try dsimp only [List.set_cons_zero, List.set_cons_succ]); (try clear g); intro g))
                refine bodyPost_ret (v := .tuple #[.slice none 0 0, .agg #[.int .i64 5, .int .i64 0]]) (by simp [results, Try.f24, go_sem]) rfl ⟨fun h => absurd (by rw [HN.out.1] at h; exact h) H8.out, fun _ => ?_⟩
                exact ⟨none, 0, (fun _ => none), by rw [limbs_zero]; rfl, by rw [limbs_zero]; exact Frag.Sl.nil _ _, g.none⟩
end Go.Proofs.Ytfifcpgjcgoinaa

set_option exponentiation.threshold 10000
namespace Go.Proofs.Ytfifcpgjcgoinaa
open Go.RowKit GW NL
theorem ba_beq (a b : ByteArray) : (a == b) = true ↔ a = b := by
  obtain ⟨x⟩ := a
  obtain ⟨y⟩ := b
  constructor
  · intro h
    have e : x = y := by simpa using (show (x == y) = true from h)
    rw [e]
  · intro h
    cases h
    show (x == x) = true
    simp
theorem bstr_eq (l : List Nat) : bstr l = ⟨(l.map UInt8.ofNat).toArray⟩ := by
  unfold bstr
  rw [foldl_push_bytes]
  show (⟨(#[] : Array UInt8) ++ (l.map UInt8.ofNat).toArray⟩ : ByteArray) = _
  simp
theorem bstr_size (l : List Nat) : (bstr l).size = l.length := by rw [bstr_eq]; simp [ByteArray.size]
theorem bstr_cons (y : Nat) (o : List Nat) : bstr [y] ++ bstr o = bstr (y :: o) := by
  rw [bstr_eq, bstr_eq, bstr_eq]
  apply ByteArray.ext
  simp
theorem enc_digit (d : Nat) (h : d < 10) : Utf8.encode ((48 + d : Nat) : Int) = bstr [48 + d] := by
  have : d = 0 ∨ d = 1 ∨ d = 2 ∨ d = 3 ∨ d = 4 ∨ d = 5 ∨ d = 6 ∨ d = 7 ∨ d = 8 ∨ d = 9 := by omega
  rcases this with rfl | rfl | rfl | rfl | rfl | rfl | rfl | rfl | rfl | rfl <;> rfl
theorem rText_err (A : Option Addr) (c : Nat) (l : List Nat) (w : World) (h : SlW w A c l) (hc : chk l ≠ 0) :
    Calls Try.prog 22 #[.slice A l.length c] w fun e w' => e = .returned (.tuple #[.string { data := #[] }, .int .i64 (chk l)]) ∧ Below w.heap.size w w' := by
  refine calls_b fun g => ?_
  have C1 := Lib.hid (fun w h => rcheck_any A c l w h)
  have hx : (chk l == 0) = false := by simpa using hc
  clear hc
  generalize chk l = r at *
  generalize l.length = n at *
  go_enter Try.func22, Try.ntmps22
  go_wp2_with (with_reducible refine G.any_mark _ ?_; (try generalize Array.size (World.heap (G.w _)) = bk); (try dsimp only [List.set_cons_zero, List.set_cons_succ]); (try clear g); intro g)
  refine (C1.out _ (G.sl g (by simp) h)).mono ?_
  rintro e w1 ⟨rfl, hb⟩
  obtain ⟨g1, rfl⟩ := G.call_ex _ hb
  clear hb
  (try clear g)
  revert g1
  intro g
  go_wp2_with (with_reducible refine G.any_mark _ ?_; (try generalize Array.size (World.heap (G.w _)) = bk); (try dsimp only [List.set_cons_zero, List.set_cons_succ]); (try clear g); intro g)
  go_ret2
  exact ⟨rfl, g.below⟩
theorem rText_zero (A : Option Addr) (c : Nat) (w : World) (h : SlW w A c []) :
    Calls Try.prog 22 #[.slice A 0 c] w fun e w' => e = .returned (.tuple #[.string (bstr (dec 0)), .int .i64 0]) ∧ Below w.heap.size w w' := by
  refine calls_b fun g => ?_
  have e0 : bstr (dec 0) = { data := #[48] } := by rfl
  rw [e0]
  have C1 := Lib.hid (fun w h => rcheck_any A c [] w h)
  have hck : chk [] = 0 := by decide
  rw [hck, List.length_nil] at C1
  have CO := Lib.hid (fun w h => own_any A c [] w h (by decide))
  unfold RLim at CO
  rw [List.length_nil] at CO
  go_enter Try.func22, Try.ntmps22
  go_wp2_with (with_reducible refine G.any_mark _ ?_; (try generalize Array.size (World.heap (G.w _)) = bk); (try dsimp only [List.set_cons_zero, List.set_cons_succ]); (try clear g); intro g)
  refine (C1.out _ (G.sl g (by simp) h)).mono ?_
  rintro e w1 ⟨rfl, hb⟩
  obtain ⟨g1, rfl⟩ := G.call_ex _ hb
  clear hb
  (try clear g)
  revert g1
  intro g
  go_wp2_with (with_reducible refine G.any_mark _ ?_; (try generalize Array.size (World.heap (G.w _)) = bk); (try dsimp only [List.set_cons_zero, List.set_cons_succ]); (try clear g); intro g)
  refine (CO.out _ (G.sl g (by simp) h)).mono ?_
  rintro e w1 ⟨Ax, cx, Fx, rfl, hsx, hn⟩
  have hnnx := fun k o hk => Nat.le_trans g.chg.size (hn.new k o hk)
  obtain ⟨g1, rfl⟩ := G.new_ex _ hn
  clear hn
  (try clear g)
  revert g1
  intro g
  go_wp2_with fail
  go_loopg [5, 6] 0 (fun gk s5 s6 wr => s5 = .string { data := #[] } ∧ s6 = .slice Ax 0 cx ∧ ∃ g : G w [] [] [Fx, heapOf w], wr = g.w)
  case atStart => exact ⟨rfl, rfl, g, rfl⟩
  case round =>
    clear g
    obtain ⟨rfl, rfl, g, rfl⟩ := hrel
    go_wp2_with (with_reducible refine G.any_mark _ ?_; (try generalize Array.size (World.heap (G.w _)) = bk); (try dsimp only [List.set_cons_zero, List.set_cons_succ]); (try clear g); intro g)
    go_ret2
    exact ⟨rfl, g.below⟩
set_option maxRecDepth 20000 in
set_option maxHeartbeats 4000000 in
theorem rText_pos (A : Option Addr) (c : Nat) (v : Nat) (w : World) (h : SlW w A c (limbs v)) (hv : v < 2 ^ 8192) (h0 : v ≠ 0) :
    Calls Try.prog 22 #[.slice A (limbs v).length c] w fun e w' => e = .returned (.tuple #[.string (bstr (dec v)), .int .i64 0]) ∧ Below w.heap.size w w' := by
  refine calls_b fun g => ?_
  have hl : (limbs v).length ≤ 256 := (limbs_len v 256).2 (by rw [pow32]; exact hv)
  have C1 := Lib.hid (fun w h => rcheck_any A c (limbs v) w h)
  rw [chk_limbs hv] at C1
  have CO := Lib.hid (fun w h => own_own A c (limbs v) w h (by omega) (len_ne h0))
  unfold ROwn at CO
  have HV := Lib.hid hv
  have H0 := Lib.hid h0
  obtain ⟨L, hL⟩ : ∃ L, (limbs v).length = L := ⟨_, rfl⟩
  have HLL := Lib.hid hL
  rw [hL] at C1 ⊢
  clear hv h0
  go_enter Try.func22, Try.ntmps22
  go_wp2_with (with_reducible refine G.any_mark _ ?_; (try generalize Array.size (World.heap (G.w _)) = bk); (try dsimp only [List.set_cons_zero, List.set_cons_succ]); (try clear g); intro g)
  refine (C1.out _ (G.sl g (by simp) h)).mono ?_
  rintro e w1 ⟨rfl, hb⟩
  obtain ⟨g1, rfl⟩ := G.call_ex _ hb
  clear hb
  (try clear g)
  revert g1
  intro g
  go_wp2_with (with_reducible refine G.any_mark _ ?_; (try generalize Array.size (World.heap (G.w _)) = bk); (try dsimp only [List.set_cons_zero, List.set_cons_succ]); (try clear g); intro g)
  rw [← hL]
  refine (CO.out _ (G.sl g (by simp) h)).mono ?_
  rintro e w1 ⟨rb, cap, rcs, rfl, hrow, hbe, hfr, hbl⟩
  obtain ⟨g1, rfl⟩ := G.own_ex g hbe hfr hbl
  have hfresh := Nat.le_trans g.chg.size hfr
  clear hbe hfr hbl g CO
  revert g1
  intro g
  clear hL HLL
  go_wp2_with fail
  go_loopg [5, 6] v (fun gk s5 s6 wr => ∃ (ds : List Nat) (rcs : List Value), Hid (digs v = ds ++ digs gk ∧ gk ≤ v) ∧ s5 = .string (bstr ((ds.map (48 + ·)).reverse)) ∧ s6 = .slice (some ⟨rb, 0, none⟩) (limbs gk).length cap ∧ Row 30 1 (limbs gk).length (u32s (limbs gk)) cap rcs ∧ ∃ g : G w [] [(rb, 30, rcs)] [heapOf w], wr = g.w)
  case atStart => exact ⟨[], rcs, ⟨rfl, Nat.le_refl _⟩, rfl, rfl, hrow, g, rfl⟩
  case round =>
    clear g hrow C1
    obtain ⟨x, rfl⟩ : ∃ x : Nat, x = gk := ⟨_, rfl⟩
    obtain ⟨ds, rcs, HD, rfl, rfl, hrow, g, rfl⟩ := hrel
    by_cases hx : x = 0
    · subst hx
      have hfin : bstr (dec v) = bstr (ds.map (48 + ·)).reverse := by
        unfold dec
        rw [if_neg H0.out, HD.out.1, digs_zero, List.append_nil]
      have hne : (bstr (ds.map (48 + ·)).reverse).toList.isEmpty = false := by
        have hs := bstr_size (ds.map (48 + ·)).reverse
        rw [List.length_reverse, List.length_map] at hs
        have h1 := HD.out.1
        rw [digs_zero, List.append_nil, digs_pos H0.out] at h1
        have hdl : ds.length = (digs (v / 10)).length + 1 := by rw [← h1, List.length_cons]
        rw [hdl] at hs
        clear h1 hdl
        rw [ByteArray.toList_eq]
        generalize bstr (ds.map (48 + ·)).reverse = O at *
        obtain ⟨⟨x⟩⟩ := O
        cases x with
        | nil => exact absurd (show 0 = _ from hs) (by omega)
        | cons _ _ => rfl
      have HF := Lib.hid hfin
      clear hfin
      rw [limbs_zero, List.length_nil]
      generalize bstr (ds.map (48 + ·)).reverse = O at *
      go_wp2_with (with_reducible refine G.any_mark _ ?_; (try generalize Array.size (World.heap (G.w _)) = bk); (try dsimp only [List.set_cons_zero, List.set_cons_succ]); (try clear g); intro g)
      go_ret2
      exact ⟨by rw [HF.out]; rfl, g.below⟩
    · have hlx : (limbs x).length ≤ 256 := (limbs_len x 256).2 (by rw [pow32]; exact Nat.lt_of_le_of_lt HD.out.2 HV.out)
      have hpos := len_ne hx
      have hvx : val (limbs x) = x := val_limbs x
      have HN := Lib.hid (digs_step HD.out.1 hx)
      have hdl : ds.length ≤ 2500 := by
        have h1 := digs_len_v HV.out
        rw [HD.out.1, List.length_append] at h1
        omega
      have hokx := ok_limbs x
      have hlt : x / 10 < x := Nat.div_lt_self (Nat.pos_of_ne_zero hx) (by decide)
      have hle : x / 10 ≤ v := by have := HD.out.2; omega
      obtain ⟨n, hn⟩ : ∃ n, (limbs x).length = n := ⟨_, rfl⟩
      rw [hn] at hrow hlx hpos ⊢
      have HLX := Lib.hid hn
      have HVX := Lib.hid hvx
      generalize limbs x = lx at *
      have hni : (0 : Int) < (n : Int) := by omega
      have HQ0 : Hid (([] : List Nat).length + n = n ∧ Ok ([] : List Nat) ∧ val ([] : List Nat) = val (lx.drop n) / 10 ∧ (0 : Nat) = val (lx.drop n) % 10) := Lib.hid (by
        rw [List.drop_of_length_le (by omega)]
        exact ⟨by simp, Ok.nil, rfl, rfl⟩)
      have hrow0 : Row 30 1 n (u32s (lx.take n ++ [])) cap rcs := by rw [List.append_nil, List.take_of_length_le (by omega)]; exact hrow
      have hxpos : 0 < x := by omega
      clear hn hvx hrow hx
      obtain ⟨O, hO⟩ : ∃ O, bstr (ds.map (48 + ·)).reverse = O := ⟨_, rfl⟩
      rw [hO]
      have HO := Lib.hid hO
      clear hO
      go_wp2_with fail
      go_loopg [7, 8] n (fun gk s7 s8 wr => ∃ (qs : List Nat) (R : Nat) (rcs : List Value), gk ≤ n ∧ R < 10 ∧ s7 = .int .u64 (R : Int) ∧ s8 = .int .i64 ((gk : Int) - 1) ∧ Hid (qs.length + gk = n ∧ Ok qs ∧ val qs = val (lx.drop gk) / 10 ∧ R = val (lx.drop gk) % 10) ∧ Row 30 1 n (u32s (lx.take gk ++ qs)) cap rcs ∧ ∃ g : G w [] [(rb, 30, rcs)] [heapOf w], wr = g.w)
      case atStart => exact ⟨[], 0, rcs, Nat.le_refl _, by decide, rfl, rfl, HQ0, hrow0, g, rfl⟩
      case round =>
        clear g hrow0 HQ0 rcs
        obtain ⟨qs, R, rcs, hgn, hR, rfl, rfl, HI, hrow, g, rfl⟩ := hrel
        cases gk with
        | zero =>
          obtain ⟨i1, i2, i3, i4⟩ := HI.out
          rw [List.drop_zero, HVX.out] at i3 i4
          rw [List.take_zero, List.nil_append] at hrow
          have hlim : (limbs (val qs)).length ≤ n := by have := limbs_len_le_of_ok i2; omega
          have hpre := Row.pre hrow hlim
          rw [limbs_prefix i2, i3] at hpre
          have HPRE := Lib.hid hpre
          have CT := Lib.hid (fun (g : G w [] [(rb, 30, rcs)] [heapOf w]) => (rtrim_any (some ⟨rb, 0, none⟩) cap qs g.w ((sl_row (b := rb) hrow (by omega) (by omega) i2).at (blkF_sub g.blk0))))
          rw [show qs.length = n by omega, i3] at CT
          have hen := enc_digit R hR
          have hc := bstr_cons (48 + R) ((ds.map (48 + ·)).reverse)
          rw [HO.out] at hc
          have hds : ((ds ++ [x % 10]).map (48 + ·)).reverse = (48 + R) :: (ds.map (48 + ·)).reverse := by rw [List.map_append, List.reverse_append, i4]; rfl
          have HD2 : Hid (digs v = (ds ++ [x % 10]) ++ digs (x / 10) ∧ x / 10 ≤ v) := Lib.hid ⟨HN.out, hle⟩
          obtain ⟨E, hE⟩ : ∃ E, bstr [48 + R] = E := ⟨_, rfl⟩
          have hsE : E.size = 1 := by rw [← hE, bstr_size]; rfl
          have hsO : O.size = ds.length := by rw [← HO.out, bstr_size, List.length_reverse, List.length_map]
          obtain ⟨O2, hO2⟩ : ∃ O2, bstr ((48 + R) :: (ds.map (48 + ·)).reverse) = O2 := ⟨_, rfl⟩
          rw [hE] at hen hc
          rw [hO2] at hc
          have HO2 : Hid (bstr (((ds ++ [x % 10]).map (48 + ·)).reverse) = O2) := Lib.hid (by rw [hds]; exact hO2)
          obtain ⟨y, hy⟩ : ∃ y, 48 + R = y := ⟨_, rfl⟩
          rw [hy] at hen
          have f1 : 48 + (R : Int) = (y : Int) := by omega
          have f2 : IntKind.i64.wrap (R : Int) = (R : Int) := by rw [IntKind.wrap_i64]; omega
          have f3 : IntKind.i64.wrap (y : Int) = (y : Int) := by rw [IntKind.wrap_i64]; omega
          have f4 : IntKind.i32.wrap (y : Int) = (y : Int) := by rw [IntKind.wrap_i32]; omega
          have hadd : ∀ w, (Op.stringOp .add E O).run Try.prog w = .ok (.string O2) w := fun w => by
            have := run_string_add_sum (P := Try.prog) w E O (by omega)
            rwa [hc] at this
          have hsz : E.size + O.size ≤ 9223372036854775807 := by omega
          clear i1 i2 i3 i4 hlim hpre hrow HI hds hE hO2 hy
          go_wp2_with (with_reducible refine G.any_mark _ ?_; (try generalize Array.size (World.heap (G.w _)) = bk); (try dsimp only [List.set_cons_zero, List.set_cons_succ]); (try clear g); intro g)
          refine (CT.out g).mono ?_
          rintro e w1 ⟨rfl, hb⟩
          obtain ⟨g1, rfl⟩ := G.call_ex _ hb
          clear hb
          (try clear g)
          revert g1
          intro g
          go_wp2_with (with_reducible refine G.any_mark _ ?_; (try generalize Array.size (World.heap (G.w _)) = bk); (try dsimp only [List.set_cons_zero, List.set_cons_succ]); (try clear g); intro g)
          go_roundg (x / 10)
          case measure => exact hlt
          case rel => exact ⟨ds ++ [x % 10], rcs, HD2, by rw [HO2.out], rfl, HPRE.out, g, rfl⟩
        | succ k =>
          rw [show ((k + 1 : Nat) : Int) - 1 = (k : Int) by omega]
          obtain ⟨i1, i2, i3, i4⟩ := HI.out
          have hkn : k < lx.length := by rw [HLX.out]; omega
          have hsm := small_step (l := lx) (k := k) (d := 10) (by decide) i3 i4
          have hX := hokx.getD k
          have hlen : (lx.take (k + 1) ++ qs).length = n := by rw [List.length_append, List.length_take, HLX.out]; omega
          have hcell := hrow.get hlen (show k < n by omega)
          have hge : (lx.take (k + 1) ++ qs).getD k 0 = lx.getD k 0 := by
            rw [List.getD_eq_getElem?_getD, List.getElem?_append_left (by rw [List.length_take]; omega), List.getElem?_take_of_lt (by omega), ← List.getD_eq_getElem?_getD]
          rw [hge] at hcell
          generalize lx.getD k 0 = X at *
          obtain ⟨t, ht⟩ : ∃ t, R * 4294967296 + X = t := ⟨_, rfl⟩
          rw [ht] at hsm
          obtain ⟨q, hq⟩ : ∃ q, t / 10 = q := ⟨_, rfl⟩
          obtain ⟨r, hr⟩ : ∃ r, t % 10 = r := ⟨_, rfl⟩
          rw [hq, hr] at hsm
          have hq9 : q < 4294967296 := by omega
          have hr9 : r < 10 := by omega
          have hset : (lx.take (k + 1) ++ qs).set k q = lx.take k ++ (q :: qs) := by
            rw [take_succ hkn, List.append_assoc, List.set_append_right _ _ (by rw [List.length_take]; omega), List.length_take, Nat.min_eq_left (by omega), Nat.sub_self]
            rfl
          have hrow2 := hrow.set (x := q) (show k < n by omega)
          rw [hset] at hrow2
          have HROW := Lib.hid hrow2
          have HI2 : Hid ((q :: qs).length + k = n ∧ Ok (q :: qs) ∧ val (q :: qs) = val (lx.drop k) / 10 ∧ r = val (lx.drop k) % 10) := Lib.hid ⟨by rw [List.length_cons]; omega, Ok.cons hq9 i2, hsm.1, hsm.2⟩
          have hor : bits .or .u64 ((R : Int) * 4294967296) (X : Int) = (t : Int) := by
            rw [show (R : Int) * 4294967296 = ((R * 4294967296 : Nat) : Int) by omega, K3.or64_comm, K3.or64_add _ _ 32 (by omega) (by omega) (by omega) (by omega)]
            omega
          have f1 : IntKind.u64.wrap ((R : Int) * 4294967296) = (R : Int) * 4294967296 := by rw [IntKind.wrap_u64]; omega
          have f2 : IntKind.u64.wrap (X : Int) = (X : Int) := by rw [IntKind.wrap_u64]; omega
          have f3 : Int.tdiv (t : Int) 10 = (q : Int) := by rw [Int.tdiv_eq_ediv_of_nonneg (by omega)]; omega
          have f4 : Int.tmod (t : Int) 10 = (r : Int) := by rw [Int.tmod_eq_emod_of_nonneg (by omega)]; omega
          have f5 : (t : Int) / 10 = (q : Int) := by omega
          have f6 : (t : Int) % 10 = (r : Int) := by omega
          have f7 : IntKind.u32.wrap (q : Int) = (q : Int) := by rw [IntKind.wrap_u32]; omega
          have hki : (k : Int) < (n : Int) := by omega
          have hk0 : (0 : Int) ≤ (k : Int) := by omega
          have hle' := hrow.le
          clear i1 i2 i3 i4 hsm hlen hge ht hq hr hset hrow2 hrow hkn HI
          go_wp2_with (with_reducible refine G.any_mark _ ?_; (try generalize Array.size (World.heap (G.w _)) = bk); (try dsimp only [List.set_cons_zero, List.set_cons_succ]); (try clear g); intro g)
          go_roundg k
          case measure => omega
          case rel => exact ⟨q :: qs, r, _, by omega, hr9, rfl, by go_num, HI2, HROW.out, g, rfl⟩
end Go.Proofs.Ytfifcpgjcgoinaa

set_option exponentiation.threshold 10000
namespace Go.Proofs.Ytfifcpgjcgoinaa
open Go.RowKit GW NL
theorem first_bad (l : List Nat) : ∀ n : Nat, (∀ j, j < n → ¬ NoDig (l.getD j 0)) ∨ ∃ i, i < n ∧ NoDig (l.getD i 0) ∧ ∀ j, j < i → ¬ NoDig (l.getD j 0)
  | 0 => .inl fun j h => absurd h (by omega)
  | n + 1 => by
    rcases first_bad l n with h | ⟨i, hi, h1, h2⟩
    · by_cases hb : NoDig (l.getD n 0)
      · exact .inr ⟨n, by omega, hb, h⟩
      · refine .inl fun j hj => ?_
        by_cases e : j = n
        · subst e; exact hb
        · exact h j (by omega)
    · exact .inr ⟨i, by omega, h1, h2⟩
theorem parse_both (s : ByteArray) (h9 : s.size ≤ 1000000000) : ∃ (v : Nat) (e p : Int), (∀ w, Calls Try.prog 23 #[.string s] w (RNF v e p w)) ∧ (∀ w, Calls Try.prog 24 #[.string s] w (RNF v e p w)) := by
  by_cases hn : 2467 < s.size
  · exact ⟨0, 4, 2467, fun w => Parse_long s w hn h9, fun w => rParse_long s w hn h9⟩
  · have hn' : s.size ≤ 2467 := by omega
    rcases first_bad (bl s) s.size with hd | ⟨i, hi, hb, hd⟩
    · by_cases hz : s.size = 0 ∨ (1 < s.size ∧ (bl s).getD 0 0 = 48)
      · exact ⟨0, 11, 0, fun w => Parse_form s w hn' hd hz, fun w => rParse_form s w hn' hd hz⟩
      · have h0 : s.size ≠ 0 := fun e => hz (.inl e)
        have hz' : ¬ (1 < s.size ∧ (bl s).getD 0 0 = 48) := fun e => hz (.inr e)
        by_cases hv : dv (bl s) s.size < 2 ^ 8192
        · exact ⟨_, 0, 0, fun w => (Parse_digits s w hn' h0 hd hz').mono fun e w' h => h.1 hv, fun w => (rParse_digits s w hn' h0 hd hz').mono fun e w' h => h.1 hv⟩
        · exact ⟨0, 5, 0, fun w => (Parse_digits s w hn' h0 hd hz').mono fun e w' h => h.2 hv, fun w => (rParse_digits s w hn' h0 hd hz').mono fun e w' h => h.2 hv⟩
    · exact ⟨0, 11, i, fun w => Parse_bad s w hn' i hi hb hd, fun w => rParse_bad s w hn' i hi hb hd⟩
theorem of_both (a : Int) (h1 : -9223372036854775808 ≤ a) (h2 : a ≤ 9223372036854775807) : ∃ (r : Nat) (x : Int), (∀ w, Calls Try.prog 19 #[.int .i64 a] w (RNE (r, x) w)) ∧ (∀ w, Calls Try.prog 20 #[.int .i64 a] w (RNE (r, x) w)) := by
  by_cases h0 : a < 0
  · exact ⟨0, 2, fun w => Of_neg a h0 h1 w, fun w => rOf_neg a h0 h1 w⟩
  · obtain ⟨n, rfl⟩ := Int.eq_ofNat_of_zero_le (show 0 ≤ a by omega)
    exact ⟨n, 0, fun w => Of_pos n (by omega) w, fun w => rOf_pos n (by omega) w⟩
theorem rText_ok (A : Option Addr) (c : Nat) (v : Nat) (w : World) (h : SlW w A c (limbs v)) (hv : v < 2 ^ 8192) :
    Calls Try.prog 22 #[.slice A (limbs v).length c] w fun e w' => e = .returned (.tuple #[.string (bstr (dec v)), .int .i64 0]) ∧ Below w.heap.size w w' := by
  by_cases h0 : v = 0
  · subst h0
    rw [limbs_zero] at h ⊢
    exact rText_zero A c w h
  · exact rText_pos A c v w h hv h0
theorem text_both (l : List Nat) : ∃ (S : ByteArray) (x : Int), (∀ A c w, SlW w A c l → Calls Try.prog 21 #[.slice A l.length c] w fun e w' => e = .returned (.tuple #[.string S, .int .i64 x]) ∧ Below w.heap.size w w') ∧ (∀ A c w, SlW w A c l → Calls Try.prog 22 #[.slice A l.length c] w fun e w' => e = .returned (.tuple #[.string S, .int .i64 x]) ∧ Below w.heap.size w w') := by
  by_cases hx : chk l = 0
  · refine ⟨bstr (dec (val l)), 0, fun A c w h => ?_, fun A c w h => ?_⟩
    · obtain ⟨e1, b1, _⟩ := chk_ok h.ok hx
      have := Text_ok A c (val l) w (by rw [← e1]; exact h) b1
      rwa [← e1] at this
    · obtain ⟨e1, b1, _⟩ := chk_ok h.ok hx
      have := rText_ok A c (val l) w (by rw [← e1]; exact h) b1
      rwa [← e1] at this
  · exact ⟨_, _, fun A c w h => Text_err A c l w h hx, fun A c w h => rText_err A c l w h hx⟩
set_option maxRecDepth 100000 in
set_option maxHeartbeats 2000000 in
theorem texts_walk (n : Int) (A1 : Option Addr) (c1 : Nat) (l1 : List Nat) (s : ByteArray) (hn1 : -9223372036854775808 ≤ n) (hn2 : n ≤ 9223372036854775807) (hs : s.size ≤ 140737488355328) (w : World) (h1 : SlW w A1 c1 l1) (hl1 : l1.length ≤ 35184372088832) :
    Calls Try.prog 5 #[.int .i64 n, .slice A1 l1.length c1, .string s] w fun e w' => e = .returned (.bool true) ∧ Below w.heap.size w w' := by
  refine calls_b fun g => ?_
  have CL := Lib.hid lives_any
  by_cases hlong : 60 < l1.length ∨ 2600 < s.size
  · have hc : 60 < l1.length ∨ (¬ 60 < l1.length ∧ 2600 < s.size) := by omega
    clear hlong
    generalize l1.length = n1 at *
    obtain ⟨z, hz⟩ : ∃ z, s.size = z := ⟨_, rfl⟩
    rw [hz] at hc hs
    rcases hc with h | ⟨h, h'⟩
    · have hi : (60 : Int) < (n1 : Int) := by omega
      clear h
      go_enter Try.func5, Try.ntmps5
      go_wp2_with (with_reducible refine G.any_mark _ ?_; (try generalize Array.size (World.heap (G.w _)) = bk); (try dsimp only [List.set_cons_zero, List.set_cons_succ]); (try clear g); intro g)
      refine (CL.out _).mono ?_
      rintro e w1 ⟨rfl, hb⟩
      obtain ⟨g1, rfl⟩ := G.call_ex _ hb
      clear hb
      (try clear g)
      revert g1
      intro g
      go_wp2_with (with_reducible refine G.any_mark _ ?_; (try generalize Array.size (World.heap (G.w _)) = bk); (try dsimp only [List.set_cons_zero, List.set_cons_succ]); (try clear g); intro g)
      go_ret
      exact ⟨rfl, g.below⟩
    · have hi : ¬ ((60 : Int) < (n1 : Int)) := by omega
      have hj : (2600 : Int) < (z : Int) := by omega
      clear h h'
      go_enter Try.func5, Try.ntmps5
      go_wp2_with (with_reducible refine G.any_mark _ ?_; (try generalize Array.size (World.heap (G.w _)) = bk); (try dsimp only [List.set_cons_zero, List.set_cons_succ]); (try clear g); intro g)
      refine (CL.out _).mono ?_
      rintro e w1 ⟨rfl, hb⟩
      obtain ⟨g1, rfl⟩ := G.call_ex _ hb
      clear hb
      (try clear g)
      revert g1
      intro g
      go_wp2_with (with_reducible refine G.any_mark _ ?_; (try generalize Array.size (World.heap (G.w _)) = bk); (try dsimp only [List.set_cons_zero, List.set_cons_succ]); (try clear g); intro g)
      go_ret
      exact ⟨rfl, g.below⟩
  · obtain ⟨r1, x1, ca, cb⟩ := of_both n hn1 hn2
    obtain ⟨S, x2, cc, cd⟩ := text_both l1
    obtain ⟨r3, x3, x4, ce, cf⟩ := parse_both s (by omega)
    have CA := Lib.hid ca
    have CB := Lib.hid cb
    have CC := Lib.hid cc
    have CD := Lib.hid cd
    have CE := Lib.hid ce
    have CF := Lib.hid cf
    have CS := Lib.hid (fun v => same_rv v)
    clear ca cb cc cd ce cf
    obtain ⟨z, hz⟩ : ∃ z, s.size = z := ⟨_, rfl⟩
    rw [hz] at hlong hs
    have hi : ¬ ((60 : Int) < (l1.length : Int)) := by omega
    have hj : ¬ ((2600 : Int) < (z : Int)) := by omega
    clear hlong
    generalize l1.length = n1 at *
    go_enter Try.func5, Try.ntmps5
    go_wp2_with (with_reducible refine G.any_mark _ ?_; (try generalize Array.size (World.heap (G.w _)) = bk); (try dsimp only [List.set_cons_zero, List.set_cons_succ]); (try clear g); intro g)
    refine (CL.out _).mono ?_
    rintro e w1 ⟨rfl, hb⟩
    obtain ⟨g1, rfl⟩ := G.call_ex _ hb
    clear hb
    (try clear g)
    revert g1
    intro g
    go_wp2_with (with_reducible refine G.any_mark _ ?_; (try generalize Array.size (World.heap (G.w _)) = bk); (try dsimp only [List.set_cons_zero, List.set_cons_succ]); (try clear g); intro g)
    refine (CA.out _).mono ?_
    rintro e w1 ⟨Aa, ca, Fa, rfl, hsa, hn⟩
    (try dsimp only at hsa)
    have hnna := fun k o hk => Nat.le_trans g.chg.size (hn.new k o hk)
    obtain ⟨g1, rfl⟩ := G.new_ex _ hn
    clear hn
    (try clear g)
    revert g1
    intro g
    go_wp2_with (with_reducible refine G.any_mark _ ?_; (try generalize Array.size (World.heap (G.w _)) = bk); (try dsimp only [List.set_cons_zero, List.set_cons_succ]); (try clear g); intro g)
    refine (CB.out _).mono ?_
    rintro e w1 ⟨Ab, cb, Fb, rfl, hsb, hn⟩
    (try dsimp only at hsb)
    have hnnb := fun k o hk => Nat.le_trans g.chg.size (hn.new k o hk)
    obtain ⟨g1, rfl⟩ := G.new_ex _ hn
    clear hn
    (try clear g)
    revert g1
    intro g
    go_wp2_with (with_reducible refine G.any_mark _ ?_; (try generalize Array.size (World.heap (G.w _)) = bk); (try dsimp only [List.set_cons_zero, List.set_cons_succ]); (try clear g); intro g)
    refine (CC.out _ _ _ (G.sl g (by simp) h1)).mono ?_
    rintro e w1 ⟨rfl, hb⟩
    obtain ⟨g1, rfl⟩ := G.call_ex _ hb
    clear hb
    (try clear g)
    revert g1
    intro g
    go_wp2_with (with_reducible refine G.any_mark _ ?_; (try generalize Array.size (World.heap (G.w _)) = bk); (try dsimp only [List.set_cons_zero, List.set_cons_succ]); (try clear g); intro g)
    refine (CD.out _ _ _ (G.sl g (by simp) h1)).mono ?_
    rintro e w1 ⟨rfl, hb⟩
    obtain ⟨g1, rfl⟩ := G.call_ex _ hb
    clear hb
    (try clear g)
    revert g1
    intro g
    go_wp2_with (with_reducible refine G.any_mark _ ?_; (try generalize Array.size (World.heap (G.w _)) = bk); (try dsimp only [List.set_cons_zero, List.set_cons_succ]); (try clear g); intro g)
    refine (CE.out _).mono ?_
    rintro e w1 ⟨Ac, cc, Fc, rfl, hsc, hn⟩
    (try dsimp only at hsc)
    have hnnc := fun k o hk => Nat.le_trans g.chg.size (hn.new k o hk)
    obtain ⟨g1, rfl⟩ := G.new_ex _ hn
    clear hn
    (try clear g)
    revert g1
    intro g
    go_wp2_with (with_reducible refine G.any_mark _ ?_; (try generalize Array.size (World.heap (G.w _)) = bk); (try dsimp only [List.set_cons_zero, List.set_cons_succ]); (try clear g); intro g)
    refine calls_mark _ ?_
    clear g
    intro g
    refine (CF.out _).mono ?_
    rintro e w1 ⟨Ad, cd, Fd, rfl, hsd, hn⟩
    (try dsimp only at hsd)
    have hnnd := fun k o hk => Nat.le_trans g.chg.size (hn.new k o hk)
    obtain ⟨g1, rfl⟩ := G.new_ex _ hn
    clear hn
    (try clear g)
    revert g1
    intro g
    go_wp2_with (with_reducible refine G.any_mark _ ?_; (try generalize Array.size (World.heap (G.w _)) = bk); (try dsimp only [List.set_cons_zero, List.set_cons_succ]); (try clear g); intro g)
    refine calls_mark _ ?_
    clear g
    intro g
    refine (CS.out _ _ _ _ _ _ (G.sl g (by simp) hsa) (G.sl g (by simp) hsb)).mono ?_
    rintro e w1 ⟨rfl, hb⟩
    obtain ⟨g1, rfl⟩ := G.call_ex _ hb
    clear hb
    (try clear g)
    revert g1
    intro g
    go_wp2_with (with_reducible refine G.any_mark _ ?_; (try generalize Array.size (World.heap (G.w _)) = bk); (try dsimp only [List.set_cons_zero, List.set_cons_succ]); (try clear g); intro g)
    refine (CS.out _ _ _ _ _ _ (G.sl g (by simp) hsc) (G.sl g (by simp) hsd)).mono ?_
    rintro e w1 ⟨rfl, hb⟩
    obtain ⟨g1, rfl⟩ := G.call_ex _ hb
    clear hb
    (try clear g)
    revert g1
    intro g
    go_wp2_with (with_reducible refine G.any_mark _ ?_; (try generalize Array.size (World.heap (G.w _)) = bk); (try dsimp only [List.set_cons_zero, List.set_cons_succ]); (try clear g); intro g)
    go_ret
    exact ⟨rfl, g.below⟩
end Go.Proofs.Ytfifcpgjcgoinaa
