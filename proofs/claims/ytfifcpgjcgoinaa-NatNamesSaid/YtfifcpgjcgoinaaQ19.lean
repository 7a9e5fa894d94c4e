/- Plain facts and contracts of functions of the program, out of walks. Their conditions stand ahead of each. -/
import Derived.Test.YtfifcpgjcgoinaaQ16
import Derived.Test.YtfifcpgjcgoinaaQ18
import Derived.Laws.IdiomStrings
set_option linter.unusedVariables false
set_option linter.unusedSimpArgs false
set_option exponentiation.threshold 10000
namespace Go.Proofs.Ytfifcpgjcgoinaa
open Go.RowKit GW NL
/-- the bytes of a text -/
def bl (s : ByteArray) : List Nat := s.data.toList.map UInt8.toNat
theorem bl_len (s : ByteArray) : (bl s).length = s.size := by simp [bl]
theorem bl_lt (s : ByteArray) : ∀ x ∈ bl s, x < 256 := by
  intro x hx
  obtain ⟨u, _, rfl⟩ := List.mem_map.1 hx
  exact u.toNat_lt
/-- In part F, block b reads as the bytes l. -/
def ByL (F : Frag) (b : Nat) (l : List Nat) : Prop := ∃ cs T f, F b = some (.cells cs T f) ∧ ∀ j, j < l.length → cs[j]? = some (.int .u8 ((l.getD j 0 : Nat) : Int))
theorem ByL.cell {F : Frag} {b : Nat} {l : List Nat} (h : ByL F b l) {w0 : World} {X : List Nat} {M : List Blk} {I : List Frag} (g : G w0 X M I) (hF : F ∈ I) {j : Nat} (hj : j < l.length) : g.w.cell? ⟨b, j, none⟩ = some (.int .u8 ((l.getD j 0 : Nat) : Int)) := by
  obtain ⟨cs, T, f, hb, hc⟩ := h
  have := g.sub F hF b _ hb
  simp [World.cell?, this, hc j hj]
theorem bytesRow_get (s : ByteArray) (c : Nat) (j : Nat) (hj : j < (bl s).length) : (bytesRow s c)[j]? = some (.int .u8 (((bl s).getD j 0 : Nat) : Int)) := by
  have hj' : j < s.data.toList.length := by simpa [bl] using hj
  have hj2 : j < s.data.size := by simpa using hj'
  unfold bytesRow
  rw [Array.getElem?_append_left (by simpa using hj2), Array.getElem?_map, Array.getElem?_eq_getElem hj2]
  unfold bl
  rw [List.getD_eq_getElem?_getD, List.getElem?_map, List.getElem?_eq_getElem hj']
  rfl
/-- a text turned to bytes -/
theorem conv_ex (s : ByteArray) : ∃ (capOf : World → Nat) (cvW : World → World) (fr : World → Frag), ∀ w, (convert 9 65 (.string s)).run Try.prog w = .ok (.slice (some ⟨w.heap.size, 0, none⟩) s.size (capOf w)) (cvW w) ∧ New w (cvW w) (fr w) ∧ ByL (fr w) w.heap.size (bl s) := by
  refine ⟨fun w => grownCap w s.size 0 5, fun w => w.drew.alloc (.cells (bytesRow s (grownCap w s.size 0 5)) 5 ((bytesRow s (grownCap w s.size 0 5)).size, (bytesRow s (grownCap w s.size 0 5)).size + 1)),
    fun w => blkF w.heap.size (.cells (bytesRow s (grownCap w s.size 0 5)) 5 ((bytesRow s (grownCap w s.size 0 5)).size, (bytesRow s (grownCap w s.size 0 5)).size + 1)), fun w => ⟨run_bytes_of_string w _ _ _ s Try.underlying9 Try.underlying65 Try.underlying5, ?_, ?_⟩⟩
  · refine ⟨⟨rfl, rfl, rfl, ?_, fun k hk => ?_⟩, blkF_sub ?_, fun k o hk => ?_⟩
    · show w.heap.size ≤ (w.heap.push _).size
      simp
    · show (w.heap.push _)[k]? = w.heap[k]?
      rw [Array.getElem?_push, if_neg (by omega)]
    · show (w.heap.push _)[w.heap.size]? = _
      simp
    · rw [blkF_at hk]; exact Nat.le_refl _
  · exact ⟨bytesRow s (grownCap w s.size 0 5), 5, _, if_pos rfl, fun j hj => bytesRow_get s _ j hj⟩
theorem digit_any (x : Nat) (hx : x < 256) (w : World) : Calls Try.prog 62 #[.int .u8 (x : Int)] w fun e w' => e = .returned (.bool (decide (x < 48 ∨ 57 < x))) ∧ w = w' := by
  by_cases h1 : x < 48
  · have h1i : (x : Int) < 48 := by omega
    rw [decide_eq_true (Or.inl h1)]
    go_enter Try.func62, Try.ntmps62
    go_wp2_with fail
    go_ret
    exact ⟨rfl, rfl⟩
  · have h1i : ¬ ((x : Int) < 48) := by omega
    have h1j : decide ((x : Int) < 48) = false := decide_eq_false h1i
    by_cases h2 : 57 < x
    · have h2i : (57 : Int) < (x : Int) := by omega
      rw [decide_eq_true (Or.inr h2)]
      clear h1 h2
      go_enter Try.func62, Try.ntmps62
      go_wp2_with fail
      go_ret
      exact ⟨rfl, rfl⟩
    · have h2j : decide ((57 : Int) < (x : Int)) = false := decide_eq_false (by omega)
      have h2i : ¬ ((57 : Int) < (x : Int)) := by omega
      rw [decide_eq_false (by omega)]
      clear h1 h2
      go_enter Try.func62, Try.ntmps62
      go_wp2_with fail
      go_ret
      exact ⟨rfl, rfl⟩
/-- no digit -/
def NoDig (x : Nat) : Prop := x < 48 ∨ 57 < x
instance (x : Nat) : Decidable (NoDig x) := by unfold NoDig; infer_instance
theorem index_any (b n cap : Nat) (l : List Nat) (w : World) (hn : l.length = n) (hn9 : n ≤ 1000000000) (hl : ∀ x ∈ l, x < 256) (hc : ∀ j, j < n → w.cell? ⟨b, j, none⟩ = some (.int .u8 ((l.getD j 0 : Nat) : Int))) :
    Calls Try.prog 61 #[.slice (some ⟨b, 0, none⟩) n cap, .func (.func 62) #[] #[]] w fun e w' => w = w' ∧ ((∃ i, i < n ∧ NoDig (l.getD i 0) ∧ (∀ j, j < i → ¬ NoDig (l.getD j 0)) ∧ e = .returned (.int .i64 (i : Int))) ∨ ((∀ j, j < n → ¬ NoDig (l.getD j 0)) ∧ e = .returned (.int .i64 (-1)))) := by
  go_enter Try.func61, Try.ntmps61
  go_wp2_with fail
  go_loopg [8] n (fun gk s8 wr => ∃ k : Nat, k + gk = n ∧ s8 = .int .i64 (k : Int) ∧ Hid (∀ j, j < k → ¬ NoDig (l.getD j 0)) ∧ wr = w)
  case atStart => exact ⟨0, by omega, rfl, fun j hj => by omega, rfl⟩
  case round =>
    obtain ⟨k, hk, rfl, HA, rfl⟩ := hrel
    by_cases hlt : k < n
    · have e1 := hc k hlt
      have hx : l.getD k 0 < 256 := by
        rw [List.getD_eq_getElem?_getD, List.getElem?_eq_getElem (by omega)]
        exact hl _ (List.getElem_mem _)
      have C1 := Lib.hid (fun w => digit_any (l.getD k 0) hx w)
      have HAll := HA
      clear hc
      have hki : (k : Int) < (n : Int) := by omega
      by_cases hb : NoDig (l.getD k 0)
      · rw [decide_eq_true (show l.getD k 0 < 48 ∨ 57 < l.getD k 0 from hb)] at C1
        have HB := Lib.hid hb
        clear hb hl
        generalize hgx : l.getD k 0 = x at *
        have HGX := Lib.hid hgx
        clear hgx
        go_wp2_with fail
        refine (C1.out _).mono ?_
        rintro e w1 ⟨rfl, rfl⟩
        go_wp2_with fail
        go_ret
        exact ⟨rfl, .inl ⟨k, hlt, by rw [HGX.out]; exact HB.out, HA.out, rfl⟩⟩
      · rw [decide_eq_false (show ¬ (l.getD k 0 < 48 ∨ 57 < l.getD k 0) from hb)] at C1
        have HB := Lib.hid hb
        clear hb hl
        generalize hgx : l.getD k 0 = x at *
        have HGX := Lib.hid hgx
        clear hgx
        go_wp2_with fail
        refine (C1.out _).mono ?_
        rintro e w1 ⟨rfl, rfl⟩
        go_wp2_with fail
        go_roundg (gk - 1)
        case measure => omega
        case rel => exact ⟨k + 1, by omega, by go_num, fun j hj => by
          rcases Nat.lt_or_ge j k with h | h
          · exact HA.out j h
          · obtain rfl : j = k := by omega
            rw [HGX.out]; exact HB.out, rfl⟩
    · have hkn : k = n := by omega
      have hki : ¬ ((k : Int) < (n : Int)) := by omega
      clear hc hl
      go_wp2_with fail
      go_ret
      exact ⟨rfl, .inr ⟨by rw [← hkn]; exact HA.out, rfl⟩⟩
end Go.Proofs.Ytfifcpgjcgoinaa
