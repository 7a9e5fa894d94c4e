/- Plain facts and contracts of functions of the program, out of walks. Their conditions stand ahead of each. -/
import Derived.Test.YtfifcpgjcgoinaaQ15
import Derived.Test.YtfifcpgjcgoinaaQ16
import Derived.Laws.Cells
set_option linter.unusedVariables false
set_option linter.unusedSimpArgs false
set_option exponentiation.threshold 10000
namespace Go.Proofs.Ytfifcpgjcgoinaa
open Go.RowKit GW NL
/-- a text of bytes -/
def bstr (l : List Nat) : ByteArray := (l.map fun x : Nat => (x : Int)).foldl (fun r n => r.push (UInt8.ofNat n.toNat)) ByteArray.empty
theorem load_bytes (P : Program) (w : World) (b n : Nat) (l : List Nat) (tl : List Value) (T : TypeId) (hn : l.length = n) (hb : w.heap[b]? = some (.cells (u8s l ++ tl).toArray T (0, 0))) :
    (loadCells ⟨b, 0, none⟩ n).run P w = .ok ((l.map fun x : Nat => (x : Int)).map (Value.int .u8)).toArray w := by
  have h := run_loadCells_list (P := P) (w := w) ⟨b, 0, none⟩ ((l.map fun x : Nat => (x : Int)).map (Value.int .u8)) (by
    intro j v hj
    have hlt : j < l.length := by
      have := (List.getElem?_eq_some_iff.1 hj).1
      simpa using this
    rw [add_off]
    refine (cell_of_row w b j _ _ _ hb).trans ?_
    rw [List.getElem?_toArray, List.getElem?_append_left (by rw [u8s_len]; exact hlt), ← hj]
    simp only [u8s, List.getElem?_map, Option.map_map]
    rfl)
  simp only [List.length_map, hn] at h
  exact h
theorem string_of (P : Program) (w : World) (src dst e : TypeId) (b n cap : Nat) (l : List Nat) (tl : List Value) (T : TypeId) (hs : P.underlying src = some (.slice e)) (he : P.underlying e = some (.int .u8)) (hd : P.underlying dst = some .string) (hn : l.length = n) (hb : w.heap[b]? = some (.cells (u8s l ++ tl).toArray T (0, 0))) :
    (convert src dst (.slice (some ⟨b, 0, none⟩) n cap)).run P w = .ok (.string (bstr l)) w := by
  rw [run_convert_bytes_string w src dst e _ n cap hs he hd]
  exact run_bytesToString w _ _ _ _ (load_bytes P w b n l tl T hn hb)
theorem text1_d (g0 : World) (X : List Nat) (R : List Blk) (I : List Frag) (b db tb n cap : Nat) (l : List Nat) (tl : List Value) (s0 : Value) (hn : l.length = n) (hn9 : n ≤ 1000000000) (hc : n ≤ cap)
    (g : G g0 X ((b, 5, u8s l ++ tl) :: (db, 65, [.slice (some ⟨b, 0, none⟩) n cap]) :: (tb, 9, [s0]) :: R) I) (u : FrameMode) :
    CallsD Try.prog 58 #[.pointer (some ⟨db, 0, none⟩), .pointer (some ⟨tb, 0, none⟩)] u g.w fun e u' w' => u' = u ∧ (e = .returned (.tuple #[]) ∧
      ∃ g' : G g0 X ((b, 5, u8s l.reverse ++ tl) :: (db, 65, [.slice (some ⟨b, 0, none⟩) n cap]) :: (tb, 9, [.string (bstr l.reverse)]) :: R) I, w' = g'.w) := by
  have CR := Lib.hid (fun w hb => reverse_any b n cap 5 l tl w hn hn9 hc hb)
  have hst := fun (w : World) (h : w.heap[b]? = some (.cells (u8s l.reverse ++ tl).toArray 5 (0, 0))) => string_of Try.prog w 65 9 5 b n cap l.reverse tl 5 Try.underlying65 Try.underlying5 Try.underlying9 (by rw [List.length_reverse]; exact hn) h
  have HST := Lib.hid hst
  clear hst
  go_enter_d Try.func58, Try.ntmps58
  go_wp2_with (with_reducible refine G.any_mark _ ?_; (try generalize Array.size (World.heap (G.w _)) = bk); (try dsimp only [List.set_cons_zero, List.set_cons_succ]); (try clear g); intro g)
  refine (CR.out _ g.blk0).mono ?_
  rintro e w1 ⟨rfl, hch, hcb⟩
  obtain ⟨g1, rfl⟩ := G.mut0 _ hch hcb
  clear hch hcb g
  revert g1
  intro g
  have hst := HST.out g.w g.blk0
  go_wp2_with (with_reducible refine G.any_mark _ ?_; (try generalize Array.size (World.heap (G.w _)) = bk); (try dsimp only [List.set_cons_zero, List.set_cons_succ]); (try clear g); intro g)
  go_end0
  exact ⟨rfl, _, rfl⟩
/-- the text of a number, as bytes -/
def dec (v : Nat) : List Nat := if v = 0 then [48] else ((digs v).map (48 + ·)).reverse
theorem infoU8 : (Try.prog.info? 5).map (fun i => (i.zero, i.size, i.bytes)) = some (some (.int .u8 0), 1, 1) := by kernel_rfl
theorem calls_bd {P : Program} {f : FuncId} {args : Array Value} {w : World} {R : Ending → World → Prop} (h : ∀ g : G w [] [] [heapOf w, heapOf w], Calls P f args g.w R) : Calls P f args w R := by
  obtain ⟨g, e⟩ := G.lessI (G.begin w) (I' := [heapOf w, heapOf w]) (by simp)
  have := h g
  rw [← e] at this
  exact this
theorem Text_err (A : Option Addr) (c : Nat) (l : List Nat) (w : World) (h : SlW w A c l) (hc : chk l ≠ 0) :
    Calls Try.prog 21 #[.slice A l.length c] w fun e w' => e = .returned (.tuple #[.string { data := #[] }, .int .i64 (chk l)]) ∧ Below w.heap.size w w' := by
  refine calls_b fun g => ?_
  have C1 := Lib.hid (fun w h => check_any A c l w h)
  have hx : (chk l == 0) = false := by simpa using hc
  clear hc
  generalize chk l = r at *
  generalize l.length = n at *
  go_enter_defers Try.func21, Try.ntmps21
  go_wp2_with (with_reducible refine G.any_mark _ ?_; (try generalize Array.size (World.heap (G.w _)) = bk); (try dsimp only [List.set_cons_zero, List.set_cons_succ]); (try clear g); intro g)
  refine (C1.out _ (G.sl g (by simp) h)).mono ?_
  rintro e w1 ⟨rfl, hb⟩
  obtain ⟨g1, rfl⟩ := G.call_ex _ hb
  clear hb
  (try clear g)
  revert g1
  intro g
  go_wp2_with (with_reducible refine G.any_mark _ ?_; (try generalize Array.size (World.heap (G.w _)) = bk); (try dsimp only [List.set_cons_zero, List.set_cons_succ]); (try clear g); intro g)
  refine ⟨.tuple #[.string { data := #[] }, .int .i64 r], by simp [results, Try.f21, go_sem], rfl, G.below _⟩
theorem Text_zero (A : Option Addr) (c : Nat) (w : World) (h : SlW w A c []) :
    Calls Try.prog 21 #[.slice A 0 c] w fun e w' => e = .returned (.tuple #[.string (bstr (dec 0)), .int .i64 0]) ∧ Below w.heap.size w w' := by
  refine calls_b fun g => ?_
  have e0 : bstr (dec 0) = { data := #[48] } := by rfl
  rw [e0]
  have C1 := Lib.hid (fun w h => check_any A c [] w h)
  have hck : chk [] = 0 := by decide
  rw [hck, List.length_nil] at C1
  go_enter_defers Try.func21, Try.ntmps21
  go_wp2_with (with_reducible refine G.any_mark _ ?_; (try generalize Array.size (World.heap (G.w _)) = bk); (try dsimp only [List.set_cons_zero, List.set_cons_succ]); (try clear g); intro g)
  refine (C1.out _ (G.sl g (by simp) h)).mono ?_
  rintro e w1 ⟨rfl, hb⟩
  obtain ⟨g1, rfl⟩ := G.call_ex _ hb
  clear hb
  (try clear g)
  revert g1
  intro g
  go_wp2_with (with_reducible refine G.any_mark _ ?_; (try generalize Array.size (World.heap (G.w _)) = bk); (try dsimp only [List.set_cons_zero, List.set_cons_succ]); (try clear g); intro g)
  refine ⟨.tuple #[.string { data := #[48] }, .int .i64 0], by simp [results, Try.f21, go_sem], rfl, G.below _⟩
theorem digs_len_v {v : Nat} (h : v < 2 ^ 8192) : (digs v).length ≤ 2500 := digs_len v 2500 (Nat.lt_of_lt_of_le h (Nat.le_of_ble_eq_true rfl))
/-- the number that a slice reads as -/
def mval (s : Value) (w : World) : Nat := match s with
  | .slice (some a) n _ => val ((List.range n).map fun j => (match w.cell? ⟨a.block, a.off + j, none⟩ with | some v => (intOf v).toNat | none => 0))
  | _ => 0
theorem mval_eq {w : World} {A : Option Addr} {c : Nat} {l : List Nat} (h : SlW w A c l) : mval (.slice A l.length c) w = val l := by
  by_cases h0 : 0 < l.length
  · obtain ⟨b, o, rfl, hc⟩ := limW_cell h.lim h0
    show val _ = val l
    congr 1
    apply List.ext_getElem
    · simp
    · intro j h1 h2
      rw [List.getElem_map, List.getElem_range]
      rw [hc j h2, List.getD_eq_getElem?_getD, List.getElem?_eq_getElem h2]
      show ((l[j] : Nat) : Int).toNat = l[j]
      omega
  · have : l = [] := List.eq_nil_of_length_eq_zero (by omega)
    subst this
    cases A <;> rfl
/-- digits in memory: none yet, or a row of them -/
theorem digs_step {v x : Nat} {ds : List Nat} (h : digs v = ds ++ digs x) (h0 : x ≠ 0) : digs v = (ds ++ [x % 10]) ++ digs (x / 10) := by
  rw [h, digs_pos h0, List.append_assoc]; rfl
set_option maxHeartbeats 1000000 in
theorem Text_pos (A : Option Addr) (c : Nat) (v : Nat) (w : World) (h : SlW w A c (limbs v)) (hv : v < 2 ^ 8192) (h0 : v ≠ 0) :
    Calls Try.prog 21 #[.slice A (limbs v).length c] w fun e w' => e = .returned (.tuple #[.string (bstr (dec v)), .int .i64 0]) ∧ Below w.heap.size w w' := by
  refine calls_bd fun g => ?_
  have hl : (limbs v).length ≤ 256 := (limbs_len v 256).2 (by rw [pow32]; exact hv)
  have hp : 0 < (limbs v).length := by
    rcases Nat.eq_zero_or_pos (limbs v).length with h1 | h1
    · exact absurd (limbs_nil.1 (List.eq_nil_of_length_eq_zero h1)) h0
    · exact h1
  have C1 := Lib.hid (fun w h => check_any A c (limbs v) w h)
  rw [chk_limbs hv] at C1
  have hne : (((limbs v).length : Int) == 0) = false := by rw [beq_eq_false_iff_ne]; omega
  have hmf : ∀ (fn : Fn) (first cap : Array Value) (w : World), (Instr.makeFunc fn first cap).run Try.prog w = .ok (.func fn first cap) w := fun _ _ _ _ => rfl
  obtain ⟨i0, hi, hz0, hz1, hz2⟩ := info_parts infoU8
  have HL := Lib.hid (show (limbs v).length = (limbs v).length from rfl)
  go_enter_defers Try.func21, Try.ntmps21
  go_wp2_with (with_reducible refine G.any_mark _ ?_; (try generalize Array.size (World.heap (G.w _)) = bk); (try dsimp only [List.set_cons_zero, List.set_cons_succ]); (try clear g); intro g)
  refine (C1.out _ (G.sl g (by simp) h)).mono ?_
  rintro e w1 ⟨rfl, hb⟩
  obtain ⟨g1, rfl⟩ := G.call_ex _ hb
  clear hb
  (try clear g)
  revert g1
  intro g
  go_wp2_with (with_reducible refine G.any_mark _ ?_; (try generalize Array.size (World.heap (G.w _)) = bk); (try dsimp only [List.set_cons_zero, List.set_cons_succ]); (try clear g); intro g)
  rename_i tb _ _
  go_loopw [0] (fun s wr => ∃ (x c' : Nat) (A' : Option Addr) (F : Frag) (ds : List Nat), s = .slice A' (limbs x).length c' ∧ F.Sl A' c' (limbs x) ∧ digs v = ds ++ digs x ∧ x ≤ v ∧
      ((ds = [] ∧ ∃ g : G w [] [(bk, 65, [.slice none 0 0]), (tb, 9, [.string { data := #[] }])] [F, heapOf w], wr = g.w) ∨
       (∃ b cap cs, Row 5 1 ds.length (u8s (ds.map (48 + ·))) cap cs ∧ w.heap.size ≤ b ∧ ∃ g : G w [] [(b, 5, cs), (bk, 65, [.slice (some ⟨b, 0, none⟩) ds.length cap]), (tb, 9, [.string { data := #[] }])] [F, heapOf w], wr = g.w)))
    (fun s wr => mval s wr)
  case atStart => exact ⟨v, c, A, heapOf w, [], rfl, h, rfl, Nat.le_refl _, .inl ⟨rfl, g, rfl⟩⟩
  case round =>
    obtain ⟨db, rfl⟩ : ∃ db : Nat, db = bk := ⟨_, rfl⟩
    clear g C1 hne HL hp hl
    obtain ⟨x, c', A', F, ds, rfl, hF, hds, hxv, hcase⟩ := hrel
    have hx9 := Nat.lt_of_le_of_lt hxv hv
    have hl : (limbs x).length ≤ 256 := (limbs_len x 256).2 (by rw [pow32]; exact hx9)
    have HD := Lib.hid hds
    clear hds hx9
    by_cases hx : x = 0
    · subst hx
      rw [limbs_zero, List.length_nil]
      rcases hcase with ⟨rfl, g, rfl⟩ | ⟨b, cap, cs, hr, hb, g, rfl⟩
      · exfalso
        have := HD.out
        rw [digs_zero, digs_pos h0] at this
        cases this
      · go_wp2_with (with_reducible refine G.any_mark _ ?_; (try generalize Array.size (World.heap (G.w _)) = bk); (try dsimp only [List.set_cons_zero, List.set_cons_succ]); (try clear g); intro g)
        have hcs : cs = u8s (ds.map (48 + ·)) ++ cs.drop ds.length := by
          have := hr.take
          rw [Nat.mul_one] at this
          rw [← this, List.take_append_drop]
        have hlen : ds.length ≤ 2500 := by
          have h1 := digs_len_v hv
          rw [HD.out, List.length_append] at h1
          omega
        have hle := hr.le
        generalize cs.drop ds.length = tl at hcs
        subst hcs
        refine G.any_mark _ ?_
        intro g
        refine leaves_cons (f := 58) (args := #[.pointer (some ⟨db, 0, none⟩), .pointer (some ⟨tb, 0, none⟩)]) (by simp) (by simp [go_sem]) ?_
        refine (text1_d w [] [] _ b db tb ds.length cap (ds.map (48 + ·)) tl _ (by simp) (by omega) hle g _).mono ?_
        rintro e u' w'' ⟨rfl, rfl, g', rfl⟩
        have hfin : bstr (dec v) = bstr (ds.map (48 + ·)).reverse := by
          unfold dec
          rw [if_neg h0, HD.out, digs_zero, List.append_nil]
        rw [hfin]
        exact ⟨.tuple #[.string (bstr (ds.map (48 + ·)).reverse), .int .i64 0], by simp [results, Try.f21, go_sem], rfl, g'.below⟩
    · have CS := Lib.hid (fun w h => small_any A' c' (limbs x) 10 w h (by omega) (by omega) (by omega))
      rw [val_limbs] at CS
      have HN := Lib.hid (digs_step HD.out hx)
      have hp : 0 < (limbs x).length := by
        rcases Nat.eq_zero_or_pos (limbs x).length with h1 | h1
        · exact absurd (limbs_nil.1 (List.eq_nil_of_length_eq_zero h1)) hx
        · exact h1
      have hlen : (ds ++ [x % 10]).length ≤ 2500 := by
        have h1 := digs_len_v hv
        rw [HN.out, List.length_append] at h1
        omega
      rw [List.length_append, List.length_singleton] at hlen
      have hr10 : x % 10 < 10 := Nat.mod_lt _ (by decide)
      have hlt : x / 10 < x := Nat.div_lt_self (Nat.pos_of_ne_zero hx) (by decide)
      obtain ⟨y, hy⟩ : ∃ y, 48 + x % 10 = y := ⟨_, rfl⟩
      have HY := Lib.hid hy
      have hw1 : IntKind.u32.wrap (48 + ((x % 10 : Nat) : Int)) = (y : Int) := by rw [IntKind.wrap_u32]; omega
      have H1 : ∀ u ∈ [Value.int .u8 (y : Int)], u.oneCell' = true := by intro u hu; rw [List.mem_singleton.1 hu]; rfl
      have hw2 : IntKind.u8.wrap (y : Int) = (y : Int) := by rw [IntKind.wrap_u8]; omega
      have hlt' : x / 10 ≤ v := by omega
      clear hy hlt'
      rcases hcase with ⟨rfl, g, rfl⟩ | ⟨b, cap, cs, hrow, hb, g, rfl⟩
      · have MV := Lib.hid (mval_eq (g.sl (by simp) hF))
        go_wp2_with (with_reducible refine G.any_mark _ ?_; (try generalize Array.size (World.heap (G.w _)) = bk); (try dsimp only [List.set_cons_zero, List.set_cons_succ]); (try clear g); intro g)
        refine (CS.out _ (g.sl (by simp) hF)).mono ?_
        rintro e w1 ⟨A2, c2, F2, rfl, hs2, hn⟩
        obtain ⟨g1, rfl⟩ := G.new_ex _ hn
        clear hn
        obtain ⟨g2, hg2⟩ := G.lessI g1 (I' := [F2, heapOf w]) (by simp)
        rw [hg2]
        clear hg2 g1
        generalize ((x % 10 : Nat) : Int) = r at *
        go_wp2_with (first | (at_builtin; refine wpList_append_lit0 rfl _ _ 65 rfl 5 i0 _ 1 1 Try.underlying65 hi hz0 hz1 hz2 rfl (by decide) g3 rfl 1 rfl rfl H1 (by decide) (by decide) (by decide) ?_; intro b cap cs g3 hb hrow) | (with_reducible refine G.any_mark _ ?_; (try generalize Array.size (World.heap (G.w _)) = bk); (try dsimp only [List.set_cons_zero, List.set_cons_succ]); intro g3))
        refine ⟨⟨x / 10, c2, A2, F2, [x % 10], rfl, hs2, HN.out, by omega, .inr ⟨b, cap, cs, ?_, hb, g3.st1 0 (.slice (some ⟨b, 0, none⟩) 1 cap), rfl⟩⟩, ?_⟩
        · have e : u8s ([x % 10].map (48 + ·)) = [.int .u8 (y : Int)] := by simp only [u8s, List.map_cons, List.map_nil, HY.out]
          rw [e]; exact hrow
        · refine Nat.lt_of_le_of_lt (Nat.le_of_eq (mval_eq ((g3.st1 0 (.slice (some ⟨b, 0, none⟩) 1 cap)).sl (by simp) hs2))) ?_
          rw [MV.out, val_limbs, val_limbs]; exact hlt
      · have MV := Lib.hid (mval_eq (g.sl (by simp) hF))
        obtain ⟨n, hn⟩ : ∃ n, ds.length = n := ⟨_, rfl⟩
        have HDN := Lib.hid hn
        rw [hn] at hrow hlen
        have H2 : n + 1 ≤ maxLen := by show n + 1 ≤ 9223372036854775807; omega
        have H3 : (n + 1) * 1 ≤ 140737488355328 := by omega
        have ec : Hid ((n : Int) = ((ds.length : Nat) : Int)) := Lib.hid (by rw [hn])
        obtain ⟨g0, hg0⟩ : ∃ g0 : G w [] [(b, 5, cs), (db, 65, [.slice (some ⟨b, 0, none⟩) n cap]), (tb, 9, [.string { data := #[] }])] [F, heapOf w], g.w = g0.w := g.as (by rw [hn])
        have MV0 : Hid (mval (Value.slice A' (limbs x).length c') g0.w = val (limbs x)) := Lib.hid (by rw [← hg0]; exact MV.out)
        rw [hg0]
        clear hn hg0 MV g
        go_wp2_with (with_reducible refine G.any_mark _ ?_; (try generalize Array.size (World.heap (G.w _)) = bk); (try dsimp only [List.set_cons_zero, List.set_cons_succ]); (try clear g); intro g)
        refine (CS.out _ (g0.sl (by simp) hF)).mono ?_
        rintro e w1 ⟨A2, c2, F2, rfl, hs2, hn⟩
        obtain ⟨g1, rfl⟩ := G.new_ex _ hn
        clear hn
        obtain ⟨g2, hg2⟩ := G.lessI g1 (I' := [F2, heapOf w]) (by simp)
        rw [hg2]
        clear hg2 g1
        generalize ((x % 10 : Nat) : Int) = r at *
        go_wp2_with (first | (at_builtin; refine wpList_append_lit rfl _ _ 65 rfl 5 i0 _ 1 1 Try.underlying65 hi hz0 hz1 hz2 rfl (by decide) g3 hrow hb rfl 1 rfl rfl H1 (by decide) H2 H3 ?_; clear hb hrow; intro b cap cs g3 hb hrow) | (with_reducible refine G.any_mark _ ?_; (try generalize Array.size (World.heap (G.w _)) = bk); (try dsimp only [List.set_cons_zero, List.set_cons_succ]); intro g3))
        obtain ⟨g5, hg5⟩ : ∃ g5 : G w [] [(b, 5, cs), (db, 65, [.slice (some ⟨b, 0, none⟩) (ds ++ [x % 10]).length cap]), (tb, 9, [.string { data := #[] }])] [F2, heapOf w], (g3.st1 0 (.slice (some ⟨b, 0, none⟩) (n + 1) cap)).w = g5.w := G.as _ (by rw [List.length_append, HDN.out]; rfl)
        refine ⟨⟨x / 10, c2, A2, F2, ds ++ [x % 10], rfl, hs2, HN.out, by omega, .inr ⟨b, cap, cs, ?_, hb, g5, hg5⟩⟩, ?_⟩
        · have e : u8s ((ds ++ [x % 10]).map (48 + ·)) = u8s (ds.map (48 + ·)) ++ [.int .u8 (y : Int)] := by rw [List.map_append, u8s_append]; simp only [u8s, List.map_cons, List.map_nil, HY.out]
          rw [e, List.length_append, List.length_singleton, HDN.out]; exact hrow
        · have e := mval_eq (g5.sl (by simp) hs2)
          rw [← hg5] at e
          refine Nat.lt_of_le_of_lt (Nat.le_of_eq e) ?_
          rw [MV0.out, val_limbs, val_limbs]; exact hlt
theorem Text_ok (A : Option Addr) (c : Nat) (v : Nat) (w : World) (h : SlW w A c (limbs v)) (hv : v < 2 ^ 8192) :
    Calls Try.prog 21 #[.slice A (limbs v).length c] w fun e w' => e = .returned (.tuple #[.string (bstr (dec v)), .int .i64 0]) ∧ Below w.heap.size w w' := by
  by_cases h0 : v = 0
  · subst h0
    rw [limbs_zero] at h ⊢
    exact Text_zero A c w h
  · exact Text_pos A c v w h hv h0
end Go.Proofs.Ytfifcpgjcgoinaa
namespace Go.Proofs.Ytfifcpgjcgoinaa
open Go.RowKit GW NL
theorem Mul_ok (A1 A2 : Option Addr) (c1 c2 a b : Nat) (w : World) (h1 : SlW w A1 c1 (limbs a)) (h2 : SlW w A2 c2 (limbs b)) (ha : a < 2 ^ 8192) (hb : b < 2 ^ 8192) (hab : a * b < 2 ^ 8192) :
    Calls Try.prog 14 #[.slice A1 (limbs a).length c1, .slice A2 (limbs b).length c2] w (RNE (a * b, 0) w) := by
  have l1 : (limbs a).length ≤ 256 := (limbs_len a 256).2 (by rw [pow32]; exact ha)
  have l2 : (limbs b).length ≤ 256 := (limbs_len b 256).2 (by rw [pow32]; exact hb)
  have := Mul_any A1 A2 c1 c2 (limbs a) (limbs b) w h1 h2 (by omega) (by omega)
  rw [val_limbs, val_limbs] at this
  have hx : chk2 (limbs a) (limbs b) = 0 := by unfold chk2; rw [chk_limbs ha, chk_limbs hb]; rfl
  rw [hx] at this
  unfold outN at this
  rwa [if_neg (by simp), if_pos hab] at this
theorem Add_ok (A1 A2 : Option Addr) (c1 c2 a b : Nat) (w : World) (h1 : SlW w A1 c1 (limbs a)) (h2 : SlW w A2 c2 (limbs b)) (ha : a < 2 ^ 8192) (hb : b < 2 ^ 8192) (hab : a + b < 2 ^ 8192) :
    Calls Try.prog 17 #[.slice A1 (limbs a).length c1, .slice A2 (limbs b).length c2] w (RNE (a + b, 0) w) := by
  have l1 : (limbs a).length ≤ 256 := (limbs_len a 256).2 (by rw [pow32]; exact ha)
  have l2 : (limbs b).length ≤ 256 := (limbs_len b 256).2 (by rw [pow32]; exact hb)
  have := Add_any A1 A2 c1 c2 (limbs a) (limbs b) w h1 h2 (by omega) (by omega)
  rw [val_limbs, val_limbs] at this
  have hx : chk2 (limbs a) (limbs b) = 0 := by unfold chk2; rw [chk_limbs ha, chk_limbs hb]; rfl
  rw [hx] at this
  unfold outN at this
  rwa [if_neg (by simp), if_pos hab] at this
theorem Sub_ok (A1 A2 : Option Addr) (c1 c2 a b : Nat) (w : World) (h1 : SlW w A1 c1 (limbs a)) (h2 : SlW w A2 c2 (limbs b)) (ha : a < 2 ^ 8192) (hb : b < 2 ^ 8192) (hab : b ≤ a) :
    Calls Try.prog 25 #[.slice A1 (limbs a).length c1, .slice A2 (limbs b).length c2] w (RNE (a - b, 0) w) := by
  have := Sub_any A1 A2 c1 c2 (limbs a) (limbs b) w h1 h2
  rw [val_limbs, val_limbs] at this
  have hx : chk2 (limbs a) (limbs b) = 0 := by unfold chk2; rw [chk_limbs ha, chk_limbs hb]; rfl
  rw [hx] at this
  unfold outS at this
  rwa [if_neg (by simp), if_neg (by omega)] at this
theorem is_yes (A1 A2 : Option Addr) (c1 c2 : Nat) (l : List Nat) (w : World) (h1 : SlW w A1 c1 l) (h2 : SlW w A2 c2 l) :
    Calls Try.prog 45 #[.slice A1 l.length c1, .int .i64 0, .slice A2 l.length c2] w fun e w' => e = .returned (.bool true) ∧ Below w.heap.size w w' := by
  refine calls_b fun g => ?_
  have CS := Lib.hid (fun w h1 h2 => same_any A1 A2 c1 c2 l w h1 h2)
  generalize l.length = n at *
  go_enter Try.func45, Try.ntmps45
  go_wp2_with (with_reducible refine G.any_mark _ ?_; (try generalize Array.size (World.heap (G.w _)) = bk); (try dsimp only [List.set_cons_zero, List.set_cons_succ]); (try clear g); intro g)
  refine (CS.out _ (G.sl g (by simp) h1) (G.sl g (by simp) h2)).mono ?_
  rintro e w1 ⟨rfl, hb⟩
  obtain ⟨g1, rfl⟩ := G.call_ex _ hb
  clear hb
  (try clear g)
  revert g1
  intro g
  go_wp2_with (with_reducible refine G.any_mark _ ?_; (try generalize Array.size (World.heap (G.w _)) = bk); (try dsimp only [List.set_cons_zero, List.set_cons_succ]); (try clear g); intro g)
  go_ret
  exact ⟨rfl, g.below⟩
/-- the limbs that valid leaves -/
def cut (l : List Nat) (n : Nat) : Nat := val (l.take n)
set_option maxRecDepth 20000 in
theorem valid_any (A : Option Addr) (c : Nat) (l : List Nat) (m : Nat) (w : World) (h : SlW w A c l) (hl9 : l.length ≤ 35184372088832) (hm : m ≤ 1000000) :
    Calls Try.prog 12 #[.slice A l.length c, .int .i64 (m : Int)] w (RNat (cut l m) w) := by
  refine calls_b fun g => ?_
  have hk := h.ok
  have CO := Lib.hid (fun w h => own_any A c l w h hl9)
  unfold cut
  obtain ⟨n, hn⟩ : ∃ n, (l.take m).length = n := ⟨_, rfl⟩
  have hml : (l.length ≤ m ∧ n = l.length) ∨ (m < l.length ∧ n = m) := by rw [List.length_take] at hn; omega
  obtain ⟨l', hl'⟩ : ∃ l', l.take m = l' := ⟨_, rfl⟩
  rw [hl'] at hn ⊢
  have HLP := Lib.hid hl'
  clear hl'
  have HN := Lib.hid hn
  clear hn
  obtain ⟨L, hL⟩ : ∃ L, l.length = L := ⟨_, rfl⟩
  rw [hL] at CO hml ⊢
  have HL := Lib.hid hL
  clear hL
  go_enter Try.func12, Try.ntmps12
  go_wp2_with (with_reducible refine G.any_mark _ ?_; (try generalize Array.size (World.heap (G.w _)) = bk); (try dsimp only [List.set_cons_zero, List.set_cons_succ]); (try clear g); intro g)
  refine (CO.out _ (G.sl g (by simp) h)).mono ?_
  rintro e w1 ⟨A1, c1, F, rfl, hs, hnw⟩
  have hnn := fun k o hk => Nat.le_trans g.chg.size (hnw.new k o hk)
  obtain ⟨g1, rfl⟩ := G.new_ex _ hnw
  clear hnw g CO
  revert g1
  intro g
  rw [HL.out]
  have hs2 := hs.take m
  rw [HLP.out] at hs2
  have hmx := hs.max
  have hcp := hs.cap
  rw [HL.out] at hcp
  clear hs HL HLP
  rcases hml with ⟨h1, h2⟩ | ⟨h1, h2⟩
  · subst h2
    have hlt : ¬ ((m : Int) < (n : Int)) := by omega
    go_wp2_with (with_reducible refine G.any_mark _ ?_; (try generalize Array.size (World.heap (G.w _)) = bk); (try dsimp only [List.set_cons_zero, List.set_cons_succ]); (try clear g); intro g)
    go_loopw [5] (fun v wr => ∃ k : Nat, k ≤ n ∧ v = .slice A1 k c1 ∧ Hid (val (l'.take k) = val l') ∧ ∃ g : G w [] [] [F, heapOf w], wr = g.w) (fun v _ => match v with | .slice _ k _ => k | _ => 0)
    case atStart => exact ⟨n, Nat.le_refl _, rfl, Lib.hid (by rw [← HN.out, List.take_length]), g, rfl⟩
    case round =>
      clear g
      obtain ⟨k, hk1, rfl, HV, g, rfl⟩ := hrel
      by_cases h0 : 0 < k
      · have hkn : k - 1 < l'.length := by rw [HN.out]; omega
        obtain ⟨b, o, rfl, hcell⟩ := lim_cells hs2.lim (by omega)
        have e1 := hcell (k - 1) hkn _ _ _ _ g (by simp)
        clear hcell hkn
        have h0' : (0 : Int) < (k : Int) := by omega
        by_cases hx : l'.getD (k - 1) 0 = 0
        · have hv' : val (l'.take (k - 1)) = val l' := by
            rw [← HV.out]
            have := val_take_getD l' (k - 1)
            rw [show k - 1 + 1 = k by omega, hx] at this
            omega
          have HV' := Lib.hid hv'
          clear hv'
          have hx1 : (((l'.getD (k - 1) 0 : Nat) : Int) == 0) = true := by simp only [hx]; rfl
          clear hx
          generalize ((l'.getD (k - 1) 0 : Nat) : Int) = v at *
          go_wp2_with fail
          refine ⟨⟨k - 1, by omega, ?_, HV', g, rfl⟩, ?_⟩
          · rfl
          · dsimp only; omega
        · have hn' : (limbs (val l')).length = k := by
            have hl : (l'.take k).length = k := by rw [List.length_take, HN.out]; omega
            have t : Trim (l'.take k) := by
              intro j hj
              rw [hl] at hj
              rw [getD_take (by omega), show j = k - 1 by omega]
              exact hx
            rw [← HV.out, limbs_val (hs2.ok.take k) t, hl]
          have HN2 := Lib.hid hn'
          clear hn'
          have hx1 : (((l'.getD (k - 1) 0 : Nat) : Int) == 0) = false := by simp only [beq_eq_false_iff_ne, ne_eq]; omega
          clear hx
          generalize ((l'.getD (k - 1) 0 : Nat) : Int) = v at *
          go_wp2_with fail
          go_ret
          exact ⟨_, _, F, ret_slice HN2.out.symm, sl_trim hs2, g.pass (by simp) hnn⟩
      · obtain rfl : k = 0 := by omega
        have hn' : (limbs (val l')).length = 0 := by
          have := HV.out
          rw [List.take_zero] at this
          rw [← this]
          rw [show val [] = 0 from rfl, limbs_zero]; rfl
        have HN2 := Lib.hid hn'
        clear hn'
        go_wp2_with fail
        go_ret
        exact ⟨_, _, F, ret_slice HN2.out.symm, sl_trim hs2, g.pass (by simp) hnn⟩

  · subst h2
    have hlt : (n : Int) < (L : Int) := by omega
    have hnc : n ≤ c1 := by omega
    have hnc2 : (n : Int) ≤ (c1 : Int) := by omega
    go_wp2_with (with_reducible refine G.any_mark _ ?_; (try generalize Array.size (World.heap (G.w _)) = bk); (try dsimp only [List.set_cons_zero, List.set_cons_succ]); (try clear g); intro g)
    go_loopw [5] (fun v wr => ∃ k : Nat, k ≤ n ∧ v = .slice A1 k c1 ∧ Hid (val (l'.take k) = val l') ∧ ∃ g : G w [] [] [F, heapOf w], wr = g.w) (fun v _ => match v with | .slice _ k _ => k | _ => 0)
    case atStart => exact ⟨n, Nat.le_refl _, rfl, Lib.hid (by rw [← HN.out, List.take_length]), g, rfl⟩
    case round =>
      clear g
      obtain ⟨k, hk1, rfl, HV, g, rfl⟩ := hrel
      by_cases h0 : 0 < k
      · have hkn : k - 1 < l'.length := by rw [HN.out]; omega
        obtain ⟨b, o, rfl, hcell⟩ := lim_cells hs2.lim (by omega)
        have e1 := hcell (k - 1) hkn _ _ _ _ g (by simp)
        clear hcell hkn
        have h0' : (0 : Int) < (k : Int) := by omega
        by_cases hx : l'.getD (k - 1) 0 = 0
        · have hv' : val (l'.take (k - 1)) = val l' := by
            rw [← HV.out]
            have := val_take_getD l' (k - 1)
            rw [show k - 1 + 1 = k by omega, hx] at this
            omega
          have HV' := Lib.hid hv'
          clear hv'
          have hx1 : (((l'.getD (k - 1) 0 : Nat) : Int) == 0) = true := by simp only [hx]; rfl
          clear hx
          generalize ((l'.getD (k - 1) 0 : Nat) : Int) = v at *
          go_wp2_with fail
          refine ⟨⟨k - 1, by omega, ?_, HV', g, rfl⟩, ?_⟩
          · rfl
          · dsimp only; omega
        · have hn' : (limbs (val l')).length = k := by
            have hl : (l'.take k).length = k := by rw [List.length_take, HN.out]; omega
            have t : Trim (l'.take k) := by
              intro j hj
              rw [hl] at hj
              rw [getD_take (by omega), show j = k - 1 by omega]
              exact hx
            rw [← HV.out, limbs_val (hs2.ok.take k) t, hl]
          have HN2 := Lib.hid hn'
          clear hn'
          have hx1 : (((l'.getD (k - 1) 0 : Nat) : Int) == 0) = false := by simp only [beq_eq_false_iff_ne, ne_eq]; omega
          clear hx
          generalize ((l'.getD (k - 1) 0 : Nat) : Int) = v at *
          go_wp2_with fail
          go_ret
          exact ⟨_, _, F, ret_slice HN2.out.symm, sl_trim hs2, g.pass (by simp) hnn⟩
      · obtain rfl : k = 0 := by omega
        have hn' : (limbs (val l')).length = 0 := by
          have := HV.out
          rw [List.take_zero] at this
          rw [← this]
          rw [show val [] = 0 from rfl, limbs_zero]; rfl
        have HN2 := Lib.hid hn'
        clear hn'
        go_wp2_with fail
        go_ret
        exact ⟨_, _, F, ret_slice HN2.out.symm, sl_trim hs2, g.pass (by simp) hnn⟩

end Go.Proofs.Ytfifcpgjcgoinaa
namespace Go.Proofs.Ytfifcpgjcgoinaa
open Go.RowKit GW NL
/-- a literal slice of limbs -/
theorem G.lit0 {w0 : World} {X : List Nat} {M : List Blk} {I : List Frag} {b : Nat} {T : TypeId} {cs : List Value} (g : G w0 X ((b, T, cs) :: M) I) (v n : Nat) (h : cs = u32s (limbs v)) (hn : (limbs v).length = n) (h2 : n ≤ 1000) : SlW g.w (some ⟨b, 0, none⟩) n (limbs v) := by
  subst h
  exact (sl_blk (Nat.le_of_eq hn) (by omega) (ok_limbs v)).at (blkF_sub g.blk0)
theorem G.lit1 {w0 : World} {X : List Nat} {M : List Blk} {I : List Frag} {x0 : Blk} {b : Nat} {T : TypeId} {cs : List Value} (g : G w0 X (x0 :: (b, T, cs) :: M) I) (v n : Nat) (h : cs = u32s (limbs v)) (hn : (limbs v).length = n) (h2 : n ≤ 1000) : SlW g.w (some ⟨b, 0, none⟩) n (limbs v) := by
  subst h
  exact (sl_blk (Nat.le_of_eq hn) (by omega) (ok_limbs v)).at (blkF_sub g.blk1)
theorem lim1 {x : Nat} (h : x < 4294967296) (h0 : x ≠ 0) : limbs x = [x] := limbs_one h0 h
theorem lim2 {x y : Nat} (h : x < 4294967296) (hy : y < 4294967296) (h0 : y ≠ 0) : limbs (x + 4294967296 * y) = [x, y] := by
  have e : val [x, y] = x + 4294967296 * y := by simp [val]
  rw [← e]
  refine limbs_val (Ok.cons h (Ok.cons hy Ok.nil)) ?_
  intro k hk
  obtain rfl : k = 1 := by simp at hk; omega
  simpa using h0
theorem mul_lit (A B : Option Addr) (v1 v2 p n1 n2 n : Nat) (w : World) (h1 : SlW w A n1 (limbs v1)) (h2 : SlW w B n2 (limbs v2)) (e1 : (limbs v1).length = n1) (e2 : (limbs v2).length = n2) (e : (limbs p).length = n) (hp : v1 * v2 = p) (b1 : v1 < 2 ^ 8192) (b2 : v2 < 2 ^ 8192) (b3 : p < 2 ^ 8192) :
    Calls Try.prog 14 #[.slice A n1 n1, .slice B n2 n2] w fun e w' => ∃ A c F, e = .returned (.tuple #[.slice A n c, .int .i64 0]) ∧ F.Sl A c (limbs p) ∧ New w w' F := by
  have := Mul_ok A B n1 n2 v1 v2 w h1 h2 b1 b2 (by rw [hp]; exact b3)
  rw [hp, e1, e2] at this
  unfold RNE at this
  dsimp only at this
  rwa [e] at this
theorem div_lit (A B : Option Addr) (v1 v2 q r n1 n2 nq nr : Nat) (w : World) (h1 : SlW w A n1 (limbs v1)) (h2 : SlW w B n2 (limbs v2)) (e1 : (limbs v1).length = n1) (e2 : (limbs v2).length = n2) (eq : (limbs q).length = nq) (er : (limbs r).length = nr) (hq : v1 / v2 = q) (hr : v1 % v2 = r) (b1 : v1 < 2 ^ 8192) (b2 : v2 < 2 ^ 8192) (b0 : v2 ≠ 0) :
    Calls Try.prog 16 #[.slice A n1 n1, .slice B n2 n2] w fun e w' => ∃ A1 c1 F1 A2 c2 F2, e = .returned (.tuple #[.slice A1 nq c1, .slice A2 nr c2, .int .i64 0]) ∧ F1.Sl A1 c1 (limbs q) ∧ F2.Sl A2 c2 (limbs r) ∧ New w w' F1 ∧ New w w' F2 := by
  have := Div_ok A B n1 n2 v1 v2 w h1 h2 b1 b2 b0
  rw [hq, hr, e1, e2] at this
  unfold RNNE at this
  rwa [eq, er] at this
theorem text_lit (A : Option Addr) (v n : Nat) (s : ByteArray) (w : World) (h : SlW w A n (limbs v)) (e1 : (limbs v).length = n) (b1 : v < 2 ^ 8192) (hs : bstr (dec v) = s) :
    Calls Try.prog 21 #[.slice A n n] w fun e w' => e = .returned (.tuple #[.string s, .int .i64 0]) ∧ Below w.heap.size w w' := by
  have := Text_ok A n v w h b1
  rwa [e1, hs] at this
theorem is_lit (A B : Option Addr) (c : Nat) (v n : Nat) (w : World) (h1 : SlW w A c (limbs v)) (h2 : SlW w B n (limbs v)) (e : (limbs v).length = n) :
    Calls Try.prog 45 #[.slice A n c, .int .i64 0, .slice B n n] w fun e w' => e = .returned (.bool true) ∧ Below w.heap.size w w' := by
  have := is_yes A B c n (limbs v) w h1 h2
  rwa [e] at this
theorem small_lt {x : Nat} (h : x < 2 ^ 64) : x < 2 ^ 8192 := Nat.lt_trans h (Nat.pow_lt_pow_right (by decide) (by decide))
theorem digs_step' (n q r : Nat) (l : List Nat) (h : n = 10 * q + r) (hr : r < 10) (h0 : n ≠ 0) (hl : digs q = l) : digs n = r :: l := by
  rw [digs_pos h0, show n % 10 = r by omega, show n / 10 = q by omega, hl]
theorem dec_top : dec 4294967296 = [52, 50, 57, 52, 57, 54, 55, 50, 57, 54] := by
  have h : digs 4294967296 = [6, 9, 2, 7, 6, 9, 4, 9, 2, 4] := by
    refine digs_step' _ 429496729 6 _ (by omega) (by omega) (by omega) ?_
    refine digs_step' _ 42949672 9 _ (by omega) (by omega) (by omega) ?_
    refine digs_step' _ 4294967 2 _ (by omega) (by omega) (by omega) ?_
    refine digs_step' _ 429496 7 _ (by omega) (by omega) (by omega) ?_
    refine digs_step' _ 42949 6 _ (by omega) (by omega) (by omega) ?_
    refine digs_step' _ 4294 9 _ (by omega) (by omega) (by omega) ?_
    refine digs_step' _ 429 4 _ (by omega) (by omega) (by omega) ?_
    refine digs_step' _ 42 9 _ (by omega) (by omega) (by omega) ?_
    refine digs_step' _ 4 2 _ (by omega) (by omega) (by omega) ?_
    exact digs_step' _ 0 4 _ (by omega) (by omega) (by omega) digs_zero
  unfold dec
  rw [if_neg (by omega), h]
  rfl
set_option maxRecDepth 20000 in
theorem lives_any (w : World) : Calls Try.prog 11 #[] w fun e w' => e = .returned (.bool true) ∧ Below w.heap.size w w' := by
  refine calls_b fun g => ?_
  have e1 : limbs 4294967295 = [4294967295] := lim1 (by decide) (by decide)
  have e2 : limbs 18446744065119617025 = [1, 4294967294] := lim2 (x := 1) (y := 4294967294) (by decide) (by decide) (by decide)
  have e3 : limbs 4294967303 = [7, 1] := lim2 (x := 7) (y := 1) (by decide) (by decide) (by decide)
  have e4 : limbs 10 = [10] := lim1 (by decide) (by decide)
  have e5 : limbs 429496730 = [429496730] := lim1 (by decide) (by decide)
  have e6 : limbs 3 = [3] := lim1 (by decide) (by decide)
  have e7 : limbs 4294967296 = [0, 1] := lim2 (x := 0) (y := 1) (by decide) (by decide) (by decide)
  have CM := Lib.hid (fun A B w h1 h2 => mul_lit A B 4294967295 4294967295 18446744065119617025 1 1 2 w h1 h2 (by rw [e1]; rfl) (by rw [e1]; rfl) (by rw [e2]; rfl) (by decide) (small_lt (by decide)) (small_lt (by decide)) (small_lt (by decide)))
  have CD := Lib.hid (fun A B w h1 h2 => div_lit A B 4294967303 10 429496730 3 2 1 1 1 w h1 h2 (by rw [e3]; rfl) (by rw [e4]; rfl) (by rw [e5]; rfl) (by rw [e6]; rfl) (by decide) (by decide) (small_lt (by decide)) (small_lt (by decide)) (by decide))
  have CT := Lib.hid (fun A w h => text_lit A 4294967296 2 { data := #[52, 50, 57, 52, 57, 54, 55, 50, 57, 54] } w h (by rw [e7]; rfl) (small_lt (by decide)) (by rw [dec_top]; rfl))
  have CI1 := Lib.hid (fun A B c w h1 h2 => is_lit A B c 18446744065119617025 2 w h1 h2 (by rw [e2]; rfl))
  have CI2 := Lib.hid (fun A B c w h1 h2 => is_lit A B c 429496730 1 w h1 h2 (by rw [e5]; rfl))
  have CI3 := Lib.hid (fun A B c w h1 h2 => is_lit A B c 3 1 w h1 h2 (by rw [e6]; rfl))
  have n1 : Hid ((limbs 4294967295).length = 1 ∧ [Value.int .u32 4294967295] = u32s (limbs 4294967295)) := Lib.hid ⟨by rw [e1]; rfl, by rw [e1]; rfl⟩
  have n2 : Hid ((limbs 18446744065119617025).length = 2 ∧ [Value.int .u32 1, .int .u32 4294967294] = u32s (limbs 18446744065119617025)) := Lib.hid ⟨by rw [e2]; rfl, by rw [e2]; rfl⟩
  have n3 : Hid ((limbs 4294967303).length = 2 ∧ [Value.int .u32 7, .int .u32 1] = u32s (limbs 4294967303)) := Lib.hid ⟨by rw [e3]; rfl, by rw [e3]; rfl⟩
  have n4 : Hid ((limbs 10).length = 1 ∧ [Value.int .u32 10] = u32s (limbs 10)) := Lib.hid ⟨by rw [e4]; rfl, by rw [e4]; rfl⟩
  have n5 : Hid ((limbs 429496730).length = 1 ∧ [Value.int .u32 429496730] = u32s (limbs 429496730)) := Lib.hid ⟨by rw [e5]; rfl, by rw [e5]; rfl⟩
  have n6 : Hid ((limbs 3).length = 1 ∧ [Value.int .u32 3] = u32s (limbs 3)) := Lib.hid ⟨by rw [e6]; rfl, by rw [e6]; rfl⟩
  have n7 : Hid ((limbs 4294967296).length = 2 ∧ [Value.int .u32 0, .int .u32 1] = u32s (limbs 4294967296)) := Lib.hid ⟨by rw [e7]; rfl, by rw [e7]; rfl⟩
  clear e1 e2 e3 e4 e5 e6 e7
  go_enter Try.func11, Try.ntmps11
  go_wp2_with (with_reducible refine G.any_mark _ ?_; (try generalize Array.size (World.heap (G.w _)) = bk); (try dsimp only [List.set_cons_zero, List.set_cons_succ]); (try clear g); intro g)
  refine (CM.out _ _ _ (G.lit1 g _ _ n1.out.2 n1.out.1 (by decide)) (G.lit0 g _ _ n1.out.2 n1.out.1 (by decide))).mono ?_
  rintro e w1 ⟨A1, c1, F1, rfl, hs1, hn⟩
  have hnn1 := fun k o hk => Nat.le_trans g.chg.size (hn.new k o hk)
  obtain ⟨g1, rfl⟩ := G.new_ex _ hn
  clear hn
  (try clear g)
  revert g1
  intro g
  obtain ⟨g2, hg2⟩ := G.less g (M' := []) (List.nil_sublist _)
  rw [hg2]
  clear hg2
  (try clear g)
  revert g2
  intro g
  go_wp2_with (with_reducible refine G.any_mark _ ?_; (try generalize Array.size (World.heap (G.w _)) = bk); (try dsimp only [List.set_cons_zero, List.set_cons_succ]); (try clear g); intro g)
  refine (CD.out _ _ _ (G.lit1 g _ _ n3.out.2 n3.out.1 (by decide)) (G.lit0 g _ _ n4.out.2 n4.out.1 (by decide))).mono ?_
  rintro e w1 ⟨A2, c2, F2, B2, d2, H2, rfl, hs2, ht2, hn, hm⟩
  have hnn2 := fun k o hk => Nat.le_trans g.chg.size (hn.new k o hk)
  have hmm2 := fun k o hk => Nat.le_trans g.chg.size (hm.new k o hk)
  obtain ⟨g1, rfl⟩ := G.new2_ex _ hn hm
  clear hn hm
  (try clear g)
  revert g1
  intro g
  obtain ⟨g2, hg2⟩ := G.less g (M' := []) (List.nil_sublist _)
  rw [hg2]
  clear hg2
  (try clear g)
  revert g2
  intro g
  go_wp2_with (with_reducible refine G.any_mark _ ?_; (try generalize Array.size (World.heap (G.w _)) = bk); (try dsimp only [List.set_cons_zero, List.set_cons_succ]); (try clear g); intro g)
  refine (CT.out _ _ (G.lit0 g _ _ n7.out.2 n7.out.1 (by decide))).mono ?_
  rintro e w1 ⟨rfl, hb⟩
  obtain ⟨g1, rfl⟩ := G.call_ex _ hb
  clear hb
  (try clear g)
  revert g1
  intro g
  obtain ⟨g2, hg2⟩ := G.less g (M' := []) (List.nil_sublist _)
  rw [hg2]
  clear hg2
  (try clear g)
  revert g2
  intro g
  go_wp2_with (with_reducible refine G.any_mark _ ?_; (try generalize Array.size (World.heap (G.w _)) = bk); (try dsimp only [List.set_cons_zero, List.set_cons_succ]); (try clear g); intro g)
  refine (CI1.out _ _ _ _ (G.sl g (by simp) hs1) (G.lit0 g _ _ n2.out.2 n2.out.1 (by decide))).mono ?_
  rintro e w1 ⟨rfl, hb⟩
  obtain ⟨g1, rfl⟩ := G.call_ex _ hb
  clear hb
  (try clear g)
  revert g1
  intro g
  obtain ⟨g2, hg2⟩ := G.less g (M' := []) (List.nil_sublist _)
  rw [hg2]
  clear hg2
  (try clear g)
  revert g2
  intro g
  go_wp2_with (with_reducible refine G.any_mark _ ?_; (try generalize Array.size (World.heap (G.w _)) = bk); (try dsimp only [List.set_cons_zero, List.set_cons_succ]); (try clear g); intro g)
  refine (CI2.out _ _ _ _ (G.sl g (by simp) hs2) (G.lit0 g _ _ n5.out.2 n5.out.1 (by decide))).mono ?_
  rintro e w1 ⟨rfl, hb⟩
  obtain ⟨g1, rfl⟩ := G.call_ex _ hb
  clear hb
  (try clear g)
  revert g1
  intro g
  obtain ⟨g2, hg2⟩ := G.less g (M' := []) (List.nil_sublist _)
  rw [hg2]
  clear hg2
  (try clear g)
  revert g2
  intro g
  go_wp2_with (with_reducible refine G.any_mark _ ?_; (try generalize Array.size (World.heap (G.w _)) = bk); (try dsimp only [List.set_cons_zero, List.set_cons_succ]); (try clear g); intro g)
  refine (CI3.out _ _ _ _ (G.sl g (by simp) ht2) (G.lit0 g _ _ n6.out.2 n6.out.1 (by decide))).mono ?_
  rintro e w1 ⟨rfl, hb⟩
  obtain ⟨g1, rfl⟩ := G.call_ex _ hb
  clear hb
  (try clear g)
  revert g1
  intro g
  obtain ⟨g2, hg2⟩ := G.less g (M' := []) (List.nil_sublist _)
  rw [hg2]
  clear hg2
  (try clear g)
  revert g2
  intro g
  go_wp2_with (with_reducible refine G.any_mark _ ?_; (try generalize Array.size (World.heap (G.w _)) = bk); (try dsimp only [List.set_cons_zero, List.set_cons_succ]); (try clear g); intro g)
  go_ret
  exact ⟨rfl, g.below⟩
end Go.Proofs.Ytfifcpgjcgoinaa
namespace Go.Proofs.Ytfifcpgjcgoinaa
open Go.RowKit GW NL
/-- a number without an error -/
def RV (v : Nat) (w : World) (e : Ending) (w' : World) : Prop := ∃ A c F, e = .returned (.tuple #[.slice A (limbs v).length c, .int .i64 0]) ∧ F.Sl A c (limbs v) ∧ New w w' F
/-- two numbers without an error -/
def RV2 (q r : Nat) (w : World) (e : Ending) (w' : World) : Prop := ∃ A1 c1 F1 A2 c2 F2, e = .returned (.tuple #[.slice A1 (limbs q).length c1, .slice A2 (limbs r).length c2, .int .i64 0]) ∧ F1.Sl A1 c1 (limbs q) ∧ F2.Sl A2 c2 (limbs r) ∧ New w w' F1 ∧ New w w' F2
theorem Mul_rv (a b p : Nat) (hp : a * b = p) (ha : a < 2 ^ 8192) (hb : b < 2 ^ 8192) (hpb : p < 2 ^ 8192) (A1 A2 : Option Addr) (c1 c2 : Nat) (w : World) (h1 : SlW w A1 c1 (limbs a)) (h2 : SlW w A2 c2 (limbs b)) :
    Calls Try.prog 14 #[.slice A1 (limbs a).length c1, .slice A2 (limbs b).length c2] w (RV p w) := by
  subst hp; exact Mul_ok A1 A2 c1 c2 a b w h1 h2 ha hb hpb
theorem Add_rv (a b p : Nat) (hp : a + b = p) (ha : a < 2 ^ 8192) (hb : b < 2 ^ 8192) (hpb : p < 2 ^ 8192) (A1 A2 : Option Addr) (c1 c2 : Nat) (w : World) (h1 : SlW w A1 c1 (limbs a)) (h2 : SlW w A2 c2 (limbs b)) :
    Calls Try.prog 17 #[.slice A1 (limbs a).length c1, .slice A2 (limbs b).length c2] w (RV p w) := by
  subst hp; exact Add_ok A1 A2 c1 c2 a b w h1 h2 ha hb hpb
theorem Gcd_rv (a b p : Nat) (hp : Nat.gcd a b = p) (ha : a < 2 ^ 8192) (hb : b < 2 ^ 8192) (A1 A2 : Option Addr) (c1 c2 : Nat) (w : World) (h1 : SlW w A1 c1 (limbs a)) (h2 : SlW w A2 c2 (limbs b)) :
    Calls Try.prog 13 #[.slice A1 (limbs a).length c1, .slice A2 (limbs b).length c2] w (RV p w) := by
  subst hp; exact Gcd_ok A1 A2 c1 c2 a b w h1 h2 ha hb
theorem Div_rv (a b q r : Nat) (hq : a / b = q) (hr : a % b = r) (ha : a < 2 ^ 8192) (hb : b < 2 ^ 8192) (h0 : b ≠ 0) (A1 A2 : Option Addr) (c1 c2 : Nat) (w : World) (h1 : SlW w A1 c1 (limbs a)) (h2 : SlW w A2 c2 (limbs b)) :
    Calls Try.prog 16 #[.slice A1 (limbs a).length c1, .slice A2 (limbs b).length c2] w (RV2 q r w) := by
  subst hq hr; exact Div_ok A1 A2 c1 c2 a b w h1 h2 ha hb h0
theorem same_rv (v : Nat) (A1 A2 : Option Addr) (c1 c2 : Nat) (w : World) (h1 : SlW w A1 c1 (limbs v)) (h2 : SlW w A2 c2 (limbs v)) :
    Calls Try.prog 15 #[.slice A1 (limbs v).length c1, .slice A2 (limbs v).length c2] w fun e w' => e = .returned (.bool true) ∧ Below w.heap.size w w' := same_any A1 A2 c1 c2 (limbs v) w h1 h2
theorem cut_lt {l : List Nat} (h : Ok l) (m : Nat) : cut l m < 2 ^ (32 * m) := by
  have h1 := val_lt (h.take m)
  have h2 : 4294967296 ^ (l.take m).length ≤ 4294967296 ^ m := Nat.pow_le_pow_right (by decide) (by rw [List.length_take]; omega)
  rw [pow32 m] at h2
  unfold cut
  omega
theorem pow_lt' {a k : Nat} (h : a < 2 ^ k) (hk : k ≤ 8192) : a < 2 ^ 8192 := Nat.lt_of_lt_of_le h (Nat.pow_le_pow_right (by decide) hk)
theorem mul_lt' {a b i j : Nat} (h1 : a < 2 ^ i) (h2 : b < 2 ^ j) : a * b < 2 ^ (i + j) := by
  rw [Nat.pow_add]
  exact Nat.mul_lt_mul_of_lt_of_le h1 (Nat.le_of_lt h2) (Nat.two_pow_pos j)
theorem len_ne {v : Nat} (h : v ≠ 0) : 0 < (limbs v).length := by
  rcases Nat.eq_zero_or_pos (limbs v).length with h1 | h1
  · exact absurd (limbs_nil.1 (List.eq_nil_of_length_eq_zero h1)) h
  · exact h1
set_option maxRecDepth 20000 in
theorem common_walk (A1 A2 A3 : Option Addr) (c1 c2 c3 : Nat) (l1 l2 l3 : List Nat) (w : World) (h1 : SlW w A1 c1 l1) (h2 : SlW w A2 c2 l2) (h3 : SlW w A3 c3 l3) (hl1 : l1.length ≤ 35184372088832) (hl2 : l2.length ≤ 35184372088832) (hl3 : l3.length ≤ 35184372088832) :
    Calls Try.prog 3 #[.slice A1 l1.length c1, .slice A2 l2.length c2, .slice A3 l3.length c3] w fun e w' => e = .returned (.bool true) ∧ Below w.heap.size w w' := by
  refine calls_b fun g => ?_
  have CV1 := Lib.hid (fun w h => valid_any A1 c1 l1 12 w h hl1 (by omega))
  have CV2 := Lib.hid (fun w h => valid_any A2 c2 l2 12 w h hl2 (by omega))
  have CV3 := Lib.hid (fun w h => valid_any A3 c3 l3 12 w h hl3 (by omega))
  have b1 := cut_lt h1.ok 12
  have b2 := cut_lt h2.ok 12
  have b3 := cut_lt h3.ok 12
  generalize cut l1 12 = a at *
  generalize cut l2 12 = b at *
  generalize cut l3 12 = c at *
  obtain ⟨gd, hG⟩ : ∃ gd, Nat.gcd a b = gd := ⟨_, rfl⟩
  obtain ⟨P1, hP1⟩ : ∃ P, a * c = P := ⟨_, rfl⟩
  obtain ⟨P2, hP2⟩ : ∃ P, b * c = P := ⟨_, rfl⟩
  obtain ⟨P3, hP3⟩ : ∃ P, gd * c = P := ⟨_, rfl⟩
  have hG2 : Nat.gcd b a = gd := by rw [Nat.gcd_comm]; exact hG
  have hG3 : Nat.gcd P1 P2 = P3 := by rw [← hP1, ← hP2, ← hP3, ← hG, Nat.gcd_mul_right]
  have bG : gd < 2 ^ 384 := by
    by_cases h0 : a = 0
    · subst h0; rw [Nat.gcd_zero_left] at hG; subst hG; exact b2
    · have := Nat.gcd_le_left b (Nat.pos_of_ne_zero h0)
      rw [hG] at this
      exact Nat.lt_of_le_of_lt this b1
  have p1 : P1 < 2 ^ 8192 := by rw [← hP1]; exact pow_lt' (mul_lt' b1 b3) (by decide)
  have p2 : P2 < 2 ^ 8192 := by rw [← hP2]; exact pow_lt' (mul_lt' b2 b3) (by decide)
  have p3 : P3 < 2 ^ 8192 := by rw [← hP3]; exact pow_lt' (mul_lt' bG b3) (by decide)
  have b1 := pow_lt' b1 (by decide)
  have b2 := pow_lt' b2 (by decide)
  have b3 := pow_lt' b3 (by decide)
  have bG := pow_lt' bG (by decide)
  have CG1 := Lib.hid (Gcd_rv a b gd hG b1 b2)
  have CG2 := Lib.hid (Gcd_rv b a gd hG2 b2 b1)
  have CM1 := Lib.hid (Mul_rv a c P1 hP1 b1 b3 p1)
  have CM2 := Lib.hid (Mul_rv b c P2 hP2 b2 b3 p2)
  have CM3 := Lib.hid (Mul_rv gd c P3 hP3 bG b3 p3)
  have CG3 := Lib.hid (Gcd_rv P1 P2 P3 hG3 p1 p2)
  have CS1 := Lib.hid (same_rv gd)
  have CS2 := Lib.hid (same_rv P3)
  have CL := Lib.hid lives_any
  have HAB : Hid (a = 0 ∧ b = 0 → gd = 0) := Lib.hid (by rintro ⟨rfl, rfl⟩; rw [← hG]; rfl)
  have HDV : Hid (¬ (a = 0 ∧ b = 0) → ∃ x y, a / gd = x ∧ a % gd = 0 ∧ b / gd = y ∧ b % gd = 0 ∧ gd ≠ 0 ∧ Nat.gcd x y = 1 ∧ x < 2 ^ 8192 ∧ y < 2 ^ 8192) := Lib.hid (by
    intro hne
    have hG0 : 0 < gd := by
      rw [← hG]
      rcases Nat.eq_zero_or_pos a with h | h
      · exact Nat.gcd_pos_of_pos_right _ (Nat.pos_of_ne_zero fun hb => hne ⟨h, hb⟩)
      · exact Nat.gcd_pos_of_pos_left _ h
    have d1 : gd ∣ a := by rw [← hG]; exact Nat.gcd_dvd_left a b
    have d2 : gd ∣ b := by rw [← hG]; exact Nat.gcd_dvd_right a b
    refine ⟨a / gd, b / gd, rfl, Nat.mod_eq_zero_of_dvd d1, rfl, Nat.mod_eq_zero_of_dvd d2, by omega, ?_, Nat.lt_of_le_of_lt (Nat.div_le_self _ _) b1, Nat.lt_of_le_of_lt (Nat.div_le_self _ _) b2⟩
    have := Nat.gcd_div d1 d2
    rw [hG, Nat.div_self hG0] at this
    exact this)
  have HB : Hid (a < 2 ^ 8192 ∧ b < 2 ^ 8192 ∧ gd < 2 ^ 8192) := Lib.hid ⟨b1, b2, bG⟩
  clear hG hP1 hP2 hP3 hG2 hG3 b1 b2 b3 bG p1 p2 p3 hl1 hl2 hl3
  generalize hn1 : l1.length = n1 at *
  generalize hn2 : l2.length = n2 at *
  generalize hn3 : l3.length = n3 at *
  clear hn1 hn2 hn3
  go_enter Try.func3, Try.ntmps3
  go_wp2_with (with_reducible refine G.any_mark _ ?_; (try generalize Array.size (World.heap (G.w _)) = bk); (try dsimp only [List.set_cons_zero, List.set_cons_succ]); (try clear g); intro g)
  refine (CL.out _).mono ?_
  rintro e w1 ⟨rfl, hb⟩
  obtain ⟨g1, rfl⟩ := G.call_ex _ hb
  clear hb
  (try clear g)
  revert g1
  intro g
  go_wp2_with (with_reducible refine G.any_mark _ ?_; (try generalize Array.size (World.heap (G.w _)) = bk); (try dsimp only [List.set_cons_zero, List.set_cons_succ]); (try clear g); intro g)
  refine (CV1.out _ (G.sl g (by simp) h1)).mono ?_
  rintro e w1 ⟨Aa, ca, Fa, rfl, hsa, hn⟩
  have hnna := fun k o hk => Nat.le_trans g.chg.size (hn.new k o hk)
  obtain ⟨g1, rfl⟩ := G.new_ex _ hn
  clear hn
  (try clear g)
  revert g1
  intro g
  go_wp2_with (with_reducible refine G.any_mark _ ?_; (try generalize Array.size (World.heap (G.w _)) = bk); (try dsimp only [List.set_cons_zero, List.set_cons_succ]); (try clear g); intro g)
  refine (CV2.out _ (G.sl g (by simp) h2)).mono ?_
  rintro e w1 ⟨Ab, cb, Fb, rfl, hsb, hn⟩
  have hnnb := fun k o hk => Nat.le_trans g.chg.size (hn.new k o hk)
  obtain ⟨g1, rfl⟩ := G.new_ex _ hn
  clear hn
  (try clear g)
  revert g1
  intro g
  go_wp2_with (with_reducible refine G.any_mark _ ?_; (try generalize Array.size (World.heap (G.w _)) = bk); (try dsimp only [List.set_cons_zero, List.set_cons_succ]); (try clear g); intro g)
  refine (CV3.out _ (G.sl g (by simp) h3)).mono ?_
  rintro e w1 ⟨Ac, cc, Fc, rfl, hsc, hn⟩
  have hnnc := fun k o hk => Nat.le_trans g.chg.size (hn.new k o hk)
  obtain ⟨g1, rfl⟩ := G.new_ex _ hn
  clear hn
  (try clear g)
  revert g1
  intro g
  go_wp2_with (with_reducible refine G.any_mark _ ?_; (try generalize Array.size (World.heap (G.w _)) = bk); (try dsimp only [List.set_cons_zero, List.set_cons_succ]); (try clear g); intro g)
  refine (CG1.out _ _ _ _ _ (G.sl g (by simp) hsa) (G.sl g (by simp) hsb)).mono ?_
  rintro e w1 ⟨Ag, cg, Fg, rfl, hsg, hn⟩
  have hnng := fun k o hk => Nat.le_trans g.chg.size (hn.new k o hk)
  obtain ⟨g1, rfl⟩ := G.new_ex _ hn
  clear hn
  (try clear g)
  revert g1
  intro g
  go_wp2_with (with_reducible refine G.any_mark _ ?_; (try generalize Array.size (World.heap (G.w _)) = bk); (try dsimp only [List.set_cons_zero, List.set_cons_succ]); (try clear g); intro g)
  refine (CG2.out _ _ _ _ _ (G.sl g (by simp) hsb) (G.sl g (by simp) hsa)).mono ?_
  rintro e w1 ⟨Ah, ch, Fh, rfl, hsh, hn⟩
  have hnnh := fun k o hk => Nat.le_trans g.chg.size (hn.new k o hk)
  obtain ⟨g1, rfl⟩ := G.new_ex _ hn
  clear hn
  (try clear g)
  revert g1
  intro g
  go_wp2_with (with_reducible refine G.any_mark _ ?_; (try generalize Array.size (World.heap (G.w _)) = bk); (try dsimp only [List.set_cons_zero, List.set_cons_succ]); (try clear g); intro g)
  refine (CM1.out _ _ _ _ _ (G.sl g (by simp) hsa) (G.sl g (by simp) hsc)).mono ?_
  rintro e w1 ⟨Ap, cp, Fp, rfl, hsp, hn⟩
  have hnnp := fun k o hk => Nat.le_trans g.chg.size (hn.new k o hk)
  obtain ⟨g1, rfl⟩ := G.new_ex _ hn
  clear hn
  (try clear g)
  revert g1
  intro g
  go_wp2_with (with_reducible refine G.any_mark _ ?_; (try generalize Array.size (World.heap (G.w _)) = bk); (try dsimp only [List.set_cons_zero, List.set_cons_succ]); (try clear g); intro g)
  refine (CM2.out _ _ _ _ _ (G.sl g (by simp) hsb) (G.sl g (by simp) hsc)).mono ?_
  rintro e w1 ⟨Aq, cq, Fq, rfl, hsq, hn⟩
  have hnnq := fun k o hk => Nat.le_trans g.chg.size (hn.new k o hk)
  obtain ⟨g1, rfl⟩ := G.new_ex _ hn
  clear hn
  (try clear g)
  revert g1
  intro g
  go_wp2_with (with_reducible refine G.any_mark _ ?_; (try generalize Array.size (World.heap (G.w _)) = bk); (try dsimp only [List.set_cons_zero, List.set_cons_succ]); (try clear g); intro g)
  refine (CM3.out _ _ _ _ _ (G.sl g (by simp) hsg) (G.sl g (by simp) hsc)).mono ?_
  rintro e w1 ⟨Ar, cr, Fr, rfl, hsr, hn⟩
  have hnnr := fun k o hk => Nat.le_trans g.chg.size (hn.new k o hk)
  obtain ⟨g1, rfl⟩ := G.new_ex _ hn
  clear hn
  (try clear g)
  revert g1
  intro g
  go_wp2_with (with_reducible refine G.any_mark _ ?_; (try generalize Array.size (World.heap (G.w _)) = bk); (try dsimp only [List.set_cons_zero, List.set_cons_succ]); (try clear g); intro g)
  refine (CG3.out _ _ _ _ _ (G.sl g (by simp) hsp) (G.sl g (by simp) hsq)).mono ?_
  rintro e w1 ⟨As, cs, Fs, rfl, hss, hn⟩
  have hnns := fun k o hk => Nat.le_trans g.chg.size (hn.new k o hk)
  obtain ⟨g1, rfl⟩ := G.new_ex _ hn
  clear hn
  (try clear g)
  revert g1
  intro g
  go_wp2_with (with_reducible refine G.any_mark _ ?_; (try generalize Array.size (World.heap (G.w _)) = bk); (try dsimp only [List.set_cons_zero, List.set_cons_succ]); (try clear g); intro g)
  refine (CS1.out _ _ _ _ _ (G.sl g (by simp) hsg) (G.sl g (by simp) hsh)).mono ?_
  rintro e w1 ⟨rfl, hb⟩
  obtain ⟨g1, rfl⟩ := G.call_ex _ hb
  clear hb
  (try clear g)
  revert g1
  intro g
  go_wp2_with (with_reducible refine G.any_mark _ ?_; (try generalize Array.size (World.heap (G.w _)) = bk); (try dsimp only [List.set_cons_zero, List.set_cons_succ]); (try clear g); intro g)
  refine (CS2.out _ _ _ _ _ (G.sl g (by simp) hss) (G.sl g (by simp) hsr)).mono ?_
  rintro e w1 ⟨rfl, hb⟩
  obtain ⟨g1, rfl⟩ := G.call_ex _ hb
  clear hb
  (try clear g)
  revert g1
  intro g
  have hz : (limbs 0).length = 0 := by rw [limbs_zero]; rfl
  by_cases h0 : a = 0 ∧ b = 0
  · have hg0 := HAB.out h0
    obtain ⟨rfl, rfl⟩ := h0
    subst hg0
    clear CV1 CV2 CV3 CG1 CG2 CM1 CM2 CM3 CG3 CS1 CS2
    go_wp2_with (with_reducible refine G.any_mark _ ?_; (try generalize Array.size (World.heap (G.w _)) = bk); (try dsimp only [List.set_cons_zero, List.set_cons_succ]); (try clear g); intro g)
    go_ret
    exact ⟨rfl, g.below⟩
  · obtain ⟨x, y, d1, d2, d3, d4, d5, d6, d7, d8⟩ := HDV.out h0
    obtain ⟨ns, hns⟩ : ∃ ns, (limbs a).length + (limbs b).length = ns := ⟨_, rfl⟩
    have hns0 : ns ≠ 0 := by
      intro e
      exact h0 ⟨limbs_nil.1 (List.eq_nil_of_length_eq_zero (by omega)), limbs_nil.1 (List.eq_nil_of_length_eq_zero (by omega))⟩
    have hla : (limbs a).length ≤ 256 := (limbs_len a 256).2 (by rw [pow32]; exact HB.out.1)
    have hlb : (limbs b).length ≤ 256 := (limbs_len b 256).2 (by rw [pow32]; exact HB.out.2.1)
    have hsum : ((limbs a).length : Int) + ((limbs b).length : Int) = (ns : Int) := by omega
    have hwn : IntKind.i64.wrap (ns : Int) = (ns : Int) := by rw [IntKind.wrap_i64]; omega
    have hne : ((ns : Int) == 0) = false := by rw [beq_eq_false_iff_ne]; omega
    have CD1 := Lib.hid (Div_rv a gd x 0 d1 d2 HB.out.1 HB.out.2.2 d5)
    have CD2 := Lib.hid (Div_rv b gd y 0 d3 d4 HB.out.2.1 HB.out.2.2 d5)
    have CG4 := Lib.hid (Gcd_rv x y 1 d6 d7 d8)
    have e1 : limbs 1 = [1] := lim1 (by decide) (by decide)
    have CS3 : Hid (∀ (A1 A2 : Option Addr) (c1 c2 : Nat) (w : World), SlW w A1 c1 (limbs 1) → SlW w A2 c2 (limbs 1) → Calls Try.prog 15 #[.slice A1 1 c1, .slice A2 1 c2] w fun e w' => e = .returned (.bool true) ∧ Below w.heap.size w w') := Lib.hid (fun A1 A2 c1 c2 w h1 h2 => by
      have := same_rv 1 A1 A2 c1 c2 w h1 h2
      rwa [show (limbs 1).length = 1 by rw [e1]; rfl] at this)
    have n1' : Hid ((limbs 1).length = 1 ∧ [Value.int .u32 1] = u32s (limbs 1)) := Lib.hid ⟨by rw [e1]; rfl, by rw [e1]; rfl⟩
    have hL1 : (limbs 1).length = 1 := by rw [e1]; rfl
    clear CV1 CV2 CV3 CG1 CG2 CM1 CM2 CM3 CG3 CS1 CS2 h0 d1 d2 d3 d4 d5 d6 d7 d8 HAB HDV e1 hns hns0 hla hlb
    go_wp2_with (with_reducible refine G.any_mark _ ?_; (try generalize Array.size (World.heap (G.w _)) = bk); (try dsimp only [List.set_cons_zero, List.set_cons_succ]); (try clear g); intro g)
    refine (CD1.out _ _ _ _ _ (G.sl g (by simp) hsa) (G.sl g (by simp) hsg)).mono ?_
    rintro e w1 ⟨Ax, cx, Fx, Bx, dx, Hx, rfl, hsx, htx, hn, hm⟩
    have hnnx := fun k o hk => Nat.le_trans g.chg.size (hn.new k o hk)
    have hmmx := fun k o hk => Nat.le_trans g.chg.size (hm.new k o hk)
    obtain ⟨g1, rfl⟩ := G.new2_ex _ hn hm
    clear hn hm
    (try clear g)
    revert g1
    intro g
    go_wp2_with (with_reducible refine G.any_mark _ ?_; (try generalize Array.size (World.heap (G.w _)) = bk); (try dsimp only [List.set_cons_zero, List.set_cons_succ]); (try clear g); intro g)
    refine (CD2.out _ _ _ _ _ (G.sl g (by simp) hsb) (G.sl g (by simp) hsg)).mono ?_
    rintro e w1 ⟨Ay, cy, Fy, By, dy, Hy, rfl, hsy, hty, hn, hm⟩
    have hnny := fun k o hk => Nat.le_trans g.chg.size (hn.new k o hk)
    have hmmy := fun k o hk => Nat.le_trans g.chg.size (hm.new k o hk)
    obtain ⟨g1, rfl⟩ := G.new2_ex _ hn hm
    clear hn hm
    (try clear g)
    revert g1
    intro g
    go_wp2_with (with_reducible refine G.any_mark _ ?_; (try generalize Array.size (World.heap (G.w _)) = bk); (try dsimp only [List.set_cons_zero, List.set_cons_succ]); (try clear g); intro g)
    refine (CG4.out _ _ _ _ _ (G.sl g (by simp) hsx) (G.sl g (by simp) hsy)).mono ?_
    rintro e w1 ⟨Ao, co, Fo, rfl, hso, hn⟩
    have hnno := fun k o hk => Nat.le_trans g.chg.size (hn.new k o hk)
    obtain ⟨g1, rfl⟩ := G.new_ex _ hn
    clear hn
    (try clear g)
    revert g1
    intro g
    go_wp2_with (with_reducible refine G.any_mark _ ?_; (try generalize Array.size (World.heap (G.w _)) = bk); (try dsimp only [List.set_cons_zero, List.set_cons_succ]); (try clear g); intro g)
    refine (CS3.out _ _ _ _ _ (G.sl g (by simp) hso) (G.lit0 g _ _ n1'.out.2 n1'.out.1 (by decide))).mono ?_
    rintro e w1 ⟨rfl, hb⟩
    obtain ⟨g1, rfl⟩ := G.call_ex _ hb
    clear hb
    (try clear g)
    revert g1
    intro g
    go_wp2_with (with_reducible refine G.any_mark _ ?_; (try generalize Array.size (World.heap (G.w _)) = bk); (try dsimp only [List.set_cons_zero, List.set_cons_succ]); (try clear g); intro g)
    go_ret
    exact ⟨rfl, g.below⟩
end Go.Proofs.Ytfifcpgjcgoinaa
namespace Go.Proofs.Ytfifcpgjcgoinaa
open Go.RowKit GW NL
theorem Cmp_ok (a b : Nat) (ha : a < 2 ^ 8192) (hb : b < 2 ^ 8192) (A1 A2 : Option Addr) (c1 c2 : Nat) (w : World) (h1 : SlW w A1 c1 (limbs a)) (h2 : SlW w A2 c2 (limbs b)) :
    Calls Try.prog 18 #[.slice A1 (limbs a).length c1, .slice A2 (limbs b).length c2] w fun e w' => e = .returned (.tuple #[.int .i64 (ord a b), .int .i64 0]) ∧ Below w.heap.size w w' := by
  have := Cmp_any A1 A2 c1 c2 (limbs a) (limbs b) w h1 h2
  have hx : chk2 (limbs a) (limbs b) = 0 := by unfold chk2; rw [chk_limbs ha, chk_limbs hb]; rfl
  rw [hx, val_limbs, val_limbs] at this
  unfold outC at this
  rwa [if_neg (by simp)] at this
theorem Div_zero_rv (a : Nat) (ha : a < 2 ^ 8192) (A1 A2 : Option Addr) (c1 c2 : Nat) (w : World) (h1 : SlW w A1 c1 (limbs a)) (h2 : SlW w A2 c2 []) :
    Calls Try.prog 16 #[.slice A1 (limbs a).length c1, .slice A2 0 c2] w fun e w' => ∃ A1 c1 F1 A2 c2 F2, e = .returned (.tuple #[.slice A1 0 c1, .slice A2 0 c2, .int .i64 6]) ∧ F1.Sl A1 c1 (limbs 0) ∧ F2.Sl A2 c2 (limbs 0) ∧ New w w' F1 ∧ New w w' F2 := by
  have hx : chk2 (limbs a) [] = 0 := by unfold chk2; rw [chk_limbs ha]; rfl
  have := Div_zero A1 A2 c1 c2 (limbs a) w h1 h2 hx
  unfold RNNE at this
  rwa [show (limbs 0).length = 0 by rw [limbs_zero]; rfl] at this
set_option maxRecDepth 20000 in
theorem divides_walk (A1 A2 : Option Addr) (c1 c2 : Nat) (l1 l2 : List Nat) (w : World) (h1 : SlW w A1 c1 l1) (h2 : SlW w A2 c2 l2) (hl1 : l1.length ≤ 35184372088832) (hl2 : l2.length ≤ 35184372088832) :
    Calls Try.prog 4 #[.slice A1 l1.length c1, .slice A2 l2.length c2] w fun e w' => e = .returned (.bool true) ∧ Below w.heap.size w w' := by
  refine calls_b fun g => ?_
  have CV1 := Lib.hid (fun w h => valid_any A1 c1 l1 60 w h hl1 (by omega))
  have CV2 := Lib.hid (fun w h => valid_any A2 c2 l2 60 w h hl2 (by omega))
  have b1 := cut_lt h1.ok 60
  have b2 := cut_lt h2.ok 60
  generalize cut l1 60 = a at *
  generalize cut l2 60 = b at *
  have CL := Lib.hid lives_any
  generalize hn1 : l1.length = n1 at *
  generalize hn2 : l2.length = n2 at *
  clear hn1 hn2
  by_cases h0 : b = 0
  · subst h0
    have CD := Lib.hid (Div_zero_rv a (pow_lt' b1 (by decide)))
    have hz : (limbs 0).length = 0 := by rw [limbs_zero]; rfl
    clear b1 b2 hl1 hl2
    go_enter Try.func4, Try.ntmps4
    go_wp2_with (with_reducible refine G.any_mark _ ?_; (try generalize Array.size (World.heap (G.w _)) = bk); (try dsimp only [List.set_cons_zero, List.set_cons_succ]); (try clear g); intro g)
    refine (CL.out _).mono ?_
    rintro e w1 ⟨rfl, hb⟩
    obtain ⟨g1, rfl⟩ := G.call_ex _ hb
    clear hb
    (try clear g)
    revert g1
    intro g
    go_wp2_with (with_reducible refine G.any_mark _ ?_; (try generalize Array.size (World.heap (G.w _)) = bk); (try dsimp only [List.set_cons_zero, List.set_cons_succ]); (try clear g); intro g)
    refine (CV1.out _ (G.sl g (by simp) h1)).mono ?_
    rintro e w1 ⟨Aa, ca, Fa, rfl, hsa, hn⟩
    have hnna := fun k o hk => Nat.le_trans g.chg.size (hn.new k o hk)
    obtain ⟨g1, rfl⟩ := G.new_ex _ hn
    clear hn
    (try clear g)
    revert g1
    intro g
    go_wp2_with (with_reducible refine G.any_mark _ ?_; (try generalize Array.size (World.heap (G.w _)) = bk); (try dsimp only [List.set_cons_zero, List.set_cons_succ]); (try clear g); intro g)
    refine (CV2.out _ (G.sl g (by simp) h2)).mono ?_
    rintro e w1 ⟨Ab, cb, Fb, rfl, hsb, hn⟩
    have hnnb := fun k o hk => Nat.le_trans g.chg.size (hn.new k o hk)
    obtain ⟨g1, rfl⟩ := G.new_ex _ hn
    clear hn
    (try clear g)
    revert g1
    intro g
    have hsb2 := hsb
    rw [limbs_zero] at hsb2
    go_wp2_with (with_reducible refine G.any_mark _ ?_; (try generalize Array.size (World.heap (G.w _)) = bk); (try dsimp only [List.set_cons_zero, List.set_cons_succ]); (try clear g); intro g)
    refine (CD.out _ _ _ _ _ (G.sl g (by simp) hsa) (G.sl g (by simp) hsb2)).mono ?_
    rintro e w1 ⟨Ax, cx, Fx, Bx, dx, Hx, rfl, hsx, htx, hn, hm⟩
    have hnnx := fun k o hk => Nat.le_trans g.chg.size (hn.new k o hk)
    have hmmx := fun k o hk => Nat.le_trans g.chg.size (hm.new k o hk)
    obtain ⟨g1, rfl⟩ := G.new2_ex _ hn hm
    clear hn hm
    (try clear g)
    revert g1
    intro g
    go_wp2_with (with_reducible refine G.any_mark _ ?_; (try generalize Array.size (World.heap (G.w _)) = bk); (try dsimp only [List.set_cons_zero, List.set_cons_succ]); (try clear g); intro g)
    go_ret
    exact ⟨rfl, g.below⟩
  · obtain ⟨q, hq⟩ : ∃ q, a / b = q := ⟨_, rfl⟩
    obtain ⟨r, hr⟩ : ∃ r, a % b = r := ⟨_, rfl⟩
    obtain ⟨p, hp⟩ : ∃ p, q * b = p := ⟨_, rfl⟩
    obtain ⟨m, hm⟩ : ∃ m, a * b = m := ⟨_, rfl⟩
    have hdm := Nat.div_add_mod a b
    rw [hq, hr, Nat.mul_comm, hp] at hdm
    have hrb : r < b := by rw [← hr]; exact Nat.mod_lt _ (Nat.pos_of_ne_zero h0)
    have hord : ord r b = -1 := by unfold ord; rw [if_pos hrb]
    have pm : m < 2 ^ 8192 := by rw [← hm]; exact pow_lt' (mul_lt' b1 b2) (by decide)
    have pa := pow_lt' b1 (by decide)
    have pb := pow_lt' b2 (by decide)
    have pq : q < 2 ^ 8192 := by rw [← hq]; exact Nat.lt_of_le_of_lt (Nat.div_le_self _ _) pa
    have pp : p < 2 ^ 8192 := Nat.lt_of_le_of_lt (by omega : p ≤ a) pa
    have pr : r < 2 ^ 8192 := Nat.lt_trans hrb pb
    have CD := Lib.hid (Div_rv a b q r hq hr pa pb h0)
    have CM := Lib.hid (Mul_rv q b p hp pq pb pp)
    have CA := Lib.hid (Add_rv p r a hdm pp pr pa)
    have CC := Lib.hid (Cmp_ok r b pr pb)
    rw [hord] at CC
    have CS := Lib.hid (same_rv a)
    have CM2 := Lib.hid (Mul_rv a b m hm pa pb pm)
    have CD2 := Lib.hid (Div_rv m b a 0 (by rw [← hm]; exact Nat.mul_div_cancel _ (Nat.pos_of_ne_zero h0)) (by rw [← hm]; exact Nat.mul_mod_left _ _) pm pb h0)
    have hz : (limbs 0).length = 0 := by rw [limbs_zero]; rfl
    have hlb := len_ne h0
    have hne : (((limbs b).length : Int) == 0) = false := by rw [beq_eq_false_iff_ne]; omega
    clear b1 b2 hl1 hl2 hq hr hp hm hdm hrb hord pm pa pb pq pp pr h0 hlb
    go_enter Try.func4, Try.ntmps4
    go_wp2_with (with_reducible refine G.any_mark _ ?_; (try generalize Array.size (World.heap (G.w _)) = bk); (try dsimp only [List.set_cons_zero, List.set_cons_succ]); (try clear g); intro g)
    refine (CL.out _).mono ?_
    rintro e w1 ⟨rfl, hb⟩
    obtain ⟨g1, rfl⟩ := G.call_ex _ hb
    clear hb
    (try clear g)
    revert g1
    intro g
    go_wp2_with (with_reducible refine G.any_mark _ ?_; (try generalize Array.size (World.heap (G.w _)) = bk); (try dsimp only [List.set_cons_zero, List.set_cons_succ]); (try clear g); intro g)
    refine (CV1.out _ (G.sl g (by simp) h1)).mono ?_
    rintro e w1 ⟨Aa, ca, Fa, rfl, hsa, hn⟩
    have hnna := fun k o hk => Nat.le_trans g.chg.size (hn.new k o hk)
    obtain ⟨g1, rfl⟩ := G.new_ex _ hn
    clear hn
    (try clear g)
    revert g1
    intro g
    go_wp2_with (with_reducible refine G.any_mark _ ?_; (try generalize Array.size (World.heap (G.w _)) = bk); (try dsimp only [List.set_cons_zero, List.set_cons_succ]); (try clear g); intro g)
    refine (CV2.out _ (G.sl g (by simp) h2)).mono ?_
    rintro e w1 ⟨Ab, cb, Fb, rfl, hsb, hn⟩
    have hnnb := fun k o hk => Nat.le_trans g.chg.size (hn.new k o hk)
    obtain ⟨g1, rfl⟩ := G.new_ex _ hn
    clear hn
    (try clear g)
    revert g1
    intro g
    go_wp2_with (with_reducible refine G.any_mark _ ?_; (try generalize Array.size (World.heap (G.w _)) = bk); (try dsimp only [List.set_cons_zero, List.set_cons_succ]); (try clear g); intro g)
    refine (CD.out _ _ _ _ _ (G.sl g (by simp) hsa) (G.sl g (by simp) hsb)).mono ?_
    rintro e w1 ⟨Ax, cx, Fx, Bx, dx, Hx, rfl, hsx, htx, hn, hm⟩
    have hnnx := fun k o hk => Nat.le_trans g.chg.size (hn.new k o hk)
    have hmmx := fun k o hk => Nat.le_trans g.chg.size (hm.new k o hk)
    obtain ⟨g1, rfl⟩ := G.new2_ex _ hn hm
    clear hn hm
    (try clear g)
    revert g1
    intro g
    go_wp2_with (with_reducible refine G.any_mark _ ?_; (try generalize Array.size (World.heap (G.w _)) = bk); (try dsimp only [List.set_cons_zero, List.set_cons_succ]); (try clear g); intro g)
    refine (CM.out _ _ _ _ _ (G.sl g (by simp) hsx) (G.sl g (by simp) hsb)).mono ?_
    rintro e w1 ⟨Ap, cp, Fp, rfl, hsp, hn⟩
    have hnnp := fun k o hk => Nat.le_trans g.chg.size (hn.new k o hk)
    obtain ⟨g1, rfl⟩ := G.new_ex _ hn
    clear hn
    (try clear g)
    revert g1
    intro g
    go_wp2_with (with_reducible refine G.any_mark _ ?_; (try generalize Array.size (World.heap (G.w _)) = bk); (try dsimp only [List.set_cons_zero, List.set_cons_succ]); (try clear g); intro g)
    refine (CA.out _ _ _ _ _ (G.sl g (by simp) hsp) (G.sl g (by simp) htx)).mono ?_
    rintro e w1 ⟨As, cs, Fs, rfl, hss, hn⟩
    have hnns := fun k o hk => Nat.le_trans g.chg.size (hn.new k o hk)
    obtain ⟨g1, rfl⟩ := G.new_ex _ hn
    clear hn
    (try clear g)
    revert g1
    intro g
    go_wp2_with (with_reducible refine G.any_mark _ ?_; (try generalize Array.size (World.heap (G.w _)) = bk); (try dsimp only [List.set_cons_zero, List.set_cons_succ]); (try clear g); intro g)
    refine (CC.out _ _ _ _ _ (G.sl g (by simp) htx) (G.sl g (by simp) hsb)).mono ?_
    rintro e w1 ⟨rfl, hb⟩
    obtain ⟨g1, rfl⟩ := G.call_ex _ hb
    clear hb
    (try clear g)
    revert g1
    intro g
    go_wp2_with (with_reducible refine G.any_mark _ ?_; (try generalize Array.size (World.heap (G.w _)) = bk); (try dsimp only [List.set_cons_zero, List.set_cons_succ]); (try clear g); intro g)
    refine (CS.out _ _ _ _ _ (G.sl g (by simp) hss) (G.sl g (by simp) hsa)).mono ?_
    rintro e w1 ⟨rfl, hb⟩
    obtain ⟨g1, rfl⟩ := G.call_ex _ hb
    clear hb
    (try clear g)
    revert g1
    intro g
    go_wp2_with (with_reducible refine G.any_mark _ ?_; (try generalize Array.size (World.heap (G.w _)) = bk); (try dsimp only [List.set_cons_zero, List.set_cons_succ]); (try clear g); intro g)
    refine (CM2.out _ _ _ _ _ (G.sl g (by simp) hsa) (G.sl g (by simp) hsb)).mono ?_
    rintro e w1 ⟨Am, cm, Fm, rfl, hsm, hn⟩
    have hnnm := fun k o hk => Nat.le_trans g.chg.size (hn.new k o hk)
    obtain ⟨g1, rfl⟩ := G.new_ex _ hn
    clear hn
    (try clear g)
    revert g1
    intro g
    go_wp2_with (with_reducible refine G.any_mark _ ?_; (try generalize Array.size (World.heap (G.w _)) = bk); (try dsimp only [List.set_cons_zero, List.set_cons_succ]); (try clear g); intro g)
    refine (CD2.out _ _ _ _ _ (G.sl g (by simp) hsm) (G.sl g (by simp) hsb)).mono ?_
    rintro e w1 ⟨Ay, cy, Fy, By, dy, Hy, rfl, hsy, hty, hn, hm⟩
    have hnny := fun k o hk => Nat.le_trans g.chg.size (hn.new k o hk)
    have hmmy := fun k o hk => Nat.le_trans g.chg.size (hm.new k o hk)
    obtain ⟨g1, rfl⟩ := G.new2_ex _ hn hm
    clear hn hm
    (try clear g)
    revert g1
    intro g
    go_wp2_with (with_reducible refine G.any_mark _ ?_; (try generalize Array.size (World.heap (G.w _)) = bk); (try dsimp only [List.set_cons_zero, List.set_cons_succ]); (try clear g); intro g)
    refine (CS.out _ _ _ _ _ (G.sl g (by simp) hsy) (G.sl g (by simp) hsa)).mono ?_
    rintro e w1 ⟨rfl, hb⟩
    obtain ⟨g1, rfl⟩ := G.call_ex _ hb
    clear hb
    (try clear g)
    revert g1
    intro g
    go_wp2_with (with_reducible refine G.any_mark _ ?_; (try generalize Array.size (World.heap (G.w _)) = bk); (try dsimp only [List.set_cons_zero, List.set_cons_succ]); (try clear g); intro g)
    go_ret
    exact ⟨rfl, g.below⟩
end Go.Proofs.Ytfifcpgjcgoinaa
namespace Go.Proofs.Ytfifcpgjcgoinaa
open Go.RowKit GW NL
theorem Shift_err (A : Option Addr) (c : Nat) (l : List Nat) (n : Int) (w : World) (h : SlW w A c l) (hx : chk l ≠ 0) :
    Calls Try.prog 27 #[.slice A l.length c, .int .i64 n] w (RNE (0, chk l) w) := by
  refine calls_b fun g => ?_
  have C1 := Lib.hid (fun w h => check_any A c l w h)
  have hx' : (chk l == 0) = false := by simpa using hx
  clear hx
  generalize chk l = r at *
  generalize l.length = k at *
  go_enter Try.func27, Try.ntmps27
  go_wp2_with (with_reducible refine G.any_mark _ ?_; (try generalize Array.size (World.heap (G.w _)) = bk); (try dsimp only [List.set_cons_zero, List.set_cons_succ]); (try clear g); intro g)
  refine (C1.out _ (G.sl g (by simp) h)).mono ?_
  rintro e w1 ⟨rfl, hb⟩
  obtain ⟨g1, rfl⟩ := G.call_ex _ hb
  clear hb
  (try clear g)
  revert g1
  intro g
  go_wp2_with (with_reducible refine G.any_mark _ ?_; (try generalize Array.size (World.heap (G.w _)) = bk); (try dsimp only [List.set_cons_zero, List.set_cons_succ]); (try clear g); intro g)
  go_ret2
  exact rne_err g r
theorem Shift_range (A : Option Addr) (c : Nat) (l : List Nat) (n : Int) (w : World) (h : SlW w A c l) (hx : chk l = 0) (hn : n < -10000 ∨ 10000 < n) :
    Calls Try.prog 27 #[.slice A l.length c, .int .i64 n] w (RNE (0, 2) w) := by
  refine calls_b fun g => ?_
  have C1 := Lib.hid (fun w h => check_any A c l w h)
  rw [hx] at C1
  clear hx
  generalize l.length = k at *
  rcases Decidable.em (n < -10000) with h1 | h1
  · clear hn
    have h1' : decide (n < -10000) = true := decide_eq_true h1
    clear h1
    go_enter Try.func27, Try.ntmps27
    go_wp2_with (with_reducible refine G.any_mark _ ?_; (try generalize Array.size (World.heap (G.w _)) = bk); (try dsimp only [List.set_cons_zero, List.set_cons_succ]); (try clear g); intro g)
    refine (C1.out _ (G.sl g (by simp) h)).mono ?_
    rintro e w1 ⟨rfl, hb⟩
    obtain ⟨g1, rfl⟩ := G.call_ex _ hb
    clear hb
    (try clear g)
    revert g1
    intro g
    go_wp2_with (with_reducible refine G.any_mark _ ?_; (try generalize Array.size (World.heap (G.w _)) = bk); (try dsimp only [List.set_cons_zero, List.set_cons_succ]); (try clear g); intro g)
    go_ret2
    exact rne_err g 2
  · have h2 : 10000 < n := by omega
    have h1' : decide (n < -10000) = false := decide_eq_false h1
    clear h1 hn
    go_enter Try.func27, Try.ntmps27
    go_wp2_with (with_reducible refine G.any_mark _ ?_; (try generalize Array.size (World.heap (G.w _)) = bk); (try dsimp only [List.set_cons_zero, List.set_cons_succ]); (try clear g); intro g)
    refine (C1.out _ (G.sl g (by simp) h)).mono ?_
    rintro e w1 ⟨rfl, hb⟩
    obtain ⟨g1, rfl⟩ := G.call_ex _ hb
    clear hb
    (try clear g)
    revert g1
    intro g
    go_wp2_with (with_reducible refine G.any_mark _ ?_; (try generalize Array.size (World.heap (G.w _)) = bk); (try dsimp only [List.set_cons_zero, List.set_cons_succ]); (try clear g); intro g)
    go_ret2
    exact rne_err g 2
theorem Shift_core (A : Option Addr) (c v : Nat) (n : Int) (R : Nat) (w : World) (h : SlW w A c (limbs v)) (hv : v < 2 ^ 8192) (hn1 : -10000 ≤ n) (hn2 : n ≤ 10000)
    (CS : ∀ w, SlW w A c (limbs v) → Calls Try.prog 66 #[.slice A (limbs v).length c, .int .i64 n] w (RNat R w)) :
    Calls Try.prog 27 #[.slice A (limbs v).length c, .int .i64 n] w (RNE (outN 0 R) w) := by
  refine calls_b fun g => ?_
  have C1 := Lib.hid (fun w h => check_any A c (limbs v) w h)
  rw [chk_limbs hv] at C1
  have CS := Lib.hid CS
  have CY := Lib.hid (fun A c w h hv => fits_yes A c R w h hv)
  have CN := Lib.hid (fun A c w h hv => fits_no A c R w h hv)
  have h1' : decide (n < -10000) = false := decide_eq_false (by omega)
  have h2' : decide (10000 < n) = false := decide_eq_false (by omega)
  have h3 : ¬ (n < -10000) := by omega
  have h4 : ¬ (10000 < n) := by omega
  clear hv hn1 hn2
  generalize (limbs v).length = k at *
  rcases Decidable.em (R < 2 ^ 8192) with hR | hR
  · have hO : outN 0 R = (R, 0) := by unfold outN; rw [if_neg (by simp), if_pos hR]
    rw [hO]
    have HR := Lib.hid hR
    clear hO hR
    go_enter Try.func27, Try.ntmps27
    go_wp2_with (with_reducible refine G.any_mark _ ?_; (try generalize Array.size (World.heap (G.w _)) = bk); (try dsimp only [List.set_cons_zero, List.set_cons_succ]); (try clear g); intro g)
    refine (C1.out _ (G.sl g (by simp) h)).mono ?_
    rintro e w1 ⟨rfl, hb⟩
    obtain ⟨g1, rfl⟩ := G.call_ex _ hb
    clear hb
    (try clear g)
    revert g1
    intro g
    go_wp2_with (with_reducible refine G.any_mark _ ?_; (try generalize Array.size (World.heap (G.w _)) = bk); (try dsimp only [List.set_cons_zero, List.set_cons_succ]); (try clear g); intro g)
    refine (CS.out _ (G.sl g (by simp) h)).mono ?_
    rintro e w1 ⟨Ax, cx, Fx, rfl, hsx, hn⟩
    have hnnx := fun k o hk => Nat.le_trans g.chg.size (hn.new k o hk)
    obtain ⟨g1, rfl⟩ := G.new_ex _ hn
    clear hn
    (try clear g)
    revert g1
    intro g
    go_wp2_with (with_reducible refine G.any_mark _ ?_; (try generalize Array.size (World.heap (G.w _)) = bk); (try dsimp only [List.set_cons_zero, List.set_cons_succ]); (try clear g); intro g)
    refine (CY.out _ _ _ (G.sl g (by simp) hsx) HR.out).mono ?_
    rintro e w1 ⟨rfl, hb⟩
    obtain ⟨g1, rfl⟩ := G.call_ex _ hb
    clear hb
    (try clear g)
    revert g1
    intro g
    go_wp2_with (with_reducible refine G.any_mark _ ?_; (try generalize Array.size (World.heap (G.w _)) = bk); (try dsimp only [List.set_cons_zero, List.set_cons_succ]); (try clear g); intro g)
    go_ret2
    exact rne_pass g hsx (by simp) hnnx 0
  · have hO : outN 0 R = (0, 5) := by unfold outN; rw [if_neg (by simp), if_neg hR]
    rw [hO]
    have HR := Lib.hid hR
    clear hO hR
    go_enter Try.func27, Try.ntmps27
    go_wp2_with (with_reducible refine G.any_mark _ ?_; (try generalize Array.size (World.heap (G.w _)) = bk); (try dsimp only [List.set_cons_zero, List.set_cons_succ]); (try clear g); intro g)
    refine (C1.out _ (G.sl g (by simp) h)).mono ?_
    rintro e w1 ⟨rfl, hb⟩
    obtain ⟨g1, rfl⟩ := G.call_ex _ hb
    clear hb
    (try clear g)
    revert g1
    intro g
    go_wp2_with (with_reducible refine G.any_mark _ ?_; (try generalize Array.size (World.heap (G.w _)) = bk); (try dsimp only [List.set_cons_zero, List.set_cons_succ]); (try clear g); intro g)
    refine (CS.out _ (G.sl g (by simp) h)).mono ?_
    rintro e w1 ⟨Ax, cx, Fx, rfl, hsx, hn⟩
    have hnnx := fun k o hk => Nat.le_trans g.chg.size (hn.new k o hk)
    obtain ⟨g1, rfl⟩ := G.new_ex _ hn
    clear hn
    (try clear g)
    revert g1
    intro g
    go_wp2_with (with_reducible refine G.any_mark _ ?_; (try generalize Array.size (World.heap (G.w _)) = bk); (try dsimp only [List.set_cons_zero, List.set_cons_succ]); (try clear g); intro g)
    refine (CN.out _ _ _ (G.sl g (by simp) hsx) HR.out).mono ?_
    rintro e w1 ⟨rfl, hb⟩
    obtain ⟨g1, rfl⟩ := G.call_ex _ hb
    clear hb
    (try clear g)
    revert g1
    intro g
    go_wp2_with (with_reducible refine G.any_mark _ ?_; (try generalize Array.size (World.heap (G.w _)) = bk); (try dsimp only [List.set_cons_zero, List.set_cons_succ]); (try clear g); intro g)
    go_ret2
    exact rne_err g 5
theorem Shift_up (A : Option Addr) (c v s : Nat) (w : World) (h : SlW w A c (limbs v)) (hv : v < 2 ^ 8192) (hs : s ≤ 10000) :
    Calls Try.prog 27 #[.slice A (limbs v).length c, .int .i64 (s : Int)] w (RNE (outN 0 (v * 2 ^ s)) w) := by
  have hl : (limbs v).length ≤ 256 := (limbs_len v 256).2 (by rw [pow32]; exact hv)
  refine Shift_core A c v s (v * 2 ^ s) w h hv (by omega) (by omega) fun w h => ?_
  have := shift_up A c (limbs v) s w h (by omega) (by omega)
  rwa [val_limbs] at this
theorem Shift_down (A : Option Addr) (c v s : Nat) (w : World) (h : SlW w A c (limbs v)) (hv : v < 2 ^ 8192) (hs : s ≤ 10000) :
    Calls Try.prog 27 #[.slice A (limbs v).length c, .int .i64 (-(s : Int))] w (RNE (v / 2 ^ s, 0) w) := by
  have hl : (limbs v).length ≤ 256 := (limbs_len v 256).2 (by rw [pow32]; exact hv)
  have key := Shift_core A c v (-(s : Int)) (v / 2 ^ s) w h hv (by omega) (by omega) fun w h => by
    by_cases h0 : s = 0
    · subst h0
      have := shift_up A c (limbs v) 0 w h (by omega) (by omega)
      rw [val_limbs] at this
      simpa using this
    · have := shift_down A c (limbs v) s (-(s : Int)) w h (by omega) (by omega) (by omega) (by omega)
      rwa [val_limbs] at this
  have hO : outN 0 (v / 2 ^ s) = (v / 2 ^ s, 0) := by unfold outN; rw [if_neg (by simp), if_pos (Nat.lt_of_le_of_lt (Nat.div_le_self _ _) hv)]
  rwa [hO] at key
/-- what Shift returns -/
def outH (e : Int) (v : Nat) (n : Int) : Nat × Int := if e ≠ 0 then (0, e) else if n < -10000 ∨ 10000 < n then (0, 2) else if n < 0 then (v / 2 ^ n.natAbs, 0) else outN 0 (v * 2 ^ n.natAbs)
theorem Shift_any (A : Option Addr) (c : Nat) (l : List Nat) (n : Int) (w : World) (h : SlW w A c l) :
    Calls Try.prog 27 #[.slice A l.length c, .int .i64 n] w (RNE (outH (chk l) (val l) n) w) := by
  unfold outH
  by_cases hx : chk l = 0
  · rw [if_neg (by simpa using hx)]
    by_cases hn : n < -10000 ∨ 10000 < n
    · rw [if_pos hn]
      exact Shift_range A c l n w h hx hn
    · rw [if_neg hn]
      obtain ⟨e1, b1, _⟩ := chk_ok h.ok hx
      by_cases h0 : n < 0
      · rw [if_pos h0]
        have := Shift_down A c (val l) n.natAbs w (by rw [← e1]; exact h) b1 (by omega)
        rw [← e1, show (-(n.natAbs : Int)) = n by omega] at this
        exact this
      · rw [if_neg h0]
        have := Shift_up A c (val l) n.natAbs w (by rw [← e1]; exact h) b1 (by omega)
        rw [← e1, show ((n.natAbs : Nat) : Int) = n by omega] at this
        exact this
  · rw [if_pos hx]
    exact Shift_err A c l n w h hx
theorem pick_any (x : Int) (h1 : -9223372036854775808 ≤ x) (h2 : x ≤ 9223372036854775807) (w : World) : Calls Try.prog 26 #[.int .i64 x, .int .i64 500] w fun e w' => ∃ k : Nat, k < 500 ∧ e = .returned (.int .i64 k) ∧ w = w' := by
  obtain ⟨T, hT⟩ : ∃ T, Int.tmod x 500 = T := ⟨_, rfl⟩
  have b1 : T < 500 := by rw [← hT]; exact Int.tmod_lt_of_pos _ (by decide)
  have b2 : -500 < T := by rw [← hT]; have := Int.lt_tmod_of_pos x (b := 500) (by decide); omega
  by_cases h0 : T < 0
  · obtain ⟨k, hk⟩ : ∃ k : Nat, T + 500 = (k : Int) := ⟨(T + 500).toNat, by omega⟩
    have hw : IntKind.i64.wrap (k : Int) = (k : Int) := by rw [IntKind.wrap_i64]; omega
    have hw2 : IntKind.i64.wrap T = T := by rw [IntKind.wrap_i64]; omega
    go_enter Try.func26, Try.ntmps26
    go_wp2_with fail
    go_ret
    exact ⟨k, by omega, rfl, rfl⟩
  · obtain ⟨k, hk⟩ : ∃ k : Nat, T = (k : Int) := ⟨T.toNat, by omega⟩
    subst hk
    have hw2 : IntKind.i64.wrap (k : Int) = (k : Int) := by rw [IntKind.wrap_i64]; omega
    go_enter Try.func26, Try.ntmps26
    go_wp2_with fail
    go_ret
    exact ⟨k, by omega, rfl, rfl⟩
end Go.Proofs.Ytfifcpgjcgoinaa
