/- Plain facts and contracts of functions of the program, out of walks. Their conditions stand ahead of each. -/
import Derived.Test.YtjdnpkicdmapnaaGreatDoorNm21
import Derived.Below
import Derived.BigQuiet
import Derived.Deep.Draws
import Derived.Deep.QuietTactic
import Derived.Deep.RegionHeld3
import Derived.Defers
import Derived.Laws.BytesString
import Derived.Laws.Cells
import Derived.Laws.NewBlocks
import Derived.Laws.OwnMore
import Derived.Laws.Pointers
import Derived.Laws.Rows
import Derived.Lib.BitFns
import Derived.Lib.Hide
import Derived.Lib.ItoaNum
import Derived.LoopIn
import Derived.LoopNIn
import Derived.Maps.AppendAt
import Derived.OrdersIn
import Derived.OwnWalk
import Derived.OwnWalkIn
import Derived.RangeFuncBound
import Derived.RangeFuncBox
import Derived.RangeFuncCalls
import Derived.RangeFuncLeaves
import Derived.RangeFuncNested
import Derived.RowKit3
import Derived.Shelf.Abstract
import Derived.Shelf.RegionOpen
import Derived.StillTactics
import Derived.StillTailTactics
import Derived.TacticsInMore
import Derived.Test.YtjdnpkicdmapnaaGreatDoorProg
import Derived.WalkKit
import Derived.WalkLawsBesides
import Derived.WalkSpells
set_option linter.unusedVariables false
set_option linter.unusedSimpArgs false
set_option exponentiation.threshold 10000
namespace Go.Proofs.YtjdnpkicdmapnaaGreatDoor
open Go.RowKit GW NL
/-- a text of bytes -/
def bstr (l : List Nat) : ByteArray := (l.map fun x : Nat => (x : Int)).foldl (fun r n => r.push (UInt8.ofNat n.toNat)) ByteArray.empty
theorem load_bytes (P : Program) (w : World) (b n : Nat) (l : List Nat) (tl : List Value) (T : TypeId) (hn : l.length = n) (hb : w.heap[b]? = some (.cells (u8s l ++ tl).toArray T (0, 0))) :
    (loadCells ⟨b, 0, none⟩ n).run P w = .ok ((l.map fun x : Nat => (x : Int)).map (Value.int .u8)).toArray w := by
  have h := run_loadCells_list (P := P) (w := w) ⟨b, 0, none⟩ ((l.map fun x : Nat => (x : Int)).map (Value.int .u8)) (by
    intro j v hj
    have hlt : j < l.length := by
      have := (List.getElem?_eq_some_iff.1 hj).1
      simpa using this
    rw [add_off]
    refine (cell_of_row w b j _ _ _ hb).trans ?_
    rw [List.getElem?_toArray, List.getElem?_append_left (by rw [u8s_len]; exact hlt), ← hj]
    simp only [u8s, List.getElem?_map, Option.map_map]
    rfl)
  simp only [List.length_map, hn] at h
  exact h
theorem string_of (P : Program) (w : World) (src dst e : TypeId) (b n cap : Nat) (l : List Nat) (tl : List Value) (T : TypeId) (hs : P.underlying src = some (.slice e)) (he : P.underlying e = some (.int .u8)) (hd : P.underlying dst = some .string) (hn : l.length = n) (hb : w.heap[b]? = some (.cells (u8s l ++ tl).toArray T (0, 0))) :
    (convert src dst (.slice (some ⟨b, 0, none⟩) n cap)).run P w = .ok (.string (bstr l)) w := by
  rw [run_convert_bytes_string w src dst e _ n cap hs he hd]
  exact run_bytesToString w _ _ _ _ (load_bytes P w b n l tl T hn hb)
theorem text1_d (g0 : World) (X : List Nat) (R : List Blk) (I : List Frag) (b db tb n cap : Nat) (l : List Nat) (tl : List Value) (s0 : Value) (hn : l.length = n) (hn9 : n ≤ 1000000000) (hc : n ≤ cap)
    (g : G g0 X ((b, 5, u8s l ++ tl) :: (db, 96, [.slice (some ⟨b, 0, none⟩) n cap]) :: (tb, 9, [s0]) :: R) I) (u : FrameMode) :
    CallsD Tryz.prog 99 #[.pointer (some ⟨db, 0, none⟩), .pointer (some ⟨tb, 0, none⟩)] u g.w fun e u' w' => u' = u ∧ (e = .returned (.tuple #[]) ∧
      ∃ g' : G g0 X ((b, 5, u8s l.reverse ++ tl) :: (db, 96, [.slice (some ⟨b, 0, none⟩) n cap]) :: (tb, 9, [.string (bstr l.reverse)]) :: R) I, w' = g'.w) := by
  have CR := Lib.hid (fun w hb => reverse_any b n cap 5 l tl w hn hn9 hc hb)
  have hst := fun (w : World) (h : w.heap[b]? = some (.cells (u8s l.reverse ++ tl).toArray 5 (0, 0))) => string_of Tryz.prog w 96 9 5 b n cap l.reverse tl 5 Tryz.underlying96 Tryz.underlying5 Tryz.underlying9 (by rw [List.length_reverse]; exact hn) h
  have HST := Lib.hid hst
  clear hst
  go_enter_d Tryz.func99, Tryz.ntmps99
  go_wp2_with (with_reducible refine G.any_mark _ ?_; (try generalize Array.size (World.heap (G.w _)) = bk); (try dsimp only [List.set_cons_zero, List.set_cons_succ]); (try clear g); intro g)
  refine (CR.out _ g.blk0).mono ?_
  rintro e w1 ⟨rfl, hch, hcb⟩
  obtain ⟨g1, rfl⟩ := G.mut0 _ hch hcb
  clear hch hcb g
  revert g1
  intro g
  have hst := HST.out g.w g.blk0
  go_wp2_with (with_reducible refine G.any_mark _ ?_; (try generalize Array.size (World.heap (G.w _)) = bk); (try dsimp only [List.set_cons_zero, List.set_cons_succ]); (try clear g); intro g)
  go_end0
  exact ⟨rfl, _, rfl⟩
/-- the text of a number, as bytes -/
def dec (v : Nat) : List Nat := if v = 0 then [48] else ((digs v).map (48 + ·)).reverse
theorem infoU8 : (Tryz.prog.info? 5).map (fun i => (i.zero, i.size, i.bytes)) = some (some (.int .u8 0), 1, 1) := by kernel_rfl
theorem calls_bd {P : Program} {f : FuncId} {args : Array Value} {w : World} {R : Ending → World → Prop} (h : ∀ g : G w [] [] [heapOf w, heapOf w], Calls P f args g.w R) : Calls P f args w R := by
  obtain ⟨g, e⟩ := G.lessI (G.begin w) (I' := [heapOf w, heapOf w]) (by simp)
  have := h g
  rw [← e] at this
  exact this
theorem Text_err (A : Option Addr) (c : Nat) (l : List Nat) (w : World) (h : SlW w A c l) (hc : chk l ≠ 0) :
    Calls Tryz.prog 66 #[.slice A l.length c] w fun e w' => e = .returned (.tuple #[.string { data := #[] }, .int .i64 (chk l)]) ∧ Below w.heap.size w w' := by
  refine calls_b fun g => ?_
  have C1 := Lib.hid (fun w h => check_any A c l w h)
  have hx : (chk l == 0) = false := by simpa using hc
  clear hc
  generalize chk l = r at *
  generalize l.length = n at *
  go_enter_defers Tryz.func66, Tryz.ntmps66
  go_wp2_with (with_reducible refine G.any_mark _ ?_; (try generalize Array.size (World.heap (G.w _)) = bk); (try dsimp only [List.set_cons_zero, List.set_cons_succ]); (try clear g); intro g)
  refine (C1.out _ (G.sl g (by simp) h)).mono ?_
  rintro e w1 ⟨rfl, hb⟩
  obtain ⟨g1, rfl⟩ := G.call_ex _ hb
  clear hb
  (try clear g)
  revert g1
  intro g
  go_wp2_with (with_reducible refine G.any_mark _ ?_; (try generalize Array.size (World.heap (G.w _)) = bk); (try dsimp only [List.set_cons_zero, List.set_cons_succ]); (try clear g); intro g)
  refine ⟨.tuple #[.string { data := #[] }, .int .i64 r], by simp [results, Tryz.f66, go_sem], rfl, G.below _⟩
theorem Text_zero (A : Option Addr) (c : Nat) (w : World) (h : SlW w A c []) :
    Calls Tryz.prog 66 #[.slice A 0 c] w fun e w' => e = .returned (.tuple #[.string (bstr (dec 0)), .int .i64 0]) ∧ Below w.heap.size w w' := by
  refine calls_b fun g => ?_
  have e0 : bstr (dec 0) = { data := #[48] } := by rfl
  rw [e0]
  have C1 := Lib.hid (fun w h => check_any A c [] w h)
  have hck : chk [] = 0 := by decide
  rw [hck, List.length_nil] at C1
  go_enter_defers Tryz.func66, Tryz.ntmps66
  go_wp2_with (with_reducible refine G.any_mark _ ?_; (try generalize Array.size (World.heap (G.w _)) = bk); (try dsimp only [List.set_cons_zero, List.set_cons_succ]); (try clear g); intro g)
  refine (C1.out _ (G.sl g (by simp) h)).mono ?_
  rintro e w1 ⟨rfl, hb⟩
  obtain ⟨g1, rfl⟩ := G.call_ex _ hb
  clear hb
  (try clear g)
  revert g1
  intro g
  go_wp2_with (with_reducible refine G.any_mark _ ?_; (try generalize Array.size (World.heap (G.w _)) = bk); (try dsimp only [List.set_cons_zero, List.set_cons_succ]); (try clear g); intro g)
  refine ⟨.tuple #[.string { data := #[48] }, .int .i64 0], by simp [results, Tryz.f66, go_sem], rfl, G.below _⟩
theorem digs_len_v {v : Nat} (h : v < 2 ^ 8192) : (digs v).length ≤ 2500 := digs_len v 2500 (Nat.lt_of_lt_of_le h (Nat.le_of_ble_eq_true rfl))
/-- the number that a slice reads as -/
def mval (s : Value) (w : World) : Nat := match s with
  | .slice (some a) n _ => val ((List.range n).map fun j => (match w.cell? ⟨a.block, a.off + j, none⟩ with | some v => (intOf v).toNat | none => 0))
  | _ => 0
theorem mval_eq {w : World} {A : Option Addr} {c : Nat} {l : List Nat} (h : SlW w A c l) : mval (.slice A l.length c) w = val l := by
  by_cases h0 : 0 < l.length
  · obtain ⟨b, o, rfl, hc⟩ := limW_cell h.lim h0
    show val _ = val l
    congr 1
    apply List.ext_getElem
    · simp
    · intro j h1 h2
      rw [List.getElem_map, List.getElem_range]
      rw [hc j h2, List.getD_eq_getElem?_getD, List.getElem?_eq_getElem h2]
      show ((l[j] : Nat) : Int).toNat = l[j]
      omega
  · have : l = [] := List.eq_nil_of_length_eq_zero (by omega)
    subst this
    cases A <;> rfl
/-- digits in memory: none yet, or a row of them -/
theorem digs_step {v x : Nat} {ds : List Nat} (h : digs v = ds ++ digs x) (h0 : x ≠ 0) : digs v = (ds ++ [x % 10]) ++ digs (x / 10) := by
  rw [h, digs_pos h0, List.append_assoc]; rfl
set_option maxHeartbeats 1000000 in
theorem Text_pos (A : Option Addr) (c : Nat) (v : Nat) (w : World) (h : SlW w A c (limbs v)) (hv : v < 2 ^ 8192) (h0 : v ≠ 0) :
    Calls Tryz.prog 66 #[.slice A (limbs v).length c] w fun e w' => e = .returned (.tuple #[.string (bstr (dec v)), .int .i64 0]) ∧ Below w.heap.size w w' := by
  refine calls_bd fun g => ?_
  have hl : (limbs v).length ≤ 256 := (limbs_len v 256).2 (by rw [pow32]; exact hv)
  have hp : 0 < (limbs v).length := by
    rcases Nat.eq_zero_or_pos (limbs v).length with h1 | h1
    · exact absurd (limbs_nil.1 (List.eq_nil_of_length_eq_zero h1)) h0
    · exact h1
  have C1 := Lib.hid (fun w h => check_any A c (limbs v) w h)
  rw [chk_limbs hv] at C1
  have hne : (((limbs v).length : Int) == 0) = false := by rw [beq_eq_false_iff_ne]; omega
  have hmf : ∀ (fn : Fn) (first cap : Array Value) (w : World), (Instr.makeFunc fn first cap).run Tryz.prog w = .ok (.func fn first cap) w := fun _ _ _ _ => rfl
  obtain ⟨i0, hi, hz0, hz1, hz2⟩ := info_parts infoU8
  have HL := Lib.hid (show (limbs v).length = (limbs v).length from rfl)
  go_enter_defers Tryz.func66, Tryz.ntmps66
  go_wp2_with (with_reducible refine G.any_mark _ ?_; (try generalize Array.size (World.heap (G.w _)) = bk); (try dsimp only [List.set_cons_zero, List.set_cons_succ]); (try clear g); intro g)
  refine (C1.out _ (G.sl g (by simp) h)).mono ?_
  rintro e w1 ⟨rfl, hb⟩
  obtain ⟨g1, rfl⟩ := G.call_ex _ hb
  clear hb
  (try clear g)
  revert g1
  intro g
  go_wp2_with (with_reducible refine G.any_mark _ ?_; (try generalize Array.size (World.heap (G.w _)) = bk); (try dsimp only [List.set_cons_zero, List.set_cons_succ]); (try clear g); intro g)
  rename_i tb _ _
  go_loopw [0] (fun s wr => ∃ (x c' : Nat) (A' : Option Addr) (F : Frag) (ds : List Nat), s = .slice A' (limbs x).length c' ∧ F.Sl A' c' (limbs x) ∧ digs v = ds ++ digs x ∧ x ≤ v ∧
      ((ds = [] ∧ ∃ g : G w [] [(bk, 96, [.slice none 0 0]), (tb, 9, [.string { data := #[] }])] [F, heapOf w], wr = g.w) ∨
       (∃ b cap cs, Row 5 1 ds.length (u8s (ds.map (48 + ·))) cap cs ∧ w.heap.size ≤ b ∧ ∃ g : G w [] [(b, 5, cs), (bk, 96, [.slice (some ⟨b, 0, none⟩) ds.length cap]), (tb, 9, [.string { data := #[] }])] [F, heapOf w], wr = g.w)))
    (fun s wr => mval s wr)
  case atStart => exact ⟨v, c, A, heapOf w, [], rfl, h, rfl, Nat.le_refl _, .inl ⟨rfl, g, rfl⟩⟩
  case round =>
    obtain ⟨db, rfl⟩ : ∃ db : Nat, db = bk := ⟨_, rfl⟩
    clear g C1 hne HL hp hl
    obtain ⟨x, c', A', F, ds, rfl, hF, hds, hxv, hcase⟩ := hrel
    have hx9 := Nat.lt_of_le_of_lt hxv hv
    have hl : (limbs x).length ≤ 256 := (limbs_len x 256).2 (by rw [pow32]; exact hx9)
    have HD := Lib.hid hds
    clear hds hx9
    by_cases hx : x = 0
    · subst hx
      rw [limbs_zero, List.length_nil]
      rcases hcase with ⟨rfl, g, rfl⟩ | ⟨b, cap, cs, hr, hb, g, rfl⟩
      · exfalso
        have := HD.out
        rw [digs_zero, digs_pos h0] at this
        cases this
      · go_wp2_with (with_reducible refine G.any_mark _ ?_; (try generalize Array.size (World.heap (G.w _)) = bk); (try dsimp only [List.set_cons_zero, List.set_cons_succ]); (try clear g); intro g)
        have hcs : cs = u8s (ds.map (48 + ·)) ++ cs.drop ds.length := by
          have := hr.take
          rw [Nat.mul_one] at this
          rw [← this, List.take_append_drop]
        have hlen : ds.length ≤ 2500 := by
          have h1 := digs_len_v hv
          rw [HD.out, List.length_append] at h1
          omega
        have hle := hr.le
        generalize cs.drop ds.length = tl at hcs
        subst hcs
        refine G.any_mark _ ?_
        intro g
        refine leaves_cons (f := 99) (args := #[.pointer (some ⟨db, 0, none⟩), .pointer (some ⟨tb, 0, none⟩)]) (by simp) (by simp [go_sem]) ?_
        refine (text1_d w [] [] _ b db tb ds.length cap (ds.map (48 + ·)) tl _ (by simp) (by omega) hle g _).mono ?_
        rintro e u' w'' ⟨rfl, rfl, g', rfl⟩
        have hfin : bstr (dec v) = bstr (ds.map (48 + ·)).reverse := by
          unfold dec
          rw [if_neg h0, HD.out, digs_zero, List.append_nil]
        rw [hfin]
        exact ⟨.tuple #[.string (bstr (ds.map (48 + ·)).reverse), .int .i64 0], by simp [results, Tryz.f66, go_sem], rfl, g'.below⟩
    · have CS := Lib.hid (fun w h => small_any A' c' (limbs x) 10 w h (by omega) (by omega) (by omega))
      rw [val_limbs] at CS
      have HN := Lib.hid (digs_step HD.out hx)
      have hp : 0 < (limbs x).length := by
        rcases Nat.eq_zero_or_pos (limbs x).length with h1 | h1
        · exact absurd (limbs_nil.1 (List.eq_nil_of_length_eq_zero h1)) hx
        · exact h1
      have hlen : (ds ++ [x % 10]).length ≤ 2500 := by
        have h1 := digs_len_v hv
        rw [HN.out, List.length_append] at h1
        omega
      rw [List.length_append, List.length_singleton] at hlen
      have hr10 : x % 10 < 10 := Nat.mod_lt _ (by decide)
      have hlt : x / 10 < x := Nat.div_lt_self (Nat.pos_of_ne_zero hx) (by decide)
      obtain ⟨y, hy⟩ : ∃ y, 48 + x % 10 = y := ⟨_, rfl⟩
      have HY := Lib.hid hy
      have hw1 : IntKind.u32.wrap (48 + ((x % 10 : Nat) : Int)) = (y : Int) := by rw [IntKind.wrap_u32]; omega
      have H1 : ∀ u ∈ [Value.int .u8 (y : Int)], u.oneCell' = true := by intro u hu; rw [List.mem_singleton.1 hu]; rfl
      have hw2 : IntKind.u8.wrap (y : Int) = (y : Int) := by rw [IntKind.wrap_u8]; omega
      have hlt' : x / 10 ≤ v := by omega
      clear hy hlt'
      rcases hcase with ⟨rfl, g, rfl⟩ | ⟨b, cap, cs, hrow, hb, g, rfl⟩
      · have MV := Lib.hid (mval_eq (g.sl (by simp) hF))
        go_wp2_with (with_reducible refine G.any_mark _ ?_; (try generalize Array.size (World.heap (G.w _)) = bk); (try dsimp only [List.set_cons_zero, List.set_cons_succ]); (try clear g); intro g)
        refine (CS.out _ (g.sl (by simp) hF)).mono ?_
        rintro e w1 ⟨A2, c2, F2, rfl, hs2, hn⟩
        obtain ⟨g1, rfl⟩ := G.new_ex _ hn
        clear hn
        obtain ⟨g2, hg2⟩ := G.lessI g1 (I' := [F2, heapOf w]) (by simp)
        rw [hg2]
        clear hg2 g1
        generalize ((x % 10 : Nat) : Int) = r at *
        go_wp2_with (first | (at_builtin; refine wpList_append_lit0 rfl _ _ 96 rfl 5 i0 _ 1 1 Tryz.underlying96 hi hz0 hz1 hz2 rfl (by decide) g3 rfl 1 rfl rfl H1 (by decide) (by decide) (by decide) ?_; intro b cap cs g3 hb hrow) | (with_reducible refine G.any_mark _ ?_; (try generalize Array.size (World.heap (G.w _)) = bk); (try dsimp only [List.set_cons_zero, List.set_cons_succ]); intro g3))
        refine ⟨⟨x / 10, c2, A2, F2, [x % 10], rfl, hs2, HN.out, by omega, .inr ⟨b, cap, cs, ?_, hb, g3.st1 0 (.slice (some ⟨b, 0, none⟩) 1 cap), rfl⟩⟩, ?_⟩
        · have e : u8s ([x % 10].map (48 + ·)) = [.int .u8 (y : Int)] := by simp only [u8s, List.map_cons, List.map_nil, HY.out]
          rw [e]; exact hrow
        · refine Nat.lt_of_le_of_lt (Nat.le_of_eq (mval_eq ((g3.st1 0 (.slice (some ⟨b, 0, none⟩) 1 cap)).sl (by simp) hs2))) ?_
          rw [MV.out, val_limbs, val_limbs]; exact hlt
      · have MV := Lib.hid (mval_eq (g.sl (by simp) hF))
        obtain ⟨n, hn⟩ : ∃ n, ds.length = n := ⟨_, rfl⟩
        have HDN := Lib.hid hn
        rw [hn] at hrow hlen
        have H2 : n + 1 ≤ maxLen := by show n + 1 ≤ 9223372036854775807; omega
        have H3 : (n + 1) * 1 ≤ 140737488355328 := by omega
        have ec : Hid ((n : Int) = ((ds.length : Nat) : Int)) := Lib.hid (by rw [hn])
        obtain ⟨g0, hg0⟩ : ∃ g0 : G w [] [(b, 5, cs), (db, 96, [.slice (some ⟨b, 0, none⟩) n cap]), (tb, 9, [.string { data := #[] }])] [F, heapOf w], g.w = g0.w := g.as (by rw [hn])
        have MV0 : Hid (mval (Value.slice A' (limbs x).length c') g0.w = val (limbs x)) := Lib.hid (by rw [← hg0]; exact MV.out)
        rw [hg0]
        clear hn hg0 MV g
        go_wp2_with (with_reducible refine G.any_mark _ ?_; (try generalize Array.size (World.heap (G.w _)) = bk); (try dsimp only [List.set_cons_zero, List.set_cons_succ]); (try clear g); intro g)
        refine (CS.out _ (g0.sl (by simp) hF)).mono ?_
        rintro e w1 ⟨A2, c2, F2, rfl, hs2, hn⟩
        obtain ⟨g1, rfl⟩ := G.new_ex _ hn
        clear hn
        obtain ⟨g2, hg2⟩ := G.lessI g1 (I' := [F2, heapOf w]) (by simp)
        rw [hg2]
        clear hg2 g1
        generalize ((x % 10 : Nat) : Int) = r at *
        go_wp2_with (first | (at_builtin; refine wpList_append_lit rfl _ _ 96 rfl 5 i0 _ 1 1 Tryz.underlying96 hi hz0 hz1 hz2 rfl (by decide) g3 hrow hb rfl 1 rfl rfl H1 (by decide) H2 H3 ?_; clear hb hrow; intro b cap cs g3 hb hrow) | (with_reducible refine G.any_mark _ ?_; (try generalize Array.size (World.heap (G.w _)) = bk); (try dsimp only [List.set_cons_zero, List.set_cons_succ]); intro g3))
        obtain ⟨g5, hg5⟩ : ∃ g5 : G w [] [(b, 5, cs), (db, 96, [.slice (some ⟨b, 0, none⟩) (ds ++ [x % 10]).length cap]), (tb, 9, [.string { data := #[] }])] [F2, heapOf w], (g3.st1 0 (.slice (some ⟨b, 0, none⟩) (n + 1) cap)).w = g5.w := G.as _ (by rw [List.length_append, HDN.out]; rfl)
        refine ⟨⟨x / 10, c2, A2, F2, ds ++ [x % 10], rfl, hs2, HN.out, by omega, .inr ⟨b, cap, cs, ?_, hb, g5, hg5⟩⟩, ?_⟩
        · have e : u8s ((ds ++ [x % 10]).map (48 + ·)) = u8s (ds.map (48 + ·)) ++ [.int .u8 (y : Int)] := by rw [List.map_append, u8s_append]; simp only [u8s, List.map_cons, List.map_nil, HY.out]
          rw [e, List.length_append, List.length_singleton, HDN.out]; exact hrow
        · have e := mval_eq (g5.sl (by simp) hs2)
          rw [← hg5] at e
          refine Nat.lt_of_le_of_lt (Nat.le_of_eq e) ?_
          rw [MV0.out, val_limbs, val_limbs]; exact hlt
theorem Text_ok (A : Option Addr) (c : Nat) (v : Nat) (w : World) (h : SlW w A c (limbs v)) (hv : v < 2 ^ 8192) :
    Calls Tryz.prog 66 #[.slice A (limbs v).length c] w fun e w' => e = .returned (.tuple #[.string (bstr (dec v)), .int .i64 0]) ∧ Below w.heap.size w w' := by
  by_cases h0 : v = 0
  · subst h0
    rw [limbs_zero] at h ⊢
    exact Text_zero A c w h
  · exact Text_pos A c v w h hv h0
end Go.Proofs.YtjdnpkicdmapnaaGreatDoor
