/- Plain facts and contracts of functions of the program, out of walks. Their conditions stand ahead of each. -/
import Derived.Test.YtodigegjngnknaaDe24
import Derived.Below
import Derived.BigQuiet
import Derived.Deep.Draws
import Derived.Deep.QuietTactic
import Derived.Deep.RegionHeld3
import Derived.Defers
import Derived.Laws.BytesString
import Derived.Laws.Cells
import Derived.Laws.NewBlocks
import Derived.Laws.OwnMore
import Derived.Laws.Pointers
import Derived.Laws.Rows
import Derived.Lib.BitFns
import Derived.Lib.Hide
import Derived.Lib.ItoaNum
import Derived.LoopIn
import Derived.LoopNIn
import Derived.Maps.AppendAt
import Derived.OrdersIn
import Derived.OwnWalk
import Derived.OwnWalkIn
import Derived.RangeFuncBound
import Derived.RangeFuncBox
import Derived.RangeFuncCalls
import Derived.RangeFuncLeaves
import Derived.RangeFuncNested
import Derived.RowKit3
import Derived.Shelf.Abstract
import Derived.Shelf.RegionOpen
import Derived.StillTactics
import Derived.StillTailTactics
import Derived.TacticsInMore
import Derived.Test.YtodigegjngnknaaProg
import Derived.WalkKit
import Derived.WalkLawsBesides
import Derived.WalkSpells
set_option linter.unusedVariables false
set_option linter.unusedSimpArgs false
set_option exponentiation.threshold 10000
namespace Go.Proofs.Ytodigegjngnknaa
open Go.RowKit GW NL
/-- a text of bytes -/
def bstr (l : List Nat) : ByteArray := (l.map fun x : Nat => (x : Int)).foldl (fun r n => r.push (UInt8.ofNat n.toNat)) ByteArray.empty
theorem load_bytes (P : Program) (w : World) (b n : Nat) (l : List Nat) (tl : List Value) (T : TypeId) (hn : l.length = n) (hb : w.heap[b]? = some (.cells (u8s l ++ tl).toArray T (0, 0))) :
    (loadCells ⟨b, 0, none⟩ n).run P w = .ok ((l.map fun x : Nat => (x : Int)).map (Value.int .u8)).toArray w := by
  have h := run_loadCells_list (P := P) (w := w) ⟨b, 0, none⟩ ((l.map fun x : Nat => (x : Int)).map (Value.int .u8)) (by
    intro j v hj
    have hlt : j < l.length := by
      have := (List.getElem?_eq_some_iff.1 hj).1
      simpa using this
    rw [add_off]
    refine (cell_of_row w b j _ _ _ hb).trans ?_
    rw [List.getElem?_toArray, List.getElem?_append_left (by rw [u8s_len]; exact hlt), ← hj]
    simp only [u8s, List.getElem?_map, Option.map_map]
    rfl)
  simp only [List.length_map, hn] at h
  exact h
theorem string_of (P : Program) (w : World) (src dst e : TypeId) (b n cap : Nat) (l : List Nat) (tl : List Value) (T : TypeId) (hs : P.underlying src = some (.slice e)) (he : P.underlying e = some (.int .u8)) (hd : P.underlying dst = some .string) (hn : l.length = n) (hb : w.heap[b]? = some (.cells (u8s l ++ tl).toArray T (0, 0))) :
    (convert src dst (.slice (some ⟨b, 0, none⟩) n cap)).run P w = .ok (.string (bstr l)) w := by
  rw [run_convert_bytes_string w src dst e _ n cap hs he hd]
  exact run_bytesToString w _ _ _ _ (load_bytes P w b n l tl T hn hb)
/-- the text of a number, as bytes -/
def dec (v : Nat) : List Nat := if v = 0 then [48] else ((digs v).map (48 + ·)).reverse
theorem infoU8 : (Try.prog.info? 5).map (fun i => (i.zero, i.size, i.bytes)) = some (some (.int .u8 0), 1, 1) := by kernel_rfl
theorem calls_bd {P : Program} {f : FuncId} {args : Array Value} {w : World} {R : Ending → World → Prop} (h : ∀ g : G w [] [] [heapOf w, heapOf w], Calls P f args g.w R) : Calls P f args w R := by
  obtain ⟨g, e⟩ := G.lessI (G.begin w) (I' := [heapOf w, heapOf w]) (by simp)
  have := h g
  rw [← e] at this
  exact this
theorem digs_len_v {v : Nat} (h : v < 2 ^ 8192) : (digs v).length ≤ 2500 := digs_len v 2500 (Nat.lt_of_lt_of_le h (Nat.le_of_ble_eq_true rfl))
/-- the number that a slice reads as -/
def mval (s : Value) (w : World) : Nat := match s with
  | .slice (some a) n _ => val ((List.range n).map fun j => (match w.cell? ⟨a.block, a.off + j, none⟩ with | some v => (intOf v).toNat | none => 0))
  | _ => 0
theorem mval_eq {w : World} {A : Option Addr} {c : Nat} {l : List Nat} (h : SlW w A c l) : mval (.slice A l.length c) w = val l := by
  by_cases h0 : 0 < l.length
  · obtain ⟨b, o, rfl, hc⟩ := limW_cell h.lim h0
    show val _ = val l
    congr 1
    apply List.ext_getElem
    · simp
    · intro j h1 h2
      rw [List.getElem_map, List.getElem_range]
      rw [hc j h2, List.getD_eq_getElem?_getD, List.getElem?_eq_getElem h2]
      show ((l[j] : Nat) : Int).toNat = l[j]
      omega
  · have : l = [] := List.eq_nil_of_length_eq_zero (by omega)
    subst this
    cases A <;> rfl
/-- digits in memory: none yet, or a row of them -/
theorem digs_step {v x : Nat} {ds : List Nat} (h : digs v = ds ++ digs x) (h0 : x ≠ 0) : digs v = (ds ++ [x % 10]) ++ digs (x / 10) := by
  rw [h, digs_pos h0, List.append_assoc]; rfl
end Go.Proofs.Ytodigegjngnknaa
