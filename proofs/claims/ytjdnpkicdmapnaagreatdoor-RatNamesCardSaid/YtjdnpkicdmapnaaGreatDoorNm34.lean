/- Plain facts and contracts of functions of the program, out of walks. Their conditions stand ahead of each. -/
import Derived.Test.YtjdnpkicdmapnaaGreatDoorNm2
import Derived.Test.YtjdnpkicdmapnaaGreatDoorNm30
import Derived.Below
import Derived.BigQuiet
import Derived.Deep.Draws
import Derived.Deep.LoopGhost
import Derived.Deep.QuietTactic
import Derived.Deep.RegionHeld3
import Derived.Defers
import Derived.Laws.BytesString
import Derived.Laws.Cells
import Derived.Laws.Concat
import Derived.Laws.CopyOwn
import Derived.Laws.IdiomStrings
import Derived.Laws.NewBlocks
import Derived.Laws.OwnMore
import Derived.Laws.Pointers
import Derived.Laws.Rows
import Derived.Laws.Runes
import Derived.Lib.BitFns
import Derived.Lib.Hide
import Derived.Lib.ItoaNum
import Derived.LoopIn
import Derived.LoopNIn
import Derived.Maps.AppendAt
import Derived.OrdersIn
import Derived.OwnWalk
import Derived.OwnWalkIn
import Derived.RangeFuncBound
import Derived.RangeFuncBox
import Derived.RangeFuncCalls
import Derived.RangeFuncLeaves
import Derived.RangeFuncNested
import Derived.Room.AppendFits
import Derived.RowKit3
import Derived.Shelf.Abstract
import Derived.Shelf.RegionOpen
import Derived.StillTactics
import Derived.StillTailTactics
import Derived.TacticsInMore
import Derived.Test.YtjdnpkicdmapnaaGreatDoorProg
import Derived.WalkKit
import Derived.WalkLawsBesides
import Derived.WalkMore
import Derived.WalkSpells
set_option linter.unusedVariables false
set_option linter.unusedSimpArgs false
set_option exponentiation.threshold 10000
namespace Go.Proofs.YtjdnpkicdmapnaaGreatDoor
open Go.RowKit GW NL
theorem madeU8 (n : Nat) : madeCells (Value.int .u8 0).cells (n * 1) = (u8s (List.replicate n 0)).toArray := by
  rw [Nat.mul_one]
  apply Array.toList_inj.1
  exact (toList_madeCells_one _ _).trans (by simp [u8s])
theorem make_bytes (n : Nat) (hn : n ≤ 35184372088832) (w : World) : (Instr.makeSlice 96 (.int .i64 0) (.int .i64 (n : Int))).run Tryz.prog w = .ok (.slice (some ⟨w.heap.size, 0, none⟩) 0 n) (w.alloc (.cells (u8s (List.replicate n 0)).toArray 5)) := by
  obtain ⟨i0, hi, hz0, hz1, hz2⟩ := info_parts infoU8
  have h := run_make (P := Tryz.prog) w 96 5 i0 _ Tryz.underlying96 hi hz0 .i64 .i64 0 n (by omega) (by omega) (by rw [hz2]; omega) (by omega)
  rw [hz1] at h
  simp only [Int.toNat_natCast] at h
  rw [madeU8] at h
  exact h
set_option maxRecDepth 20000 in
theorem times_nine (n : Nat) (h0 : 0 < n) (h9 : n ≤ 3000) (w : World) : Calls Tryz.prog 38 #[.string { data := #[57] }, .int .i64 (n : Int)] w (fun e w' => e = .returned (.string (bstr (List.replicate n 57))) ∧ Below w.heap.size w w') := by
  refine calls_b fun g => ?_
  obtain ⟨i0, hi, hzz0, hzz1, hzz2⟩ := info_parts infoU8
  have hmk := fun w => make_bytes n (by omega) w
  have HS : Hid (Lib.strCells { data := #[57] } = u8s [57]) := Lib.hid rfl
  have HROW0 : Hid (Row 5 1 0 (u8s (List.replicate 0 57)) n (u8s (List.replicate n 0))) := Lib.hid ⟨by omega, by show n ≤ 9223372036854775807; omega, by rw [u8s_len, List.length_replicate, Nat.mul_one], rfl, rfl⟩
  have hni : (0 : Int) < (n : Int) := by omega
  have hst := fun (w : World) (b : Nat) (tl : List Value) (h : w.heap[b]? = some (.cells (u8s (List.replicate n 57) ++ tl).toArray 5 (0, 0))) => string_of Tryz.prog w 96 9 5 b n n (List.replicate n 57) tl 5 Tryz.underlying96 Tryz.underlying5 Tryz.underlying9 (List.length_replicate ..) h
  have HST := Lib.hid hst
  clear hst
  go_enter Tryz.func38, Tryz.ntmps38
  go_wp2_with (with_reducible refine G.any_mark _ ?_; (try generalize Array.size (World.heap (G.w _)) = bk); (try dsimp only [List.set_cons_zero, List.set_cons_succ]); (try clear g); intro g)
  obtain ⟨b, rfl⟩ : ∃ b : Nat, b = bk := ⟨_, rfl⟩
  have hb : w.heap.size ≤ b := g.fresh (List.mem_cons_self ..)
  go_loopg [5, 6] n (fun gk s2 s3 wr => ∃ (k : Nat) (cs : List Value), k + gk = n ∧ s3 = .int .i64 (k : Int) ∧ s2 = .slice (some ⟨b, 0, none⟩) k n ∧ Row 5 1 k (u8s (List.replicate k 57)) n cs ∧ ∃ g : G w [] [(b, 5, cs)] [heapOf w], wr = g.w)
  case atStart => exact ⟨0, _, by omega, rfl, rfl, HROW0.out, g, rfl⟩
  case round =>
    clear g
    obtain ⟨kq, rfl⟩ : ∃ kq : Nat, kq = gk := ⟨_, rfl⟩
    obtain ⟨k, cs, hkg, rfl, rfl, hrow, g, rfl⟩ := hrel
    by_cases hk : k < n
    · have hki : (k : Int) < (n : Int) := by omega
      have hk0 : (0 : Int) ≤ (k : Int) := by omega
      have hroom : k + ByteArray.size { data := #[57] } ≤ n := by show k + 1 ≤ n; omega
      go_wp2_with (first | (with_reducible refine G.any_mark _ ?_; (try generalize Array.size (World.heap (G.w _)) = bk); (try dsimp only [List.set_cons_zero, List.set_cons_succ]); (try clear g); intro g) | (at_builtin; refine wpList_append_str rfl _ _ 96 9 rfl 5 i0 Tryz.underlying96 Tryz.underlying9 hi hzz1 g hrow hb rfl _ rfl h0 hroom ?_; clear hrow g; intro cs g hrow))
      go_roundg (kq - 1)
      case measure => omega
      case rel => exact ⟨k + 1, cs, by omega, by go_num, rfl, by
        rw [HS.out] at hrow
        have e : u8s (List.replicate (k + 1) 57) = u8s (List.replicate k 57) ++ u8s [57] := by rw [← rep_snoc, u8s_append]
        rw [e]
        exact hrow, g, rfl⟩
    · have hki : ¬ ((k : Int) < (n : Int)) := by omega
      have hkn : k = n := by omega
      subst hkn
      have hcs : u8s (List.replicate k 57) ++ cs.drop k = cs := by
        have := hrow.take
        rw [Nat.mul_one] at this
        rw [← this, List.take_append_drop]
      have hst := HST.out g.w b (cs.drop k) (by rw [hcs]; exact g.blk0)
      go_wp2_with (with_reducible refine G.any_mark _ ?_; (try generalize Array.size (World.heap (G.w _)) = bk); (try dsimp only [List.set_cons_zero, List.set_cons_succ]); (try clear g); intro g)
      go_ret
      exact ⟨rfl, g.below⟩
end Go.Proofs.YtjdnpkicdmapnaaGreatDoor
namespace Go.Proofs.YtjdnpkicdmapnaaGreatDoor
open Go.RowKit GW NL
theorem bl_nines (n : Nat) : bl (bstr (List.replicate n 57)) = List.replicate n 57 := bl_bstr fun x hx => by rw [List.eq_of_mem_replicate hx]; decide
theorem nine_at {n j : Nat} (h : j < n) : (List.replicate n 57).getD j 0 = 57 := by
  rw [List.getD_eq_getElem?_getD, List.getElem?_replicate, if_pos h]; rfl
theorem dv_nines (n : Nat) : ∀ k, k ≤ n → dv (List.replicate n 57) k + 1 = 10 ^ k
  | 0, _ => rfl
  | k + 1, h => by
    have := dv_nines n k (by omega)
    rw [dv_succ (by rw [List.length_replicate]; omega), nine_at (by omega), Nat.pow_succ]
    omega
theorem pow_cmp : 2 ^ 8192 + 1 ≤ 10 ^ 2467 := by decide
theorem parse_nines (w : World) : Calls Tryz.prog 133 #[.string (bstr (List.replicate 2467 57))] w (RNF 0 5 0 w) := by
  have hb := bl_nines 2467
  have hs : (bstr (List.replicate 2467 57)).size = 2467 := by rw [bstr_size, List.length_replicate]
  have hdv := dv_nines 2467 2467 (Nat.le_refl _)
  have hge := pow_cmp
  have := Parse_digits (bstr (List.replicate 2467 57)) w (by rw [hs]; exact Nat.le_refl _) (by rw [hs]; decide) (fun j hj => by
    rw [hs] at hj
    rw [hb, nine_at hj]; decide) (by
    rw [hb, nine_at (by decide)]
    intro h; exact absurd h.2 (by decide))
  refine this.mono fun e w' h => h.2 ?_
  rw [hb, hs]
  intro hlt
  rw [← hdv] at hge
  exact absurd hlt (by omega)
theorem parse_nines2 (w : World) : Calls Tryz.prog 133 #[.string (bstr (List.replicate 2468 57))] w (RNF 0 4 2467 w) := by
  have hs : (bstr (List.replicate 2468 57)).size = 2468 := by rw [bstr_size, List.length_replicate]
  exact Parse_long _ w (by rw [hs]; decide) (by rw [hs]; decide)
theorem parse_empty (w : World) : Calls Tryz.prog 133 #[.string { data := #[] }] w (RNF 0 11 0 w) :=
  Parse_form _ w (by decide) (fun j hj => absurd hj (Nat.not_lt_zero j)) (.inl rfl)
theorem parse_007 (w : World) : Calls Tryz.prog 133 #[.string { data := #[48, 48, 55] }] w (RNF 0 11 0 w) :=
  Parse_form _ w (by decide) (by decide) (.inr (by decide))
theorem parse_12x (w : World) : Calls Tryz.prog 133 #[.string { data := #[49, 50, 120] }] w (RNF 0 11 2 w) :=
  Parse_bad _ w (by decide) 2 (by decide) (by decide) (by decide)
theorem parse_top (w : World) : Calls Tryz.prog 133 #[.string { data := #[52, 50, 57, 52, 57, 54, 55, 50, 57, 54] }] w (RNF 4294967296 0 0 w) := by
  have := Parse_dec 4294967296 (small_lt (by decide)) w
  rwa [dec_top] at this
end Go.Proofs.YtjdnpkicdmapnaaGreatDoor
namespace Go.Proofs.YtjdnpkicdmapnaaGreatDoor
open Go.RowKit GW NL
/-- a number given by its limbs, or an error -/
def RLE (m : Nat) (L : List Nat) (x : Int) (w : World) (e : Ending) (w' : World) : Prop := ∃ A c F, e = .returned (.tuple #[.slice A m c, .int .i64 x]) ∧ F.Sl A c L ∧ New w w' F
theorem rne_lit {p : Nat × Int} {r : Nat} {x : Int} {L : List Nat} {m : Nat} (h : p = (r, x)) (hL : limbs r = L) (hm : L.length = m) {w : World} {e : Ending} {w' : World} (H : RNE p w e w') : RLE m L x w e w' := by
  subst h; subst hL; subst hm; exact H
theorem G.lim0 {w0 : World} {X : List Nat} {M : List Blk} {I : List Frag} {b : Nat} {T : TypeId} {cs : List Value} (g : G w0 X ((b, T, cs) :: M) I) (l : List Nat) (n : Nat) (h : cs = u32s l) (hn : l.length = n) (h2 : n ≤ 1000) (ok : Ok l) : SlW g.w (some ⟨b, 0, none⟩) n l := by
  subst h
  exact (sl_blk (Nat.le_of_eq hn) (by omega) ok).at (blkF_sub g.blk0)
theorem G.lim1 {w0 : World} {X : List Nat} {M : List Blk} {I : List Frag} {x0 : Blk} {b : Nat} {T : TypeId} {cs : List Value} (g : G w0 X (x0 :: (b, T, cs) :: M) I) (l : List Nat) (n : Nat) (h : cs = u32s l) (hn : l.length = n) (h2 : n ≤ 1000) (ok : Ok l) : SlW g.w (some ⟨b, 0, none⟩) n l := by
  subst h
  exact (sl_blk (Nat.le_of_eq hn) (by omega) ok).at (blkF_sub g.blk1)
theorem check_l (A : Option Addr) (c : Nat) (l : List Nat) (n : Nat) (hn : l.length = n) (x : Int) (hv : chk l = x) (w : World) (h : SlW w A c l) :
    Calls Tryz.prog 58 #[.slice A n c] w fun e w' => e = .returned (.int .i64 x) ∧ Below w.heap.size w w' := by
  have := check_any A c l w h
  rwa [hv, hn] at this
end Go.Proofs.YtjdnpkicdmapnaaGreatDoor
namespace Go.Proofs.YtjdnpkicdmapnaaGreatDoor
open Go.RowKit GW NL
theorem val_tops : ∀ n, val (List.replicate n 4294967295) + 1 = 4294967296 ^ n
  | 0 => rfl
  | n + 1 => by
    have := val_tops n
    rw [List.replicate_succ, Nat.pow_succ]
    show 4294967295 + 4294967296 * val (List.replicate n 4294967295) + 1 = _
    omega
theorem ok_tops (n : Nat) : Ok (List.replicate n 4294967295) := fun x hx => by rw [List.eq_of_mem_replicate hx]; decide
theorem chk_tops : chk (List.replicate 256 4294967295) = 0 := by
  unfold chk
  rw [List.length_replicate, if_neg (by decide), if_neg]
  rintro ⟨_, h⟩
  rw [List.getD_eq_getElem?_getD, List.getElem?_replicate, if_pos (by decide)] at h
  exact absurd h (by decide)
theorem chk_tops0 : chk (List.replicate 256 4294967295 ++ [0]) = 4 := by
  unfold chk
  rw [List.length_append, List.length_replicate, if_pos (by decide)]
theorem len_top : (limbs (2 ^ 8191)).length = 256 := by
  have h1 := (limbs_len (2 ^ 8191) 256).2 (by rw [pow32]; decide)
  have h2 : ¬ (limbs (2 ^ 8191)).length ≤ 255 := fun h => absurd ((limbs_len (2 ^ 8191) 255).1 h) (by rw [pow32]; decide)
  omega
theorem rt15 : rt 15 = 3 := rt_eq ⟨by decide, by decide⟩
theorem rt64 : rt 18446744073709551616 = 4294967296 := rt_eq ⟨by decide, by decide⟩
theorem out_tops : outN (chk2 (List.replicate 256 4294967295) [1]) (val (List.replicate 256 4294967295) + val [1]) = (0, 5) := by
  have h := val_tops 256
  have e : val (List.replicate 256 4294967295) + val [1] = 2 ^ 8192 := by
    rw [show val [1] = 1 from rfl, h, pow32]
  rw [e]
  unfold outN chk2
  rw [chk_tops]
  rfl
theorem o1 : outI (chk [0, 0, 1]) (val [0, 0, 1]) = (0, 5) := by
  have : nb (val [0, 0, 1]) = 65 := by
    have : val [0, 0, 1] = 2 ^ 64 := by decide
    rw [this]
    decide
  unfold outI
  rw [this]
  rfl
theorem s1 : outH (chk [1]) (val [1]) 8192 = (0, 5) := by decide
theorem s2 : outH (chk [1]) (val [1]) 8191 = (2 ^ 8191, 0) := by decide
theorem s3 : outH (chk [6]) (val [6]) (-2) = (1, 0) := by decide
theorem s4 : outH (chk [1]) (val [1]) 10001 = (0, 2) := by decide
theorem s5 : outH (chk [1]) (val [1]) 33 = (8589934592, 0) := by decide
theorem a1 : outN (chk2 [4294967295] [1]) (val [4294967295] + val [1]) = (4294967296, 0) := by decide
theorem b1' : outS (chk2 [0, 1] [1]) (val [0, 1]) (val [1]) = (4294967295, 0) := by decide
theorem b2' : outS (chk2 [1] [2]) (val [1]) (val [2]) = (0, 2) := by decide
theorem g1' : outG (chk2 [12] [18]) (val [12]) (val [18]) = (6, 0) := by decide
theorem g2' : outG (chk2 [] [7]) (val []) (val [7]) = (7, 0) := by decide
theorem d1' : outD (chk2 [1] []) (val [1]) (val []) = (0, 0, 6) := by decide
theorem c1' : outC (chk2 [5] [0, 1]) (ord (val [5]) (val [0, 1])) = (-1, 0) := by decide
end Go.Proofs.YtjdnpkicdmapnaaGreatDoor
namespace Go.Proofs.YtjdnpkicdmapnaaGreatDoor
open Go.RowKit GW NL
set_option maxRecDepth 20000 in
theorem times_one (n : Nat) (h0 : 0 < n) (h9 : n ≤ 6000) (w : World) : Calls Tryz.prog 38 #[.string { data := #[49] }, .int .i64 (n : Int)] w (fun e w' => e = .returned (.string (bstr (List.replicate n 49))) ∧ Below w.heap.size w w') := by
  refine calls_b fun g => ?_
  obtain ⟨i0, hi, hzz0, hzz1, hzz2⟩ := info_parts infoU8
  have hmk := fun w => make_bytes n (by omega) w
  have HS : Hid (Lib.strCells { data := #[49] } = u8s [49]) := Lib.hid rfl
  have HROW0 : Hid (Row 5 1 0 (u8s (List.replicate 0 49)) n (u8s (List.replicate n 0))) := Lib.hid ⟨by omega, by show n ≤ 9223372036854775807; omega, by rw [u8s_len, List.length_replicate, Nat.mul_one], rfl, rfl⟩
  have hni : (0 : Int) < (n : Int) := by omega
  have hst := fun (w : World) (b : Nat) (tl : List Value) (h : w.heap[b]? = some (.cells (u8s (List.replicate n 49) ++ tl).toArray 5 (0, 0))) => string_of Tryz.prog w 96 9 5 b n n (List.replicate n 49) tl 5 Tryz.underlying96 Tryz.underlying5 Tryz.underlying9 (List.length_replicate ..) h
  have HST := Lib.hid hst
  clear hst
  go_enter Tryz.func38, Tryz.ntmps38
  go_wp2_with (with_reducible refine G.any_mark _ ?_; (try generalize Array.size (World.heap (G.w _)) = bk); (try dsimp only [List.set_cons_zero, List.set_cons_succ]); (try clear g); intro g)
  obtain ⟨b, rfl⟩ : ∃ b : Nat, b = bk := ⟨_, rfl⟩
  have hb : w.heap.size ≤ b := g.fresh (List.mem_cons_self ..)
  go_loopg [5, 6] n (fun gk s2 s3 wr => ∃ (k : Nat) (cs : List Value), k + gk = n ∧ s3 = .int .i64 (k : Int) ∧ s2 = .slice (some ⟨b, 0, none⟩) k n ∧ Row 5 1 k (u8s (List.replicate k 49)) n cs ∧ ∃ g : G w [] [(b, 5, cs)] [heapOf w], wr = g.w)
  case atStart => exact ⟨0, _, by omega, rfl, rfl, HROW0.out, g, rfl⟩
  case round =>
    clear g
    obtain ⟨kq, rfl⟩ : ∃ kq : Nat, kq = gk := ⟨_, rfl⟩
    obtain ⟨k, cs, hkg, rfl, rfl, hrow, g, rfl⟩ := hrel
    by_cases hk : k < n
    · have hki : (k : Int) < (n : Int) := by omega
      have hk0 : (0 : Int) ≤ (k : Int) := by omega
      have hroom : k + ByteArray.size { data := #[49] } ≤ n := by show k + 1 ≤ n; omega
      go_wp2_with (first | (with_reducible refine G.any_mark _ ?_; (try generalize Array.size (World.heap (G.w _)) = bk); (try dsimp only [List.set_cons_zero, List.set_cons_succ]); (try clear g); intro g) | (at_builtin; refine wpList_append_str rfl _ _ 96 9 rfl 5 i0 Tryz.underlying96 Tryz.underlying9 hi hzz1 g hrow hb rfl _ rfl h0 hroom ?_; clear hrow g; intro cs g hrow))
      go_roundg (kq - 1)
      case measure => omega
      case rel => exact ⟨k + 1, cs, by omega, by go_num, rfl, by
        rw [HS.out] at hrow
        have e : u8s (List.replicate (k + 1) 49) = u8s (List.replicate k 49) ++ u8s [49] := by rw [← rep_snoc, u8s_append]
        rw [e]
        exact hrow, g, rfl⟩
    · have hki : ¬ ((k : Int) < (n : Int)) := by omega
      have hkn : k = n := by omega
      subst hkn
      have hcs : u8s (List.replicate k 49) ++ cs.drop k = cs := by
        have := hrow.take
        rw [Nat.mul_one] at this
        rw [← this, List.take_append_drop]
      have hst := HST.out g.w b (cs.drop k) (by rw [hcs]; exact g.blk0)
      go_wp2_with (with_reducible refine G.any_mark _ ?_; (try generalize Array.size (World.heap (G.w _)) = bk); (try dsimp only [List.set_cons_zero, List.set_cons_succ]); (try clear g); intro g)
      go_ret
      exact ⟨rfl, g.below⟩
end Go.Proofs.YtjdnpkicdmapnaaGreatDoor
