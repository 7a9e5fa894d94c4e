/- Plain facts and contracts of functions of the program, out of walks. Their conditions stand ahead of each. -/
import Derived.Test.YtjdnpkicdmapnaaGreatDoorNm26
import Derived.Test.YtjdnpkicdmapnaaGreatDoorNm27
import Derived.Below
import Derived.BigQuiet
import Derived.Deep.Draws
import Derived.Deep.LoopGhost
import Derived.Deep.QuietTactic
import Derived.Deep.RegionHeld3
import Derived.Defers
import Derived.Laws.BytesString
import Derived.Laws.Cells
import Derived.Laws.Concat
import Derived.Laws.CopyOwn
import Derived.Laws.IdiomStrings
import Derived.Laws.NewBlocks
import Derived.Laws.OwnMore
import Derived.Laws.Pointers
import Derived.Laws.Rows
import Derived.Laws.Runes
import Derived.Lib.BitFns
import Derived.Lib.Hide
import Derived.Lib.ItoaNum
import Derived.LoopIn
import Derived.LoopNIn
import Derived.Maps.AppendAt
import Derived.OrdersIn
import Derived.OwnWalk
import Derived.OwnWalkIn
import Derived.RangeFuncBound
import Derived.RangeFuncBox
import Derived.RangeFuncCalls
import Derived.RangeFuncLeaves
import Derived.RangeFuncNested
import Derived.RowKit3
import Derived.Shelf.Abstract
import Derived.Shelf.RegionOpen
import Derived.StillTactics
import Derived.StillTailTactics
import Derived.TacticsInMore
import Derived.Test.YtjdnpkicdmapnaaGreatDoorProg
import Derived.WalkKit
import Derived.WalkLawsBesides
import Derived.WalkMore
import Derived.WalkSpells
set_option linter.unusedVariables false
set_option linter.unusedSimpArgs false
set_option exponentiation.threshold 10000
namespace Go.Proofs.YtjdnpkicdmapnaaGreatDoor
open Go.RowKit GW NL
theorem ba_beq (a b : ByteArray) : (a == b) = true ↔ a = b := by
  obtain ⟨x⟩ := a
  obtain ⟨y⟩ := b
  constructor
  · intro h
    have e : x = y := by simpa using (show (x == y) = true from h)
    rw [e]
  · intro h
    cases h
    show (x == x) = true
    simp
theorem bstr_eq (l : List Nat) : bstr l = ⟨(l.map UInt8.ofNat).toArray⟩ := by
  unfold bstr
  rw [foldl_push_bytes]
  show (⟨(#[] : Array UInt8) ++ (l.map UInt8.ofNat).toArray⟩ : ByteArray) = _
  simp
theorem bstr_size (l : List Nat) : (bstr l).size = l.length := by rw [bstr_eq]; simp [ByteArray.size]
theorem bstr_cons (y : Nat) (o : List Nat) : bstr [y] ++ bstr o = bstr (y :: o) := by
  rw [bstr_eq, bstr_eq, bstr_eq]
  apply ByteArray.ext
  simp
theorem enc_digit (d : Nat) (h : d < 10) : Utf8.encode ((48 + d : Nat) : Int) = bstr [48 + d] := by
  have : d = 0 ∨ d = 1 ∨ d = 2 ∨ d = 3 ∨ d = 4 ∨ d = 5 ∨ d = 6 ∨ d = 7 ∨ d = 8 ∨ d = 9 := by omega
  rcases this with rfl | rfl | rfl | rfl | rfl | rfl | rfl | rfl | rfl | rfl <;> rfl
theorem rText_err (A : Option Addr) (c : Nat) (l : List Nat) (w : World) (h : SlW w A c l) (hc : chk l ≠ 0) :
    Calls Tryz.prog 67 #[.slice A l.length c] w fun e w' => e = .returned (.tuple #[.string { data := #[] }, .int .i64 (chk l)]) ∧ Below w.heap.size w w' := by
  refine calls_b fun g => ?_
  have C1 := Lib.hid (fun w h => rcheck_any A c l w h)
  have hx : (chk l == 0) = false := by simpa using hc
  clear hc
  generalize chk l = r at *
  generalize l.length = n at *
  go_enter Tryz.func67, Tryz.ntmps67
  go_wp2_with (with_reducible refine G.any_mark _ ?_; (try generalize Array.size (World.heap (G.w _)) = bk); (try dsimp only [List.set_cons_zero, List.set_cons_succ]); (try clear g); intro g)
  refine (C1.out _ (G.sl g (by simp) h)).mono ?_
  rintro e w1 ⟨rfl, hb⟩
  obtain ⟨g1, rfl⟩ := G.call_ex _ hb
  clear hb
  (try clear g)
  revert g1
  intro g
  go_wp2_with (with_reducible refine G.any_mark _ ?_; (try generalize Array.size (World.heap (G.w _)) = bk); (try dsimp only [List.set_cons_zero, List.set_cons_succ]); (try clear g); intro g)
  go_ret2
  exact ⟨rfl, g.below⟩
theorem rText_zero (A : Option Addr) (c : Nat) (w : World) (h : SlW w A c []) :
    Calls Tryz.prog 67 #[.slice A 0 c] w fun e w' => e = .returned (.tuple #[.string (bstr (dec 0)), .int .i64 0]) ∧ Below w.heap.size w w' := by
  refine calls_b fun g => ?_
  have e0 : bstr (dec 0) = { data := #[48] } := by rfl
  rw [e0]
  have C1 := Lib.hid (fun w h => rcheck_any A c [] w h)
  have hck : chk [] = 0 := by decide
  rw [hck, List.length_nil] at C1
  have CO := Lib.hid (fun w h => own_any A c [] w h (by decide))
  unfold RLim at CO
  rw [List.length_nil] at CO
  go_enter Tryz.func67, Tryz.ntmps67
  go_wp2_with (with_reducible refine G.any_mark _ ?_; (try generalize Array.size (World.heap (G.w _)) = bk); (try dsimp only [List.set_cons_zero, List.set_cons_succ]); (try clear g); intro g)
  refine (C1.out _ (G.sl g (by simp) h)).mono ?_
  rintro e w1 ⟨rfl, hb⟩
  obtain ⟨g1, rfl⟩ := G.call_ex _ hb
  clear hb
  (try clear g)
  revert g1
  intro g
  go_wp2_with (with_reducible refine G.any_mark _ ?_; (try generalize Array.size (World.heap (G.w _)) = bk); (try dsimp only [List.set_cons_zero, List.set_cons_succ]); (try clear g); intro g)
  refine (CO.out _ (G.sl g (by simp) h)).mono ?_
  rintro e w1 ⟨Ax, cx, Fx, rfl, hsx, hn⟩
  have hnnx := fun k o hk => Nat.le_trans g.chg.size (hn.new k o hk)
  obtain ⟨g1, rfl⟩ := G.new_ex _ hn
  clear hn
  (try clear g)
  revert g1
  intro g
  go_wp2_with fail
  go_loopg [5, 6] 0 (fun gk s5 s6 wr => s5 = .string { data := #[] } ∧ s6 = .slice Ax 0 cx ∧ ∃ g : G w [] [] [Fx, heapOf w], wr = g.w)
  case atStart => exact ⟨rfl, rfl, g, rfl⟩
  case round =>
    clear g
    obtain ⟨rfl, rfl, g, rfl⟩ := hrel
    go_wp2_with (with_reducible refine G.any_mark _ ?_; (try generalize Array.size (World.heap (G.w _)) = bk); (try dsimp only [List.set_cons_zero, List.set_cons_succ]); (try clear g); intro g)
    go_ret2
    exact ⟨rfl, g.below⟩
set_option maxRecDepth 20000 in
set_option maxHeartbeats 4000000 in
theorem rText_pos (A : Option Addr) (c : Nat) (v : Nat) (w : World) (h : SlW w A c (limbs v)) (hv : v < 2 ^ 8192) (h0 : v ≠ 0) :
    Calls Tryz.prog 67 #[.slice A (limbs v).length c] w fun e w' => e = .returned (.tuple #[.string (bstr (dec v)), .int .i64 0]) ∧ Below w.heap.size w w' := by
  refine calls_b fun g => ?_
  have hl : (limbs v).length ≤ 256 := (limbs_len v 256).2 (by rw [pow32]; exact hv)
  have C1 := Lib.hid (fun w h => rcheck_any A c (limbs v) w h)
  rw [chk_limbs hv] at C1
  have CO := Lib.hid (fun w h => own_own A c (limbs v) w h (by omega) (len_ne h0))
  unfold ROwn at CO
  have HV := Lib.hid hv
  have H0 := Lib.hid h0
  obtain ⟨L, hL⟩ : ∃ L, (limbs v).length = L := ⟨_, rfl⟩
  have HLL := Lib.hid hL
  rw [hL] at C1 ⊢
  clear hv h0
  go_enter Tryz.func67, Tryz.ntmps67
  go_wp2_with (with_reducible refine G.any_mark _ ?_; (try generalize Array.size (World.heap (G.w _)) = bk); (try dsimp only [List.set_cons_zero, List.set_cons_succ]); (try clear g); intro g)
  refine (C1.out _ (G.sl g (by simp) h)).mono ?_
  rintro e w1 ⟨rfl, hb⟩
  obtain ⟨g1, rfl⟩ := G.call_ex _ hb
  clear hb
  (try clear g)
  revert g1
  intro g
  go_wp2_with (with_reducible refine G.any_mark _ ?_; (try generalize Array.size (World.heap (G.w _)) = bk); (try dsimp only [List.set_cons_zero, List.set_cons_succ]); (try clear g); intro g)
  rw [← hL]
  refine (CO.out _ (G.sl g (by simp) h)).mono ?_
  rintro e w1 ⟨rb, cap, rcs, rfl, hrow, hbe, hfr, hbl⟩
  obtain ⟨g1, rfl⟩ := G.own_ex g hbe hfr hbl
  have hfresh := Nat.le_trans g.chg.size hfr
  clear hbe hfr hbl g CO
  revert g1
  intro g
  clear hL HLL
  go_wp2_with fail
  go_loopg [5, 6] v (fun gk s5 s6 wr => ∃ (ds : List Nat) (rcs : List Value), Hid (digs v = ds ++ digs gk ∧ gk ≤ v) ∧ s5 = .string (bstr ((ds.map (48 + ·)).reverse)) ∧ s6 = .slice (some ⟨rb, 0, none⟩) (limbs gk).length cap ∧ Row 29 1 (limbs gk).length (u32s (limbs gk)) cap rcs ∧ ∃ g : G w [] [(rb, 29, rcs)] [heapOf w], wr = g.w)
  case atStart => exact ⟨[], rcs, ⟨rfl, Nat.le_refl _⟩, rfl, rfl, hrow, g, rfl⟩
  case round =>
    clear g hrow C1
    obtain ⟨x, rfl⟩ : ∃ x : Nat, x = gk := ⟨_, rfl⟩
    obtain ⟨ds, rcs, HD, rfl, rfl, hrow, g, rfl⟩ := hrel
    by_cases hx : x = 0
    · subst hx
      have hfin : bstr (dec v) = bstr (ds.map (48 + ·)).reverse := by
        unfold dec
        rw [if_neg H0.out, HD.out.1, digs_zero, List.append_nil]
      have hne : (bstr (ds.map (48 + ·)).reverse).toList.isEmpty = false := by
        have hs := bstr_size (ds.map (48 + ·)).reverse
        rw [List.length_reverse, List.length_map] at hs
        have h1 := HD.out.1
        rw [digs_zero, List.append_nil, digs_pos H0.out] at h1
        have hdl : ds.length = (digs (v / 10)).length + 1 := by rw [← h1, List.length_cons]
        rw [hdl] at hs
        clear h1 hdl
        rw [ByteArray.toList_eq]
        generalize bstr (ds.map (48 + ·)).reverse = O at *
        obtain ⟨⟨x⟩⟩ := O
        cases x with
        | nil => exact absurd (show 0 = _ from hs) (by omega)
        | cons _ _ => rfl
      have HF := Lib.hid hfin
      clear hfin
      rw [limbs_zero, List.length_nil]
      generalize bstr (ds.map (48 + ·)).reverse = O at *
      go_wp2_with (with_reducible refine G.any_mark _ ?_; (try generalize Array.size (World.heap (G.w _)) = bk); (try dsimp only [List.set_cons_zero, List.set_cons_succ]); (try clear g); intro g)
      go_ret2
      exact ⟨by rw [HF.out]; rfl, g.below⟩
    · have hlx : (limbs x).length ≤ 256 := (limbs_len x 256).2 (by rw [pow32]; exact Nat.lt_of_le_of_lt HD.out.2 HV.out)
      have hpos := len_ne hx
      have hvx : val (limbs x) = x := val_limbs x
      have HN := Lib.hid (digs_step HD.out.1 hx)
      have hdl : ds.length ≤ 2500 := by
        have h1 := digs_len_v HV.out
        rw [HD.out.1, List.length_append] at h1
        omega
      have hokx := ok_limbs x
      have hlt : x / 10 < x := Nat.div_lt_self (Nat.pos_of_ne_zero hx) (by decide)
      have hle : x / 10 ≤ v := by have := HD.out.2; omega
      obtain ⟨n, hn⟩ : ∃ n, (limbs x).length = n := ⟨_, rfl⟩
      rw [hn] at hrow hlx hpos ⊢
      have HLX := Lib.hid hn
      have HVX := Lib.hid hvx
      generalize limbs x = lx at *
      have hni : (0 : Int) < (n : Int) := by omega
      have HQ0 : Hid (([] : List Nat).length + n = n ∧ Ok ([] : List Nat) ∧ val ([] : List Nat) = val (lx.drop n) / 10 ∧ (0 : Nat) = val (lx.drop n) % 10) := Lib.hid (by
        rw [List.drop_of_length_le (by omega)]
        exact ⟨by simp, Ok.nil, rfl, rfl⟩)
      have hrow0 : Row 29 1 n (u32s (lx.take n ++ [])) cap rcs := by rw [List.append_nil, List.take_of_length_le (by omega)]; exact hrow
      have hxpos : 0 < x := by omega
      clear hn hvx hrow hx
      obtain ⟨O, hO⟩ : ∃ O, bstr (ds.map (48 + ·)).reverse = O := ⟨_, rfl⟩
      rw [hO]
      have HO := Lib.hid hO
      clear hO
      go_wp2_with fail
      go_loopg [7, 8] n (fun gk s7 s8 wr => ∃ (qs : List Nat) (R : Nat) (rcs : List Value), gk ≤ n ∧ R < 10 ∧ s7 = .int .u64 (R : Int) ∧ s8 = .int .i64 ((gk : Int) - 1) ∧ Hid (qs.length + gk = n ∧ Ok qs ∧ val qs = val (lx.drop gk) / 10 ∧ R = val (lx.drop gk) % 10) ∧ Row 29 1 n (u32s (lx.take gk ++ qs)) cap rcs ∧ ∃ g : G w [] [(rb, 29, rcs)] [heapOf w], wr = g.w)
      case atStart => exact ⟨[], 0, rcs, Nat.le_refl _, by decide, rfl, rfl, HQ0, hrow0, g, rfl⟩
      case round =>
        clear g hrow0 HQ0 rcs
        obtain ⟨qs, R, rcs, hgn, hR, rfl, rfl, HI, hrow, g, rfl⟩ := hrel
        cases gk with
        | zero =>
          obtain ⟨i1, i2, i3, i4⟩ := HI.out
          rw [List.drop_zero, HVX.out] at i3 i4
          rw [List.take_zero, List.nil_append] at hrow
          have hlim : (limbs (val qs)).length ≤ n := by have := limbs_len_le_of_ok i2; omega
          have hpre := Row.pre hrow hlim
          rw [limbs_prefix i2, i3] at hpre
          have HPRE := Lib.hid hpre
          have CT := Lib.hid (fun (g : G w [] [(rb, 29, rcs)] [heapOf w]) => (rtrim_any (some ⟨rb, 0, none⟩) cap qs g.w ((sl_row (b := rb) hrow (by omega) (by omega) i2).at (blkF_sub g.blk0))))
          rw [show qs.length = n by omega, i3] at CT
          have hen := enc_digit R hR
          have hc := bstr_cons (48 + R) ((ds.map (48 + ·)).reverse)
          rw [HO.out] at hc
          have hds : ((ds ++ [x % 10]).map (48 + ·)).reverse = (48 + R) :: (ds.map (48 + ·)).reverse := by rw [List.map_append, List.reverse_append, i4]; rfl
          have HD2 : Hid (digs v = (ds ++ [x % 10]) ++ digs (x / 10) ∧ x / 10 ≤ v) := Lib.hid ⟨HN.out, hle⟩
          obtain ⟨E, hE⟩ : ∃ E, bstr [48 + R] = E := ⟨_, rfl⟩
          have hsE : E.size = 1 := by rw [← hE, bstr_size]; rfl
          have hsO : O.size = ds.length := by rw [← HO.out, bstr_size, List.length_reverse, List.length_map]
          obtain ⟨O2, hO2⟩ : ∃ O2, bstr ((48 + R) :: (ds.map (48 + ·)).reverse) = O2 := ⟨_, rfl⟩
          rw [hE] at hen hc
          rw [hO2] at hc
          have HO2 : Hid (bstr (((ds ++ [x % 10]).map (48 + ·)).reverse) = O2) := Lib.hid (by rw [hds]; exact hO2)
          obtain ⟨y, hy⟩ : ∃ y, 48 + R = y := ⟨_, rfl⟩
          rw [hy] at hen
          have f1 : 48 + (R : Int) = (y : Int) := by omega
          have f2 : IntKind.i64.wrap (R : Int) = (R : Int) := by rw [IntKind.wrap_i64]; omega
          have f3 : IntKind.i64.wrap (y : Int) = (y : Int) := by rw [IntKind.wrap_i64]; omega
          have f4 : IntKind.i32.wrap (y : Int) = (y : Int) := by rw [IntKind.wrap_i32]; omega
          have hadd : ∀ w, (Op.stringOp .add E O).run Tryz.prog w = .ok (.string O2) w := fun w => by
            have := run_string_add_sum (P := Tryz.prog) w E O (by omega)
            rwa [hc] at this
          have hsz : E.size + O.size ≤ 9223372036854775807 := by omega
          clear i1 i2 i3 i4 hlim hpre hrow HI hds hE hO2 hy
          go_wp2_with (with_reducible refine G.any_mark _ ?_; (try generalize Array.size (World.heap (G.w _)) = bk); (try dsimp only [List.set_cons_zero, List.set_cons_succ]); (try clear g); intro g)
          refine (CT.out g).mono ?_
          rintro e w1 ⟨rfl, hb⟩
          obtain ⟨g1, rfl⟩ := G.call_ex _ hb
          clear hb
          (try clear g)
          revert g1
          intro g
          go_wp2_with (with_reducible refine G.any_mark _ ?_; (try generalize Array.size (World.heap (G.w _)) = bk); (try dsimp only [List.set_cons_zero, List.set_cons_succ]); (try clear g); intro g)
          go_roundg (x / 10)
          case measure => exact hlt
          case rel => exact ⟨ds ++ [x % 10], rcs, HD2, by rw [HO2.out], rfl, HPRE.out, g, rfl⟩
        | succ k =>
          rw [show ((k + 1 : Nat) : Int) - 1 = (k : Int) by omega]
          obtain ⟨i1, i2, i3, i4⟩ := HI.out
          have hkn : k < lx.length := by rw [HLX.out]; omega
          have hsm := small_step (l := lx) (k := k) (d := 10) (by decide) i3 i4
          have hX := hokx.getD k
          have hlen : (lx.take (k + 1) ++ qs).length = n := by rw [List.length_append, List.length_take, HLX.out]; omega
          have hcell := hrow.get hlen (show k < n by omega)
          have hge : (lx.take (k + 1) ++ qs).getD k 0 = lx.getD k 0 := by
            rw [List.getD_eq_getElem?_getD, List.getElem?_append_left (by rw [List.length_take]; omega), List.getElem?_take_of_lt (by omega), ← List.getD_eq_getElem?_getD]
          rw [hge] at hcell
          generalize lx.getD k 0 = X at *
          obtain ⟨t, ht⟩ : ∃ t, R * 4294967296 + X = t := ⟨_, rfl⟩
          rw [ht] at hsm
          obtain ⟨q, hq⟩ : ∃ q, t / 10 = q := ⟨_, rfl⟩
          obtain ⟨r, hr⟩ : ∃ r, t % 10 = r := ⟨_, rfl⟩
          rw [hq, hr] at hsm
          have hq9 : q < 4294967296 := by omega
          have hr9 : r < 10 := by omega
          have hset : (lx.take (k + 1) ++ qs).set k q = lx.take k ++ (q :: qs) := by
            rw [take_succ hkn, List.append_assoc, List.set_append_right _ _ (by rw [List.length_take]; omega), List.length_take, Nat.min_eq_left (by omega), Nat.sub_self]
            rfl
          have hrow2 := hrow.set (x := q) (show k < n by omega)
          rw [hset] at hrow2
          have HROW := Lib.hid hrow2
          have HI2 : Hid ((q :: qs).length + k = n ∧ Ok (q :: qs) ∧ val (q :: qs) = val (lx.drop k) / 10 ∧ r = val (lx.drop k) % 10) := Lib.hid ⟨by rw [List.length_cons]; omega, Ok.cons hq9 i2, hsm.1, hsm.2⟩
          have hor : bits .or .u64 ((R : Int) * 4294967296) (X : Int) = (t : Int) := by
            rw [show (R : Int) * 4294967296 = ((R * 4294967296 : Nat) : Int) by omega, K3.or64_comm, K3.or64_add _ _ 32 (by omega) (by omega) (by omega) (by omega)]
            omega
          have f1 : IntKind.u64.wrap ((R : Int) * 4294967296) = (R : Int) * 4294967296 := by rw [IntKind.wrap_u64]; omega
          have f2 : IntKind.u64.wrap (X : Int) = (X : Int) := by rw [IntKind.wrap_u64]; omega
          have f3 : Int.tdiv (t : Int) 10 = (q : Int) := by rw [Int.tdiv_eq_ediv_of_nonneg (by omega)]; omega
          have f4 : Int.tmod (t : Int) 10 = (r : Int) := by rw [Int.tmod_eq_emod_of_nonneg (by omega)]; omega
          have f5 : (t : Int) / 10 = (q : Int) := by omega
          have f6 : (t : Int) % 10 = (r : Int) := by omega
          have f7 : IntKind.u32.wrap (q : Int) = (q : Int) := by rw [IntKind.wrap_u32]; omega
          have hki : (k : Int) < (n : Int) := by omega
          have hk0 : (0 : Int) ≤ (k : Int) := by omega
          have hle' := hrow.le
          clear i1 i2 i3 i4 hsm hlen hge ht hq hr hset hrow2 hrow hkn HI
          go_wp2_with (with_reducible refine G.any_mark _ ?_; (try generalize Array.size (World.heap (G.w _)) = bk); (try dsimp only [List.set_cons_zero, List.set_cons_succ]); (try clear g); intro g)
          go_roundg k
          case measure => omega
          case rel => exact ⟨q :: qs, r, _, by omega, hr9, rfl, by go_num, HI2, HROW.out, g, rfl⟩
end Go.Proofs.YtjdnpkicdmapnaaGreatDoor
namespace Go.Proofs.YtjdnpkicdmapnaaGreatDoor
open Go.RowKit GW NL
theorem first_bad (l : List Nat) : ∀ n : Nat, (∀ j, j < n → ¬ NoDig (l.getD j 0)) ∨ ∃ i, i < n ∧ NoDig (l.getD i 0) ∧ ∀ j, j < i → ¬ NoDig (l.getD j 0)
  | 0 => .inl fun j h => absurd h (by omega)
  | n + 1 => by
    rcases first_bad l n with h | ⟨i, hi, h1, h2⟩
    · by_cases hb : NoDig (l.getD n 0)
      · exact .inr ⟨n, by omega, hb, h⟩
      · refine .inl fun j hj => ?_
        by_cases e : j = n
        · subst e; exact hb
        · exact h j (by omega)
    · exact .inr ⟨i, by omega, h1, h2⟩
theorem parse_both (s : ByteArray) (h9 : s.size ≤ 1000000000) : ∃ (v : Nat) (e p : Int), (∀ w, Calls Tryz.prog 133 #[.string s] w (RNF v e p w)) ∧ (∀ w, Calls Tryz.prog 72 #[.string s] w (RNF v e p w)) := by
  by_cases hn : 2467 < s.size
  · exact ⟨0, 4, 2467, fun w => Parse_long s w hn h9, fun w => rParse_long s w hn h9⟩
  · have hn' : s.size ≤ 2467 := by omega
    rcases first_bad (bl s) s.size with hd | ⟨i, hi, hb, hd⟩
    · by_cases hz : s.size = 0 ∨ (1 < s.size ∧ (bl s).getD 0 0 = 48)
      · exact ⟨0, 11, 0, fun w => Parse_form s w hn' hd hz, fun w => rParse_form s w hn' hd hz⟩
      · have h0 : s.size ≠ 0 := fun e => hz (.inl e)
        have hz' : ¬ (1 < s.size ∧ (bl s).getD 0 0 = 48) := fun e => hz (.inr e)
        by_cases hv : dv (bl s) s.size < 2 ^ 8192
        · exact ⟨_, 0, 0, fun w => (Parse_digits s w hn' h0 hd hz').mono fun e w' h => h.1 hv, fun w => (rParse_digits s w hn' h0 hd hz').mono fun e w' h => h.1 hv⟩
        · exact ⟨0, 5, 0, fun w => (Parse_digits s w hn' h0 hd hz').mono fun e w' h => h.2 hv, fun w => (rParse_digits s w hn' h0 hd hz').mono fun e w' h => h.2 hv⟩
    · exact ⟨0, 11, i, fun w => Parse_bad s w hn' i hi hb hd, fun w => rParse_bad s w hn' i hi hb hd⟩
theorem rText_ok (A : Option Addr) (c : Nat) (v : Nat) (w : World) (h : SlW w A c (limbs v)) (hv : v < 2 ^ 8192) :
    Calls Tryz.prog 67 #[.slice A (limbs v).length c] w fun e w' => e = .returned (.tuple #[.string (bstr (dec v)), .int .i64 0]) ∧ Below w.heap.size w w' := by
  by_cases h0 : v = 0
  · subst h0
    rw [limbs_zero] at h ⊢
    exact rText_zero A c w h
  · exact rText_pos A c v w h hv h0
theorem text_both (l : List Nat) : ∃ (S : ByteArray) (x : Int), (∀ A c w, SlW w A c l → Calls Tryz.prog 66 #[.slice A l.length c] w fun e w' => e = .returned (.tuple #[.string S, .int .i64 x]) ∧ Below w.heap.size w w') ∧ (∀ A c w, SlW w A c l → Calls Tryz.prog 67 #[.slice A l.length c] w fun e w' => e = .returned (.tuple #[.string S, .int .i64 x]) ∧ Below w.heap.size w w') := by
  by_cases hx : chk l = 0
  · refine ⟨bstr (dec (val l)), 0, fun A c w h => ?_, fun A c w h => ?_⟩
    · obtain ⟨e1, b1, _⟩ := chk_ok h.ok hx
      have := Text_ok A c (val l) w (by rw [← e1]; exact h) b1
      rwa [← e1] at this
    · obtain ⟨e1, b1, _⟩ := chk_ok h.ok hx
      have := rText_ok A c (val l) w (by rw [← e1]; exact h) b1
      rwa [← e1] at this
  · exact ⟨_, _, fun A c w h => Text_err A c l w h hx, fun A c w h => rText_err A c l w h hx⟩
end Go.Proofs.YtjdnpkicdmapnaaGreatDoor
namespace Go.Proofs.YtjdnpkicdmapnaaGreatDoor
open Go.RowKit GW NL
theorem rep_snoc (k x : Nat) : List.replicate k x ++ [x] = List.replicate (k + 1) x := by
  rw [List.replicate_succ']
theorem u32s_append (a b : List Nat) : u32s (a ++ b) = u32s a ++ u32s b := by unfold u32s; rw [List.map_append]
end Go.Proofs.YtjdnpkicdmapnaaGreatDoor
