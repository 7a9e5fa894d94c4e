/- Plain facts and contracts of functions of the program, out of walks. Their conditions stand ahead of each. -/
import Derived.Test.YtfifcpgjcgoinaaQ17
import Derived.Test.YtfifcpgjcgoinaaQ19
import Derived.Test.YtfifcpgjcgoinaaQ20
set_option linter.unusedVariables false
set_option linter.unusedSimpArgs false
set_option exponentiation.threshold 10000
namespace Go.Proofs.Ytfifcpgjcgoinaa
open Go.RowKit GW NL
/-- a number and a fault -/
def RNF (v : Nat) (er pl : Int) (w : World) (e : Ending) (w' : World) : Prop := ∃ A c F, e = .returned (.tuple #[.slice A (limbs v).length c, .agg #[.int .i64 er, .int .i64 pl]]) ∧ F.Sl A c (limbs v) ∧ New w w' F
theorem bl_first (s : ByteArray) (h : 0 < s.size) : (s[0]'h).toNat = (bl s).getD 0 0 := by
  have h' : 0 < s.data.toList.length := by simpa using h
  unfold bl
  rw [List.getD_eq_getElem?_getD, List.getElem?_map, List.getElem?_eq_getElem h']
  simp
  rfl
theorem len_digits {v k : Nat} (h : v < 10 ^ k) (hk : k ≤ 2500) : (limbs v).length ≤ 300 :=
  (limbs_len v 300).2 (Nat.lt_of_lt_of_le h (Nat.le_trans (Nat.pow_le_pow_right (by decide) hk) (Nat.le_of_ble_eq_true rfl)))
set_option maxRecDepth 20000 in
set_option maxHeartbeats 8000000 in
theorem Parse_digits (s : ByteArray) (w : World) (hn : s.size ≤ 2467) (hn0 : s.size ≠ 0) (hd : ∀ j, j < s.size → ¬ NoDig ((bl s).getD j 0)) (hz : ¬ (1 < s.size ∧ (bl s).getD 0 0 = 48)) :
    Calls Try.prog 23 #[.string s] w (fun e w' => (dv (bl s) s.size < 2 ^ 8192 → RNF (dv (bl s) s.size) 0 0 w e w') ∧ (¬ dv (bl s) s.size < 2 ^ 8192 → RNF 0 5 0 w e w')) := by
  refine calls_b fun g => ?_
  obtain ⟨capOf, cvW, fr, hcv⟩ := conv_ex s
  have hcv1 := fun w => (hcv w).1
  have HCV := Lib.hid (fun w => (hcv w).2)
  clear hcv
  obtain ⟨l, hl⟩ : ∃ l, bl s = l := ⟨_, rfl⟩
  have hll := bl_len s
  have hlt := bl_lt s
  rw [hl] at hll hlt hd hz
  rw [hl] at HCV ⊢
  obtain ⟨n, hsz⟩ : ∃ n, s.size = n := ⟨_, rfl⟩
  rw [hsz] at hn hn0 hd hz hll hcv1 ⊢
  have hszi : ((s.size : Nat) : Int) = (n : Int) := by omega
  have hsl : Builtin.len = Builtin.len := rfl
  have h1i : ¬ ((2467 : Int) < (n : Int)) := by omega
  have hdec : decide ((2467 : Int) < (n : Int)) = false := decide_eq_false h1i
  go_enter Try.func23, Try.ntmps23
  go_wp2_with (with_reducible refine G.any_mark _ ?_; (try generalize Array.size (World.heap (G.w _)) = bk); (try dsimp only [List.set_cons_zero, List.set_cons_succ]); (try clear g); intro g)
  obtain ⟨rc, rfl⟩ : ∃ rc : Nat, rc = bk := ⟨_, rfl⟩
  have hby := (HCV.out g.w).2
  obtain ⟨g1, hg1⟩ := g.new_ex (HCV.out g.w).1
  rw [hg1]
  clear hg1
  have CI := index_any g.w.heap.size n (capOf g.w) l g1.w hll (by omega) hlt (fun j hj => hby.cell g1 (by simp) (by omega))
  generalize capOf g.w = cc at *
  generalize fr g.w = F0 at *
  generalize g.w.heap.size = bb at *
  clear g
  revert g1
  intro g CI
  refine CI.mono ?_
  rintro e w1 ⟨rfl, ⟨i, hi, hb, _⟩ | ⟨_, rfl⟩⟩
  · exact absurd hb (hd i hi)
  clear CI hby
  have hn0i : ((n : Int) == 0) = false := by rw [beq_eq_false_iff_ne]; omega
  by_cases h1n : 1 < n
  · have h1ni : (1 : Int) < (n : Int) := by omega
    have hz' : l.getD 0 0 ≠ 48 := fun e => hz ⟨h1n, e⟩
    have hs0 : ∀ h : 0 < s.size, (((s[0]'h).toNat : Int) == 48) = false := fun h => by
      have := bl_first s h
      rw [hl] at this
      rw [beq_eq_false_iff_ne]
      omega
    clear hz hl
    go_wp2_with fail
    have hby := (HCV.out g.w).2
    obtain ⟨g1, hg1⟩ := g.new_ex (HCV.out g.w).1
    rw [hg1]
    clear hg1
    generalize capOf g.w = cc2 at *
    generalize fr g.w = F1 at *
    generalize g.w.heap.size = b2 at *
    clear g hcv1
    revert g1
    intro g
    obtain ⟨gl, hgl⟩ := g.lessI (I' := [F1, heapOf w]) (by simp)
    rw [hgl]
    clear hgl g
    obtain ⟨i0, hi, hzz0, hzz1, hzz2⟩ := info_parts infoU32
    go_loopg [40, 5] n (fun gk s40 s5 wr => ∃ k : Nat, k + gk = n ∧ s40 = .int .i64 (k : Int) ∧ Hid (dv l k < 10 ^ k) ∧ ((Hid (dv l k = 0) ∧ s5 = .slice none 0 0 ∧ ∃ g : G w [] [(rc, 40, [.int .i64 0, .int .i64 0])] [F1, heapOf w], wr = g.w) ∨ (∃ N b cap cs, Hid (dv l k = N ∧ N ≠ 0) ∧ s5 = .slice (some ⟨b, 0, none⟩) (limbs N).length cap ∧ Row 30 1 (limbs N).length (u32s (limbs N)) cap cs ∧ w.heap.size ≤ b ∧ ∃ g : G w [] [(b, 30, cs), (rc, 40, [.int .i64 0, .int .i64 0])] [F1, heapOf w], wr = g.w)))
    case atStart => exact ⟨0, by omega, rfl, Lib.hid (by rw [dv_zero]; decide), .inl ⟨dv_zero l, rfl, gl, rfl⟩⟩
    case round =>
      clear gl
      obtain ⟨ko, rfl⟩ : ∃ ko : Nat, ko = gk := ⟨_, rfl⟩
      obtain ⟨k, hkg, rfl, HLT, hcase⟩ := hrel
      by_cases hk : k < n
      · have hki : (k : Int) < (n : Int) := by omega
        have hxd := hd k hk
        obtain ⟨x, hx⟩ : ∃ x, l.getD k 0 = x := ⟨_, rfl⟩
        rw [hx] at hxd
        have hx1 : 48 ≤ x ∧ x ≤ 57 := by unfold NoDig at hxd; omega
        obtain ⟨d, hdd⟩ : ∃ d, x - 48 = d := ⟨_, rfl⟩
        have hd10 : d < 10 := by omega
        have hsub : IntKind.u8.wrap ((x : Int) - 48) = (d : Int) := by rw [IntKind.wrap_u8]; omega
        have hsub2 : (x : Int) - 48 = (d : Int) := by omega
        have hwd : IntKind.u32.wrap (d : Int) = (d : Int) := by rw [IntKind.wrap_u32]; omega
        have hwd8 : IntKind.u8.wrap (d : Int) = (d : Int) := by rw [IntKind.wrap_u8]; omega
        have HS : Hid (dv l (k + 1) = 10 * dv l k + d) := Lib.hid (by rw [dv_succ (by omega), hx, hdd])
        have HL2 : Hid (dv l (k + 1) < 10 ^ (k + 1)) := Lib.hid (by rw [HS.out, Nat.pow_succ]; have := HLT.out; omega)
        have HX := Lib.hid hx
        have hkn : k + 1 ≤ 2467 := by omega
        clear hxd hx1 hdd hd hx
        rcases hcase with ⟨HZ, rfl, g, rfl⟩ | ⟨N, b, cap, cs, HN, rfl, hrow, hb, g, rfl⟩
        · have e1 := hby.cell g (by simp) (j := k) (by omega)
          rw [HX.out] at e1
          go_wp2_with (with_reducible refine G.any_mark _ ?_; (try generalize Array.size (World.heap (G.w _)) = bk); (try dsimp only [List.set_cons_zero, List.set_cons_succ]); (try clear g); intro g)
          clear e1
          obtain ⟨kb, rfl⟩ : ∃ kb : Nat, kb = bk := ⟨_, rfl⟩
          go_loopg [51] 0 (fun gk s51 wr => s51 = .int .i64 0 ∧ ∃ g : G w [] [(kb, 74, [.int .u32 (d : Int)]), (rc, 40, [.int .i64 0, .int .i64 0])] [F1, heapOf w], wr = g.w)
          case atStart => exact ⟨rfl, g, rfl⟩
          case round =>
            clear g
            obtain ⟨rfl, g, rfl⟩ := hrel
            by_cases hd0 : d = 0
            · subst hd0
              have HZ2 : Hid (dv l (k + 1) = 0) := Lib.hid (by rw [HS.out, HZ.out])
              go_wp2_with (with_reducible refine G.any_mark _ ?_; (try generalize Array.size (World.heap (G.w _)) = bk); (try dsimp only [List.set_cons_zero, List.set_cons_succ]); (try clear g); intro g)
              obtain ⟨g2, hg2⟩ := g.less (M' := [(rc, 40, [.int .i64 0, .int .i64 0])]) (by simp)
              go_roundg (ko - 1)
              case measure => omega
              case rel => exact ⟨k + 1, by omega, by go_num, HL2, .inl ⟨HZ2, rfl, g2, hg2⟩⟩
            · have hdi : (0 : Int) < (d : Int) := by omega
              have HN2 : Hid (dv l (k + 1) = d ∧ d ≠ 0) := Lib.hid ⟨by rw [HS.out, HZ.out]; omega, hd0⟩
              have ed : limbs d = [d] := limbs_one hd0 (by omega)
              have HRW : Hid ((limbs d).length = 1 ∧ u32s (limbs d) = [.int .u32 (d : Int)]) := Lib.hid ⟨by rw [ed]; rfl, by rw [ed]; rfl⟩
              have H1 : ∀ u ∈ [Value.int .u32 (d : Int)], u.oneCell' = true := by intro u hu; rw [List.mem_singleton.1 hu]; rfl
              clear ed
              go_wp2_with (first | (with_reducible refine G.any_mark _ ?_; (try generalize Array.size (World.heap (G.w _)) = bk); (try dsimp only [List.set_cons_zero, List.set_cons_succ]); (try clear g); intro g) | (at_builtin; refine wpList_append_lit0 rfl _ _ 24 rfl 30 i0 _ 1 4 Try.underlying24 hi hzz0 hzz1 hzz2 rfl (by decide) g rfl 1 rfl rfl H1 (by decide) (by decide) (by decide) ?_; clear g; intro b cap cs g hb hrow))
              obtain ⟨g2, hg2⟩ := g.less (M' := [(b, 30, cs), (rc, 40, [.int .i64 0, .int .i64 0])]) (by simp)
              go_roundg (ko - 1)
              case measure => omega
              case rel => exact ⟨k + 1, by omega, by go_num, HL2, .inr ⟨d, b, cap, cs, HN2, by rw [HRW.out.1], by rw [HRW.out.1, HRW.out.2]; exact hrow, hb, g2, hg2⟩⟩
        · have e1 := hby.cell g (by simp) (j := k) (by omega)
          rw [HX.out] at e1
          have hm300 : (limbs N).length ≤ 300 := len_digits (k := k) (by rw [← HN.out.1]; exact HLT.out) (by omega)
          have hokN := ok_limbs N
          have TS : Hid (Ten (limbs N) d 0 d []) := Lib.hid (Ten.start (by omega))
          obtain ⟨m, hm⟩ : ∃ m, (limbs N).length = m := ⟨_, rfl⟩
          rw [hm] at hrow hm300 ⊢
          have HM := Lib.hid hm
          clear hm
          go_wp2_with (with_reducible refine G.any_mark _ ?_; (try generalize Array.size (World.heap (G.w _)) = bk); (try dsimp only [List.set_cons_zero, List.set_cons_succ]); (try clear g); intro g)
          clear e1
          obtain ⟨kb, rfl⟩ : ∃ kb : Nat, kb = bk := ⟨_, rfl⟩
          obtain ⟨g2, hg2⟩ := g.perm (List.Perm.swap _ _ _)
          rw [hg2]
          clear hg2 g
          revert g2
          intro g
          go_loopg [51] m (fun gk s51 wr => ∃ (j c : Nat) (pre : List Nat) (cs' : List Value), j + gk = m ∧ s51 = .int .i64 (j : Int) ∧ Hid (Ten (limbs N) d j c pre) ∧ Row 30 1 m (u32s (pre ++ (limbs N).drop j)) cap cs' ∧ ∃ g : G w [] [(b, 30, cs'), (kb, 74, [.int .u32 (c : Int)]), (rc, 40, [.int .i64 0, .int .i64 0])] [F1, heapOf w], wr = g.w)
          case atStart => exact ⟨0, d, [], cs, by omega, rfl, TS, hrow, g, rfl⟩
          case round =>
            clear g hrow TS
            obtain ⟨j, c, pre, cs', hjg, rfl, TJ, hrow, g, rfl⟩ := hrel
            by_cases hj : j < m
            · have hji : (j : Int) < (m : Int) := by omega
              have hle := hrow.le
              have hlenr : (pre ++ (limbs N).drop j).length = m := by rw [List.length_append, List.length_drop, TJ.out.len, HM.out]; omega
              have hcell := hrow.get hlenr hj
              rw [ten_get TJ.out.len] at hcell
              have hy := hokN.getD j
              have hc := TJ.out.lt
              have TJ2 := Lib.hid (TJ.out.step hokN)
              have CM := fun w => cmul_any kb c ((limbs N).getD j 0) 10 0 hy (by decide) (by decide) hc w
              have hlow : ((limbs N).getD j 0 * 10 + 0 + c) % 4294967296 < 4294967296 := Nat.mod_lt _ (by decide)
              have hset := ten_set (xs := limbs N) (x := ((limbs N).getD j 0 * 10 + 0 + c) % 4294967296) TJ.out.len (by rw [HM.out]; exact hj)
              generalize ((limbs N).getD j 0 * 10 + 0 + c) % 4294967296 = lo at *
              generalize ((limbs N).getD j 0 * 10 + 0 + c) / 4294967296 = hi' at *
              generalize (limbs N).getD j 0 = y at *
              rw [show ((0 : Nat) : Int) = 0 from rfl, show ((10 : Nat) : Int) = 10 from rfl] at CM
              replace CM := Lib.hid CM
              have hrow2 := hrow.set (x := lo) hj
              rw [hset] at hrow2
              have HROW := Lib.hid hrow2
              clear hset hrow hrow2 hlenr
              go_wp2_with (with_reducible refine G.any_mark _ ?_; (try generalize Array.size (World.heap (G.w _)) = bk); (try dsimp only [List.set_cons_zero, List.set_cons_succ]); (try clear g); intro g)
              refine (CM.out _ (G.blk1 _)).mono ?_
              rintro e w1 ⟨rfl, hch, hcb⟩
              obtain ⟨g1, rfl⟩ := G.mut1 g (cs' := [.int .u32 ((hi' : Nat) : Int)]) hch hcb
              clear hch hcb g
              revert g1
              intro g
              go_wp2_with (with_reducible refine G.any_mark _ ?_; (try generalize Array.size (World.heap (G.w _)) = bk); (try dsimp only [List.set_cons_zero, List.set_cons_succ]); (try clear g); intro g)
              go_roundg (gk - 1)
              case measure => omega
              case rel => exact ⟨j + 1, hi', pre ++ [lo], _, by omega, by go_num, TJ2, HROW.out, g, rfl⟩
            · obtain rfl : j = m := by omega
              have hji : ¬ ((j : Int) < (j : Int)) := by omega
              have TE := TJ.out
              rw [← HM.out] at TE
              rw [List.drop_of_length_le (by rw [HM.out]; exact Nat.le_refl _), List.append_nil] at hrow
              by_cases hc0 : c = 0
              · subst hc0
                have hpre := TE.same
                have HN2 : Hid (dv l (k + 1) = 10 * N + d ∧ 10 * N + d ≠ 0) := Lib.hid ⟨by rw [HS.out, HN.out.1], by have := HN.out.2; omega⟩
                have HLN : Hid ((limbs (10 * N + d)).length = j) := Lib.hid (by rw [← hpre, TE.len, HM.out])
                have HROW : Hid (Row 30 1 j (u32s (limbs (10 * N + d))) cap cs') := Lib.hid (by rw [← hpre]; exact hrow)
                clear hpre hrow TE TJ
                go_wp2_with (with_reducible refine G.any_mark _ ?_; (try generalize Array.size (World.heap (G.w _)) = bk); (try dsimp only [List.set_cons_zero, List.set_cons_succ]); (try clear g); intro g)
                obtain ⟨g2, hg2⟩ := g.less (M' := [(b, 30, cs'), (rc, 40, [.int .i64 0, .int .i64 0])]) (by simp)
                go_roundg (ko - 1)
                case measure => omega
                case rel => exact ⟨k + 1, by omega, by go_num, HL2, .inr ⟨10 * N + d, b, cap, cs', HN2, by rw [HLN.out], by rw [HLN.out]; exact HROW.out, hb, g2, hg2⟩⟩
              · have hci : (0 : Int) < (c : Int) := by omega
                have hpre := TE.more hc0
                have HN2 : Hid (dv l (k + 1) = 10 * N + d ∧ 10 * N + d ≠ 0) := Lib.hid ⟨by rw [HS.out, HN.out.1], by have := HN.out.2; omega⟩
                have HLN : Hid ((limbs (10 * N + d)).length = j + 1) := Lib.hid (by rw [← hpre, List.length_append, TE.len, HM.out]; rfl)
                have HAP : Hid (u32s (limbs (10 * N + d)) = u32s pre ++ [.int .u32 (c : Int)]) := Lib.hid (by rw [← hpre, u32s_append]; rfl)
                have H1 : ∀ u ∈ [Value.int .u32 (c : Int)], u.oneCell' = true := by intro u hu; rw [List.mem_singleton.1 hu]; rfl
                have H2 : j + 1 ≤ maxLen := by show j + 1 ≤ 9223372036854775807; omega
                have H3 : (j + 1) * 4 ≤ 140737488355328 := by omega
                clear hpre TE TJ
                go_wp2_with (first | (with_reducible refine G.any_mark _ ?_; (try generalize Array.size (World.heap (G.w _)) = bk); (try dsimp only [List.set_cons_zero, List.set_cons_succ]); (try clear g); intro g) | (at_builtin; refine wpList_append_lit rfl _ _ 24 rfl 30 i0 _ 1 4 Try.underlying24 hi hzz0 hzz1 hzz2 rfl (by decide) g hrow hb rfl 1 rfl rfl H1 (by decide) H2 H3 ?_; clear hb hrow g; intro b cap cs g hb hrow))
                obtain ⟨g2, hg2⟩ := g.less (M' := [(b, 30, cs), (rc, 40, [.int .i64 0, .int .i64 0])]) (by simp)
                go_roundg (ko - 1)
                case measure => omega
                case rel => exact ⟨k + 1, by omega, by go_num, HL2, .inr ⟨10 * N + d, b, cap, cs, HN2, by rw [HLN.out], by rw [HLN.out, HAP.out]; exact hrow, hb, g2, hg2⟩⟩
      · obtain rfl : k = n := by omega
        have hki : ¬ ((k : Int) < (k : Int)) := by omega
        rcases hcase with ⟨HZ, rfl, g, rfl⟩ | ⟨N, b, cap, cs, HN, rfl, hrow, hb, g, rfl⟩
        · have CF := fits_yes none 0 0
          rw [limbs_zero, List.length_nil] at CF
          replace CF := Lib.hid CF
          have HB0 : Hid (0 < 2 ^ 8192) := Lib.hid (Nat.two_pow_pos _)
          have hsn : SlW g.w none 0 [] := Frag.Sl.nil _ _
          go_wp2_with (with_reducible refine G.any_mark _ ?_; (try generalize Array.size (World.heap (G.w _)) = bk); (try dsimp only [List.set_cons_zero, List.set_cons_succ]); (try clear g); intro g)
          refine (CF.out _ hsn HB0.out).mono ?_
          rintro e w1 ⟨rfl, hb⟩
          obtain ⟨g1, rfl⟩ := G.call_ex _ hb
          clear hb
          (try clear g)
          revert g1
          intro g
          clear hsn
          go_wp2_with (with_reducible refine G.any_mark _ ?_; (try generalize Array.size (World.heap (G.w _)) = bk); (try dsimp only [List.set_cons_zero, List.set_cons_succ]); (try clear g); intro g)
          ((try simp only [G.drew_eq, G.drewN_eq]); (refine G.any_mark _ ?_; (try generalize Array.size (World.heap (G.w _)) = bk); (try dsimp only [List.set_cons_zero, List.set_cons_succ]); (try clear g); intro g))
          refine bodyPost_ret (v := .tuple #[.slice none 0 0, .agg #[.int .i64 0, .int .i64 0]]) (by simp [results, Try.f23, go_sem]) rfl ⟨fun _ => ?_, fun h => absurd (by rw [HZ.out]; exact HB0.out) h⟩
          rw [HZ.out]
          exact ⟨none, 0, (fun _ => none), by rw [limbs_zero]; rfl, by rw [limbs_zero]; exact Frag.Sl.nil _ _, g.none⟩
        · have hsl : SlW g.w (some ⟨b, 0, none⟩) cap (limbs N) := (sl_row hrow rfl (by have h300 : (limbs N).length ≤ 300 := len_digits (v := N) (k := k) (by rw [← HN.out.1]; exact HLT.out) (by omega); omega) (ok_limbs N)).at (blkF_sub g.blk0)
          have HM0 : Hid ((limbs N).length ≤ 140737488355328) := Lib.hid (by have h300 : (limbs N).length ≤ 300 := len_digits (v := N) (k := k) (by rw [← HN.out.1]; exact HLT.out) (by omega); omega)
          by_cases hN8 : N < 2 ^ 8192
          · have CF := Lib.hid (fun w h => fits_yes (some ⟨b, 0, none⟩) cap N w h hN8)
            have H8 := Lib.hid hN8
            clear hN8
            go_wp2_with (with_reducible refine G.any_mark _ ?_; (try generalize Array.size (World.heap (G.w _)) = bk); (try dsimp only [List.set_cons_zero, List.set_cons_succ]); (try clear g); intro g)
            refine (CF.out _ hsl).mono ?_
            rintro e w1 ⟨rfl, hb⟩
            obtain ⟨g1, rfl⟩ := G.call_ex _ hb
            clear hb
            (try clear g)
            revert g1
            intro g
            clear hsl
            go_wp2_with (with_reducible refine G.any_mark _ ?_; (try generalize Array.size (World.heap (G.w _)) = bk); (try dsimp only [List.set_cons_zero, List.set_cons_succ]); (try clear g); intro g)
            ((try simp only [G.drew_eq, G.drewN_eq]); (refine G.any_mark _ ?_; (try generalize Array.size (World.heap (G.w _)) = bk); (try dsimp only [List.set_cons_zero, List.set_cons_succ]); (try clear g); intro g))
            have hlen := HM0.out
            refine bodyPost_ret (v := .tuple #[.slice (some ⟨b, 0, none⟩) (limbs N).length cap, .agg #[.int .i64 0, .int .i64 0]]) (by simp [results, Try.f23, go_sem]) rfl ⟨fun _ => ?_, fun h => absurd (by rw [HN.out.1]; exact H8.out) h⟩
            rw [HN.out.1]
            exact ⟨_, cap, _, rfl, sl_row hrow rfl hlen (ok_limbs N), g.give (List.mem_cons_self ..)⟩
          · have CF := Lib.hid (fun w h => fits_no (some ⟨b, 0, none⟩) cap N w h hN8)
            have H8 := Lib.hid hN8
            clear hN8
            go_wp2_with (with_reducible refine G.any_mark _ ?_; (try generalize Array.size (World.heap (G.w _)) = bk); (try dsimp only [List.set_cons_zero, List.set_cons_succ]); (try clear g); intro g)
            refine (CF.out _ hsl).mono ?_
            rintro e w1 ⟨rfl, hb⟩
            obtain ⟨g1, rfl⟩ := G.call_ex _ hb
            clear hb
            (try clear g)
            revert g1
            intro g
            clear hsl
            go_wp2_with (with_reducible refine G.any_mark _ ?_; (try generalize Array.size (World.heap (G.w _)) = bk); (try dsimp only [List.set_cons_zero, List.set_cons_succ]); (try clear g); intro g)
            ((try simp only [G.drew_eq, G.drewN_eq]); (refine G.any_mark _ ?_; (try generalize Array.size (World.heap (G.w _)) = bk); (try dsimp only [List.set_cons_zero, List.set_cons_succ]); (try clear g); intro g))
            refine bodyPost_ret (v := .tuple #[.slice none 0 0, .agg #[.int .i64 5, .int .i64 0]]) (by simp [results, Try.f23, go_sem]) rfl ⟨fun h => absurd (by rw [HN.out.1] at h; exact h) H8.out, fun _ => ?_⟩
            exact ⟨none, 0, (fun _ => none), by rw [limbs_zero]; rfl, by rw [limbs_zero]; exact Frag.Sl.nil _ _, g.none⟩

  · have h1ni : ¬ ((1 : Int) < (n : Int)) := by omega
    clear hz hl
    go_wp2_with fail
    have hby := (HCV.out g.w).2
    obtain ⟨g1, hg1⟩ := g.new_ex (HCV.out g.w).1
    rw [hg1]
    clear hg1
    generalize capOf g.w = cc2 at *
    generalize fr g.w = F1 at *
    generalize g.w.heap.size = b2 at *
    clear g hcv1
    revert g1
    intro g
    obtain ⟨gl, hgl⟩ := g.lessI (I' := [F1, heapOf w]) (by simp)
    rw [hgl]
    clear hgl g
    obtain ⟨i0, hi, hzz0, hzz1, hzz2⟩ := info_parts infoU32
    go_loopg [40, 5] n (fun gk s40 s5 wr => ∃ k : Nat, k + gk = n ∧ s40 = .int .i64 (k : Int) ∧ Hid (dv l k < 10 ^ k) ∧ ((Hid (dv l k = 0) ∧ s5 = .slice none 0 0 ∧ ∃ g : G w [] [(rc, 40, [.int .i64 0, .int .i64 0])] [F1, heapOf w], wr = g.w) ∨ (∃ N b cap cs, Hid (dv l k = N ∧ N ≠ 0) ∧ s5 = .slice (some ⟨b, 0, none⟩) (limbs N).length cap ∧ Row 30 1 (limbs N).length (u32s (limbs N)) cap cs ∧ w.heap.size ≤ b ∧ ∃ g : G w [] [(b, 30, cs), (rc, 40, [.int .i64 0, .int .i64 0])] [F1, heapOf w], wr = g.w)))
    case atStart => exact ⟨0, by omega, rfl, Lib.hid (by rw [dv_zero]; decide), .inl ⟨dv_zero l, rfl, gl, rfl⟩⟩
    case round =>
      clear gl
      obtain ⟨ko, rfl⟩ : ∃ ko : Nat, ko = gk := ⟨_, rfl⟩
      obtain ⟨k, hkg, rfl, HLT, hcase⟩ := hrel
      by_cases hk : k < n
      · have hki : (k : Int) < (n : Int) := by omega
        have hxd := hd k hk
        obtain ⟨x, hx⟩ : ∃ x, l.getD k 0 = x := ⟨_, rfl⟩
        rw [hx] at hxd
        have hx1 : 48 ≤ x ∧ x ≤ 57 := by unfold NoDig at hxd; omega
        obtain ⟨d, hdd⟩ : ∃ d, x - 48 = d := ⟨_, rfl⟩
        have hd10 : d < 10 := by omega
        have hsub : IntKind.u8.wrap ((x : Int) - 48) = (d : Int) := by rw [IntKind.wrap_u8]; omega
        have hsub2 : (x : Int) - 48 = (d : Int) := by omega
        have hwd : IntKind.u32.wrap (d : Int) = (d : Int) := by rw [IntKind.wrap_u32]; omega
        have hwd8 : IntKind.u8.wrap (d : Int) = (d : Int) := by rw [IntKind.wrap_u8]; omega
        have HS : Hid (dv l (k + 1) = 10 * dv l k + d) := Lib.hid (by rw [dv_succ (by omega), hx, hdd])
        have HL2 : Hid (dv l (k + 1) < 10 ^ (k + 1)) := Lib.hid (by rw [HS.out, Nat.pow_succ]; have := HLT.out; omega)
        have HX := Lib.hid hx
        have hkn : k + 1 ≤ 2467 := by omega
        clear hxd hx1 hdd hd hx
        rcases hcase with ⟨HZ, rfl, g, rfl⟩ | ⟨N, b, cap, cs, HN, rfl, hrow, hb, g, rfl⟩
        · have e1 := hby.cell g (by simp) (j := k) (by omega)
          rw [HX.out] at e1
          go_wp2_with (with_reducible refine G.any_mark _ ?_; (try generalize Array.size (World.heap (G.w _)) = bk); (try dsimp only [List.set_cons_zero, List.set_cons_succ]); (try clear g); intro g)
          clear e1
          obtain ⟨kb, rfl⟩ : ∃ kb : Nat, kb = bk := ⟨_, rfl⟩
          go_loopg [51] 0 (fun gk s51 wr => s51 = .int .i64 0 ∧ ∃ g : G w [] [(kb, 74, [.int .u32 (d : Int)]), (rc, 40, [.int .i64 0, .int .i64 0])] [F1, heapOf w], wr = g.w)
          case atStart => exact ⟨rfl, g, rfl⟩
          case round =>
            clear g
            obtain ⟨rfl, g, rfl⟩ := hrel
            by_cases hd0 : d = 0
            · subst hd0
              have HZ2 : Hid (dv l (k + 1) = 0) := Lib.hid (by rw [HS.out, HZ.out])
              go_wp2_with (with_reducible refine G.any_mark _ ?_; (try generalize Array.size (World.heap (G.w _)) = bk); (try dsimp only [List.set_cons_zero, List.set_cons_succ]); (try clear g); intro g)
              obtain ⟨g2, hg2⟩ := g.less (M' := [(rc, 40, [.int .i64 0, .int .i64 0])]) (by simp)
              go_roundg (ko - 1)
              case measure => omega
              case rel => exact ⟨k + 1, by omega, by go_num, HL2, .inl ⟨HZ2, rfl, g2, hg2⟩⟩
            · have hdi : (0 : Int) < (d : Int) := by omega
              have HN2 : Hid (dv l (k + 1) = d ∧ d ≠ 0) := Lib.hid ⟨by rw [HS.out, HZ.out]; omega, hd0⟩
              have ed : limbs d = [d] := limbs_one hd0 (by omega)
              have HRW : Hid ((limbs d).length = 1 ∧ u32s (limbs d) = [.int .u32 (d : Int)]) := Lib.hid ⟨by rw [ed]; rfl, by rw [ed]; rfl⟩
              have H1 : ∀ u ∈ [Value.int .u32 (d : Int)], u.oneCell' = true := by intro u hu; rw [List.mem_singleton.1 hu]; rfl
              clear ed
              go_wp2_with (first | (with_reducible refine G.any_mark _ ?_; (try generalize Array.size (World.heap (G.w _)) = bk); (try dsimp only [List.set_cons_zero, List.set_cons_succ]); (try clear g); intro g) | (at_builtin; refine wpList_append_lit0 rfl _ _ 24 rfl 30 i0 _ 1 4 Try.underlying24 hi hzz0 hzz1 hzz2 rfl (by decide) g rfl 1 rfl rfl H1 (by decide) (by decide) (by decide) ?_; clear g; intro b cap cs g hb hrow))
              obtain ⟨g2, hg2⟩ := g.less (M' := [(b, 30, cs), (rc, 40, [.int .i64 0, .int .i64 0])]) (by simp)
              go_roundg (ko - 1)
              case measure => omega
              case rel => exact ⟨k + 1, by omega, by go_num, HL2, .inr ⟨d, b, cap, cs, HN2, by rw [HRW.out.1], by rw [HRW.out.1, HRW.out.2]; exact hrow, hb, g2, hg2⟩⟩
        · have e1 := hby.cell g (by simp) (j := k) (by omega)
          rw [HX.out] at e1
          have hm300 : (limbs N).length ≤ 300 := len_digits (k := k) (by rw [← HN.out.1]; exact HLT.out) (by omega)
          have hokN := ok_limbs N
          have TS : Hid (Ten (limbs N) d 0 d []) := Lib.hid (Ten.start (by omega))
          obtain ⟨m, hm⟩ : ∃ m, (limbs N).length = m := ⟨_, rfl⟩
          rw [hm] at hrow hm300 ⊢
          have HM := Lib.hid hm
          clear hm
          go_wp2_with (with_reducible refine G.any_mark _ ?_; (try generalize Array.size (World.heap (G.w _)) = bk); (try dsimp only [List.set_cons_zero, List.set_cons_succ]); (try clear g); intro g)
          clear e1
          obtain ⟨kb, rfl⟩ : ∃ kb : Nat, kb = bk := ⟨_, rfl⟩
          obtain ⟨g2, hg2⟩ := g.perm (List.Perm.swap _ _ _)
          rw [hg2]
          clear hg2 g
          revert g2
          intro g
          go_loopg [51] m (fun gk s51 wr => ∃ (j c : Nat) (pre : List Nat) (cs' : List Value), j + gk = m ∧ s51 = .int .i64 (j : Int) ∧ Hid (Ten (limbs N) d j c pre) ∧ Row 30 1 m (u32s (pre ++ (limbs N).drop j)) cap cs' ∧ ∃ g : G w [] [(b, 30, cs'), (kb, 74, [.int .u32 (c : Int)]), (rc, 40, [.int .i64 0, .int .i64 0])] [F1, heapOf w], wr = g.w)
          case atStart => exact ⟨0, d, [], cs, by omega, rfl, TS, hrow, g, rfl⟩
          case round =>
            clear g hrow TS
            obtain ⟨j, c, pre, cs', hjg, rfl, TJ, hrow, g, rfl⟩ := hrel
            by_cases hj : j < m
            · have hji : (j : Int) < (m : Int) := by omega
              have hle := hrow.le
              have hlenr : (pre ++ (limbs N).drop j).length = m := by rw [List.length_append, List.length_drop, TJ.out.len, HM.out]; omega
              have hcell := hrow.get hlenr hj
              rw [ten_get TJ.out.len] at hcell
              have hy := hokN.getD j
              have hc := TJ.out.lt
              have TJ2 := Lib.hid (TJ.out.step hokN)
              have CM := fun w => cmul_any kb c ((limbs N).getD j 0) 10 0 hy (by decide) (by decide) hc w
              have hlow : ((limbs N).getD j 0 * 10 + 0 + c) % 4294967296 < 4294967296 := Nat.mod_lt _ (by decide)
              have hset := ten_set (xs := limbs N) (x := ((limbs N).getD j 0 * 10 + 0 + c) % 4294967296) TJ.out.len (by rw [HM.out]; exact hj)
              generalize ((limbs N).getD j 0 * 10 + 0 + c) % 4294967296 = lo at *
              generalize ((limbs N).getD j 0 * 10 + 0 + c) / 4294967296 = hi' at *
              generalize (limbs N).getD j 0 = y at *
              rw [show ((0 : Nat) : Int) = 0 from rfl, show ((10 : Nat) : Int) = 10 from rfl] at CM
              replace CM := Lib.hid CM
              have hrow2 := hrow.set (x := lo) hj
              rw [hset] at hrow2
              have HROW := Lib.hid hrow2
              clear hset hrow hrow2 hlenr
              go_wp2_with (with_reducible refine G.any_mark _ ?_; (try generalize Array.size (World.heap (G.w _)) = bk); (try dsimp only [List.set_cons_zero, List.set_cons_succ]); (try clear g); intro g)
              refine (CM.out _ (G.blk1 _)).mono ?_
              rintro e w1 ⟨rfl, hch, hcb⟩
              obtain ⟨g1, rfl⟩ := G.mut1 g (cs' := [.int .u32 ((hi' : Nat) : Int)]) hch hcb
              clear hch hcb g
              revert g1
              intro g
              go_wp2_with (with_reducible refine G.any_mark _ ?_; (try generalize Array.size (World.heap (G.w _)) = bk); (try dsimp only [List.set_cons_zero, List.set_cons_succ]); (try clear g); intro g)
              go_roundg (gk - 1)
              case measure => omega
              case rel => exact ⟨j + 1, hi', pre ++ [lo], _, by omega, by go_num, TJ2, HROW.out, g, rfl⟩
            · obtain rfl : j = m := by omega
              have hji : ¬ ((j : Int) < (j : Int)) := by omega
              have TE := TJ.out
              rw [← HM.out] at TE
              rw [List.drop_of_length_le (by rw [HM.out]; exact Nat.le_refl _), List.append_nil] at hrow
              by_cases hc0 : c = 0
              · subst hc0
                have hpre := TE.same
                have HN2 : Hid (dv l (k + 1) = 10 * N + d ∧ 10 * N + d ≠ 0) := Lib.hid ⟨by rw [HS.out, HN.out.1], by have := HN.out.2; omega⟩
                have HLN : Hid ((limbs (10 * N + d)).length = j) := Lib.hid (by rw [← hpre, TE.len, HM.out])
                have HROW : Hid (Row 30 1 j (u32s (limbs (10 * N + d))) cap cs') := Lib.hid (by rw [← hpre]; exact hrow)
                clear hpre hrow TE TJ
                go_wp2_with (with_reducible refine G.any_mark _ ?_; (try generalize Array.size (World.heap (G.w _)) = bk); (try dsimp only [List.set_cons_zero, List.set_cons_succ]); (try clear g); intro g)
                obtain ⟨g2, hg2⟩ := g.less (M' := [(b, 30, cs'), (rc, 40, [.int .i64 0, .int .i64 0])]) (by simp)
                go_roundg (ko - 1)
                case measure => omega
                case rel => exact ⟨k + 1, by omega, by go_num, HL2, .inr ⟨10 * N + d, b, cap, cs', HN2, by rw [HLN.out], by rw [HLN.out]; exact HROW.out, hb, g2, hg2⟩⟩
              · have hci : (0 : Int) < (c : Int) := by omega
                have hpre := TE.more hc0
                have HN2 : Hid (dv l (k + 1) = 10 * N + d ∧ 10 * N + d ≠ 0) := Lib.hid ⟨by rw [HS.out, HN.out.1], by have := HN.out.2; omega⟩
                have HLN : Hid ((limbs (10 * N + d)).length = j + 1) := Lib.hid (by rw [← hpre, List.length_append, TE.len, HM.out]; rfl)
                have HAP : Hid (u32s (limbs (10 * N + d)) = u32s pre ++ [.int .u32 (c : Int)]) := Lib.hid (by rw [← hpre, u32s_append]; rfl)
                have H1 : ∀ u ∈ [Value.int .u32 (c : Int)], u.oneCell' = true := by intro u hu; rw [List.mem_singleton.1 hu]; rfl
                have H2 : j + 1 ≤ maxLen := by show j + 1 ≤ 9223372036854775807; omega
                have H3 : (j + 1) * 4 ≤ 140737488355328 := by omega
                clear hpre TE TJ
                go_wp2_with (first | (with_reducible refine G.any_mark _ ?_; (try generalize Array.size (World.heap (G.w _)) = bk); (try dsimp only [List.set_cons_zero, List.set_cons_succ]); (try clear g); intro g) | (at_builtin; refine wpList_append_lit rfl _ _ 24 rfl 30 i0 _ 1 4 Try.underlying24 hi hzz0 hzz1 hzz2 rfl (by decide) g hrow hb rfl 1 rfl rfl H1 (by decide) H2 H3 ?_; clear hb hrow g; intro b cap cs g hb hrow))
                obtain ⟨g2, hg2⟩ := g.less (M' := [(b, 30, cs), (rc, 40, [.int .i64 0, .int .i64 0])]) (by simp)
                go_roundg (ko - 1)
                case measure => omega
                case rel => exact ⟨k + 1, by omega, by go_num, HL2, .inr ⟨10 * N + d, b, cap, cs, HN2, by rw [HLN.out], by rw [HLN.out, HAP.out]; exact hrow, hb, g2, hg2⟩⟩
      · obtain rfl : k = n := by omega
        have hki : ¬ ((k : Int) < (k : Int)) := by omega
        rcases hcase with ⟨HZ, rfl, g, rfl⟩ | ⟨N, b, cap, cs, HN, rfl, hrow, hb, g, rfl⟩
        · have CF := fits_yes none 0 0
          rw [limbs_zero, List.length_nil] at CF
          replace CF := Lib.hid CF
          have HB0 : Hid (0 < 2 ^ 8192) := Lib.hid (Nat.two_pow_pos _)
          have hsn : SlW g.w none 0 [] := Frag.Sl.nil _ _
          go_wp2_with (with_reducible refine G.any_mark _ ?_; (try generalize Array.size (World.heap (G.w _)) = bk); (try dsimp only [List.set_cons_zero, List.set_cons_succ]); (try clear g); intro g)
          refine (CF.out _ hsn HB0.out).mono ?_
          rintro e w1 ⟨rfl, hb⟩
          obtain ⟨g1, rfl⟩ := G.call_ex _ hb
          clear hb
          (try clear g)
          revert g1
          intro g
          clear hsn
          go_wp2_with (with_reducible refine G.any_mark _ ?_; (try generalize Array.size (World.heap (G.w _)) = bk); (try dsimp only [List.set_cons_zero, List.set_cons_succ]); (try clear g); intro g)
          ((try simp only [G.drew_eq, G.drewN_eq]); (refine G.any_mark _ ?_; (try generalize Array.size (World.heap (G.w _)) = bk); (try dsimp only [List.set_cons_zero, List.set_cons_succ]); (try clear g); intro g))
          refine bodyPost_ret (v := .tuple #[.slice none 0 0, .agg #[.int .i64 0, .int .i64 0]]) (by simp [results, Try.f23, go_sem]) rfl ⟨fun _ => ?_, fun h => absurd (by rw [HZ.out]; exact HB0.out) h⟩
          rw [HZ.out]
          exact ⟨none, 0, (fun _ => none), by rw [limbs_zero]; rfl, by rw [limbs_zero]; exact Frag.Sl.nil _ _, g.none⟩
        · have hsl : SlW g.w (some ⟨b, 0, none⟩) cap (limbs N) := (sl_row hrow rfl (by have h300 : (limbs N).length ≤ 300 := len_digits (v := N) (k := k) (by rw [← HN.out.1]; exact HLT.out) (by omega); omega) (ok_limbs N)).at (blkF_sub g.blk0)
          have HM0 : Hid ((limbs N).length ≤ 140737488355328) := Lib.hid (by have h300 : (limbs N).length ≤ 300 := len_digits (v := N) (k := k) (by rw [← HN.out.1]; exact HLT.out) (by omega); omega)
          by_cases hN8 : N < 2 ^ 8192
          · have CF := Lib.hid (fun w h => fits_yes (some ⟨b, 0, none⟩) cap N w h hN8)
            have H8 := Lib.hid hN8
            clear hN8
            go_wp2_with (with_reducible refine G.any_mark _ ?_; (try generalize Array.size (World.heap (G.w _)) = bk); (try dsimp only [List.set_cons_zero, List.set_cons_succ]); (try clear g); intro g)
            refine (CF.out _ hsl).mono ?_
            rintro e w1 ⟨rfl, hb⟩
            obtain ⟨g1, rfl⟩ := G.call_ex _ hb
            clear hb
            (try clear g)
            revert g1
            intro g
            clear hsl
            go_wp2_with (with_reducible refine G.any_mark _ ?_; (try generalize Array.size (World.heap (G.w _)) = bk); (try dsimp only [List.set_cons_zero, List.set_cons_succ]); (try clear g); intro g)
            ((try simp only [G.drew_eq, G.drewN_eq]); (refine G.any_mark _ ?_; (try generalize Array.size (World.heap (G.w _)) = bk); (try dsimp only [List.set_cons_zero, List.set_cons_succ]); (try clear g); intro g))
            have hlen := HM0.out
            refine bodyPost_ret (v := .tuple #[.slice (some ⟨b, 0, none⟩) (limbs N).length cap, .agg #[.int .i64 0, .int .i64 0]]) (by simp [results, Try.f23, go_sem]) rfl ⟨fun _ => ?_, fun h => absurd (by rw [HN.out.1]; exact H8.out) h⟩
            rw [HN.out.1]
            exact ⟨_, cap, _, rfl, sl_row hrow rfl hlen (ok_limbs N), g.give (List.mem_cons_self ..)⟩
          · have CF := Lib.hid (fun w h => fits_no (some ⟨b, 0, none⟩) cap N w h hN8)
            have H8 := Lib.hid hN8
            clear hN8
            go_wp2_with (with_reducible refine G.any_mark _ ?_; (try generalize Array.size (World.heap (G.w _)) = bk); (try dsimp only [List.set_cons_zero, List.set_cons_succ]); (try clear g); intro g)
            refine (CF.out _ hsl).mono ?_
            rintro e w1 ⟨rfl, hb⟩
            obtain ⟨g1, rfl⟩ := G.call_ex _ hb
            clear hb
            (try clear g)
            revert g1
            intro g
            clear hsl
            go_wp2_with (with_reducible refine G.any_mark _ ?_; (try generalize Array.size (World.heap (G.w _)) = bk); (try dsimp only [List.set_cons_zero, List.set_cons_succ]); (try clear g); intro g)
            ((try simp only [G.drew_eq, G.drewN_eq]); (refine G.any_mark _ ?_; (try generalize Array.size (World.heap (G.w _)) = bk); (try dsimp only [List.set_cons_zero, List.set_cons_succ]); (try clear g); intro g))
            refine bodyPost_ret (v := .tuple #[.slice none 0 0, .agg #[.int .i64 5, .int .i64 0]]) (by simp [results, Try.f23, go_sem]) rfl ⟨fun h => absurd (by rw [HN.out.1] at h; exact h) H8.out, fun _ => ?_⟩
            exact ⟨none, 0, (fun _ => none), by rw [limbs_zero]; rfl, by rw [limbs_zero]; exact Frag.Sl.nil _ _, g.none⟩
end Go.Proofs.Ytfifcpgjcgoinaa
namespace Go.Proofs.Ytfifcpgjcgoinaa
open Go.RowKit GW NL
theorem rnf_err {w0 : World} {M : List Blk} {I : List Frag} (g : G w0 [] M I) (x y : Int) : RNF 0 x y w0 (.returned (.tuple #[.slice none 0 0, .agg #[.int .i64 x, .int .i64 y]])) g.w :=
  ⟨none, 0, (fun _ => none), by rw [limbs_zero]; rfl, by rw [limbs_zero]; exact Frag.Sl.nil _ _, g.none⟩
theorem Parse_long (s : ByteArray) (w : World) (hn : 2467 < s.size) (hn9 : s.size ≤ 1000000000) :
    Calls Try.prog 23 #[.string s] w (RNF 0 4 2467 w) := by
  refine calls_b fun g => ?_
  obtain ⟨n, hsz⟩ : ∃ n, s.size = n := ⟨_, rfl⟩
  rw [hsz] at hn hn9
  have h1i : (2467 : Int) < (n : Int) := by omega
  clear hn
  go_enter Try.func23, Try.ntmps23
  go_wp2_with (with_reducible refine G.any_mark _ ?_; (try generalize Array.size (World.heap (G.w _)) = bk); (try dsimp only [List.set_cons_zero, List.set_cons_succ]); (try clear g); intro g)
  ((try simp only [G.drew_eq, G.drewN_eq]); (refine G.any_mark _ ?_; (try generalize Array.size (World.heap (G.w _)) = bk); (try dsimp only [List.set_cons_zero, List.set_cons_succ]); (try clear g); intro g))
  refine bodyPost_ret (v := .tuple #[.slice none 0 0, .agg #[.int .i64 4, .int .i64 2467]]) (by simp [results, Try.f23, go_sem]) rfl ?_
  exact rnf_err g _ _
set_option maxRecDepth 20000 in
theorem Parse_bad (s : ByteArray) (w : World) (hn : s.size ≤ 2467) (i : Nat) (hi : i < s.size) (hb : NoDig ((bl s).getD i 0)) (hd : ∀ j, j < i → ¬ NoDig ((bl s).getD j 0)) :
    Calls Try.prog 23 #[.string s] w (RNF 0 11 i w) := by
  refine calls_b fun g => ?_
  obtain ⟨capOf, cvW, fr, hcv⟩ := conv_ex s
  have hcv1 := fun w => (hcv w).1
  have HCV := Lib.hid (fun w => (hcv w).2)
  clear hcv
  obtain ⟨l, hl⟩ : ∃ l, bl s = l := ⟨_, rfl⟩
  have hll := bl_len s
  have hlt := bl_lt s
  rw [hl] at hll hlt hd hb
  rw [hl] at HCV
  obtain ⟨n, hsz⟩ : ∃ n, s.size = n := ⟨_, rfl⟩
  rw [hsz] at hn hi hll hcv1
  have h1i : ¬ ((2467 : Int) < (n : Int)) := by omega
  go_enter Try.func23, Try.ntmps23
  go_wp2_with (with_reducible refine G.any_mark _ ?_; (try generalize Array.size (World.heap (G.w _)) = bk); (try dsimp only [List.set_cons_zero, List.set_cons_succ]); (try clear g); intro g)
  obtain ⟨rc, rfl⟩ : ∃ rc : Nat, rc = bk := ⟨_, rfl⟩
  have hby := (HCV.out g.w).2
  obtain ⟨g1, hg1⟩ := g.new_ex (HCV.out g.w).1
  rw [hg1]
  clear hg1
  have CI := index_any g.w.heap.size n (capOf g.w) l g1.w hll (by omega) hlt (fun j hj => hby.cell g1 (by simp) (by omega))
  generalize capOf g.w = cc at *
  generalize fr g.w = F0 at *
  generalize g.w.heap.size = bb at *
  clear g
  revert g1
  intro g CI
  refine CI.mono ?_
  rintro e w1 ⟨rfl, ⟨i', hi', hb', hd', rfl⟩ | ⟨hall, rfl⟩⟩
  · obtain rfl : i' = i := by
      rcases Nat.lt_trichotomy i' i with h | h | h
      · exact absurd hb' (hd i' h)
      · exact h
      · exact absurd hb (hd' i h)
    have hi0 : (0 : Int) ≤ (i' : Int) := by omega
    clear CI hby hb hd hb' hd' hi'
    go_wp2_with (with_reducible refine G.any_mark _ ?_; (try generalize Array.size (World.heap (G.w _)) = bk); (try dsimp only [List.set_cons_zero, List.set_cons_succ]); (try clear g); intro g)
    ((try simp only [G.drew_eq, G.drewN_eq]); (refine G.any_mark _ ?_; (try generalize Array.size (World.heap (G.w _)) = bk); (try dsimp only [List.set_cons_zero, List.set_cons_succ]); (try clear g); intro g))
    refine bodyPost_ret (v := .tuple #[.slice none 0 0, .agg #[.int .i64 11, .int .i64 (i' : Int)]]) (by simp [results, Try.f23, go_sem]) rfl ?_
    exact rnf_err g _ _
  · exact absurd hb (hall i hi)
set_option maxRecDepth 20000 in
theorem Parse_form (s : ByteArray) (w : World) (hn : s.size ≤ 2467) (hd : ∀ j, j < s.size → ¬ NoDig ((bl s).getD j 0)) (hz : s.size = 0 ∨ (1 < s.size ∧ (bl s).getD 0 0 = 48)) :
    Calls Try.prog 23 #[.string s] w (RNF 0 11 0 w) := by
  refine calls_b fun g => ?_
  obtain ⟨capOf, cvW, fr, hcv⟩ := conv_ex s
  have hcv1 := fun w => (hcv w).1
  have HCV := Lib.hid (fun w => (hcv w).2)
  clear hcv
  obtain ⟨l, hl⟩ : ∃ l, bl s = l := ⟨_, rfl⟩
  have hll := bl_len s
  have hlt := bl_lt s
  rw [hl] at hll hlt hd hz
  rw [hl] at HCV
  obtain ⟨n, hsz⟩ : ∃ n, s.size = n := ⟨_, rfl⟩
  rw [hsz] at hn hll hcv1 hd hz
  have h1i : ¬ ((2467 : Int) < (n : Int)) := by omega
  go_enter Try.func23, Try.ntmps23
  go_wp2_with (with_reducible refine G.any_mark _ ?_; (try generalize Array.size (World.heap (G.w _)) = bk); (try dsimp only [List.set_cons_zero, List.set_cons_succ]); (try clear g); intro g)
  obtain ⟨rc, rfl⟩ : ∃ rc : Nat, rc = bk := ⟨_, rfl⟩
  have hby := (HCV.out g.w).2
  obtain ⟨g1, hg1⟩ := g.new_ex (HCV.out g.w).1
  rw [hg1]
  clear hg1
  have CI := index_any g.w.heap.size n (capOf g.w) l g1.w hll (by omega) hlt (fun j hj => hby.cell g1 (by simp) (by omega))
  generalize capOf g.w = cc at *
  generalize fr g.w = F0 at *
  generalize g.w.heap.size = bb at *
  clear g
  revert g1
  intro g CI
  refine CI.mono ?_
  rintro e w1 ⟨rfl, ⟨i', hi', hb', _, _⟩ | ⟨_, rfl⟩⟩
  · exact absurd hb' (hd i' hi')
  · clear CI hby hd
    rcases hz with h0 | ⟨h1n, hz'⟩
    · have hn0i : ((n : Int) == 0) = true := by rw [beq_iff_eq]; omega
      have hn0 : (n : Int) = 0 := by omega
      clear h0
      go_wp2_with (with_reducible refine G.any_mark _ ?_; (try generalize Array.size (World.heap (G.w _)) = bk); (try dsimp only [List.set_cons_zero, List.set_cons_succ]); (try clear g); intro g)
      ((try simp only [G.drew_eq, G.drewN_eq]); (refine G.any_mark _ ?_; (try generalize Array.size (World.heap (G.w _)) = bk); (try dsimp only [List.set_cons_zero, List.set_cons_succ]); (try clear g); intro g))
      refine bodyPost_ret (v := .tuple #[.slice none 0 0, .agg #[.int .i64 11, .int .i64 0]]) (by simp [results, Try.f23, go_sem]) rfl ?_
      exact rnf_err g _ _
    · have h1ni : (1 : Int) < (n : Int) := by omega
      have hn0i : ((n : Int) == 0) = false := by rw [beq_eq_false_iff_ne]; omega
      have hs0 : ∀ h : 0 < s.size, (((s[0]'h).toNat : Int) == 48) = true := fun h => by
        have := bl_first s h
        rw [hl] at this
        rw [beq_iff_eq]
        omega
      clear hl hz'
      go_wp2_with (with_reducible refine G.any_mark _ ?_; (try generalize Array.size (World.heap (G.w _)) = bk); (try dsimp only [List.set_cons_zero, List.set_cons_succ]); (try clear g); intro g)
      ((try simp only [G.drew_eq, G.drewN_eq]); (refine G.any_mark _ ?_; (try generalize Array.size (World.heap (G.w _)) = bk); (try dsimp only [List.set_cons_zero, List.set_cons_succ]); (try clear g); intro g))
      refine bodyPost_ret (v := .tuple #[.slice none 0 0, .agg #[.int .i64 11, .int .i64 0]]) (by simp [results, Try.f23, go_sem]) rfl ?_
      exact rnf_err g _ _
end Go.Proofs.Ytfifcpgjcgoinaa
namespace Go.Proofs.Ytfifcpgjcgoinaa
open Go.RowKit GW NL
theorem rcheck_any (A : Option Addr) (c : Nat) (l : List Nat) (w : World) (h : SlW w A c l) :
    Calls Try.prog 44 #[.slice A l.length c] w fun e w' => e = .returned (.int .i64 (chk l)) ∧ Below w.heap.size w w' := by
  have hm := h.len
  have hmm := h.max
  have hc := h.cap
  unfold chk
  by_cases h1 : 256 < l.length
  · rw [if_pos h1]
    generalize l.length = n at *
    go_enter Try.func44, Try.ntmps44
    go_wp2_with fail
    go_ret
    exact ⟨rfl, Below.refl _ _⟩
  · rw [if_neg h1]
    by_cases h0 : 0 < l.length
    · obtain ⟨b, o, rfl, hcell⟩ := limW_cell h.lim (by omega)
      have e1 := hcell (l.length - 1) (by omega)
      clear hcell h
      generalize l.getD (l.length - 1) 0 = x at e1 ⊢
      generalize l.length = m at *
      have h0' : (0 : Int) < (m : Int) := by omega
      by_cases hx : x = 0
      · rw [if_pos ⟨by omega, hx⟩]
        have hx1 : (((x : Nat) : Int) == 0) = true := by simp [hx]
        clear hx
        generalize ((x : Nat) : Int) = v at *
        go_enter Try.func44, Try.ntmps44
        go_wp2_with fail
        go_ret
        exact ⟨rfl, Below.refl _ _⟩
      · rw [if_neg (by omega)]
        have hx1 : (((x : Nat) : Int) == 0) = false := by simp [hx]
        clear hx
        generalize ((x : Nat) : Int) = v at *
        go_enter Try.func44, Try.ntmps44
        go_wp2_with fail
        go_ret
        exact ⟨rfl, Below.refl _ _⟩
    · rw [if_neg (by omega)]
      have hl : l.length = 0 := by omega
      rw [hl]
      go_enter Try.func44, Try.ntmps44
      go_wp2_with fail
      go_ret
      exact ⟨rfl, Below.refl _ _⟩
/-- trim: the limbs without zeros at the end; the slice keeps its address -/
theorem rtrim_any (A : Option Addr) (c : Nat) (l : List Nat) (w : World) (h : SlW w A c l) :
    Calls Try.prog 57 #[.slice A l.length c] w fun e w' => e = .returned (.slice A (limbs (val l)).length c) ∧ Below w.heap.size w w' := by
  have hm := h.len
  have hmm := h.max
  have hc := h.cap
  have hk := h.ok
  go_enter Try.func57, Try.ntmps57
  go_wp2_with fail
  go_loopw [0] (fun v wr => ∃ k : Nat, k ≤ l.length ∧ v = .slice A k c ∧ val (l.take k) = val l ∧ Below w.heap.size w wr) (fun v _ => match v with | .slice _ k _ => k | _ => 0)
  case atStart => exact ⟨l.length, Nat.le_refl _, rfl, by rw [List.take_length], Below.refl _ _⟩
  case round =>
    obtain ⟨k, hk1, rfl, hv, hb⟩ := hrel
    have HV := Lib.hid hv
    clear hv
    by_cases h0 : 0 < k
    · obtain ⟨b, o, rfl, hcell⟩ := limW_cell h.lim (by omega)
      have e1 := (World.cell?_of_block (hb.block _ (World.block_lt_of_cell? w _ (hcell (k - 1) (by omega))))).trans (hcell (k - 1) (by omega))
      clear hcell h
      have hn : (limbs (val l)).length ≤ k := by
        rw [← HV.out]
        have := limbs_len_le_of_ok (hk.take k)
        rw [List.length_take] at this
        omega
      have h0' : (0 : Int) < (k : Int) := by omega
      by_cases hx : l.getD (k - 1) 0 = 0
      · have hv' : val (l.take (k - 1)) = val l := by
          rw [← HV.out]
          have := val_take_getD l (k - 1)
          rw [show k - 1 + 1 = k by omega, hx] at this
          omega
        have HV' := Lib.hid hv'
        clear hv'
        have hx1 : (((l.getD (k - 1) 0 : Nat) : Int) == 0) = true := by simp only [hx]; rfl
        clear hx
        generalize ((l.getD (k - 1) 0 : Nat) : Int) = v at *
        go_wp2_with fail
        refine ⟨⟨k - 1, by omega, ?_, HV'.out, hb⟩, ?_⟩
        · rfl
        · dsimp only; omega
      · have hn' : (limbs (val l)).length = k := by
          have hl : (l.take k).length = k := by rw [List.length_take]; omega
          have t : Trim (l.take k) := by
            intro j hj
            rw [hl] at hj
            rw [getD_take (by omega), show j = k - 1 by omega]
            exact hx
          rw [← HV.out, limbs_val (hk.take k) t, hl]
        have HN := Lib.hid hn'
        clear hn'
        have hx1 : (((l.getD (k - 1) 0 : Nat) : Int) == 0) = false := by simp only [beq_eq_false_iff_ne, ne_eq]; omega
        clear hx
        generalize ((l.getD (k - 1) 0 : Nat) : Int) = v at *
        go_wp2_with fail
        go_ret
        exact ⟨ret_slice HN.out.symm, hb⟩
    · obtain rfl : k = 0 := by omega
      have hn' : (limbs (val l)).length = 0 := by
        have := HV.out
        rw [List.take_zero] at this
        rw [← this]
        rw [show val [] = 0 from rfl, limbs_zero]; rfl
      have HN := Lib.hid hn'
      clear hn'
      go_wp2_with fail
      go_ret
      exact ⟨ret_slice HN.out.symm, hb⟩
theorem rfits_yes (A : Option Addr) (c : Nat) (v : Nat) (w : World) (h : SlW w A c (limbs v)) (hv : v < 2 ^ 8192) :
    Calls Try.prog 64 #[.slice A (limbs v).length c] w fun e w' => e = .returned (.tuple #[.slice A (limbs v).length c, .int .i64 0]) ∧ Below w.heap.size w w' := by
  have hl : (limbs v).length ≤ 256 := (limbs_len v 256).2 (by rw [pow32]; exact hv)
  have C := Lib.hid (rtrim_any A c (limbs v) w h)
  rw [val_limbs] at C
  clear hv h
  generalize (limbs v).length = n at *
  go_enter Try.func64, Try.ntmps64
  go_wp2_with fail
  refine C.out.mono ?_
  rintro e w1 ⟨rfl, hb⟩
  go_wp2_with fail
  go_ret2
  exact ⟨rfl, hb⟩
theorem rfits_no (A : Option Addr) (c : Nat) (v : Nat) (w : World) (h : SlW w A c (limbs v)) (hv : ¬ v < 2 ^ 8192) :
    Calls Try.prog 64 #[.slice A (limbs v).length c] w fun e w' => e = .returned (.tuple #[.slice none 0 0, .int .i64 5]) ∧ Below w.heap.size w w' := by
  have hl : ¬ (limbs v).length ≤ 256 := fun hh => hv (by rw [← show 4294967296 ^ 256 = 2 ^ 8192 by rw [pow32]]; exact (limbs_len v 256).1 hh)
  have C := Lib.hid (rtrim_any A c (limbs v) w h)
  rw [val_limbs] at C
  have hmx := h.len
  have hmxx := h.max
  have hcp := h.cap
  clear hv h
  generalize (limbs v).length = n at *
  go_enter Try.func64, Try.ntmps64
  go_wp2_with fail
  refine C.out.mono ?_
  rintro e w1 ⟨rfl, hb⟩
  go_wp2_with fail
  go_ret2
  exact ⟨rfl, hb⟩
theorem both_any (A1 A2 : Option Addr) (c1 c2 : Nat) (l1 l2 : List Nat) (w : World) (h1 : SlW w A1 c1 l1) (h2 : SlW w A2 c2 l2) :
    Calls Try.prog 67 #[.slice A1 l1.length c1, .slice A2 l2.length c2] w fun e w' => e = .returned (.int .i64 (chk2 l1 l2)) ∧ Below w.heap.size w w' := by
  refine calls_b fun g => ?_
  have C1 := Lib.hid (fun w h => rcheck_any A1 c1 l1 w h)
  have C2 := Lib.hid (fun w h => rcheck_any A2 c2 l2 w h)
  unfold chk2
  by_cases hx : chk l1 = 0
  · rw [if_neg (by simpa using hx)]
    rw [hx] at C1
    clear hx
    generalize chk l2 = r at *
    generalize l1.length = n1 at *
    generalize l2.length = n2 at *
    go_enter Try.func67, Try.ntmps67
    go_wp2_with (with_reducible refine G.any_mark _ ?_; (try generalize Array.size (World.heap (G.w _)) = bk); (try dsimp only [List.set_cons_zero, List.set_cons_succ]); (try clear g); intro g)
    refine (C1.out _ (G.sl g (by simp) h1)).mono ?_
    rintro e w1 ⟨rfl, hb⟩
    obtain ⟨g1, rfl⟩ := G.call_ex _ hb
    clear hb
    (try clear g)
    revert g1
    intro g
    go_wp2_with (with_reducible refine G.any_mark _ ?_; (try generalize Array.size (World.heap (G.w _)) = bk); (try dsimp only [List.set_cons_zero, List.set_cons_succ]); (try clear g); intro g)
    refine (C2.out _ (G.sl g (by simp) h2)).mono ?_
    rintro e w1 ⟨rfl, hb⟩
    obtain ⟨g1, rfl⟩ := G.call_ex _ hb
    clear hb
    (try clear g)
    revert g1
    intro g
    go_wp2_with (with_reducible refine G.any_mark _ ?_; (try generalize Array.size (World.heap (G.w _)) = bk); (try dsimp only [List.set_cons_zero, List.set_cons_succ]); (try clear g); intro g)
    go_ret
    exact ⟨rfl, g.below⟩
  · rw [if_pos hx]
    have hx' : (chk l1 == 0) = false := by simpa using hx
    clear hx
    generalize chk l1 = r at *
    generalize l1.length = n1 at *
    generalize l2.length = n2 at *
    go_enter Try.func67, Try.ntmps67
    go_wp2_with (with_reducible refine G.any_mark _ ?_; (try generalize Array.size (World.heap (G.w _)) = bk); (try dsimp only [List.set_cons_zero, List.set_cons_succ]); (try clear g); intro g)
    refine (C1.out _ (G.sl g (by simp) h1)).mono ?_
    rintro e w1 ⟨rfl, hb⟩
    obtain ⟨g1, rfl⟩ := G.call_ex _ hb
    clear hb
    (try clear g)
    revert g1
    intro g
    go_wp2_with (with_reducible refine G.any_mark _ ?_; (try generalize Array.size (World.heap (G.w _)) = bk); (try dsimp only [List.set_cons_zero, List.set_cons_succ]); (try clear g); intro g)
    go_ret
    exact ⟨rfl, g.below⟩
theorem rlimb_any (A : Option Addr) (c : Nat) (l : List Nat) (i : Nat) (w : World) (h : SlW w A c l) (hi : i ≤ 1000000000000) :
    Calls Try.prog 89 #[.slice A l.length c, .int .i64 i] w fun e w' => e = .returned (.int .u64 ((l.getD i 0 : Nat) : Int)) ∧ w = w' := by
  have hm := h.len
  have hmm := h.max
  have hc := h.cap
  by_cases hlt : i < l.length
  · obtain ⟨b, o, rfl, hcell⟩ := limW_cell h.lim (by omega)
    have e1 := hcell i hlt
    have hx := h.ok.getD i
    clear hcell h
    generalize l.getD i 0 = x at e1 hx ⊢
    generalize l.length = n at *
    have hw : IntKind.u64.wrap (x : Int) = (x : Int) := by rw [IntKind.wrap_u64]; omega
    have hl : ¬ ((n : Int) ≤ (i : Int)) := by omega
    go_enter Try.func89, Try.ntmps89
    go_wp2_with fail
    go_ret
    exact ⟨rfl, rfl⟩
  · have e1 : l.getD i 0 = 0 := by rw [List.getD_eq_getElem?_getD, List.getElem?_eq_none (by omega)]; rfl
    rw [e1]
    generalize l.length = n at *
    have hl : (n : Int) ≤ (i : Int) := by omega
    go_enter Try.func89, Try.ntmps89
    go_wp2_with fail
    go_ret
    exact ⟨rfl, rfl⟩
end Go.Proofs.Ytfifcpgjcgoinaa
namespace Go.Proofs.Ytfifcpgjcgoinaa
open Go.RowKit GW NL
theorem rcmp_same (A1 A2 : Option Addr) (c1 c2 : Nat) (l1 l2 : List Nat) (w : World) (h1 : SlW w A1 c1 l1) (h2 : SlW w A2 c2 l2) (hl : l1.length = l2.length) (hl9 : l1.length ≤ 1000000000) :
    Calls Try.prog 73 #[.slice A1 l1.length c1, .slice A2 l2.length c2] w fun e w' => e = .returned (.int .i64 (ord (val l1) (val l2))) ∧ Below w.heap.size w w' := by
  obtain ⟨n, hn⟩ : ∃ n, l1.length = n := ⟨_, rfl⟩
  have hn2 : l2.length = n := by omega
  have o1 := h1.ok
  have o2 := h2.ok
  rw [hn2, hn]
  have H1 := Lib.hid hn
  have H2 := Lib.hid hn2
  have hn9 : n ≤ 1000000000 := by omega
  clear hn hn2 hl hl9
  go_enter Try.func73, Try.ntmps73
  go_wp2_with fail
  go_loopg [5] n (fun gk s5 wr => gk ≤ n ∧ s5 = .int .i64 ((gk : Int) - 1) ∧ Hid (∀ j, gk ≤ j → j < n → l1.getD j 0 = l2.getD j 0) ∧ Below w.heap.size w wr)
  case atStart => exact ⟨Nat.le_refl _, rfl, fun j h1 h2 => by omega, Below.refl _ _⟩
  case round =>
    obtain ⟨hg, rfl, HE, hb⟩ := hrel
    cases gk with
    | zero =>
      have he : l1 = l2 := eq_of_all (by rw [H1.out, H2.out]) fun j hj => HE.out j (Nat.zero_le _) (by rw [← H1.out]; exact hj)
      have hord : ord (val l1) (val l2) = 0 := by rw [he]; exact ord_self _
      have HO := Lib.hid hord
      clear he hord
      go_wp2_with fail
      go_ret
      exact ⟨ret_int HO.out.symm, hb⟩
    | succ k =>
      rw [show ((k + 1 : Nat) : Int) - 1 = (k : Int) by omega]
      have k1 : (k : Int) < (n : Int) := by omega
      obtain ⟨b1, p1, rfl, hc1⟩ := limW_cell h1.lim (by rw [H1.out]; omega)
      obtain ⟨b2, p2, rfl, hc2⟩ := limW_cell h2.lim (by rw [H2.out]; omega)
      have e1 := below_old hb (hc1 k (by rw [H1.out]; omega))
      have e2 := below_old hb (hc2 k (by rw [H2.out]; omega))
      clear hc1 hc2
      have hat := fun hne => Lib.hid (ord_at o1 o2 (by rw [H1.out, H2.out]) (k := k) (by rw [H1.out]; omega) (fun j hj hj2 => HE.out j (by omega) (by rw [← H1.out]; exact hj2)) hne)
      have HAT := Lib.hid hat
      clear hat
      obtain ⟨x, hx⟩ : ∃ x, l1.getD k 0 = x := ⟨_, rfl⟩
      obtain ⟨y, hy⟩ : ∃ y, l2.getD k 0 = y := ⟨_, rfl⟩
      rw [hx] at e1 HAT
      rw [hy] at e2 HAT
      have HX := Lib.hid hx
      have HY := Lib.hid hy
      clear hx hy
      rcases Nat.lt_trichotomy x y with h | h | h
      · have h' : (x : Int) < (y : Int) := by omega
        have hord : ord (val l1) (val l2) = -1 := by rw [(HAT.out (by omega)).out]; unfold ord; rw [if_pos h]
        have HO := Lib.hid hord
        clear hord HAT h
        go_wp2_with fail
        go_quiet (fail)
        go_wp2_with fail
        go_ret
        exact ⟨ret_int HO.out.symm, ⟨hb.os, hb.tape, hb.output, hb.size, hb.block⟩⟩
      · subst h
        have h' : ¬ ((x : Int) < (x : Int)) := by omega
        clear HAT
        go_wp2_with fail
        go_quiet (fail)
        go_wp2_with fail
        go_quiet (fail)
        go_wp2_with fail
        go_roundg k
        case measure => omega
        case rel => exact ⟨by omega, rfl, fun j hj1 hj2 => by
          rcases Nat.lt_or_ge k j with h | h
          · exact HE.out j (by omega) hj2
          · obtain rfl : j = k := by omega
            rw [HX.out, HY.out], ⟨hb.os, hb.tape, hb.output, hb.size, hb.block⟩⟩
      · have h' : ¬ ((x : Int) < (y : Int)) := by omega
        have h'' : (y : Int) < (x : Int) := by omega
        have hord : ord (val l1) (val l2) = 1 := by rw [(HAT.out (by omega)).out]; unfold ord; rw [if_neg (by omega), if_pos h]
        have HO := Lib.hid hord
        clear hord HAT h
        go_wp2_with fail
        go_quiet (fail)
        go_wp2_with fail
        go_quiet (fail)
        go_wp2_with fail
        go_ret
        exact ⟨ret_int HO.out.symm, ⟨hb.os, hb.tape, hb.output, hb.size, hb.block⟩⟩
theorem rcmp_any (A1 A2 : Option Addr) (c1 c2 a b : Nat) (w : World) (h1 : SlW w A1 c1 (limbs a)) (h2 : SlW w A2 c2 (limbs b)) (hl9 : (limbs a).length ≤ 1000000000) :
    Calls Try.prog 73 #[.slice A1 (limbs a).length c1, .slice A2 (limbs b).length c2] w fun e w' => e = .returned (.int .i64 (ord a b)) ∧ Below w.heap.size w w' := by
  rcases Nat.lt_trichotomy (limbs a).length (limbs b).length with h | h | h
  · have hord : ord a b = -1 := by unfold ord; rw [if_pos (limbs_lt_of_len h)]
    rw [hord]
    have h' : ((limbs a).length : Int) < ((limbs b).length : Int) := by omega
    clear hord h
    generalize (limbs a).length = n1 at *
    generalize (limbs b).length = n2 at *
    go_enter Try.func73, Try.ntmps73
    go_wp2_with fail
    go_ret
    exact ⟨rfl, Below.refl _ _⟩
  · have := rcmp_same A1 A2 c1 c2 (limbs a) (limbs b) w h1 h2 h hl9
    rwa [val_limbs, val_limbs] at this
  · have hord : ord a b = 1 := by have := limbs_lt_of_len h; unfold ord; rw [if_neg (by omega), if_pos this]
    rw [hord]
    have h' : ¬ ((limbs a).length : Int) < ((limbs b).length : Int) := by omega
    have h'' : ((limbs b).length : Int) < ((limbs a).length : Int) := by omega
    clear hord h
    generalize (limbs a).length = n1 at *
    generalize (limbs b).length = n2 at *
    go_enter Try.func73, Try.ntmps73
    go_wp2_with fail
    go_ret
    exact ⟨rfl, Below.refl _ _⟩
theorem nb_half {x : Nat} (h : x ≠ 0) : nb x = nb (x / 2) + 1 := by
  apply nb_uniq
  · have := nb_lt (x / 2)
    rw [Nat.pow_succ]; omega
  · right
    rw [Nat.add_sub_cancel]
    by_cases h2 : x / 2 = 0
    · rw [h2, nb_zero]; omega
    · have h3 := nb_ge h2
      have h4 := nb_pos h2
      have : 2 ^ nb (x / 2) = 2 * 2 ^ (nb (x / 2) - 1) := by rw [← Nat.pow_succ']; congr 1; omega
      omega
theorem rbits_any (A : Option Addr) (c v : Nat) (w : World) (h : SlW w A c (limbs v)) (hl : (limbs v).length ≤ 1000000000) :
    Calls Try.prog 70 #[.slice A (limbs v).length c] w fun e w' => e = .returned (.int .i64 (nb v : Nat)) ∧ Below w.heap.size w w' := by
  by_cases h0 : v = 0
  · subst h0
    rw [limbs_zero, nb_zero]
    go_enter Try.func70, Try.ntmps70
    go_wp2_with fail
    go_ret
    exact ⟨rfl, Below.refl _ _⟩
  · obtain ⟨m, hm⟩ : ∃ m, (limbs v).length = m + 1 := ⟨(limbs v).length - 1, by have := len_ne h0; omega⟩
    obtain ⟨b, o, rfl, hcell⟩ := limW_cell h.lim (by omega)
    have e1 := hcell m (by omega)
    have hx := (ok_limbs v).getD m
    have hnb := nb_top hm
    have hxn : nb ((limbs v).getD m 0) ≤ 32 := (nb_le _ _).2 hx
    rw [hnb]
    clear hcell h h0
    generalize (limbs v).getD m 0 = x at *
    have hm9 : m ≤ 1000000000 := by omega
    rw [hm]
    have hw1 : IntKind.i64.wrap (32 * (m : Int)) = 32 * (m : Int) := by rw [IntKind.wrap_i64]; omega
    clear hnb hm hl
    obtain ⟨M, hM⟩ : ∃ M, 32 * m = M := ⟨_, rfl⟩
    have hMi : 32 * (m : Int) = (M : Int) := by omega
    have hM9 : M ≤ 32000000000 := by omega
    rw [hM]
    clear hM
    go_enter Try.func70, Try.ntmps70
    go_wp2_with fail
    go_loopg [3, 4] x (fun gk s3 s4 wr => ∃ k : Nat, Hid (k + nb gk = M + nb x) ∧ k ≤ 33000000000 ∧ s3 = .int .i64 (k : Int) ∧ s4 = .int .u32 (gk : Int) ∧ gk < 4294967296 ∧ Below w.heap.size w wr)
    case atStart => exact ⟨M, rfl, by omega, rfl, rfl, hx, Below.refl _ _⟩
    case round =>
      obtain ⟨k, HK, hk9, rfl, rfl, hg, hb⟩ := hrel
      clear e1
      by_cases h0 : gk = 0
      · subst h0
        have hK := HK.out
        rw [nb_zero, Nat.add_zero] at hK
        have HK3 := Lib.hid hK
        clear hK HK
        go_wp2_with fail
        go_ret
        exact ⟨ret_int (by have := HK3.out; omega), hb⟩
      · have hgi : (0 : Int) < (gk : Int) := by omega
        obtain ⟨y, hy⟩ : ∃ y, gk / 2 = y := ⟨_, rfl⟩
        have hyi : Int.tdiv (gk : Int) 2 = (y : Int) := by rw [Int.tdiv_eq_ediv_of_nonneg (by omega)]; omega
        have hyj : (gk : Int) / 2 = (y : Int) := by omega
        have hlt : y < gk := by omega
        have HK2 : Hid (k + 1 + nb y = M + nb x) := Lib.hid (by have := HK.out; rw [nb_half h0, hy] at this; omega)
        have hk8 : k + 1 ≤ 33000000000 := by
          have := HK2.out; omega
        clear hy HK
        go_wp2_with fail
        go_roundg y
        case measure => exact hlt
        case rel => exact ⟨k + 1, HK2, hk8, by go_num, rfl, by omega, hb⟩
end Go.Proofs.Ytfifcpgjcgoinaa
