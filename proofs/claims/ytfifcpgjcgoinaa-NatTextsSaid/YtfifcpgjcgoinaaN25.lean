/- Contracts of functions of the program, out of walks. Their conditions stand ahead of each. -/
import Derived.Test.YtfifcpgjcgoinaaN24
set_option linter.unusedVariables false
set_option linter.unusedSimpArgs false
set_option exponentiation.threshold 10000
namespace Go.Proofs.Ytfifcpgjcgoinaa
open Go.RowKit GW NL
/-- a literal slice of limbs -/
theorem G.lit0 {w0 : World} {X : List Nat} {M : List Blk} {I : List Frag} {b : Nat} {T : TypeId} {cs : List Value} (g : G w0 X ((b, T, cs) :: M) I) (v n : Nat) (h : cs = u32s (limbs v)) (hn : (limbs v).length = n) (h2 : n ≤ 1000) : SlW g.w (some ⟨b, 0, none⟩) n (limbs v) := by
  subst h
  exact (sl_blk (Nat.le_of_eq hn) (by omega) (ok_limbs v)).at (blkF_sub g.blk0)
theorem G.lit1 {w0 : World} {X : List Nat} {M : List Blk} {I : List Frag} {x0 : Blk} {b : Nat} {T : TypeId} {cs : List Value} (g : G w0 X (x0 :: (b, T, cs) :: M) I) (v n : Nat) (h : cs = u32s (limbs v)) (hn : (limbs v).length = n) (h2 : n ≤ 1000) : SlW g.w (some ⟨b, 0, none⟩) n (limbs v) := by
  subst h
  exact (sl_blk (Nat.le_of_eq hn) (by omega) (ok_limbs v)).at (blkF_sub g.blk1)
theorem lim1 {x : Nat} (h : x < 4294967296) (h0 : x ≠ 0) : limbs x = [x] := limbs_one h0 h
theorem lim2 {x y : Nat} (h : x < 4294967296) (hy : y < 4294967296) (h0 : y ≠ 0) : limbs (x + 4294967296 * y) = [x, y] := by
  have e : val [x, y] = x + 4294967296 * y := by simp [val]
  rw [← e]
  refine limbs_val (Ok.cons h (Ok.cons hy Ok.nil)) ?_
  intro k hk
  obtain rfl : k = 1 := by simp at hk; omega
  simpa using h0
theorem mul_lit (A B : Option Addr) (v1 v2 p n1 n2 n : Nat) (w : World) (h1 : SlW w A n1 (limbs v1)) (h2 : SlW w B n2 (limbs v2)) (e1 : (limbs v1).length = n1) (e2 : (limbs v2).length = n2) (e : (limbs p).length = n) (hp : v1 * v2 = p) (b1 : v1 < 2 ^ 8192) (b2 : v2 < 2 ^ 8192) (b3 : p < 2 ^ 8192) :
    Calls Try.prog 14 #[.slice A n1 n1, .slice B n2 n2] w fun e w' => ∃ A c F, e = .returned (.tuple #[.slice A n c, .int .i64 0]) ∧ F.Sl A c (limbs p) ∧ New w w' F := by
  have := Mul_ok A B n1 n2 v1 v2 w h1 h2 b1 b2 (by rw [hp]; exact b3)
  rw [hp, e1, e2] at this
  unfold RNE at this
  dsimp only at this
  rwa [e] at this
theorem div_lit (A B : Option Addr) (v1 v2 q r n1 n2 nq nr : Nat) (w : World) (h1 : SlW w A n1 (limbs v1)) (h2 : SlW w B n2 (limbs v2)) (e1 : (limbs v1).length = n1) (e2 : (limbs v2).length = n2) (eq : (limbs q).length = nq) (er : (limbs r).length = nr) (hq : v1 / v2 = q) (hr : v1 % v2 = r) (b1 : v1 < 2 ^ 8192) (b2 : v2 < 2 ^ 8192) (b0 : v2 ≠ 0) :
    Calls Try.prog 16 #[.slice A n1 n1, .slice B n2 n2] w fun e w' => ∃ A1 c1 F1 A2 c2 F2, e = .returned (.tuple #[.slice A1 nq c1, .slice A2 nr c2, .int .i64 0]) ∧ F1.Sl A1 c1 (limbs q) ∧ F2.Sl A2 c2 (limbs r) ∧ New w w' F1 ∧ New w w' F2 := by
  have := Div_ok A B n1 n2 v1 v2 w h1 h2 b1 b2 b0
  rw [hq, hr, e1, e2] at this
  unfold RNNE at this
  rwa [eq, er] at this
theorem text_lit (A : Option Addr) (v n : Nat) (s : ByteArray) (w : World) (h : SlW w A n (limbs v)) (e1 : (limbs v).length = n) (b1 : v < 2 ^ 8192) (hs : bstr (dec v) = s) :
    Calls Try.prog 21 #[.slice A n n] w fun e w' => e = .returned (.tuple #[.string s, .int .i64 0]) ∧ Below w.heap.size w w' := by
  have := Text_ok A n v w h b1
  rwa [e1, hs] at this
theorem is_lit (A B : Option Addr) (c : Nat) (v n : Nat) (w : World) (h1 : SlW w A c (limbs v)) (h2 : SlW w B n (limbs v)) (e : (limbs v).length = n) :
    Calls Try.prog 45 #[.slice A n c, .int .i64 0, .slice B n n] w fun e w' => e = .returned (.bool true) ∧ Below w.heap.size w w' := by
  have := is_yes A B c n (limbs v) w h1 h2
  rwa [e] at this
theorem small_lt {x : Nat} (h : x < 2 ^ 64) : x < 2 ^ 8192 := Nat.lt_trans h (Nat.pow_lt_pow_right (by decide) (by decide))
theorem digs_step' (n q r : Nat) (l : List Nat) (h : n = 10 * q + r) (hr : r < 10) (h0 : n ≠ 0) (hl : digs q = l) : digs n = r :: l := by
  rw [digs_pos h0, show n % 10 = r by omega, show n / 10 = q by omega, hl]
theorem dec_top : dec 4294967296 = [52, 50, 57, 52, 57, 54, 55, 50, 57, 54] := by
  have h : digs 4294967296 = [6, 9, 2, 7, 6, 9, 4, 9, 2, 4] := by
    refine digs_step' _ 429496729 6 _ (by omega) (by omega) (by omega) ?_
    refine digs_step' _ 42949672 9 _ (by omega) (by omega) (by omega) ?_
    refine digs_step' _ 4294967 2 _ (by omega) (by omega) (by omega) ?_
    refine digs_step' _ 429496 7 _ (by omega) (by omega) (by omega) ?_
    refine digs_step' _ 42949 6 _ (by omega) (by omega) (by omega) ?_
    refine digs_step' _ 4294 9 _ (by omega) (by omega) (by omega) ?_
    refine digs_step' _ 429 4 _ (by omega) (by omega) (by omega) ?_
    refine digs_step' _ 42 9 _ (by omega) (by omega) (by omega) ?_
    refine digs_step' _ 4 2 _ (by omega) (by omega) (by omega) ?_
    exact digs_step' _ 0 4 _ (by omega) (by omega) (by omega) digs_zero
  unfold dec
  rw [if_neg (by omega), h]
  rfl
set_option maxRecDepth 20000 in
theorem lives_any (w : World) : Calls Try.prog 11 #[] w fun e w' => e = .returned (.bool true) ∧ Below w.heap.size w w' := by
  refine calls_b fun g => ?_
  have e1 : limbs 4294967295 = [4294967295] := lim1 (by decide) (by decide)
  have e2 : limbs 18446744065119617025 = [1, 4294967294] := lim2 (x := 1) (y := 4294967294) (by decide) (by decide) (by decide)
  have e3 : limbs 4294967303 = [7, 1] := lim2 (x := 7) (y := 1) (by decide) (by decide) (by decide)
  have e4 : limbs 10 = [10] := lim1 (by decide) (by decide)
  have e5 : limbs 429496730 = [429496730] := lim1 (by decide) (by decide)
  have e6 : limbs 3 = [3] := lim1 (by decide) (by decide)
  have e7 : limbs 4294967296 = [0, 1] := lim2 (x := 0) (y := 1) (by decide) (by decide) (by decide)
  have CM := Lib.hid (fun A B w h1 h2 => mul_lit A B 4294967295 4294967295 18446744065119617025 1 1 2 w h1 h2 (by rw [e1]; rfl) (by rw [e1]; rfl) (by rw [e2]; rfl) (by decide) (small_lt (by decide)) (small_lt (by decide)) (small_lt (by decide)))
  have CD := Lib.hid (fun A B w h1 h2 => div_lit A B 4294967303 10 429496730 3 2 1 1 1 w h1 h2 (by rw [e3]; rfl) (by rw [e4]; rfl) (by rw [e5]; rfl) (by rw [e6]; rfl) (by decide) (by decide) (small_lt (by decide)) (small_lt (by decide)) (by decide))
  have CT := Lib.hid (fun A w h => text_lit A 4294967296 2 { data := #[52, 50, 57, 52, 57, 54, 55, 50, 57, 54] } w h (by rw [e7]; rfl) (small_lt (by decide)) (by rw [dec_top]; rfl))
  have CI1 := Lib.hid (fun A B c w h1 h2 => is_lit A B c 18446744065119617025 2 w h1 h2 (by rw [e2]; rfl))
  have CI2 := Lib.hid (fun A B c w h1 h2 => is_lit A B c 429496730 1 w h1 h2 (by rw [e5]; rfl))
  have CI3 := Lib.hid (fun A B c w h1 h2 => is_lit A B c 3 1 w h1 h2 (by rw [e6]; rfl))
  have n1 : Hid ((limbs 4294967295).length = 1 ∧ [Value.int .u32 4294967295] = u32s (limbs 4294967295)) := Lib.hid ⟨by rw [e1]; rfl, by rw [e1]; rfl⟩
  have n2 : Hid ((limbs 18446744065119617025).length = 2 ∧ [Value.int .u32 1, .int .u32 4294967294] = u32s (limbs 18446744065119617025)) := Lib.hid ⟨by rw [e2]; rfl, by rw [e2]; rfl⟩
  have n3 : Hid ((limbs 4294967303).length = 2 ∧ [Value.int .u32 7, .int .u32 1] = u32s (limbs 4294967303)) := Lib.hid ⟨by rw [e3]; rfl, by rw [e3]; rfl⟩
  have n4 : Hid ((limbs 10).length = 1 ∧ [Value.int .u32 10] = u32s (limbs 10)) := Lib.hid ⟨by rw [e4]; rfl, by rw [e4]; rfl⟩
  have n5 : Hid ((limbs 429496730).length = 1 ∧ [Value.int .u32 429496730] = u32s (limbs 429496730)) := Lib.hid ⟨by rw [e5]; rfl, by rw [e5]; rfl⟩
  have n6 : Hid ((limbs 3).length = 1 ∧ [Value.int .u32 3] = u32s (limbs 3)) := Lib.hid ⟨by rw [e6]; rfl, by rw [e6]; rfl⟩
  have n7 : Hid ((limbs 4294967296).length = 2 ∧ [Value.int .u32 0, .int .u32 1] = u32s (limbs 4294967296)) := Lib.hid ⟨by rw [e7]; rfl, by rw [e7]; rfl⟩
  clear e1 e2 e3 e4 e5 e6 e7
  go_enter Try.func11, Try.ntmps11
  go_wp2_with (with_reducible refine G.any_mark _ ?_; (try generalize Array.size (World.heap (G.w _)) = bk); (try dsimp only [List.set_cons_zero, List.set_cons_succ]); (try clear g); intro g)
  refine (CM.out _ _ _ (G.lit1 g _ _ n1.out.2 n1.out.1 (by decide)) (G.lit0 g _ _ n1.out.2 n1.out.1 (by decide))).mono ?_
  rintro e w1 ⟨A1, c1, F1, rfl, hs1, hn⟩
  have hnn1 := fun k o hk => Nat.le_trans g.chg.size (hn.new k o hk)
  obtain ⟨g1, rfl⟩ := G.new_ex _ hn
  clear hn
  (try clear g)
  revert g1
  intro g
  obtain ⟨g2, hg2⟩ := G.less g (M' := []) (List.nil_sublist _)
  rw [hg2]
  clear hg2
  (try clear g)
  revert g2
  intro g
  go_wp2_with (with_reducible refine G.any_mark _ ?_; (try generalize Array.size (World.heap (G.w _)) = bk); (try dsimp only [List.set_cons_zero, List.set_cons_succ]); (try clear g); intro g)
  refine (CD.out _ _ _ (G.lit1 g _ _ n3.out.2 n3.out.1 (by decide)) (G.lit0 g _ _ n4.out.2 n4.out.1 (by decide))).mono ?_
  rintro e w1 ⟨A2, c2, F2, B2, d2, H2, rfl, hs2, ht2, hn, hm⟩
  have hnn2 := fun k o hk => Nat.le_trans g.chg.size (hn.new k o hk)
  have hmm2 := fun k o hk => Nat.le_trans g.chg.size (hm.new k o hk)
  obtain ⟨g1, rfl⟩ := G.new2_ex _ hn hm
  clear hn hm
  (try clear g)
  revert g1
  intro g
  obtain ⟨g2, hg2⟩ := G.less g (M' := []) (List.nil_sublist _)
  rw [hg2]
  clear hg2
  (try clear g)
  revert g2
  intro g
  go_wp2_with (with_reducible refine G.any_mark _ ?_; (try generalize Array.size (World.heap (G.w _)) = bk); (try dsimp only [List.set_cons_zero, List.set_cons_succ]); (try clear g); intro g)
  refine (CT.out _ _ (G.lit0 g _ _ n7.out.2 n7.out.1 (by decide))).mono ?_
  rintro e w1 ⟨rfl, hb⟩
  obtain ⟨g1, rfl⟩ := G.call_ex _ hb
  clear hb
  (try clear g)
  revert g1
  intro g
  obtain ⟨g2, hg2⟩ := G.less g (M' := []) (List.nil_sublist _)
  rw [hg2]
  clear hg2
  (try clear g)
  revert g2
  intro g
  go_wp2_with (with_reducible refine G.any_mark _ ?_; (try generalize Array.size (World.heap (G.w _)) = bk); (try dsimp only [List.set_cons_zero, List.set_cons_succ]); (try clear g); intro g)
  refine (CI1.out _ _ _ _ (G.sl g (by simp) hs1) (G.lit0 g _ _ n2.out.2 n2.out.1 (by decide))).mono ?_
  rintro e w1 ⟨rfl, hb⟩
  obtain ⟨g1, rfl⟩ := G.call_ex _ hb
  clear hb
  (try clear g)
  revert g1
  intro g
  obtain ⟨g2, hg2⟩ := G.less g (M' := []) (List.nil_sublist _)
  rw [hg2]
  clear hg2
  (try clear g)
  revert g2
  intro g
  go_wp2_with (with_reducible refine G.any_mark _ ?_; (try generalize Array.size (World.heap (G.w _)) = bk); (try dsimp only [List.set_cons_zero, List.set_cons_succ]); (try clear g); intro g)
  refine (CI2.out _ _ _ _ (G.sl g (by simp) hs2) (G.lit0 g _ _ n5.out.2 n5.out.1 (by decide))).mono ?_
  rintro e w1 ⟨rfl, hb⟩
  obtain ⟨g1, rfl⟩ := G.call_ex _ hb
  clear hb
  (try clear g)
  revert g1
  intro g
  obtain ⟨g2, hg2⟩ := G.less g (M' := []) (List.nil_sublist _)
  rw [hg2]
  clear hg2
  (try clear g)
  revert g2
  intro g
  go_wp2_with (with_reducible refine G.any_mark _ ?_; (try generalize Array.size (World.heap (G.w _)) = bk); (try dsimp only [List.set_cons_zero, List.set_cons_succ]); (try clear g); intro g)
  refine (CI3.out _ _ _ _ (G.sl g (by simp) ht2) (G.lit0 g _ _ n6.out.2 n6.out.1 (by decide))).mono ?_
  rintro e w1 ⟨rfl, hb⟩
  obtain ⟨g1, rfl⟩ := G.call_ex _ hb
  clear hb
  (try clear g)
  revert g1
  intro g
  obtain ⟨g2, hg2⟩ := G.less g (M' := []) (List.nil_sublist _)
  rw [hg2]
  clear hg2
  (try clear g)
  revert g2
  intro g
  go_wp2_with (with_reducible refine G.any_mark _ ?_; (try generalize Array.size (World.heap (G.w _)) = bk); (try dsimp only [List.set_cons_zero, List.set_cons_succ]); (try clear g); intro g)
  go_ret
  exact ⟨rfl, g.below⟩
end Go.Proofs.Ytfifcpgjcgoinaa
