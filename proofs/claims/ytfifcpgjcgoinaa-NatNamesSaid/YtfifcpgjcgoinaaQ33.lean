/- Plain facts and contracts of functions of the program, out of walks. Their conditions stand ahead of each. -/
import Derived.Test.YtfifcpgjcgoinaaQ31
import Derived.Test.YtfifcpgjcgoinaaQ32
set_option linter.unusedVariables false
set_option linter.unusedSimpArgs false
set_option exponentiation.threshold 10000
namespace Go.Proofs.Ytfifcpgjcgoinaa
open Go.RowKit GW NL
theorem ok_lit {l : List Nat} (h : (l.all fun x => decide (x < 4294967296)) = true) : Ok l := fun x hx => by
  have := List.all_eq_true.1 h x hx
  simpa using this
theorem o2 : outI (chk [0, 2147483648]) (val [0, 2147483648]) = (0, 5) := by
  have : nb (val [0, 2147483648]) = 64 := by
    have : val [0, 2147483648] = 2 ^ 63 := by decide
    rw [this]
    decide
  unfold outI
  rw [this]
  rfl
theorem o3 : outI (chk [4294967295, 2147483647]) (val [4294967295, 2147483647]) = (9223372036854775807, 0) := by
  have : nb (val [4294967295, 2147483647]) = 63 := by
    have : val [4294967295, 2147483647] = 9223372036854775807 := by decide
    rw [this]
    decide
  unfold outI
  rw [this]
  rfl
theorem div_zero (A B : Option Addr) (w : World) (h1 : SlW w A 1 [1]) (h2 : SlW w B 0 []) :
    Calls Try.prog 16 #[.slice A 1 1, .slice B 0 0] w fun e w' => ∃ A1 c1 F1 A2 c2 F2, e = .returned (.tuple #[.slice A1 0 c1, .slice A2 0 c2, .int .i64 6]) ∧ F1.Sl A1 c1 [] ∧ F2.Sl A2 c2 [] ∧ New w w' F1 ∧ New w w' F2 := by
  have := Div_any A B 1 0 [1] [] w h1 h2
  rw [d1'] at this
  unfold RNNE at this
  rw [limbs_zero] at this
  exact this
def RFL (m : Nat) (L : List Nat) (x y : Int) (w : World) (e : Ending) (w' : World) : Prop := ∃ A c F, e = .returned (.tuple #[.slice A m c, .agg #[.int .i64 x, .int .i64 y]]) ∧ F.Sl A c L ∧ New w w' F
theorem rnf_lit {v : Nat} {x y : Int} {L : List Nat} {m : Nat} {f : FuncId} {args : Array Value} {w : World} (hL : limbs v = L) (hm : L.length = m) (H : Calls Try.prog f args w (RNF v x y w)) : Calls Try.prog f args w (RFL m L x y w) := by
  subst hL; subst hm; exact H
theorem lim001 : limbs 18446744073709551616 = [0, 0, 1] := by
  have := limbs_val (l := [0, 0, 1]) (ok_lit (by decide)) (by intro k hk; obtain rfl : k = 2 := by simp at hk; omega
                                                              decide)
  exact this
theorem text0 (w : World) : Calls Try.prog 21 #[.slice none 0 0] w fun e w' => e = .returned (.tuple #[.string { data := #[48] }, .int .i64 0]) ∧ Below w.heap.size w w' := by
  have := Text_zero none 0 w (Frag.Sl.nil _ _)
  rwa [show bstr (dec 0) = { data := #[48] } by rfl] at this
theorem q1 : outB (chk [0, 1]) (val [0, 1]) = (33, 0) := by
  have : nb (val [0, 1]) = 33 := by
    have : val [0, 1] = 2 ^ 32 := by decide
    rw [this]
    decide
  unfold outB
  rw [this]
  rfl
set_option maxRecDepth 100000 in
set_option maxHeartbeats 4000000 in
theorem names_walk (w : World) : Calls Try.prog 10 #[] w fun e w' => e = .returned (.bool true) ∧ Below w.heap.size w w' := by
  refine calls_b fun g => ?_
  obtain ⟨L, hL⟩ : ∃ L, List.replicate 256 4294967295 = L := ⟨_, rfl⟩
  have hLn : L.length = 256 := by rw [← hL]; exact List.length_replicate ..
  have hLo : Ok L := by rw [← hL]; exact ok_tops 256
  have hLc : chk L = 0 := by rw [← hL]; exact chk_tops
  have hLc0 : chk (L ++ [0]) = 4 := by rw [← hL]; exact chk_tops0
  have hLa : outN (chk2 L [1]) (val L + val [1]) = (0, 5) := by rw [← hL]; exact out_tops
  have hLn0 : (L ++ [0]).length = 257 := by rw [List.length_append, hLn]; rfl
  have hLo0 : Ok (L ++ [0]) := fun x hx => by
    rcases List.mem_append.1 hx with h | h
    · exact hLo x h
    · rw [List.mem_singleton.1 h]; decide
  have hL9 : L.length ≤ 1000000000 := by omega
  have KG := Lib.hid great_ex
  rw [hL] at KG
  unfold ROwn at KG
  rw [hLn] at KG
  obtain ⟨i0, hi, hzz0, hzz1, hzz2⟩ := info_parts infoU32
  have H1 : ∀ u ∈ [Value.int .u32 0], u.oneCell' = true := by intro u hu; rw [List.mem_singleton.1 hu]; rfl
  clear hL
  have K1 := Lib.hid (lives_any)
  have K2 := Lib.hid (fun w => of_l 0 0 [] 0 limbs_zero rfl (by decide) 0 rfl w)
  have K3 := Lib.hid (fun w => of_l 5 5 [5] 1 (lim1 (by decide) (by decide)) rfl (by decide) 5 rfl w)
  have K4 := Lib.hid (fun w => of_l 4294967296 4294967296 [0, 1] 2 (lim2 (x := 0) (y := 1) (by decide) (by decide) (by decide)) rfl (by decide) 4294967296 rfl w)
  have K5 := Lib.hid (fun w => of_m w)
  have K6 := Lib.hid (fun A w h => int_l A [0, 0, 1] 3 rfl 0 5 o1 w h)
  have K7 := Lib.hid (fun A w h => int_l A [0, 2147483648] 2 rfl 0 5 o2 w h)
  have K8 := Lib.hid (fun A w h => int_l A [4294967295, 2147483647] 2 rfl 9223372036854775807 0 o3 w h)
  have K9 := Lib.hid (fun A B c d w h1 h2 => is_l A B c d [] 0 rfl w h1 h2)
  have K10 := Lib.hid (fun A B c d w h1 h2 => is_l A B c d [5] 1 rfl w h1 h2)
  have K11 := Lib.hid (fun A B c d w h1 h2 => is_l A B c d [0, 1] 2 rfl w h1 h2)
  have K12 := Lib.hid (fun A c w => bad_l A c 2 w)
  have K13 := Lib.hid (fun A c w h => bits_l A c [] 0 rfl 0 0 (by decide) w h)
  have K14 := Lib.hid (fun A c w h => bits_l A c [0, 1] 2 rfl 33 0 q1 w h)
  have K15 := Lib.hid (fun A B w h1 h2 => cmp_l A B [5] [0, 1] 1 2 rfl rfl (-1) 0 c1' w h1 h2)
  have K16 := Lib.hid (fun A c w h => check_l A c [0] 1 rfl 3 (by decide) w h)
  have K17 := Lib.hid (fun A c w h => check_l A c [5, 0] 2 rfl 3 (by decide) w h)
  have K18 := Lib.hid (fun A c w h => check_l A c L 256 hLn 0 hLc w h)
  have K19 := Lib.hid (fun A c w h => check_l A c (L ++ [0]) 257 hLn0 4 hLc0 w h)
  have K20 := Lib.hid (fun A B c d w h1 h2 => add_l A B c d [4294967295] [1] 1 1 rfl rfl 4294967296 0 a1 [0, 1] 2 (lim2 (x := 0) (y := 1) (by decide) (by decide) (by decide)) rfl (by decide) (by decide) w h1 h2)
  have K21 := Lib.hid (fun A B w h1 h2 => sub_l A B [0, 1] [1] 2 1 rfl rfl 4294967295 0 b1' [4294967295] 1 (lim1 (by decide) (by decide)) rfl w h1 h2)
  have K22 := Lib.hid (fun A B w h1 h2 => sub_l A B [1] [2] 1 1 rfl rfl 0 2 b2' [] 0 limbs_zero rfl w h1 h2)
  have K23 := Lib.hid (fun A B c d w h1 h2 => add_l A B c d L [1] 256 1 hLn rfl 0 5 hLa [] 0 limbs_zero rfl hL9 (by decide) w h1 h2)
  have K24 := Lib.hid (fun A B w h1 h2 => div_zero A B w h1 h2)
  have K25 := Lib.hid (fun A w h1 => shift_l A [1] 1 (33) rfl (8589934592) 0 s5 ([0, 2]) 2 (lim2 (x := 0) (y := 2) (by decide) (by decide) (by decide)) rfl w h1)
  have K26 := Lib.hid (fun A w h1 => shift_l A [6] 1 (-2) rfl (1) 0 s3 ([1]) 1 (lim1 (by decide) (by decide)) rfl w h1)
  have K27 := Lib.hid (fun A w h1 => shift_l A [1] 1 (8192) rfl (0) 5 s1 ([]) 0 limbs_zero rfl w h1)
  have K28 := Lib.hid (fun A w h1 => shift_l A [1] 1 (10001) rfl (0) 2 s4 ([]) 0 limbs_zero rfl w h1)
  have K29 := Lib.hid (fun A w h1 => shift_l A [1] 1 (8191) rfl (2 ^ 8191) 0 s2 (limbs (2 ^ 8191)) 256 rfl len_top w h1)
  have K30 := Lib.hid (fun A B c d w h1 h2 => is_l A B c d [0, 1] 2 rfl w h1 h2)
  have K31 := Lib.hid (fun A B c d w h1 h2 => is_l A B c d [4294967295] 1 rfl w h1 h2)
  have K32 := Lib.hid (fun A c w => bad_l A c 2 w)
  have K33 := Lib.hid (fun A c w => bad_l A c 5 w)
  have K34 := Lib.hid (fun A B c d w h1 h2 => is_l A B c d [0, 2] 2 rfl w h1 h2)
  have K35 := Lib.hid (fun A B c d w h1 h2 => is_l A B c d [1] 1 rfl w h1 h2)
  have K36 := Lib.hid (fun A c w => bad_l A c 5 w)
  have K37 := Lib.hid (fun A c w => bad_l A c 2 w)
  have K38 := Lib.hid (fun A B c d w h1 h2 => gcd_l A B c d [12] [18] 1 1 rfl rfl 6 0 g1' [6] 1 (lim1 (by decide) (by decide)) rfl w h1 h2)
  have K39 := Lib.hid (fun A B c d w h1 h2 => gcd_l A B c d [] [7] 0 1 rfl rfl 7 0 g2' [7] 1 (lim1 (by decide) (by decide)) rfl w h1 h2)
  have K40 := Lib.hid (fun A w h1 => root_l A 15 [15] 1 (lim1 (by decide) (by decide)) rfl 3 rt15 (small_lt (by decide)) (by decide) [3] 1 (lim1 (by decide) (by decide)) rfl w h1)
  have K41 := Lib.hid (fun A w h1 => root_l A 18446744073709551616 [0, 0, 1] 3 lim001 rfl 4294967296 rt64 (Nat.lt_of_lt_of_le (by decide : 18446744073709551616 < 2 ^ 65) (Nat.pow_le_pow_right (by decide) (by decide))) (by decide) [0, 1] 2 (lim2 (x := 0) (y := 1) (by decide) (by decide) (by decide)) rfl w h1)
  have K42 := Lib.hid (fun w => text0 w)
  have K43 := Lib.hid (fun A B c d w h1 h2 => is_l A B c d [6] 1 rfl w h1 h2)
  have K44 := Lib.hid (fun A B c d w h1 h2 => is_l A B c d [7] 1 rfl w h1 h2)
  have K45 := Lib.hid (fun A B c d w h1 h2 => is_l A B c d [3] 1 rfl w h1 h2)
  have K46 := Lib.hid (fun A B c d w h1 h2 => is_l A B c d [0, 1] 2 rfl w h1 h2)
  have K47 := Lib.hid (fun w => rnf_lit (v := 4294967296) (L := [0, 1]) (m := 2) (x := 0) (y := 0) (lim2 (x := 0) (y := 1) (by decide) (by decide) (by decide)) rfl (parse_top w))
  have K48 := Lib.hid (fun w => rnf_lit (v := 0) (L := []) (m := 0) (x := 11) (y := 0) limbs_zero rfl (parse_empty w))
  have K49 := Lib.hid (fun w => rnf_lit (v := 0) (L := []) (m := 0) (x := 11) (y := 0) limbs_zero rfl (parse_007 w))
  have K50 := Lib.hid (fun w => rnf_lit (v := 0) (L := []) (m := 0) (x := 11) (y := 2) limbs_zero rfl (parse_12x w))
  have K51 := Lib.hid (fun w => times_nine 2467 (by decide) (by decide) w)
  have K52 := Lib.hid (fun w => rnf_lit (v := 0) (L := []) (m := 0) (x := 5) (y := 0) limbs_zero rfl (parse_nines w))
  have K53 := Lib.hid (fun w => times_nine 2468 (by decide) (by decide) w)
  have K54 := Lib.hid (fun w => rnf_lit (v := 0) (L := []) (m := 0) (x := 4) (y := 2467) limbs_zero rfl (parse_nines2 w))
  have K55 := Lib.hid (fun A B c d w h1 h2 => is_l A B c d [0, 1] 2 rfl w h1 h2)
  go_enter Try.func10, Try.ntmps10
  go_wp2_with (with_reducible refine G.any_mark _ ?_; (try generalize Array.size (World.heap (G.w _)) = bk); (try dsimp only [List.set_cons_zero, List.set_cons_succ]); (try clear g); intro g)
  refine (K1.out _).mono ?_
  rintro e w1 ⟨rfl, hb⟩
  obtain ⟨g1, rfl⟩ := G.call_ex _ hb
  clear hb
  (try clear g)
  revert g1
  intro g
  go_wp2_with (with_reducible refine G.any_mark _ ?_; (try generalize Array.size (World.heap (G.w _)) = bk); (try dsimp only [List.set_cons_zero, List.set_cons_succ]); (try clear g); intro g)
  refine (K2.out _).mono ?_
  rintro e w1 ⟨Aa, ca, Fa, rfl, hsa, hn⟩
  (try dsimp only at hsa)
  have hnna := fun k o hk => Nat.le_trans g.chg.size (hn.new k o hk)
  obtain ⟨g1, rfl⟩ := G.new_ex _ hn
  clear hn
  (try clear g)
  revert g1
  intro g
  go_wp2_with (with_reducible refine G.any_mark _ ?_; (try generalize Array.size (World.heap (G.w _)) = bk); (try dsimp only [List.set_cons_zero, List.set_cons_succ]); (try clear g); intro g)
  refine (K3.out _).mono ?_
  rintro e w1 ⟨Ab, cb, Fb, rfl, hsb, hn⟩
  (try dsimp only at hsb)
  have hnnb := fun k o hk => Nat.le_trans g.chg.size (hn.new k o hk)
  obtain ⟨g1, rfl⟩ := G.new_ex _ hn
  clear hn
  (try clear g)
  revert g1
  intro g
  go_wp2_with (with_reducible refine G.any_mark _ ?_; (try generalize Array.size (World.heap (G.w _)) = bk); (try dsimp only [List.set_cons_zero, List.set_cons_succ]); (try clear g); intro g)
  refine (K4.out _).mono ?_
  rintro e w1 ⟨Ac, cc, Fc, rfl, hsc, hn⟩
  (try dsimp only at hsc)
  have hnnc := fun k o hk => Nat.le_trans g.chg.size (hn.new k o hk)
  obtain ⟨g1, rfl⟩ := G.new_ex _ hn
  clear hn
  (try clear g)
  revert g1
  intro g
  go_wp2_with (with_reducible refine G.any_mark _ ?_; (try generalize Array.size (World.heap (G.w _)) = bk); (try dsimp only [List.set_cons_zero, List.set_cons_succ]); (try clear g); intro g)
  refine (K5.out _).mono ?_
  rintro e w1 ⟨Ad, cd, Fd, rfl, hsd, hn⟩
  (try dsimp only at hsd)
  have hnnd := fun k o hk => Nat.le_trans g.chg.size (hn.new k o hk)
  obtain ⟨g1, rfl⟩ := G.new_ex _ hn
  clear hn
  (try clear g)
  revert g1
  intro g
  go_wp2_with (with_reducible refine G.any_mark _ ?_; (try generalize Array.size (World.heap (G.w _)) = bk); (try dsimp only [List.set_cons_zero, List.set_cons_succ]); (try clear g); intro g)
  refine (K6.out _ _ (G.lim0 g [0, 0, 1] 3 rfl rfl (by decide) (ok_lit (by decide)))).mono ?_
  rintro e w1 ⟨rfl, hb⟩
  obtain ⟨g1, rfl⟩ := G.call_ex _ hb
  clear hb
  (try clear g)
  revert g1
  intro g
  obtain ⟨g2, hg2⟩ := G.less g (M' := []) (List.nil_sublist _)
  rw [hg2]
  clear hg2
  (try clear g)
  revert g2
  intro g
  go_wp2_with (with_reducible refine G.any_mark _ ?_; (try generalize Array.size (World.heap (G.w _)) = bk); (try dsimp only [List.set_cons_zero, List.set_cons_succ]); (try clear g); intro g)
  refine (K7.out _ _ (G.lim0 g [0, 2147483648] 2 rfl rfl (by decide) (ok_lit (by decide)))).mono ?_
  rintro e w1 ⟨rfl, hb⟩
  obtain ⟨g1, rfl⟩ := G.call_ex _ hb
  clear hb
  (try clear g)
  revert g1
  intro g
  obtain ⟨g2, hg2⟩ := G.less g (M' := []) (List.nil_sublist _)
  rw [hg2]
  clear hg2
  (try clear g)
  revert g2
  intro g
  go_wp2_with (with_reducible refine G.any_mark _ ?_; (try generalize Array.size (World.heap (G.w _)) = bk); (try dsimp only [List.set_cons_zero, List.set_cons_succ]); (try clear g); intro g)
  refine (K8.out _ _ (G.lim0 g [4294967295, 2147483647] 2 rfl rfl (by decide) (ok_lit (by decide)))).mono ?_
  rintro e w1 ⟨rfl, hb⟩
  obtain ⟨g1, rfl⟩ := G.call_ex _ hb
  clear hb
  (try clear g)
  revert g1
  intro g
  obtain ⟨g2, hg2⟩ := G.less g (M' := []) (List.nil_sublist _)
  rw [hg2]
  clear hg2
  (try clear g)
  revert g2
  intro g
  go_wp2_with (with_reducible refine G.any_mark _ ?_; (try generalize Array.size (World.heap (G.w _)) = bk); (try dsimp only [List.set_cons_zero, List.set_cons_succ]); (try clear g); intro g)
  refine (K9.out _ _ _ _ _ (G.sl g (by simp) hsa) (Frag.Sl.nil _ _)).mono ?_
  rintro e w1 ⟨rfl, hb⟩
  obtain ⟨g1, rfl⟩ := G.call_ex _ hb
  clear hb
  (try clear g)
  revert g1
  intro g
  go_wp2_with (with_reducible refine G.any_mark _ ?_; (try generalize Array.size (World.heap (G.w _)) = bk); (try dsimp only [List.set_cons_zero, List.set_cons_succ]); (try clear g); intro g)
  refine (K10.out _ _ _ _ _ (G.sl g (by simp) hsb) (G.lim0 g [5] 1 rfl rfl (by decide) (ok_lit (by decide)))).mono ?_
  rintro e w1 ⟨rfl, hb⟩
  obtain ⟨g1, rfl⟩ := G.call_ex _ hb
  clear hb
  (try clear g)
  revert g1
  intro g
  obtain ⟨g2, hg2⟩ := G.less g (M' := []) (List.nil_sublist _)
  rw [hg2]
  clear hg2
  (try clear g)
  revert g2
  intro g
  go_wp2_with (with_reducible refine G.any_mark _ ?_; (try generalize Array.size (World.heap (G.w _)) = bk); (try dsimp only [List.set_cons_zero, List.set_cons_succ]); (try clear g); intro g)
  refine (K11.out _ _ _ _ _ (G.sl g (by simp) hsc) (G.lim0 g [0, 1] 2 rfl rfl (by decide) (ok_lit (by decide)))).mono ?_
  rintro e w1 ⟨rfl, hb⟩
  obtain ⟨g1, rfl⟩ := G.call_ex _ hb
  clear hb
  (try clear g)
  revert g1
  intro g
  obtain ⟨g2, hg2⟩ := G.less g (M' := []) (List.nil_sublist _)
  rw [hg2]
  clear hg2
  (try clear g)
  revert g2
  intro g
  go_wp2_with (with_reducible refine G.any_mark _ ?_; (try generalize Array.size (World.heap (G.w _)) = bk); (try dsimp only [List.set_cons_zero, List.set_cons_succ]); (try clear g); intro g)
  refine (K12.out _ _ _).mono ?_
  rintro e w1 ⟨rfl, hb⟩
  obtain ⟨g1, rfl⟩ := G.call_ex _ hb
  clear hb
  (try clear g)
  revert g1
  intro g
  go_wp2_with (with_reducible refine G.any_mark _ ?_; (try generalize Array.size (World.heap (G.w _)) = bk); (try dsimp only [List.set_cons_zero, List.set_cons_succ]); (try clear g); intro g)
  refine (K13.out _ _ _ (Frag.Sl.nil _ _)).mono ?_
  rintro e w1 ⟨rfl, hb⟩
  obtain ⟨g1, rfl⟩ := G.call_ex _ hb
  clear hb
  (try clear g)
  revert g1
  intro g
  go_wp2_with (with_reducible refine G.any_mark _ ?_; (try generalize Array.size (World.heap (G.w _)) = bk); (try dsimp only [List.set_cons_zero, List.set_cons_succ]); (try clear g); intro g)
  refine (K14.out _ _ _ (G.lim0 g [0, 1] 2 rfl rfl (by decide) (ok_lit (by decide)))).mono ?_
  rintro e w1 ⟨rfl, hb⟩
  obtain ⟨g1, rfl⟩ := G.call_ex _ hb
  clear hb
  (try clear g)
  revert g1
  intro g
  obtain ⟨g2, hg2⟩ := G.less g (M' := []) (List.nil_sublist _)
  rw [hg2]
  clear hg2
  (try clear g)
  revert g2
  intro g
  go_wp2_with (with_reducible refine G.any_mark _ ?_; (try generalize Array.size (World.heap (G.w _)) = bk); (try dsimp only [List.set_cons_zero, List.set_cons_succ]); (try clear g); intro g)
  refine (K15.out _ _ _ (G.lim1 g [5] 1 rfl rfl (by decide) (ok_lit (by decide))) (G.lim0 g [0, 1] 2 rfl rfl (by decide) (ok_lit (by decide)))).mono ?_
  rintro e w1 ⟨rfl, hb⟩
  obtain ⟨g1, rfl⟩ := G.call_ex _ hb
  clear hb
  (try clear g)
  revert g1
  intro g
  obtain ⟨g2, hg2⟩ := G.less g (M' := []) (List.nil_sublist _)
  rw [hg2]
  clear hg2
  (try clear g)
  revert g2
  intro g
  go_wp2_with (with_reducible refine G.any_mark _ ?_; (try generalize Array.size (World.heap (G.w _)) = bk); (try dsimp only [List.set_cons_zero, List.set_cons_succ]); (try clear g); intro g)
  refine (K16.out _ _ _ (G.lim0 g [0] 1 rfl rfl (by decide) (ok_lit (by decide)))).mono ?_
  rintro e w1 ⟨rfl, hb⟩
  obtain ⟨g1, rfl⟩ := G.call_ex _ hb
  clear hb
  (try clear g)
  revert g1
  intro g
  obtain ⟨g2, hg2⟩ := G.less g (M' := []) (List.nil_sublist _)
  rw [hg2]
  clear hg2
  (try clear g)
  revert g2
  intro g
  go_wp2_with (with_reducible refine G.any_mark _ ?_; (try generalize Array.size (World.heap (G.w _)) = bk); (try dsimp only [List.set_cons_zero, List.set_cons_succ]); (try clear g); intro g)
  refine (K17.out _ _ _ (G.lim0 g [5, 0] 2 rfl rfl (by decide) (ok_lit (by decide)))).mono ?_
  rintro e w1 ⟨rfl, hb⟩
  obtain ⟨g1, rfl⟩ := G.call_ex _ hb
  clear hb
  (try clear g)
  revert g1
  intro g
  obtain ⟨g2, hg2⟩ := G.less g (M' := []) (List.nil_sublist _)
  rw [hg2]
  clear hg2
  (try clear g)
  revert g2
  intro g
  go_wp2_with (with_reducible refine G.any_mark _ ?_; (try generalize Array.size (World.heap (G.w _)) = bk); (try dsimp only [List.set_cons_zero, List.set_cons_succ]); (try clear g); intro g)
  refine (KG.out _).mono ?_
  rintro e w1 ⟨rb, cap, rcs, rfl, hrow, hbe, hfr, hbl⟩
  obtain ⟨g1, rfl⟩ := G.own_ex g hbe hfr hbl
  clear hbe hfr hbl g
  revert g1
  intro g
  go_wp2_with (with_reducible refine G.any_mark _ ?_; (try generalize Array.size (World.heap (G.w _)) = bk); (try dsimp only [List.set_cons_zero, List.set_cons_succ]); (try clear g); intro g)
  refine (K18.out _ _ _ ((sl_row hrow hLn (by decide) hLo).at (blkF_sub g.blk0))).mono ?_
  rintro e w1 ⟨rfl, hb⟩
  obtain ⟨g1, rfl⟩ := G.call_ex _ hb
  clear hb
  (try clear g)
  revert g1
  intro g
  obtain ⟨g2, hg2⟩ := G.less g (M' := []) (List.nil_sublist _)
  rw [hg2]
  clear hg2
  (try clear g)
  revert g2
  intro g
  clear hrow rcs
  go_wp2_with (with_reducible refine G.any_mark _ ?_; (try generalize Array.size (World.heap (G.w _)) = bk); (try dsimp only [List.set_cons_zero, List.set_cons_succ]); (try clear g); intro g)
  refine (KG.out _).mono ?_
  rintro e w1 ⟨rb, cap, rcs, rfl, hrow, hbe, hfr, hbl⟩
  obtain ⟨g1, rfl⟩ := G.own_ex g hbe hfr hbl
  clear hbe hfr hbl g
  revert g1
  intro g
  have hrb : w.heap.size ≤ rb := g.fresh (List.mem_cons_self ..)
  go_wp2_with (with_reducible refine G.any_mark _ ?_; (try generalize Array.size (World.heap (G.w _)) = bk); (try dsimp only [List.set_cons_zero, List.set_cons_succ]); (try clear g); intro g)
  refine wp_append_lit _ _ 24 rfl 30 i0 _ 1 4 Try.underlying24 hi hzz0 hzz1 hzz2 rfl (by decide) g hrow hrb rfl 1 rfl rfl H1 (by decide) (by decide) (by decide) ?_
  clear hrow hrb g
  intro rb cap rcs g hrb hrow
  go_wp2_with (with_reducible refine G.any_mark _ ?_; (try generalize Array.size (World.heap (G.w _)) = bk); (try dsimp only [List.set_cons_zero, List.set_cons_succ]); (try clear g); intro g)
  refine (K19.out _ _ _ ((sl_row (by rw [u32s_append]; exact hrow) hLn0 (by decide) hLo0).at (blkF_sub g.blk0))).mono ?_
  rintro e w1 ⟨rfl, hb⟩
  obtain ⟨g1, rfl⟩ := G.call_ex _ hb
  clear hb
  (try clear g)
  revert g1
  intro g
  obtain ⟨g2, hg2⟩ := G.less g (M' := []) (List.nil_sublist _)
  rw [hg2]
  clear hg2
  (try clear g)
  revert g2
  intro g
  clear hrow rcs hrb
  go_wp2_with (with_reducible refine G.any_mark _ ?_; (try generalize Array.size (World.heap (G.w _)) = bk); (try dsimp only [List.set_cons_zero, List.set_cons_succ]); (try clear g); intro g)
  refine (K20.out _ _ _ _ _ (G.lim1 g [4294967295] 1 rfl rfl (by decide) (ok_lit (by decide))) (G.lim0 g [1] 1 rfl rfl (by decide) (ok_lit (by decide)))).mono ?_
  rintro e w1 ⟨Ae, ce, Fe, rfl, hse, hn⟩
  (try dsimp only at hse)
  have hnne := fun k o hk => Nat.le_trans g.chg.size (hn.new k o hk)
  obtain ⟨g1, rfl⟩ := G.new_ex _ hn
  clear hn
  (try clear g)
  revert g1
  intro g
  obtain ⟨g2, hg2⟩ := G.less g (M' := []) (List.nil_sublist _)
  rw [hg2]
  clear hg2
  (try clear g)
  revert g2
  intro g
  go_wp2_with (with_reducible refine G.any_mark _ ?_; (try generalize Array.size (World.heap (G.w _)) = bk); (try dsimp only [List.set_cons_zero, List.set_cons_succ]); (try clear g); intro g)
  refine (K21.out _ _ _ (G.lim1 g [0, 1] 2 rfl rfl (by decide) (ok_lit (by decide))) (G.lim0 g [1] 1 rfl rfl (by decide) (ok_lit (by decide)))).mono ?_
  rintro e w1 ⟨Af, cf, Ff, rfl, hsf, hn⟩
  (try dsimp only at hsf)
  have hnnf := fun k o hk => Nat.le_trans g.chg.size (hn.new k o hk)
  obtain ⟨g1, rfl⟩ := G.new_ex _ hn
  clear hn
  (try clear g)
  revert g1
  intro g
  obtain ⟨g2, hg2⟩ := G.less g (M' := []) (List.nil_sublist _)
  rw [hg2]
  clear hg2
  (try clear g)
  revert g2
  intro g
  go_wp2_with (with_reducible refine G.any_mark _ ?_; (try generalize Array.size (World.heap (G.w _)) = bk); (try dsimp only [List.set_cons_zero, List.set_cons_succ]); (try clear g); intro g)
  refine (K22.out _ _ _ (G.lim1 g [1] 1 rfl rfl (by decide) (ok_lit (by decide))) (G.lim0 g [2] 1 rfl rfl (by decide) (ok_lit (by decide)))).mono ?_
  rintro e w1 ⟨Ah, ch, Fh, rfl, hsh, hn⟩
  (try dsimp only at hsh)
  have hnnh := fun k o hk => Nat.le_trans g.chg.size (hn.new k o hk)
  obtain ⟨g1, rfl⟩ := G.new_ex _ hn
  clear hn
  (try clear g)
  revert g1
  intro g
  obtain ⟨g2, hg2⟩ := G.less g (M' := []) (List.nil_sublist _)
  rw [hg2]
  clear hg2
  (try clear g)
  revert g2
  intro g
  go_wp2_with (with_reducible refine G.any_mark _ ?_; (try generalize Array.size (World.heap (G.w _)) = bk); (try dsimp only [List.set_cons_zero, List.set_cons_succ]); (try clear g); intro g)
  refine (KG.out _).mono ?_
  rintro e w1 ⟨rb, cap, rcs, rfl, hrow, hbe, hfr, hbl⟩
  obtain ⟨g1, rfl⟩ := G.own_ex g hbe hfr hbl
  clear hbe hfr hbl g
  revert g1
  intro g
  go_wp2_with (with_reducible refine G.any_mark _ ?_; (try generalize Array.size (World.heap (G.w _)) = bk); (try dsimp only [List.set_cons_zero, List.set_cons_succ]); (try clear g); intro g)
  refine (K23.out _ _ _ _ _ ((sl_row hrow hLn (by decide) hLo).at (blkF_sub g.blk1)) (G.lim0 g [1] 1 rfl rfl (by decide) (ok_lit (by decide)))).mono ?_
  rintro e w1 ⟨Ai, ci, Fi, rfl, hsi, hn⟩
  (try dsimp only at hsi)
  have hnni := fun k o hk => Nat.le_trans g.chg.size (hn.new k o hk)
  obtain ⟨g1, rfl⟩ := G.new_ex _ hn
  clear hn
  (try clear g)
  revert g1
  intro g
  obtain ⟨g2, hg2⟩ := G.less g (M' := []) (List.nil_sublist _)
  rw [hg2]
  clear hg2
  (try clear g)
  revert g2
  intro g
  go_wp2_with (with_reducible refine G.any_mark _ ?_; (try generalize Array.size (World.heap (G.w _)) = bk); (try dsimp only [List.set_cons_zero, List.set_cons_succ]); (try clear g); intro g)
  refine (K24.out _ _ _ (G.lim0 g [1] 1 rfl rfl (by decide) (ok_lit (by decide))) (Frag.Sl.nil _ _)).mono ?_
  rintro e w1 ⟨Aj, cj, Fj, Bj, dj, Hj, rfl, hsj, htj, hn, hm⟩
  have hnnj := fun k o hk => Nat.le_trans g.chg.size (hn.new k o hk)
  have hmmj := fun k o hk => Nat.le_trans g.chg.size (hm.new k o hk)
  obtain ⟨g1, rfl⟩ := G.new2_ex _ hn hm
  clear hn hm
  (try clear g)
  revert g1
  intro g
  obtain ⟨g2, hg2⟩ := G.less g (M' := []) (List.nil_sublist _)
  rw [hg2]
  clear hg2
  (try clear g)
  revert g2
  intro g
  go_wp2_with (with_reducible refine G.any_mark _ ?_; (try generalize Array.size (World.heap (G.w _)) = bk); (try dsimp only [List.set_cons_zero, List.set_cons_succ]); (try clear g); intro g)
  refine (K25.out _ _ (G.lim0 g [1] 1 rfl rfl (by decide) (ok_lit (by decide)))).mono ?_
  rintro e w1 ⟨Ak, ck, Fk, rfl, hsk, hn⟩
  (try dsimp only at hsk)
  have hnnk := fun k o hk => Nat.le_trans g.chg.size (hn.new k o hk)
  obtain ⟨g1, rfl⟩ := G.new_ex _ hn
  clear hn
  (try clear g)
  revert g1
  intro g
  obtain ⟨g2, hg2⟩ := G.less g (M' := []) (List.nil_sublist _)
  rw [hg2]
  clear hg2
  (try clear g)
  revert g2
  intro g
  go_wp2_with (with_reducible refine G.any_mark _ ?_; (try generalize Array.size (World.heap (G.w _)) = bk); (try dsimp only [List.set_cons_zero, List.set_cons_succ]); (try clear g); intro g)
  refine (K26.out _ _ (G.lim0 g [6] 1 rfl rfl (by decide) (ok_lit (by decide)))).mono ?_
  rintro e w1 ⟨Al, cl, Fl, rfl, hsl, hn⟩
  (try dsimp only at hsl)
  have hnnl := fun k o hk => Nat.le_trans g.chg.size (hn.new k o hk)
  obtain ⟨g1, rfl⟩ := G.new_ex _ hn
  clear hn
  (try clear g)
  revert g1
  intro g
  obtain ⟨g2, hg2⟩ := G.less g (M' := []) (List.nil_sublist _)
  rw [hg2]
  clear hg2
  (try clear g)
  revert g2
  intro g
  go_wp2_with (with_reducible refine G.any_mark _ ?_; (try generalize Array.size (World.heap (G.w _)) = bk); (try dsimp only [List.set_cons_zero, List.set_cons_succ]); (try clear g); intro g)
  refine (K27.out _ _ (G.lim0 g [1] 1 rfl rfl (by decide) (ok_lit (by decide)))).mono ?_
  rintro e w1 ⟨Am, cm, Fm, rfl, hsm, hn⟩
  (try dsimp only at hsm)
  have hnnm := fun k o hk => Nat.le_trans g.chg.size (hn.new k o hk)
  obtain ⟨g1, rfl⟩ := G.new_ex _ hn
  clear hn
  (try clear g)
  revert g1
  intro g
  obtain ⟨g2, hg2⟩ := G.less g (M' := []) (List.nil_sublist _)
  rw [hg2]
  clear hg2
  (try clear g)
  revert g2
  intro g
  go_wp2_with (with_reducible refine G.any_mark _ ?_; (try generalize Array.size (World.heap (G.w _)) = bk); (try dsimp only [List.set_cons_zero, List.set_cons_succ]); (try clear g); intro g)
  refine (K28.out _ _ (G.lim0 g [1] 1 rfl rfl (by decide) (ok_lit (by decide)))).mono ?_
  rintro e w1 ⟨An, cn, Fn, rfl, hsn, hn⟩
  (try dsimp only at hsn)
  have hnnn := fun k o hk => Nat.le_trans g.chg.size (hn.new k o hk)
  obtain ⟨g1, rfl⟩ := G.new_ex _ hn
  clear hn
  (try clear g)
  revert g1
  intro g
  obtain ⟨g2, hg2⟩ := G.less g (M' := []) (List.nil_sublist _)
  rw [hg2]
  clear hg2
  (try clear g)
  revert g2
  intro g
  go_wp2_with (with_reducible refine G.any_mark _ ?_; (try generalize Array.size (World.heap (G.w _)) = bk); (try dsimp only [List.set_cons_zero, List.set_cons_succ]); (try clear g); intro g)
  refine (K29.out _ _ (G.lim0 g [1] 1 rfl rfl (by decide) (ok_lit (by decide)))).mono ?_
  rintro e w1 ⟨Ao, co, Fo, rfl, hso, hn⟩
  (try dsimp only at hso)
  have hnno := fun k o hk => Nat.le_trans g.chg.size (hn.new k o hk)
  obtain ⟨g1, rfl⟩ := G.new_ex _ hn
  clear hn
  (try clear g)
  revert g1
  intro g
  obtain ⟨g2, hg2⟩ := G.less g (M' := []) (List.nil_sublist _)
  rw [hg2]
  clear hg2
  (try clear g)
  revert g2
  intro g
  go_wp2_with (with_reducible refine G.any_mark _ ?_; (try generalize Array.size (World.heap (G.w _)) = bk); (try dsimp only [List.set_cons_zero, List.set_cons_succ]); (try clear g); intro g)
  refine (K30.out _ _ _ _ _ (G.sl g (by simp) hse) (G.lim0 g [0, 1] 2 rfl rfl (by decide) (ok_lit (by decide)))).mono ?_
  rintro e w1 ⟨rfl, hb⟩
  obtain ⟨g1, rfl⟩ := G.call_ex _ hb
  clear hb
  (try clear g)
  revert g1
  intro g
  obtain ⟨g2, hg2⟩ := G.less g (M' := []) (List.nil_sublist _)
  rw [hg2]
  clear hg2
  (try clear g)
  revert g2
  intro g
  go_wp2_with (with_reducible refine G.any_mark _ ?_; (try generalize Array.size (World.heap (G.w _)) = bk); (try dsimp only [List.set_cons_zero, List.set_cons_succ]); (try clear g); intro g)
  refine (K31.out _ _ _ _ _ (G.sl g (by simp) hsf) (G.lim0 g [4294967295] 1 rfl rfl (by decide) (ok_lit (by decide)))).mono ?_
  rintro e w1 ⟨rfl, hb⟩
  obtain ⟨g1, rfl⟩ := G.call_ex _ hb
  clear hb
  (try clear g)
  revert g1
  intro g
  obtain ⟨g2, hg2⟩ := G.less g (M' := []) (List.nil_sublist _)
  rw [hg2]
  clear hg2
  (try clear g)
  revert g2
  intro g
  go_wp2_with (with_reducible refine G.any_mark _ ?_; (try generalize Array.size (World.heap (G.w _)) = bk); (try dsimp only [List.set_cons_zero, List.set_cons_succ]); (try clear g); intro g)
  refine (K32.out _ _ _).mono ?_
  rintro e w1 ⟨rfl, hb⟩
  obtain ⟨g1, rfl⟩ := G.call_ex _ hb
  clear hb
  (try clear g)
  revert g1
  intro g
  go_wp2_with (with_reducible refine G.any_mark _ ?_; (try generalize Array.size (World.heap (G.w _)) = bk); (try dsimp only [List.set_cons_zero, List.set_cons_succ]); (try clear g); intro g)
  refine (K33.out _ _ _).mono ?_
  rintro e w1 ⟨rfl, hb⟩
  obtain ⟨g1, rfl⟩ := G.call_ex _ hb
  clear hb
  (try clear g)
  revert g1
  intro g
  go_wp2_with (with_reducible refine G.any_mark _ ?_; (try generalize Array.size (World.heap (G.w _)) = bk); (try dsimp only [List.set_cons_zero, List.set_cons_succ]); (try clear g); intro g)
  refine (K34.out _ _ _ _ _ (G.sl g (by simp) hsk) (G.lim0 g [0, 2] 2 rfl rfl (by decide) (ok_lit (by decide)))).mono ?_
  rintro e w1 ⟨rfl, hb⟩
  obtain ⟨g1, rfl⟩ := G.call_ex _ hb
  clear hb
  (try clear g)
  revert g1
  intro g
  obtain ⟨g2, hg2⟩ := G.less g (M' := []) (List.nil_sublist _)
  rw [hg2]
  clear hg2
  (try clear g)
  revert g2
  intro g
  go_wp2_with (with_reducible refine G.any_mark _ ?_; (try generalize Array.size (World.heap (G.w _)) = bk); (try dsimp only [List.set_cons_zero, List.set_cons_succ]); (try clear g); intro g)
  refine (K35.out _ _ _ _ _ (G.sl g (by simp) hsl) (G.lim0 g [1] 1 rfl rfl (by decide) (ok_lit (by decide)))).mono ?_
  rintro e w1 ⟨rfl, hb⟩
  obtain ⟨g1, rfl⟩ := G.call_ex _ hb
  clear hb
  (try clear g)
  revert g1
  intro g
  obtain ⟨g2, hg2⟩ := G.less g (M' := []) (List.nil_sublist _)
  rw [hg2]
  clear hg2
  (try clear g)
  revert g2
  intro g
  go_wp2_with (with_reducible refine G.any_mark _ ?_; (try generalize Array.size (World.heap (G.w _)) = bk); (try dsimp only [List.set_cons_zero, List.set_cons_succ]); (try clear g); intro g)
  refine (K36.out _ _ _).mono ?_
  rintro e w1 ⟨rfl, hb⟩
  obtain ⟨g1, rfl⟩ := G.call_ex _ hb
  clear hb
  (try clear g)
  revert g1
  intro g
  go_wp2_with (with_reducible refine G.any_mark _ ?_; (try generalize Array.size (World.heap (G.w _)) = bk); (try dsimp only [List.set_cons_zero, List.set_cons_succ]); (try clear g); intro g)
  refine (K37.out _ _ _).mono ?_
  rintro e w1 ⟨rfl, hb⟩
  obtain ⟨g1, rfl⟩ := G.call_ex _ hb
  clear hb
  (try clear g)
  revert g1
  intro g
  go_wp2_with (with_reducible refine G.any_mark _ ?_; (try generalize Array.size (World.heap (G.w _)) = bk); (try dsimp only [List.set_cons_zero, List.set_cons_succ]); (try clear g); intro g)
  refine (K38.out _ _ _ _ _ (G.lim1 g [12] 1 rfl rfl (by decide) (ok_lit (by decide))) (G.lim0 g [18] 1 rfl rfl (by decide) (ok_lit (by decide)))).mono ?_
  rintro e w1 ⟨Ap, cp, Fp, rfl, hsp, hn⟩
  (try dsimp only at hsp)
  have hnnp := fun k o hk => Nat.le_trans g.chg.size (hn.new k o hk)
  obtain ⟨g1, rfl⟩ := G.new_ex _ hn
  clear hn
  (try clear g)
  revert g1
  intro g
  obtain ⟨g2, hg2⟩ := G.less g (M' := []) (List.nil_sublist _)
  rw [hg2]
  clear hg2
  (try clear g)
  revert g2
  intro g
  go_wp2_with (with_reducible refine G.any_mark _ ?_; (try generalize Array.size (World.heap (G.w _)) = bk); (try dsimp only [List.set_cons_zero, List.set_cons_succ]); (try clear g); intro g)
  refine (K39.out _ _ _ _ _ (Frag.Sl.nil _ _) (G.lim0 g [7] 1 rfl rfl (by decide) (ok_lit (by decide)))).mono ?_
  rintro e w1 ⟨Aq, cq, Fq, rfl, hsq, hn⟩
  (try dsimp only at hsq)
  have hnnq := fun k o hk => Nat.le_trans g.chg.size (hn.new k o hk)
  obtain ⟨g1, rfl⟩ := G.new_ex _ hn
  clear hn
  (try clear g)
  revert g1
  intro g
  obtain ⟨g2, hg2⟩ := G.less g (M' := []) (List.nil_sublist _)
  rw [hg2]
  clear hg2
  (try clear g)
  revert g2
  intro g
  go_wp2_with (with_reducible refine G.any_mark _ ?_; (try generalize Array.size (World.heap (G.w _)) = bk); (try dsimp only [List.set_cons_zero, List.set_cons_succ]); (try clear g); intro g)
  refine (K40.out _ _ (G.lim0 g [15] 1 rfl rfl (by decide) (ok_lit (by decide)))).mono ?_
  rintro e w1 ⟨Ar, cr, Fr, rfl, hsr, hn⟩
  (try dsimp only at hsr)
  have hnnr := fun k o hk => Nat.le_trans g.chg.size (hn.new k o hk)
  obtain ⟨g1, rfl⟩ := G.new_ex _ hn
  clear hn
  (try clear g)
  revert g1
  intro g
  obtain ⟨g2, hg2⟩ := G.less g (M' := []) (List.nil_sublist _)
  rw [hg2]
  clear hg2
  (try clear g)
  revert g2
  intro g
  go_wp2_with (with_reducible refine G.any_mark _ ?_; (try generalize Array.size (World.heap (G.w _)) = bk); (try dsimp only [List.set_cons_zero, List.set_cons_succ]); (try clear g); intro g)
  refine (K41.out _ _ (G.lim0 g [0, 0, 1] 3 rfl rfl (by decide) (ok_lit (by decide)))).mono ?_
  rintro e w1 ⟨As, cs, Fs, rfl, hss, hn⟩
  (try dsimp only at hss)
  have hnns := fun k o hk => Nat.le_trans g.chg.size (hn.new k o hk)
  obtain ⟨g1, rfl⟩ := G.new_ex _ hn
  clear hn
  (try clear g)
  revert g1
  intro g
  obtain ⟨g2, hg2⟩ := G.less g (M' := []) (List.nil_sublist _)
  rw [hg2]
  clear hg2
  (try clear g)
  revert g2
  intro g
  go_wp2_with (with_reducible refine G.any_mark _ ?_; (try generalize Array.size (World.heap (G.w _)) = bk); (try dsimp only [List.set_cons_zero, List.set_cons_succ]); (try clear g); intro g)
  refine (K42.out _).mono ?_
  rintro e w1 ⟨rfl, hb⟩
  obtain ⟨g1, rfl⟩ := G.call_ex _ hb
  clear hb
  (try clear g)
  revert g1
  intro g
  go_wp2_with (with_reducible refine G.any_mark _ ?_; (try generalize Array.size (World.heap (G.w _)) = bk); (try dsimp only [List.set_cons_zero, List.set_cons_succ]); (try clear g); intro g)
  refine (K43.out _ _ _ _ _ (G.sl g (by simp) hsp) (G.lim0 g [6] 1 rfl rfl (by decide) (ok_lit (by decide)))).mono ?_
  rintro e w1 ⟨rfl, hb⟩
  obtain ⟨g1, rfl⟩ := G.call_ex _ hb
  clear hb
  (try clear g)
  revert g1
  intro g
  obtain ⟨g2, hg2⟩ := G.less g (M' := []) (List.nil_sublist _)
  rw [hg2]
  clear hg2
  (try clear g)
  revert g2
  intro g
  go_wp2_with (with_reducible refine G.any_mark _ ?_; (try generalize Array.size (World.heap (G.w _)) = bk); (try dsimp only [List.set_cons_zero, List.set_cons_succ]); (try clear g); intro g)
  refine (K44.out _ _ _ _ _ (G.sl g (by simp) hsq) (G.lim0 g [7] 1 rfl rfl (by decide) (ok_lit (by decide)))).mono ?_
  rintro e w1 ⟨rfl, hb⟩
  obtain ⟨g1, rfl⟩ := G.call_ex _ hb
  clear hb
  (try clear g)
  revert g1
  intro g
  obtain ⟨g2, hg2⟩ := G.less g (M' := []) (List.nil_sublist _)
  rw [hg2]
  clear hg2
  (try clear g)
  revert g2
  intro g
  go_wp2_with (with_reducible refine G.any_mark _ ?_; (try generalize Array.size (World.heap (G.w _)) = bk); (try dsimp only [List.set_cons_zero, List.set_cons_succ]); (try clear g); intro g)
  refine (K45.out _ _ _ _ _ (G.sl g (by simp) hsr) (G.lim0 g [3] 1 rfl rfl (by decide) (ok_lit (by decide)))).mono ?_
  rintro e w1 ⟨rfl, hb⟩
  obtain ⟨g1, rfl⟩ := G.call_ex _ hb
  clear hb
  (try clear g)
  revert g1
  intro g
  obtain ⟨g2, hg2⟩ := G.less g (M' := []) (List.nil_sublist _)
  rw [hg2]
  clear hg2
  (try clear g)
  revert g2
  intro g
  go_wp2_with (with_reducible refine G.any_mark _ ?_; (try generalize Array.size (World.heap (G.w _)) = bk); (try dsimp only [List.set_cons_zero, List.set_cons_succ]); (try clear g); intro g)
  refine (K46.out _ _ _ _ _ (G.sl g (by simp) hss) (G.lim0 g [0, 1] 2 rfl rfl (by decide) (ok_lit (by decide)))).mono ?_
  rintro e w1 ⟨rfl, hb⟩
  obtain ⟨g1, rfl⟩ := G.call_ex _ hb
  clear hb
  (try clear g)
  revert g1
  intro g
  obtain ⟨g2, hg2⟩ := G.less g (M' := []) (List.nil_sublist _)
  rw [hg2]
  clear hg2
  (try clear g)
  revert g2
  intro g
  go_wp2_with (with_reducible refine G.any_mark _ ?_; (try generalize Array.size (World.heap (G.w _)) = bk); (try dsimp only [List.set_cons_zero, List.set_cons_succ]); (try clear g); intro g)
  refine (K47.out _).mono ?_
  rintro e w1 ⟨At, ct, Ft, rfl, hst, hn⟩
  (try dsimp only at hst)
  have hnnt := fun k o hk => Nat.le_trans g.chg.size (hn.new k o hk)
  obtain ⟨g1, rfl⟩ := G.new_ex _ hn
  clear hn
  (try clear g)
  revert g1
  intro g
  go_wp2_with (with_reducible refine G.any_mark _ ?_; (try generalize Array.size (World.heap (G.w _)) = bk); (try dsimp only [List.set_cons_zero, List.set_cons_succ]); (try clear g); intro g)
  (try (refine calls_mark _ ?_; (try dsimp only [List.set_cons_zero, List.set_cons_succ]); clear g; intro g))
  refine (K48.out _).mono ?_
  rintro e w1 ⟨Au, cu, Fu, rfl, hsu, hn⟩
  (try dsimp only at hsu)
  have hnnu := fun k o hk => Nat.le_trans g.chg.size (hn.new k o hk)
  obtain ⟨g1, rfl⟩ := G.new_ex _ hn
  clear hn
  (try clear g)
  revert g1
  intro g
  go_wp2_with (with_reducible refine G.any_mark _ ?_; (try generalize Array.size (World.heap (G.w _)) = bk); (try dsimp only [List.set_cons_zero, List.set_cons_succ]); (try clear g); intro g)
  (try (refine calls_mark _ ?_; (try dsimp only [List.set_cons_zero, List.set_cons_succ]); clear g; intro g))
  refine (K49.out _).mono ?_
  rintro e w1 ⟨Av, cv, Fv, rfl, hsv, hn⟩
  (try dsimp only at hsv)
  have hnnv := fun k o hk => Nat.le_trans g.chg.size (hn.new k o hk)
  obtain ⟨g1, rfl⟩ := G.new_ex _ hn
  clear hn
  (try clear g)
  revert g1
  intro g
  go_wp2_with (with_reducible refine G.any_mark _ ?_; (try generalize Array.size (World.heap (G.w _)) = bk); (try dsimp only [List.set_cons_zero, List.set_cons_succ]); (try clear g); intro g)
  (try (refine calls_mark _ ?_; (try dsimp only [List.set_cons_zero, List.set_cons_succ]); clear g; intro g))
  refine (K50.out _).mono ?_
  rintro e w1 ⟨Aw, cw, Fw, rfl, hsw, hn⟩
  (try dsimp only at hsw)
  have hnnw := fun k o hk => Nat.le_trans g.chg.size (hn.new k o hk)
  obtain ⟨g1, rfl⟩ := G.new_ex _ hn
  clear hn
  (try clear g)
  revert g1
  intro g
  go_wp2_with (with_reducible refine G.any_mark _ ?_; (try generalize Array.size (World.heap (G.w _)) = bk); (try dsimp only [List.set_cons_zero, List.set_cons_succ]); (try clear g); intro g)
  (try (refine calls_mark _ ?_; (try dsimp only [List.set_cons_zero, List.set_cons_succ]); clear g; intro g))
  refine (K51.out _).mono ?_
  rintro e w1 ⟨rfl, hb⟩
  obtain ⟨g1, rfl⟩ := G.call_ex _ hb
  clear hb
  (try clear g)
  revert g1
  intro g
  go_wp2_with (with_reducible refine G.any_mark _ ?_; (try generalize Array.size (World.heap (G.w _)) = bk); (try dsimp only [List.set_cons_zero, List.set_cons_succ]); (try clear g); intro g)
  refine (K52.out _).mono ?_
  rintro e w1 ⟨Ax, cx, Fx, rfl, hsx, hn⟩
  (try dsimp only at hsx)
  have hnnx := fun k o hk => Nat.le_trans g.chg.size (hn.new k o hk)
  obtain ⟨g1, rfl⟩ := G.new_ex _ hn
  clear hn
  (try clear g)
  revert g1
  intro g
  go_wp2_with (with_reducible refine G.any_mark _ ?_; (try generalize Array.size (World.heap (G.w _)) = bk); (try dsimp only [List.set_cons_zero, List.set_cons_succ]); (try clear g); intro g)
  (try (refine calls_mark _ ?_; (try dsimp only [List.set_cons_zero, List.set_cons_succ]); clear g; intro g))
  refine (K53.out _).mono ?_
  rintro e w1 ⟨rfl, hb⟩
  obtain ⟨g1, rfl⟩ := G.call_ex _ hb
  clear hb
  (try clear g)
  revert g1
  intro g
  go_wp2_with (with_reducible refine G.any_mark _ ?_; (try generalize Array.size (World.heap (G.w _)) = bk); (try dsimp only [List.set_cons_zero, List.set_cons_succ]); (try clear g); intro g)
  refine (K54.out _).mono ?_
  rintro e w1 ⟨Ay, cy, Fy, rfl, hsy, hn⟩
  (try dsimp only at hsy)
  have hnny := fun k o hk => Nat.le_trans g.chg.size (hn.new k o hk)
  obtain ⟨g1, rfl⟩ := G.new_ex _ hn
  clear hn
  (try clear g)
  revert g1
  intro g
  go_wp2_with (with_reducible refine G.any_mark _ ?_; (try generalize Array.size (World.heap (G.w _)) = bk); (try dsimp only [List.set_cons_zero, List.set_cons_succ]); (try clear g); intro g)
  (try (refine calls_mark _ ?_; (try dsimp only [List.set_cons_zero, List.set_cons_succ]); clear g; intro g))
  refine (K55.out _ _ _ _ _ (G.sl g (by simp) hst) (G.lim0 g [0, 1] 2 rfl rfl (by decide) (ok_lit (by decide)))).mono ?_
  rintro e w1 ⟨rfl, hb⟩
  obtain ⟨g1, rfl⟩ := G.call_ex _ hb
  clear hb
  (try clear g)
  revert g1
  intro g
  go_wp2_with (with_reducible refine G.any_mark _ ?_; (try generalize Array.size (World.heap (G.w _)) = bk); (try dsimp only [List.set_cons_zero, List.set_cons_succ]); (try clear g); intro g)
  go_ret
  exact ⟨rfl, g.below⟩
end Go.Proofs.Ytfifcpgjcgoinaa
