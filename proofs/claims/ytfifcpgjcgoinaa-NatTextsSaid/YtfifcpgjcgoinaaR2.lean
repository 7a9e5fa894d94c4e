/- Contracts of functions of the program, out of walks. Their conditions stand ahead of each. -/
import Derived.Test.YtfifcpgjcgoinaaR1
set_option linter.unusedVariables false
set_option linter.unusedSimpArgs false
set_option exponentiation.threshold 10000
namespace Go.Proofs.Ytfifcpgjcgoinaa
open Go.RowKit GW NL
set_option maxRecDepth 20000 in
set_option maxHeartbeats 4000000 in
theorem rmul_any (A1 A2 : Option Addr) (c1 c2 : Nat) (l1 l2 : List Nat) (w : World) (h1 : SlW w A1 c1 l1) (h2 : SlW w A2 c2 l2) (hl1 : l1.length ≤ 1000000000) (hl2 : l2.length ≤ 1000000000) :
    Calls Try.prog 74 #[.slice A1 l1.length c1, .slice A2 l2.length c2] w (RNat (val l1 * val l2) w) := by
  refine calls_b fun g => ?_
  obtain ⟨n1, hn1⟩ : ∃ n : Nat, l1.length = n := ⟨_, rfl⟩
  obtain ⟨n2, hn2⟩ : ∃ n : Nat, l2.length = n := ⟨_, rfl⟩
  obtain ⟨n, hn⟩ : ∃ n : Nat, n1 + n2 = n := ⟨_, rfl⟩
  have hmk : ∀ w, (Instr.makeSlice 24 (.int .i64 ((n1 : Int) + (n2 : Int))) (.int .i64 ((n1 : Int) + (n2 : Int)))).run Try.prog w = .ok (.slice (some ⟨w.heap.size, 0, none⟩) n n) (w.alloc (.cells (u32s (List.replicate n 0)).toArray 30)) := by
    intro w
    have := make_nat n (by omega) w
    rw [← hn] at this ⊢
    exact this
  rw [hn1, hn2]
  have HN1 := Lib.hid hn1
  have HN2 := Lib.hid hn2
  have HN := Lib.hid hn
  have ha1 : l1.length ≤ n1 := by omega
  have ha2 : n1 ≤ l1.length := by omega
  have ha3 : l2.length ≤ n2 := by omega
  have ha4 : n2 ≤ l2.length := by omega
  have ha5 : n ≤ n1 + n2 := by omega
  have ha6 : n1 + n2 ≤ n := by omega
  clear hn1 hn2 hn
  go_enter Try.func74, Try.ntmps74
  go_wp2_with (with_reducible refine G.any_mark _ ?_; (try generalize Array.size (World.heap (G.w _)) = bk); (try dsimp only [List.set_cons_zero, List.set_cons_succ]); (try clear g); intro g)
  obtain ⟨ob, rfl⟩ : ∃ ob : Nat, ob = bk := ⟨_, rfl⟩
  go_loopg [6] n1 (fun gk i wr => ∃ (k : Nat) (out : List Nat), k + gk = n1 ∧ i = .int .i64 k ∧ n ≤ out.length ∧ out.length ≤ n ∧ Ok out ∧ Hid (∀ j, k + n2 ≤ j → out.getD j 0 = 0) ∧ Hid (val out = val (l1.take k) * val l2) ∧ ∃ g : G w [] [(ob, 30, u32s out)] [heapOf w], wr = g.w)
  case atStart => exact ⟨0, List.replicate n 0, by omega, rfl, by simp, by simp, Ok.zeros _, fun j _ => by simp [List.getElem?_replicate]; split <;> rfl, Lib.hid (by rw [val_zeros]; simp [val]), g, rfl⟩
  case round =>
    clear g hmk
    obtain ⟨ko, rfl⟩ : ∃ ko : Nat, ko = gk := ⟨_, rfl⟩
    obtain ⟨k, out, hkg, rfl, hp1, hp2, hok, HZ, HV, g, rfl⟩ := hrel
    by_cases hk2 : k < n1
    · obtain ⟨b, o, rfl, hcell⟩ := lim_cells h1.lim (by omega)
      have e0 := Lib.hid (hcell k (by omega))
      clear hcell
      have hx := h1.ok.getD k
      obtain ⟨x, hxe⟩ : ∃ x, l1.getD k 0 = x := ⟨_, rfl⟩
      rw [hxe] at e0 hx
      have HX := Lib.hid hxe
      clear hxe
      have hko : 0 < ko := by omega
      go_wp2_with (with_reducible refine G.any_mark _ ?_; (try generalize Array.size (World.heap (G.w _)) = bk); (try dsimp only [List.set_cons_zero, List.set_cons_succ]); (try clear g); intro g)
      go_loopg [7, 8] n2 (fun gk s7 s8 wr => ∃ (j c : Nat) (out : List Nat), j + gk = n2 ∧ s7 = .int .u64 c ∧ s8 = .int .i64 j ∧ n ≤ out.length ∧ out.length ≤ n ∧ Ok out ∧ c < 4294967296 ∧ Hid (∀ i, k + n2 ≤ i → out.getD i 0 = 0) ∧ Hid (val out + 4294967296 ^ (k + j) * c = val (l1.take k) * val l2 + 4294967296 ^ k * (x * val (l2.take j))) ∧ ∃ g : G w [] [(ob, 30, u32s out)] [heapOf w], wr = g.w)
      case atStart => exact ⟨0, 0, out, by omega, rfl, rfl, hp1, hp2, hok, by omega, HZ, Lib.hid (by rw [List.take_zero]; simp [val]; exact HV.out), g, rfl⟩
      case round =>
        clear g
        clear HV HZ hok hp1 hp2
        obtain ⟨j, c, out, hjg, rfl, rfl, hp1, hp2, hok, hc, HZ, HV, g, rfl⟩ := hrel
        by_cases hj2 : j < n2
        · obtain ⟨b2, o2, rfl, hcell⟩ := lim_cells h2.lim (by omega)
          have e1 := Lib.hid (hcell j (by omega))
          clear hcell
          have hy := h2.ok.getD j
          obtain ⟨kj, hkj'⟩ : ∃ kj, k + j = kj := ⟨_, rfl⟩
          have hkj : kj < out.length := by omega
          have e2 := u32s_getD hkj
          have hzz := hok.getD kj
          have st := Lib.hid (mul_step (l2 := l2) (by rw [hkj']; exact hkj) HV.out)
          rw [hkj'] at st
          have hs := Lib.hid (u32s_set out kj ((x * l2.getD j 0 + out.getD kj 0 + c) % 4294967296))
          have hc2 := mul_carry hx hy hzz hc
          have hr : (x * l2.getD j 0 + out.getD kj 0 + c) % 4294967296 < 4294967296 := by omega
          have HZ2 : Hid (∀ i, k + n2 ≤ i → (out.set kj ((x * l2.getD j 0 + out.getD kj 0 + c) % 4294967296)).getD i 0 = 0) := Lib.hid (fun i hi => by rw [NL.getD_set_ne (by omega)]; exact HZ.out i hi)
          have hok2 := hok.set kj hr
          have hlen : (out.set kj ((x * l2.getD j 0 + out.getD kj 0 + c) % 4294967296)).length = out.length := List.length_set ..
          have hbig := mul_bound x (l2.getD j 0) (out.getD kj 0) c hx hy hzz hc
          generalize out.getD kj 0 = z at *
          generalize l2.getD j 0 = y at *
          obtain ⟨xy, hxy⟩ : ∃ xy, x * y = xy := ⟨_, rfl⟩
          have f0 : (x : Int) * (y : Int) = (xy : Int) := by rw [← hxy]; exact (Int.natCast_mul x y).symm
          rw [hxy] at st hs hc2 hr HZ2 hok2 hlen hbig
          obtain ⟨t, ht⟩ : ∃ t, xy + z + c = t := ⟨_, rfl⟩
          rw [ht] at st hs hc2 hr HZ2 hok2 hlen hbig
          obtain ⟨cz, hcz⟩ : ∃ cz, c + z = cz := ⟨_, rfl⟩
          have f1 : (c : Int) + (z : Int) = (cz : Int) := by omega
          have f2 : (cz : Int) + (xy : Int) = (t : Int) := by omega
          have f3 : IntKind.u64.wrap (cz : Int) = (cz : Int) := by rw [IntKind.wrap_u64]; omega
          have f4 : IntKind.u64.wrap (t : Int) = (t : Int) := by rw [IntKind.wrap_u64]; omega
          have f5 : IntKind.u64.wrap (xy : Int) = (xy : Int) := by rw [IntKind.wrap_u64]; omega
          have f6 : IntKind.u64.wrap (x : Int) = (x : Int) := by rw [IntKind.wrap_u64]; omega
          have f7 : IntKind.u64.wrap (y : Int) = (y : Int) := by rw [IntKind.wrap_u64]; omega
          have f8 : IntKind.u64.wrap (z : Int) = (z : Int) := by rw [IntKind.wrap_u64]; omega
          obtain ⟨r, hrr⟩ : ∃ r, t % 4294967296 = r := ⟨_, rfl⟩
          obtain ⟨q, hqq⟩ : ∃ q, t / 4294967296 = q := ⟨_, rfl⟩
          have f9 : IntKind.u32.wrap (t : Int) = (r : Int) := by rw [IntKind.wrap_u32]; omega
          have f10 : (t : Int) / 4294967296 = (q : Int) := by omega
          rw [hrr] at st hs hr HZ2 hok2 hlen
          rw [hqq] at st hc2
          have hl1 := Nat.le_of_eq hlen
          have hl2 := Nat.le_of_eq hlen.symm
          have g1 : (k : Int) + (j : Int) = (kj : Int) := by omega
          have g2 : IntKind.i64.wrap (kj : Int) = (kj : Int) := by rw [IntKind.wrap_i64]; omega
          have g3 : (kj : Int) < (n : Int) := by omega
          have g4 : kj < n := by omega
          have HKJ := Lib.hid hkj'
          clear hlen hxy ht hcz hrr hqq hbig hkj' HZ HV
          have ee0 := e0.out _ _ _ _ g (by simp)
          have ee1 := e1.out _ _ _ _ g (by simp)
          go_wp2_with fail
          go_region_held3 (fun w' => w'.cell? ⟨ob, kj, none⟩ = some (.int .u32 (z : Int)) ∧ w'.cell? ⟨b, o + k, none⟩ = some (.int .u32 (x : Int)) ∧ w'.cell? ⟨b2, o2 + j, none⟩ = some (.int .u32 (y : Int))) ((simp only [G.drew_eq, G.drewN_eq, G.cell0]; exact ⟨e2, e0.out _ _ _ _ _ (by simp), e1.out _ _ _ _ _ (by simp)⟩)) (fail)
          clear ee0 ee1
          ((try simp only [G.drew_eq, G.drewN_eq]); (refine G.any_mark _ ?_; (try generalize Array.size (World.heap (G.w _)) = bk); (try dsimp only [List.set_cons_zero, List.set_cons_succ]); (try clear g); intro g))
          go_wp2_with (with_reducible refine G.any_mark _ ?_; (try generalize Array.size (World.heap (G.w _)) = bk); (try dsimp only [List.set_cons_zero, List.set_cons_succ]); (try clear g); intro g)
          obtain ⟨g2', hg2⟩ := g.as (by rw [hs.out])
          go_roundg (gk - 1)
          case measure => omega
          case rel => exact ⟨j + 1, q, out.set kj r, by omega, rfl, by go_num, by omega, by omega, hok2, hc2, HZ2, Lib.hid (by have := st.out; have e := HKJ.out; rw [← e] at this ⊢; exact this), g2', hg2⟩
        · obtain rfl : j = n2 := by omega
          have hn2 : l2.length = j := by omega
          obtain ⟨kj, hkj'⟩ : ∃ kj, k + j = kj := ⟨_, rfl⟩
          have hkl : k + l2.length < out.length := by omega
          have hkl' : kj < out.length := by omega
          have hz0 := HZ.out (k + j) (Nat.le_refl _)
          have e2 := u32s_getD hkl'
          have rd := Lib.hid (mul_round (l1 := l1) (c := c) hkl (by rw [hn2]; exact hz0) (by rw [HX.out, hn2]; exact HV.out))
          have hs := Lib.hid (u32s_set out kj c)
          have hok2 := hok.set kj hc
          have HZ2 : Hid (∀ i, k + 1 + j ≤ i → (out.set kj c).getD i 0 = 0) := Lib.hid (fun i hi => by rw [NL.getD_set_ne (by omega)]; exact HZ.out i (by omega))
          rw [hn2, hkj'] at rd
          have hlen : (out.set kj c).length = out.length := List.length_set ..
          have hl1 := Nat.le_of_eq hlen
          have hl2 := Nat.le_of_eq hlen.symm
          have f9 : IntKind.u32.wrap (c : Int) = (c : Int) := by rw [IntKind.wrap_u32]; omega
          have g1 : (k : Int) + (j : Int) = (kj : Int) := by omega
          have g2 : IntKind.i64.wrap (kj : Int) = (kj : Int) := by rw [IntKind.wrap_i64]; omega
          have g3 : (kj : Int) < (n : Int) := by omega
          have g4 : kj < n := by omega
          clear hlen hn2 hz0 HZ HV hkj'
          generalize out.getD kj 0 = z at *
          go_wp2_with (with_reducible refine G.any_mark _ ?_; (try generalize Array.size (World.heap (G.w _)) = bk); (try dsimp only [List.set_cons_zero, List.set_cons_succ]); (try clear g); intro g)
          obtain ⟨g2', hg2⟩ := g.as (by rw [hs.out])
          go_roundg (ko - 1)
          case measure => omega
          case rel => exact ⟨k + 1, out.set kj c, by omega, by go_num, by omega, by omega, hok2, HZ2, rd, g2', hg2⟩
    · obtain rfl : k = n1 := by omega
      have hn1 : l1.length ≤ k := by omega
      have e1 := HV.out
      rw [val_take_all hn1] at e1
      have E1 := Lib.hid e1
      obtain rfl : n = out.length := by omega
      clear e1 hn1
      have hsl : SlW g.w (some ⟨ob, 0, none⟩) out.length out := (sl_blk (Nat.le_refl _) (by omega) hok).at (blkF_sub g.blk0)
      clear HN
      go_wp2_with (with_reducible refine G.any_mark _ ?_; (try generalize Array.size (World.heap (G.w _)) = bk); (try dsimp only [List.set_cons_zero, List.set_cons_succ]); (try clear g); intro g)
      refine (rtrim_any _ _ out _ hsl).mono ?_
      rintro e w1 ⟨rfl, hb⟩
      obtain ⟨g1, rfl⟩ := G.call_ex _ hb
      clear hb hsl g
      revert g1
      intro g
      go_wp2_with (with_reducible refine G.any_mark _ ?_; (try generalize Array.size (World.heap (G.w _)) = bk); (try dsimp only [List.set_cons_zero, List.set_cons_succ]); (try clear g); intro g)
      go_ret
      exact rnat_end g (List.mem_cons_self ..) hok (Nat.le_refl _) (by omega) E1.out
end Go.Proofs.Ytfifcpgjcgoinaa

set_option exponentiation.threshold 10000
namespace Go.Proofs.Ytfifcpgjcgoinaa
open Go.RowKit GW NL
theorem sl_drop {f : Frag} {b o c : Nat} {l : List Nat} (h : f.Sl (some ⟨b, o, none⟩) c l) (q : Nat) (hq : q ≤ l.length) : f.Sl (some ⟨b, o + q, none⟩) (c - q) (l.drop q) := by
  have h1 := h.cap
  have h2 := h.max
  have h3 := h.len
  refine ⟨by rw [List.length_drop]; omega, by omega, by rw [List.length_drop]; omega, ?_, h.ok.drop q⟩
  intro hl
  rw [List.length_drop] at hl
  obtain ⟨b', o', e, cs, T, fr, hb, hc⟩ := h.lim (by omega)
  cases e
  refine ⟨b, o + q, rfl, cs, T, fr, hb, fun j hj => ?_⟩
  rw [List.length_drop] at hj
  rw [getD_drop, show o + q + j = o + (q + j) by omega]
  exact hc (q + j) (by omega)
/-- one limb shifted up, with what came from below -/
theorem up_next {pre l : List Nat} {k c r X : Nat} (hp : pre.length = k) (hr : r < 32) (hc : c < 2 ^ r) (hX : l.getD k 0 = X) (hx : X < 4294967296) (h : val pre + 4294967296 ^ k * c = val (l.take k) * 2 ^ r) :
    (X * 2 ^ r + c) / 4294967296 < 2 ^ r ∧ X * 2 ^ r + c < 18446744073709551616 ∧ val (pre ++ [(X * 2 ^ r + c) % 4294967296]) + 4294967296 ^ (k + 1) * ((X * 2 ^ r + c) / 4294967296) = val (l.take (k + 1)) * 2 ^ r := by
  have h1 : X * 2 ^ r + 2 ^ r ≤ 4294967296 * 2 ^ r := by
    have := Nat.mul_le_mul_right (2 ^ r) (Nat.succ_le_of_lt hx)
    rwa [Nat.succ_mul] at this
  have h2 : (2 : Nat) ^ r ≤ 2 ^ 31 := Nat.pow_le_pow_right (by decide) (by omega)
  refine ⟨Nat.div_lt_of_lt_mul (by omega), by omega, ?_⟩
  rw [val_snoc, hp, val_take_getD, hX]
  have p := pow_split k (X * 2 ^ r + c)
  rw [Nat.mul_add _ (X * 2 ^ r) c] at p
  rw [Nat.add_mul, Nat.mul_assoc]
  omega
set_option maxRecDepth 20000 in
set_option maxHeartbeats 2000000 in
theorem rshift_up (A : Option Addr) (c : Nat) (l : List Nat) (s : Nat) (w : World) (h : SlW w A c l) (hl : l.length ≤ 1000000000) (hs : s ≤ 1000000000) :
    Calls Try.prog 72 #[.slice A l.length c, .int .i64 (s : Int)] w (RNat (val l * 2 ^ s) w) := by
  refine calls_b fun g => ?_
  obtain ⟨n1, hn1⟩ : ∃ n : Nat, l.length = n := ⟨_, rfl⟩
  obtain ⟨q, hq⟩ : ∃ q : Nat, s / 32 = q := ⟨_, rfl⟩
  obtain ⟨r, hr⟩ : ∃ r : Nat, s % 32 = r := ⟨_, rfl⟩
  have hr32 : r < 32 := by omega
  have hq9 : q ≤ 1000000000 := by omega
  have hqi : Int.tdiv (s : Int) 32 = (q : Int) := by rw [Int.tdiv_eq_ediv_of_nonneg (by omega)]; omega
  have hri : Int.tmod (s : Int) 32 = (r : Int) := by rw [Int.tmod_eq_emod_of_nonneg (by omega)]; omega
  have hpow : 4294967296 ^ q * 2 ^ r = 2 ^ s := by rw [pow32, ← Nat.pow_add]; congr 1; omega
  have HP := Lib.hid hpow
  have hs0 : ¬ ((s : Int) < 0) := by omega
  rw [hn1]
  have HN1 := Lib.hid hn1
  have hn9 : n1 ≤ 1000000000 := by omega
  have hmk := fun w => make_nat q (by omega) w
  have HZ : Hid (Row 30 1 q (u32s (List.replicate q 0)) q (u32s (List.replicate q 0))) := Lib.hid ⟨Nat.le_refl _, by show q ≤ 9223372036854775807; omega, by rw [u32s_len, List.length_replicate, Nat.mul_one], by rw [Nat.mul_one, List.take_of_length_le (by rw [u32s_len, List.length_replicate]; exact Nat.le_refl _)], by rw [u32s_len, List.length_replicate, Nat.mul_one]⟩
  obtain ⟨i0, hi, hzz0, hzz1, hzz2⟩ := info_parts infoU32
  have hc0 : Hid ((0 : Nat) < 2 ^ r) := Lib.hid (Nat.two_pow_pos r)
  clear hn1 hq hr hpow hl
  generalize (s : Int) = si at *
  go_enter Try.func72, Try.ntmps72
  go_wp2_with (with_reducible refine G.any_mark _ ?_; (try generalize Array.size (World.heap (G.w _)) = bk); (try dsimp only [List.set_cons_zero, List.set_cons_succ]); (try clear g); intro g)
  obtain ⟨zb, rfl⟩ : ∃ zb : Nat, zb = bk := ⟨_, rfl⟩
  have hzb : w.heap.size ≤ zb := g.fresh (List.mem_cons_self ..)
  go_loopg [7, 8, 9] n1 (fun gk s7 s8 s9 wr => ∃ (k c : Nat) (pre : List Nat) (b cap : Nat) (cs : List Value), k + gk = n1 ∧ s8 = .int .u64 (c : Int) ∧ s9 = .int .i64 (k : Int) ∧ c < 4294967296 ∧ Hid (c < 2 ^ r ∧ pre.length = k ∧ Ok pre ∧ val pre + 4294967296 ^ k * c = val (l.take k) * 2 ^ r) ∧ s7 = .slice (some ⟨b, 0, none⟩) (q + k) cap ∧ Row 30 1 (q + k) (u32s (List.replicate q 0 ++ pre)) cap cs ∧ w.heap.size ≤ b ∧ ∃ g : G w [] [(b, 30, cs)] [heapOf w], wr = g.w)
  case atStart => exact ⟨0, 0, [], zb, q, _, by omega, rfl, rfl, by omega, ⟨hc0.out, rfl, Ok.nil, by simp [val]⟩, rfl, by rw [List.append_nil]; exact HZ.out, hzb, g, rfl⟩
  case round =>
    clear g hmk HZ hzb
    obtain ⟨k, c, pre, b', cap, cs, hkg, rfl, rfl, hc9, HI, rfl, hrow, hb, g, rfl⟩ := hrel
    have hr0 : ¬ ((r : Int) < 0) := by omega
    have hr1 : (0 : Int) ≤ (r : Int) := by omega
    by_cases hk : k < n1
    · obtain ⟨b, o, rfl, hcell⟩ := lim_cells h.lim (by rw [HN1.out]; omega)
      have e0 := hcell k (by rw [HN1.out]; omega) _ _ _ _ g (by simp)
      clear hcell
      have hX := h.ok.getD k
      have hun := up_next (l := l) HI.out.2.1 hr32 HI.out.1 rfl hX HI.out.2.2.2
      have hdis : bits .or .u64 (c : Int) ((l.getD k 0 * 2 ^ r : Nat) : Int) = ((l.getD k 0 * 2 ^ r + c : Nat) : Int) := K3.or64_add _ _ r (by omega) HI.out.1 (by omega) (Nat.mul_mod_left _ _)
      have hlt2 : l.getD k 0 * 2 ^ r < 18446744073709551616 := by omega
      have hpo := HI.out.2.2.1
      have hpl := HI.out.2.1
      generalize l.getD k 0 = X at *
      have hsh : IntKind.u64.wrap ((X : Int) * 2 ^ r) = ((X * 2 ^ r : Nat) : Int) := by
        rw [show (X : Int) * 2 ^ r = ((X * 2 ^ r : Nat) : Int) by rw [Int.natCast_mul, Int.natCast_pow]; rfl, IntKind.wrap_u64]
        omega
      have hwX : IntKind.u64.wrap (X : Int) = (X : Int) := by rw [IntKind.wrap_u64]; omega
      generalize X * 2 ^ r = y at *
      obtain ⟨t, ht⟩ : ∃ t, y + c = t := ⟨_, rfl⟩
      rw [ht] at hun hdis
      obtain ⟨lo, hlo⟩ : ∃ lo, t % 4294967296 = lo := ⟨_, rfl⟩
      obtain ⟨hi', hhi⟩ : ∃ hi', t / 4294967296 = hi' := ⟨_, rfl⟩
      have ht9 := hun.2.1
      have f5 : IntKind.u32.wrap (t : Int) = (lo : Int) := by rw [IntKind.wrap_u32]; omega
      have f6 : (t : Int) / 4294967296 = (hi' : Int) := by omega
      have hlo9 : lo < 4294967296 := by omega
      have hhi9 : hi' < 4294967296 := by omega
      rw [hlo, hhi] at hun
      have HI2 : Hid (hi' < 2 ^ r ∧ (pre ++ [lo]).length = k + 1 ∧ Ok (pre ++ [lo]) ∧ val (pre ++ [lo]) + 4294967296 ^ (k + 1) * hi' = val (l.take (k + 1)) * 2 ^ r) := Lib.hid ⟨hun.1, by rw [List.length_append, hpl]; rfl, hpo.append (Ok.cons hlo9 Ok.nil), hun.2.2⟩
      have H1 : ∀ u ∈ [Value.int .u32 (lo : Int)], u.oneCell' = true := by intro u hu; rw [List.mem_singleton.1 hu]; rfl
      have H2 : q + k + 1 ≤ maxLen := by show q + k + 1 ≤ 9223372036854775807; omega
      have H3 : (q + k + 1) * 4 ≤ 140737488355328 := by omega
      have HAP : Hid (u32s (List.replicate q 0 ++ (pre ++ [lo])) = u32s (List.replicate q 0 ++ pre) ++ [.int .u32 (lo : Int)]) := Lib.hid (by rw [← List.append_assoc, u32s_append]; rfl)
      have hki : (k : Int) < (n1 : Int) := by omega
      have hgk : 0 < gk := by omega
      have hkg2 : k + 1 + (gk - 1) = n1 := by omega
      clear hun ht hlo hhi hlt2 hX HI hpl
      go_wp2_with (first | (with_reducible refine G.any_mark _ ?_; (try generalize Array.size (World.heap (G.w _)) = bk); (try dsimp only [List.set_cons_zero, List.set_cons_succ]); (try clear g); intro g) | (at_builtin; refine wpList_append_lit rfl _ _ 24 rfl 30 i0 _ 1 4 Try.underlying24 hi hzz0 hzz1 hzz2 rfl (by decide) g hrow hb rfl 1 rfl rfl H1 (by decide) H2 H3 ?_; clear hb hrow g e0; intro b' cap cs g hb hrow))
      go_roundg (gk - 1)
      case measure => omega
      case rel => exact ⟨k + 1, hi', pre ++ [lo], b', cap, cs, hkg2, rfl, by go_num, hhi9, HI2, rfl, by rw [HAP.out]; exact hrow, hb, g, rfl⟩
    · obtain rfl : k = n1 := by omega
      have hpl := HI.out.2.1
      have heq := HI.out.2.2.2
      rw [val_take_all (by rw [HN1.out]; exact Nat.le_refl _)] at heq
      have hL : (List.replicate q 0 ++ (pre ++ [c])).length = q + k + 1 := by rw [List.length_append, List.length_append, List.length_replicate, hpl]; rfl
      have hV : val (List.replicate q 0 ++ (pre ++ [c])) = val l * 2 ^ s := by
        rw [val_append, val_zeros, val_snoc, hpl, heq, List.length_replicate, Nat.zero_add, ← HP.out, Nat.mul_left_comm]
      have hO : Ok (List.replicate q 0 ++ (pre ++ [c])) := (Ok.zeros q).append (HI.out.2.2.1.append (Ok.cons hc9 Ok.nil))
      have HAP : Hid (u32s (List.replicate q 0 ++ (pre ++ [c])) = u32s (List.replicate q 0 ++ pre) ++ [.int .u32 (c : Int)]) := Lib.hid (by rw [← List.append_assoc, u32s_append]; rfl)
      generalize List.replicate q 0 ++ (pre ++ [c]) = L at *
      have CT1 := Lib.hid (fun A cap w h => rtrim_any A cap L w h)
      rw [hL] at CT1
      have HL := Lib.hid hL
      have HV := Lib.hid hV
      have H1 : ∀ u ∈ [Value.int .u32 (c : Int)], u.oneCell' = true := by intro u hu; rw [List.mem_singleton.1 hu]; rfl
      have H2 : q + k + 1 ≤ maxLen := by show q + k + 1 ≤ 9223372036854775807; omega
      have H3 : (q + k + 1) * 4 ≤ 140737488355328 := by omega
      have f5 : IntKind.u32.wrap (c : Int) = (c : Int) := by rw [IntKind.wrap_u32]; omega
      have hki : ¬ ((k : Int) < (k : Int)) := by omega
      clear hL hV heq hpl HI
      go_wp2_with (first | (with_reducible refine G.any_mark _ ?_; (try generalize Array.size (World.heap (G.w _)) = bk); (try dsimp only [List.set_cons_zero, List.set_cons_succ]); (try clear g); intro g) | (at_builtin; refine wpList_append_lit rfl _ _ 24 rfl 30 i0 _ 1 4 Try.underlying24 hi hzz0 hzz1 hzz2 rfl (by decide) g hrow hb rfl 1 rfl rfl H1 (by decide) H2 H3 ?_; clear hb hrow g; intro b' cap cs g hb hrow))
      rw [← HAP.out] at hrow
      have hsl : SlW g.w (some ⟨b', 0, none⟩) cap L := (sl_row hrow HL.out (by omega) hO).at (blkF_sub g.blk0)
      have hsr := Lib.hid (sl_trim (sl_row (b := b') hrow HL.out (by omega) hO))
      refine (CT1.out _ _ _ hsl).mono ?_
      rintro e w1 ⟨rfl, hb⟩
      obtain ⟨g1, rfl⟩ := G.call_ex _ hb
      clear hb
      (try clear g)
      revert g1
      intro g
      clear hsl
      go_wp2_with (with_reducible refine G.any_mark _ ?_; (try generalize Array.size (World.heap (G.w _)) = bk); (try dsimp only [List.set_cons_zero, List.set_cons_succ]); (try clear g); intro g)
      go_ret
      refine ⟨_, cap, _, ret_slice (by rw [HV.out]), ?_, g.give (List.mem_cons_self ..)⟩
      rw [← HV.out]
      exact hsr.out
end Go.Proofs.Ytfifcpgjcgoinaa

set_option exponentiation.threshold 10000
namespace Go.Proofs.Ytfifcpgjcgoinaa
open Go.RowKit GW NL
set_option maxRecDepth 20000 in
set_option maxHeartbeats 2000000 in
theorem rshift_down (A : Option Addr) (c : Nat) (l : List Nat) (m : Nat) (N : Int) (w : World) (h : SlW w A c l) (hl : l.length ≤ 1000000000) (hN : -N = (m : Int)) (hm0 : N < 0) (hm : m ≤ 1000000000) :
    Calls Try.prog 72 #[.slice A l.length c, .int .i64 N] w (RNat (val l / 2 ^ m) w) := by
  refine calls_b fun g => ?_
  obtain ⟨n1, hn1⟩ : ∃ n : Nat, l.length = n := ⟨_, rfl⟩
  obtain ⟨q, hq⟩ : ∃ q : Nat, m / 32 = q := ⟨_, rfl⟩
  obtain ⟨r, hr⟩ : ∃ r : Nat, m % 32 = r := ⟨_, rfl⟩
  have hr32 : r < 32 := by omega
  have hqi : Int.tdiv (m : Int) 32 = (q : Int) := by rw [Int.tdiv_eq_ediv_of_nonneg (by omega)]; omega
  have hri : Int.tmod (m : Int) 32 = (r : Int) := by rw [Int.tmod_eq_emod_of_nonneg (by omega)]; omega
  have hZ := Lib.hid (down_zero (m := m) h.ok)
  have hD : Hid (val l / 2 ^ m = val (l.drop q) / 2 ^ r) := Lib.hid (by rw [div_pow_split, hq, hr, val_div l h.ok])
  have hmx := h.len
  have hmxx := h.max
  have hcp := h.cap
  have hq9 : q ≤ 1000000000 := by omega
  by_cases hqn : l.length ≤ q
  · have hz := hZ.out (by omega)
    rw [hz]
    clear hZ hD
    rw [hn1] at hqn ⊢
    have hn1' : n1 ≤ 140737488355328 := by omega
    clear hn1 hq hr
    have hm' : (m : Int) ≤ 1000000000 := by omega
    generalize (m : Int) = mi at *
    go_enter Try.func72, Try.ntmps72
    go_wp2_with (with_reducible refine G.any_mark _ ?_; (try generalize Array.size (World.heap (G.w _)) = bk); (try dsimp only [List.set_cons_zero, List.set_cons_succ]); (try clear g); intro g)
    go_ret
    exact ⟨none, 0, _, by simp only [limbs_zero]; rfl, by simp only [limbs_zero]; exact Frag.Sl.nil _ _, g.none⟩
  · obtain ⟨n, hn⟩ : ∃ n : Nat, n1 - q = n := ⟨_, rfl⟩
    have hqn' : q < n1 := by omega
    have HQ3 : decide (n1 ≤ q) = false := by rw [decide_eq_false_iff_not]; omega
    have hqni : ¬ ((n1 : Int) ≤ (q : Int)) := by omega
    have hmk : ∀ w, (Instr.makeSlice 24 (.int .i64 (n : Int)) (.int .i64 (n : Int))).run Try.prog w = .ok (.slice (some ⟨w.heap.size, 0, none⟩) n n) (w.alloc (.cells (u32s (List.replicate n 0)).toArray 30)) := fun w => make_nat n (by omega) w
    obtain ⟨b, o, rfl, _⟩ := lim_cells h.lim (by omega)
    have hld := sl_drop h q (by omega)
    have hok := h.ok
    obtain ⟨l', hl'⟩ : ∃ l', l.drop q = l' := ⟨_, rfl⟩
    rw [hl'] at hld hD
    have hll : l'.length = n := by rw [← hl', List.length_drop]; omega
    have hok' : Ok l' := by rw [← hl']; exact hok.drop q
    have HLL := Lib.hid hll
    have ha1 : l'.length ≤ n := by omega
    have ha2 : n ≤ l'.length := by omega
    have hsubn : n1 - q = n := hn
    have hn' : n ≤ 1000000000 := by omega
    rw [hn1]
    have hn1' : n1 ≤ 1000000000 := by omega
    have hcq : (q : Int) ≤ (n1 : Int) := by omega
    have hcq2 : n1 ≤ c := by omega
    have CLL := Lib.hid (fun k (hk : k ≤ 1000000001) w h => rlimb_any (some ⟨b, o + q, none⟩) (c - q) l' k w h (by omega))
    rw [hll] at CLL
    clear hn1 hq hr hZ hn hqn hl hl' hll
    have hm' : (m : Int) ≤ 1000000000 := by omega
    rw [hD.out]
    clear hm hD
    generalize (m : Int) = mi at *
    go_enter Try.func72, Try.ntmps72
    go_wp2_with (with_reducible refine G.any_mark _ ?_; (try generalize Array.size (World.heap (G.w _)) = bk); (try dsimp only [List.set_cons_zero, List.set_cons_succ]); (try clear g); intro g)
    go_loopg [6] n (fun gk i wr => ∃ (k : Nat) (pre : List Nat), k + gk = n ∧ i = .int .i64 k ∧ Hid (pre.length = k ∧ Ok pre ∧ val pre = val l' / 2 ^ r % 4294967296 ^ k) ∧ ∃ g : G w [] [(bk, 30, u32s (pre ++ List.replicate (n - k) 0))] [heapOf w], wr = g.w)
    case atStart => exact ⟨0, [], by omega, rfl, ⟨rfl, Ok.nil, by simp [val, Nat.mod_one]⟩, g, rfl⟩
    case round =>
      clear g hmk
      obtain ⟨k, pre, hkg, rfl, HI, g, rfl⟩ := hrel
      by_cases hk2 : k < n
      · have hx := hok'.getD k
        have hy := hok'.getD (k + 1)
        have hpl := u32s_zero_at HI.out.1 hk2
        have dl := down_limb hok' k r hr32
        have st := Lib.hid (low_step HI.out.1 HI.out.2.2 dl)
        have hq := Lib.hid (set_zeros' HI.out.1 hk2 ((l'.getD k 0 + 4294967296 * l'.getD (k + 1) 0) / 2 ^ r % 4294967296))
        have CL1 := Lib.hid (CLL.out k (by omega))
        have CL2 := Lib.hid (CLL.out (k + 1) (by omega))
        have hr : (l'.getD k 0 + 4294967296 * l'.getD (k + 1) 0) / 2 ^ r % 4294967296 < 4294967296 := Nat.mod_lt _ (by decide)
        clear dl
        generalize l'.getD k 0 = x at *
        generalize l'.getD (k + 1) 0 = y at *
        obtain ⟨t, htt⟩ : ∃ t, x + 4294967296 * y = t := ⟨_, rfl⟩
        have hor : bits .or .u64 (x : Int) ((y : Int) * 4294967296) = (t : Int) := by
          rw [show (y : Int) * 4294967296 = ((4294967296 * y : Nat) : Int) by omega, K3.or64_add _ _ 32 (by omega) (by omega) (by omega) (by omega)]
          omega
        have ht : t < 18446744073709551616 := by omega
        rw [htt] at st hq hr
        obtain ⟨z, hz⟩ : ∃ z, t / 2 ^ r % 4294967296 = z := ⟨_, rfl⟩
        rw [hz] at st hq hr
        have HE : Hid (bits .or .u64 (x : Int) ((y : Int) * 4294967296) / 2 ^ r % 4294967296 = (z : Int)) := Lib.hid (by
          rw [hor, ← hz, show (t : Int) / 2 ^ r = ((t / 2 ^ r : Nat) : Int) by rw [Int.natCast_ediv, Int.natCast_pow]; rfl]
          omega)
        clear hz hor ht htt
        have hpr : (pre ++ [z]).length = k + 1 := by rw [List.length_append, HI.out.1]; rfl
        have HI2 : Hid ((pre ++ [z]).length = k + 1 ∧ Ok (pre ++ [z]) ∧ val (pre ++ [z]) = val l' / 2 ^ r % 4294967296 ^ (k + 1)) := Lib.hid ⟨hpr, HI.out.2.1.append (Ok.cons hr Ok.nil), st.out⟩
        have hkn : (k : Int) < (n : Int) := by omega
        have hk1 : IntKind.i64.wrap ((k : Int) + 1) = (k : Int) + 1 := by rw [IntKind.wrap_i64]; omega
        have hc1 : ((k + 1 : Nat) : Int) = (k : Int) + 1 := by omega
        rw [hc1] at CL2
        have hr0 : ¬ ((r : Int) < 0) := by omega
        have hr1 : (0 : Int) ≤ (r : Int) := by omega
        have hgk : 0 < gk := by omega
        clear hpr hc1
        go_wp2_with (with_reducible refine G.any_mark _ ?_; (try generalize Array.size (World.heap (G.w _)) = bk); (try dsimp only [List.set_cons_zero, List.set_cons_succ]); (try clear g); intro g)
        refine (CL1.out _ (G.sl g (by simp) hld)).mono ?_
        rintro e w1 ⟨rfl, rfl⟩
        go_wp2_with (with_reducible refine G.any_mark _ ?_; (try generalize Array.size (World.heap (G.w _)) = bk); (try dsimp only [List.set_cons_zero, List.set_cons_succ]); (try clear g); intro g)
        refine (CL2.out _ (G.sl g (by simp) hld)).mono ?_
        rintro e w1 ⟨rfl, rfl⟩
        go_wp2_with (with_reducible refine G.any_mark _ ?_; (try generalize Array.size (World.heap (G.w _)) = bk); (try dsimp only [List.set_cons_zero, List.set_cons_succ]); (try clear g); intro g)
        obtain ⟨g2, hg2⟩ := g.as (by rw [HE.out, u32s_set, hq.out])
        go_roundg (gk - 1)
        case measure => omega
        case rel => exact ⟨k + 1, pre ++ [z], by omega, by go_num, HI2, g2, hg2⟩
      · obtain rfl : k = n := by omega
        have e1 := down_end hok' (n := k) (by omega) HI.out.2.2
        obtain ⟨g2, hg2⟩ := g.as (M' := [(bk, 30, u32s pre)]) (by rw [Nat.sub_self, List.replicate_zero, List.append_nil])
        rw [hg2]
        clear hg2 g
        revert g2
        intro g
        have E1 := Lib.hid e1
        clear e1
        have hp := HI.out.1
        have hok2 := HI.out.2.1
        have hkn : ¬ ((k : Int) < (k : Int)) := by omega
        clear HI HLL
        subst hp
        have hsl : SlW g.w (some ⟨bk, 0, none⟩) pre.length pre := (sl_blk (Nat.le_refl _) (by omega) hok2).at (blkF_sub g.blk0)
        go_wp2_with (with_reducible refine G.any_mark _ ?_; (try generalize Array.size (World.heap (G.w _)) = bk); (try dsimp only [List.set_cons_zero, List.set_cons_succ]); (try clear g); intro g)
        refine (rtrim_any _ _ pre _ hsl).mono ?_
        rintro e w1 ⟨rfl, hb⟩
        obtain ⟨g1, rfl⟩ := G.call_ex _ hb
        clear hb hsl g
        revert g1
        intro g
        go_wp2_with (with_reducible refine G.any_mark _ ?_; (try generalize Array.size (World.heap (G.w _)) = bk); (try dsimp only [List.set_cons_zero, List.set_cons_succ]); (try clear g); intro g)
        go_ret
        exact rnat_end g (List.mem_cons_self ..) hok2 (Nat.le_refl _) (by omega) E1.out
end Go.Proofs.Ytfifcpgjcgoinaa
