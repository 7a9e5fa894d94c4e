/- Plain facts and contracts of functions of the program, out of walks. Their conditions stand ahead of each. -/
import Derived.Test.YtjdnpkicdmapnaaGreatDoorNm2
import Derived.Test.YtjdnpkicdmapnaaGreatDoorNm39
import Derived.Below
import Derived.BigQuiet
import Derived.Deep.DeepCutAuto
import Derived.Deep.Draws
import Derived.Deep.LoopGhost
import Derived.Deep.QuietTactic
import Derived.Deep.RegionHeld3
import Derived.Deep.RegionLaw
import Derived.Defers
import Derived.Ground.GgwProg
import Derived.LaidEql
import Derived.Laws.BytesString
import Derived.Laws.Cells
import Derived.Laws.Concat
import Derived.Laws.CopyOwn
import Derived.Laws.CopyRow
import Derived.Laws.IdiomStrings
import Derived.Laws.NewBlocks
import Derived.Laws.OwnMore
import Derived.Laws.Pointers
import Derived.Laws.Rows
import Derived.Laws.Runes
import Derived.Lib.BitFns
import Derived.Lib.Hide
import Derived.Lib.IndexLaws
import Derived.Lib.IndexMore
import Derived.Lib.ItoaNum
import Derived.Lib.TrailingZeros
import Derived.LoopIn
import Derived.LoopNIn
import Derived.Maps.AppendAt
import Derived.OrdersIn
import Derived.OwnWalk
import Derived.OwnWalkIn
import Derived.RangeFuncBound
import Derived.RangeFuncBox
import Derived.RangeFuncCalls
import Derived.RangeFuncLeaves
import Derived.RangeFuncNested
import Derived.Room.AppendFits
import Derived.RowKit3
import Derived.RowKitTokens
import Derived.Shelf.Abstract
import Derived.Shelf.GgClosure.StringsIndexFunc
import Derived.Shelf.GgClosure.StringsIndexFuncTop
import Derived.Shelf.RegionOpen
import Derived.Shelf.Small.Wraps
import Derived.Shelf.Spec.TrailingZeros
import Derived.Shelf.Strings.Cut
import Derived.Shelf.Strings.Prefix
import Derived.StillTactics
import Derived.StillTailTactics
import Derived.Stop.Asserts
import Derived.TacticsInMore
import Derived.Test.YtjdnpkicdmapnaaGreatDoorProg
import Derived.WalkKit
import Derived.WalkLawsBesides
import Derived.WalkMore
import Derived.WalkSpells
set_option linter.unusedVariables false
set_option linter.unusedSimpArgs false
set_option exponentiation.threshold 10000
namespace Go.Proofs.YtjdnpkicdmapnaaGreatDoor
open Go.RowKit GW NL
/-- the statements behind the first n -/
def dropSeq : Nat → Code → Code
  | 0, c => c
  | n + 1, .seq _ b => dropSeq n b
  | _, c => c
def headSeq : Code → Code
  | .seq a _ => a
  | c => c
def bodyOf (f : Func) : Code := f.body.getD .skip
theorem G.rowm {w0 : World} {X : List Nat} {M : List Blk} {I : List Frag} {b n cap : Nat} {T : TypeId} {cs : List Value} {l : List Nat} (g : G w0 X M I) (hm : (b, T, cs) ∈ M) (hr : Row T 1 n (u32s l) cap cs) (hn : l.length = n) (ok : Ok l) (h2 : n ≤ 1000 := by decide) : SlW g.w (some ⟨b, 0, none⟩) cap l := by
  have hb := g.own _ hm
  simp only at hb
  refine ⟨by rw [hn]; exact hr.le, hr.max, by omega, fun _ => ⟨b, 0, rfl, _, _, _, hb, fun j hj => ?_⟩, ok⟩
  have := hr.get hn (j := j) (by omega)
  simpa using this
theorem G.limm {w0 : World} {X : List Nat} {M : List Blk} {I : List Frag} {b n : Nat} {T : TypeId} {cs : List Value} {l : List Nat} (g : G w0 X M I) (hm : (b, T, cs) ∈ M) (h : cs = u32s l) (hn : l.length = n) (ok : Ok l) (h2 : n ≤ 1000 := by decide) : SlW g.w (some ⟨b, 0, none⟩) n l := by
  have hb := g.own _ hm
  simp only at hb
  subst h
  exact (sl_blk (Nat.le_of_eq hn) (by omega) ok).at (blkF_sub hb)
theorem ok_rep (n : Nat) : Ok (List.replicate n 4294967295) := by
  induction n with
  | zero => exact Ok.nil
  | succ n ih => exact Ok.cons (by decide) ih
set_option maxRecDepth 20000 in
set_option maxHeartbeats 8000000 in
theorem tail_reg (w : World) (hT : Tab w) (z1 : Rat) (HBz1 : Hid (Bd 8192 z1)) (EO5 : Hid (frac (decide ((1 : Int) < 0) != decide ((1 : Int) < 0)) (1 : Int).natAbs (1 : Int).natAbs = z1)) (b cap bk bd : Nat) (cs : List Value) (hrow : Row 29 1 256 (u32s (List.replicate 256 4294967295)) cap cs) (hb : w.heap.size ≤ b) (g : G w [] [(b, 29, cs), (bk, 25, [.bool false, .slice (some ⟨b, 0, none⟩) 256 cap, .slice (some ⟨bd, 0, none⟩) 1 1]), (bd, 29, [.int .u32 1])] [heapOf w]) {x1 x2 x3 x4 x5 x6 x7 x8 x9 x10 x11 x12 x13 x14 x16 x17 x18 x19 x20 x21 x22 x23 x24 x25 x26 x27 x29 x30 x31 x32 x33 x34 x35 x36 x37 x38 x40 x41 x42 x43 x44 x45 x46 x47 x48 x49 x50 x51 x52 x53 x54 x55 x60 x61 x62 x63 x64 x65 x66 x67 x68 x69 x70 x71 x72 x73 x74 x75 x76 x77 x78 x79 x80 x81 x82 x83 x84 x85 x86 x87 x88 x89 x90 x91 x92 x93 x94 x95 x96 x97 x98 x99 x100 x101 x102 x103 x104 x105 x106 x107 x108 x109 x110 x111 x112 x113 x114 x115 x116 x117 x118 x119 x120 x121 x122 x123 x124 x125 x126 x127 x128 x129 x130 x131 x132 x133 x134 x135 x136 x137 x138 x139 x140 x141 x142 x143 x144 x145 x146 x147 x148 x149 x150 x151 x152 x153 x154 x155 x156 x157 x158 x159 x160 x161 x162 x163 x164 x165 x166 x167 x168 x169 x170 x171 x172 x173 x174 x175 x176 x177 x178 x179 x180 x181 x182 x183 x184 x185 x186 x187 x188 x189 x190 x191 x192 x193 x194 x195 x196 x197 x198 x199 x200 x201 x202 x203 x204 x205 x206 x207 x208 x209 x210 x211 x212 x213 x214 x215 x216 x217 x218 x219 x220 x221 x222 x223 x224 x225 x226 x227 x228 x229 x230 x231 x232 x233 x234 x235 x236 x237 x238 x239 x240 x241 x242 x243 x244 x245 x246 x247 x248 x249 x250 x251 x252 x253 x254 x255 x256 x257 x258 x259 x260 x261 x262 x263 x264 x265 x266 x267 x268 x269 x270 x271 x272 x273 x274 x275 x276 x277 x278 x279 x280 x281 x282 x283 x284 x285 x286 x287 x288 x289 x290 x291 x292 x293 x294 x295 x296 x297 x298 x299 x300 x301 x302 x303 x304 x305 x306 x307 x308 x309 x310 x311 x312 x313 x314 x315 x316 x317 x318 x319 x320 x321 x322 x323 x324 x325 x326 x327 x328 x329 x330 x331 x332 x333 x334 x335 x336 x337 x338 x339 x340 x341 x342 x343 x344 x345 x346 x347 x348 x349 x350 x351 x352 x353 x354 x355 x356 x357 x358 x359 x360 x361 x362 x363 x364 x365 x366 x367 x368 x369 x370 x371 x372 x373 x374 x375 x376 x377 x378 x379 x380 x381 x382 x383 x384 x385 x386 x387 x388 x389 x390 x391 x392 x393 x394 x395 x396 x397 x398 x399 x400 x401 x402 x403 x404 x405 : Value} {K : Act → World → Prop} (hK : ∀ a w', (dropSeq 36 (bodyOf Tryz.f6)).wp Tryz.prog (bodyPost Tryz.prog Tryz.f6 fun e w' => e = .returned (.bool true) ∧ Below w.heap.size w w') a w' → K a w') :
    (headSeq (dropSeq 35 (bodyOf Tryz.f6))).wp Tryz.prog (Exit.then K (bodyPost Tryz.prog Tryz.f6 fun e w' => e = .returned (.bool true) ∧ Below w.heap.size w w')) ⟨#[.bool false, x1, x2, x3, x4, x5, x6, x7, x8, x9, x10, x11, x12, x13, x14, .bool true, x16, x17, x18, x19, x20, x21, x22, x23, x24, x25, x26, x27, .bool true, x29, x30, x31, x32, x33, x34, x35, x36, x37, x38, .bool true, x40, x41, x42, x43, x44, x45, x46, x47, x48, x49, x50, x51, x52, x53, x54, x55, .bool true, .bool true, .pointer (some ⟨bk, 0, none⟩), .int .i64 256, x60, x61, x62, x63, x64, x65, x66, x67, x68, x69, x70, x71, x72, x73, x74, x75, x76, x77, x78, x79, x80, x81, x82, x83, x84, x85, x86, x87, x88, x89, x90, x91, x92, x93, x94, x95, x96, x97, x98, x99, x100, x101, x102, x103, x104, x105, x106, x107, x108, x109, x110, x111, x112, x113, x114, x115, x116, x117, x118, x119, x120, x121, x122, x123, x124, x125, x126, x127, x128, x129, x130, x131, x132, x133, x134, x135, x136, x137, x138, x139, x140, x141, x142, x143, x144, x145, x146, x147, x148, x149, x150, x151, x152, x153, x154, x155, x156, x157, x158, x159, x160, x161, x162, x163, x164, x165, x166, x167, x168, x169, x170, x171, x172, x173, x174, x175, x176, x177, x178, x179, x180, x181, x182, x183, x184, x185, x186, x187, x188, x189, x190, x191, x192, x193, x194, x195, x196, x197, x198, x199, x200, x201, x202, x203, x204, x205, x206, x207, x208, x209, x210, x211, x212, x213, x214, x215, x216, x217, x218, x219, x220, x221, x222, x223, x224, x225, x226, x227, x228, x229, x230, x231, x232, x233, x234, x235, x236, x237, x238, x239, x240, x241, x242, x243, x244, x245, x246, x247, x248, x249, x250, x251, x252, x253, x254, x255, x256, x257, x258, x259, x260, x261, x262, x263, x264, x265, x266, x267, x268, x269, x270, x271, x272, x273, x274, x275, x276, x277, x278, x279, x280, x281, x282, x283, x284, x285, x286, x287, x288, x289, x290, x291, x292, x293, x294, x295, x296, x297, x298, x299, x300, x301, x302, x303, x304, x305, x306, x307, x308, x309, x310, x311, x312, x313, x314, x315, x316, x317, x318, x319, x320, x321, x322, x323, x324, x325, x326, x327, x328, x329, x330, x331, x332, x333, x334, x335, x336, x337, x338, x339, x340, x341, x342, x343, x344, x345, x346, x347, x348, x349, x350, x351, x352, x353, x354, x355, x356, x357, x358, x359, x360, x361, x362, x363, x364, x365, x366, x367, x368, x369, x370, x371, x372, x373, x374, x375, x376, x377, x378, x379, x380, x381, x382, x383, x384, x385, x386, x387, x388, x389, x390, x391, x392, x393, x394, x395, x396, x397, x398, x399, x400, x401, x402, x403, x404, x405], []⟩ g.w := by
  have HT := Lib.hid hT
  clear hT
  obtain ⟨BP, hBP⟩ : ∃ BP, bodyPost Tryz.prog Tryz.f6 (fun e w' => e = Ending.returned (.bool true) ∧ Below w.heap.size w w') = BP := ⟨_, rfl⟩
  rw [hBP] at hK ⊢
  simp only [dropSeq, headSeq, bodyOf, Tryz.f6, Option.getD] at hK ⊢
  subst hBP
  obtain ⟨LG, hLG⟩ : ∃ L : List Nat, List.replicate 256 4294967295 = L := ⟨_, rfl⟩
  rw [hLG] at hrow
  have hOk : Ok LG := by rw [← hLG]; exact ok_rep _
  have hlen : LG.length = 256 := by rw [← hLG]; exact List.length_replicate ..
  have CAG := Lib.hid (fun A B A2 B2 c k c2 k2 w h1 j1 h2 j2 hT => add_great A B A2 B2 c k c2 k2 LG hLG z1 (by rw [← EO5.out]; rfl) HBz1.out w h1 j1 h2 j2 hT)
  have CRG := Lib.hid (fun A B c k w h1 j1 hT => round_great A B c k LG hLG w h1 j1 hT)
  clear hLG
  have HROW := Lib.hid hrow
  have HOK := Lib.hid hOk
  have HLEN := Lib.hid hlen
  clear hrow hOk hlen
  go_cut [60, 61] (fun r60 r61 wx => ∃ (b6 : Nat) (A B : Option Addr) (c d : Nat) (F H : Frag) (g : G w [] [(b6, 25, [.bool false, .slice A 0 c, .slice B 0 d]), (b, 29, cs), (bk, 25, [.bool false, .slice (some ⟨b, 0, none⟩) 256 cap, .slice (some ⟨bd, 0, none⟩) 1 1]), (bd, 29, [.int .u32 1])] [H, F, heapOf w]), F.Sl A c [] ∧ H.Sl B d [] ∧ r60 = .pointer (some ⟨b6, 0, none⟩) ∧ r61 = .int .i64 5 ∧ wx = g.w)
  case first =>
    go_region_held3 (G.heldN g [false, true, false]) (simp [G.heldN, HeldN, go_sem]) (first
      | (go_at_call 31; (try (refine cmark _ ?_; (try dsimp only [List.set_cons_zero, List.set_cons_succ]); (try clear g); intro g)); (with_reducible refine (lof_x (1) (1) z1 (by decide) EO5.out (by decide) (by decide) (by decide) (by decide) _).mono ?_); rintro e w1 ⟨Ao, co, Fo, Bo, do', Ho, rfl, hso, hto, hn, hm⟩; (try dsimp only at hso hto); obtain ⟨g1, rfl⟩ := G.new2_ex _ hn hm; clear hn hm; (try clear g); revert g1; intro g)
      | (go_at_call 12; (try (refine cmark _ ?_; (try dsimp only [List.set_cons_zero, List.set_cons_succ]); (try clear g); intro g)); (with_reducible refine (CAG.out _ _ _ _ _ _ _ _ _ (G.rowm g (by simp) HROW.out HLEN.out HOK.out) (G.limm g (T := 29) (cs := [.int .u32 1]) (l := [1]) (by simp) rfl (by decide) (ok1 (by decide))) (G.sl g (by simp) hso) (G.sl g (by simp) hto) (G.tab g HT.out)).mono ?_); rintro e w1 ⟨Ar, cr, Fr, Br, dr, Hr, rfl, hsr, htr, hn, hm⟩; obtain ⟨g1, rfl⟩ := G.new2_ex _ hn hm; clear hn hm; (try clear g); revert g1; intro g))
    all_goals (as_aux_lemma =>
      (first | ((try simp only [G.drew_eq, G.drewN_eq]); (refine G.any_mark _ ?_; (try clear g); intro g)) | skip)
      go_wp2_with fail
      go_meet
      obtain ⟨g3, e3⟩ := G.lessI g (I' := [Hr, Fr, heapOf w]) (by simp)
      exact ⟨_, _, _, _, _, _, _, g3, hsr, htr, rfl, rfl, e3⟩)
  case rest =>
  obtain ⟨b6, A6, B6, c6, d6, F6, H6, g, hs6, ht6, rfl, rfl, rfl⟩ := hcut
  clear CAG
  go_wp2_with (with_reducible refine G.any_mark _ ?_; (try generalize Array.size (World.heap (G.w _)) = bk); (try dsimp only [List.set_cons_zero, List.set_cons_succ]); (try clear g); intro g)
  (try (refine cmark _ ?_; (try dsimp only [List.set_cons_zero, List.set_cons_succ]); (try clear g); intro g))
  refine (CRG.out _ _ _ _ _ (G.rowm g (by simp) HROW.out HLEN.out HOK.out) (G.limm g (T := 29) (cs := [.int .u32 2]) (l := [2]) (by simp) rfl (by decide) (ok1 (by decide))) (G.tab g HT.out)).mono ?_
  rintro e w1 ⟨An50, cn50, Fn50, Bn50, dn50, Hn50, rfl, hsn50, htn50, hn, hm⟩
  have hnnn50 := fun k o hk => Nat.le_trans g.chg.size (hn.new k o hk)
  have hmmn50 := fun k o hk => Nat.le_trans g.chg.size (hm.new k o hk)
  obtain ⟨g1, rfl⟩ := G.new2_ex _ hn hm
  clear hn hm
  (try clear g)
  revert g1
  intro g
  clear CRG HROW
  go_wp2_with (with_reducible refine G.any_mark _ ?_; (try generalize Array.size (World.heap (G.w _)) = bk); (try dsimp only [List.set_cons_zero, List.set_cons_succ]); (try clear g); intro g)
  (try (refine cmark _ ?_; (try dsimp only [List.set_cons_zero, List.set_cons_succ]); (try clear g); intro g))
  refine (lbad_e _ _ _ _ 5 _ (G.sl g (by simp) hs6) (G.sl g (by simp) ht6)).mono ?_
  rintro e w1 ⟨rfl, hb⟩
  obtain ⟨g1, rfl⟩ := G.call_ex _ hb
  clear hb
  (try clear g)
  revert g1
  intro g
  go_wp2_with (with_reducible refine G.any_mark _ ?_; (try generalize Array.size (World.heap (G.w _)) = bk); (try dsimp only [List.set_cons_zero, List.set_cons_succ]); (try clear g); intro g)
  go_ret
  exact ⟨rfl, G.below _⟩
end Go.Proofs.YtjdnpkicdmapnaaGreatDoor
namespace Go.Proofs.YtjdnpkicdmapnaaGreatDoor
open Go.RowKit GW NL
set_option maxRecDepth 20000 in
set_option maxHeartbeats 8000000 in
theorem names4_walk (mx : Int) (w : World) (hm : w.cell? ⟨3, 0, none⟩ = some (.int .i64 mx)) (hg : w.cell? ⟨0, 0, none⟩ = some (.iface 145 (.agg #[.pointer (some ⟨4, 79, none⟩)]))) (hT : Tab w) :
    Calls Tryz.prog 6 #[] w fun e w' => e = .returned (.bool true) ∧ Below w.heap.size w w' := by
  refine calls_b fun g => ?_
  obtain ⟨zo, hzo⟩ : ∃ z, frac false 0 1 = z := ⟨_, rfl⟩
  obtain ⟨zm2, hzm2⟩ : ∃ z, frac true 2 1 = z := ⟨_, rfl⟩
  obtain ⟨zh, hzh⟩ : ∃ z, frac false 1 2 = z := ⟨_, rfl⟩
  obtain ⟨zt, hzt⟩ : ∃ z, frac false 1 3 = z := ⟨_, rfl⟩
  obtain ⟨zmh, hzmh⟩ : ∃ z, frac true 1 2 = z := ⟨_, rfl⟩
  obtain ⟨zm43, hzm43⟩ : ∃ z, frac true 4 3 = z := ⟨_, rfl⟩
  obtain ⟨zm23, hzm23⟩ : ∃ z, frac true 2 3 = z := ⟨_, rfl⟩
  obtain ⟨z34, hz34⟩ : ∃ z, frac false 3 4 = z := ⟨_, rfl⟩
  obtain ⟨zm34, hzm34⟩ : ∃ z, frac true 3 4 = z := ⟨_, rfl⟩
  obtain ⟨z1, hz1⟩ : ∃ z, frac false 1 1 = z := ⟨_, rfl⟩
  obtain ⟨z23, hz23⟩ : ∃ z, frac false 2 3 = z := ⟨_, rfl⟩
  obtain ⟨zm32, hzm32⟩ : ∃ z, frac true 3 2 = z := ⟨_, rfl⟩
  obtain ⟨z52, hz52⟩ : ∃ z, frac false 5 2 = z := ⟨_, rfl⟩
  obtain ⟨z3, hz3⟩ : ∃ z, frac false 3 1 = z := ⟨_, rfl⟩
  obtain ⟨zm7, hzm7⟩ : ∃ z, frac true 7 1 = z := ⟨_, rfl⟩
  obtain ⟨zmB, hzmB⟩ : ∃ z, frac true 9223372036854775808 1 = z := ⟨_, rfl⟩
  obtain ⟨z4, hz4⟩ : ∃ z, frac false 4 1 = z := ⟨_, rfl⟩
  obtain ⟨z32, hz32⟩ : ∃ z, frac false 3 2 = z := ⟨_, rfl⟩
  have HBzo : Hid (Bd 8192 zo) := Lib.hid (by rw [← hzo]; exact bd_lit _ (by decide) (by decide) (by decide))
  have HBzm2 : Hid (Bd 8192 zm2) := Lib.hid (by rw [← hzm2]; exact bd_lit _ (by decide) (by decide) (by decide))
  have HBzh : Hid (Bd 8192 zh) := Lib.hid (by rw [← hzh]; exact bd_lit _ (by decide) (by decide) (by decide))
  have HBzt : Hid (Bd 8192 zt) := Lib.hid (by rw [← hzt]; exact bd_lit _ (by decide) (by decide) (by decide))
  have HBzmh : Hid (Bd 8192 zmh) := Lib.hid (by rw [← hzmh]; exact bd_lit _ (by decide) (by decide) (by decide))
  have HBzm43 : Hid (Bd 8192 zm43) := Lib.hid (by rw [← hzm43]; exact bd_lit _ (by decide) (by decide) (by decide))
  have HBzm23 : Hid (Bd 8192 zm23) := Lib.hid (by rw [← hzm23]; exact bd_lit _ (by decide) (by decide) (by decide))
  have HBz34 : Hid (Bd 8192 z34) := Lib.hid (by rw [← hz34]; exact bd_lit _ (by decide) (by decide) (by decide))
  have HBzm34 : Hid (Bd 8192 zm34) := Lib.hid (by rw [← hzm34]; exact bd_lit _ (by decide) (by decide) (by decide))
  have HBz1 : Hid (Bd 8192 z1) := Lib.hid (by rw [← hz1]; exact bd_lit _ (by decide) (by decide) (by decide))
  have HBz23 : Hid (Bd 8192 z23) := Lib.hid (by rw [← hz23]; exact bd_lit _ (by decide) (by decide) (by decide))
  have HBzm32 : Hid (Bd 8192 zm32) := Lib.hid (by rw [← hzm32]; exact bd_lit _ (by decide) (by decide) (by decide))
  have HBz52 : Hid (Bd 8192 z52) := Lib.hid (by rw [← hz52]; exact bd_lit _ (by decide) (by decide) (by decide))
  have HBz3 : Hid (Bd 8192 z3) := Lib.hid (by rw [← hz3]; exact bd_lit _ (by decide) (by decide) (by decide))
  have HBzm7 : Hid (Bd 8192 zm7) := Lib.hid (by rw [← hzm7]; exact bd_lit _ (by decide) (by decide) (by decide))
  have HBzmB : Hid (Bd 8192 zmB) := Lib.hid (by rw [← hzmB]; exact bd_lit _ (by decide) (by decide) (by decide))
  have HBz4 : Hid (Bd 8192 z4) := Lib.hid (by rw [← hz4]; exact bd_lit _ (by decide) (by decide) (by decide))
  have HBz32 : Hid (Bd 8192 z32) := Lib.hid (by rw [← hz32]; exact bd_lit _ (by decide) (by decide) (by decide))
  have EO0 : Hid (frac (decide ((0 : Int) < 0) != decide ((-5 : Int) < 0)) (0 : Int).natAbs (-5 : Int).natAbs = zo) := Lib.hid (by rw [← hzo]; decide +kernel)
  have EO1 : Hid (frac (decide ((-9223372036854775808 : Int) < 0) != decide ((4611686018427387904 : Int) < 0)) (-9223372036854775808 : Int).natAbs (4611686018427387904 : Int).natAbs = zm2) := Lib.hid (by rw [← hzm2]; decide +kernel)
  have EO2 : Hid (frac (decide ((1 : Int) < 0) != decide ((2 : Int) < 0)) (1 : Int).natAbs (2 : Int).natAbs = zh) := Lib.hid (by rw [← hzh]; decide +kernel)
  have EF1 : Hid (zh - zh = zo) := Lib.hid (by rw [← hzh, ← hzo]; decide +kernel)
  have EO3 : Hid (frac (decide ((-2 : Int) < 0) != decide ((3 : Int) < 0)) (-2 : Int).natAbs (3 : Int).natAbs = zm23) := Lib.hid (by rw [← hzm23]; decide +kernel)
  have EO4 : Hid (frac (decide ((3 : Int) < 0) != decide ((4 : Int) < 0)) (3 : Int).natAbs (4 : Int).natAbs = z34) := Lib.hid (by rw [← hz34]; decide +kernel)
  have EF2 : Hid (zm23 * z34 = zmh) := Lib.hid (by rw [← hzm23, ← hz34, ← hzmh]; decide +kernel)
  have EO5 : Hid (frac (decide ((1 : Int) < 0) != decide ((1 : Int) < 0)) (1 : Int).natAbs (1 : Int).natAbs = z1) := Lib.hid (by rw [← hz1]; decide +kernel)
  have EO6 : Hid (frac (decide ((-3 : Int) < 0) != decide ((4 : Int) < 0)) (-3 : Int).natAbs (4 : Int).natAbs = zm34) := Lib.hid (by rw [← hzm34]; decide +kernel)
  have EF3 : Hid (z1 / zm34 = zm43) := Lib.hid (by rw [← hz1, ← hzm34, ← hzm43]; decide +kernel)
  have EF4 : Hid (rn zm34 ≠ 0) := Lib.hid (by rw [← hzm34]; decide +kernel)
  have EO7 : Hid (frac (decide ((0 : Int) < 0) != decide ((1 : Int) < 0)) (0 : Int).natAbs (1 : Int).natAbs = zo) := Lib.hid (by rw [← hzo]; decide +kernel)
  have EF5 : Hid (rn zo = 0) := Lib.hid (by rw [← hzo]; decide +kernel)
  have EO8 : Hid (frac (decide ((-2 : Int) < 0) != decide ((1 : Int) < 0)) (-2 : Int).natAbs (1 : Int).natAbs = zm2) := Lib.hid (by rw [← hzm2]; decide +kernel)
  have EO9 : Hid (frac (decide ((-1 : Int) < 0) != decide ((2 : Int) < 0)) (-1 : Int).natAbs (2 : Int).natAbs = zmh) := Lib.hid (by rw [← hzmh]; decide +kernel)
  have EO10 : Hid (frac (decide ((-4 : Int) < 0) != decide ((3 : Int) < 0)) (-4 : Int).natAbs (3 : Int).natAbs = zm43) := Lib.hid (by rw [← hzm43]; decide +kernel)
  have EO11 : Hid (frac (decide ((1 : Int) < 0) != decide ((3 : Int) < 0)) (1 : Int).natAbs (3 : Int).natAbs = zt) := Lib.hid (by rw [← hzt]; decide +kernel)
  have EF6 : Hid (sgz (zmh - zt) = -1) := Lib.hid (by rw [← hzmh, ← hzt]; decide +kernel)
  have EO12 : Hid (frac (decide ((2 : Int) < 0) != decide ((3 : Int) < 0)) (2 : Int).natAbs (3 : Int).natAbs = z23) := Lib.hid (by rw [← hz23]; decide +kernel)
  have EF7 : Hid (sgz (z23 - z23) = 0) := Lib.hid (by rw [← hz23]; decide +kernel)
  have EO13 : Hid (frac (decide ((-3 : Int) < 0) != decide ((2 : Int) < 0)) (-3 : Int).natAbs (2 : Int).natAbs = zm32) := Lib.hid (by rw [← hzm32]; decide +kernel)
  have EF8 : Hid ((zm32.floor : Rat) = zm2) := Lib.hid (by rw [← hzm32, ← hzm2]; decide +kernel)
  have HC8 : Hid (Bd 8191 zm32) := Lib.hid (by rw [← hzm32]; exact (Bd.frac (k := 64) _ (by decide) (by decide) (by decide)).mono (by decide))
  have EF9 : Hid (((rndz zm32 : Int) : Rat) = zm2) := Lib.hid (by rw [← hzm32, ← hzm2]; decide +kernel)
  have HC9 : Hid (Bd 8189 zm32) := Lib.hid (by rw [← hzm32]; exact (Bd.frac (k := 64) _ (by decide) (by decide) (by decide)).mono (by decide))
  have EO14 : Hid (frac (decide ((5 : Int) < 0) != decide ((2 : Int) < 0)) (5 : Int).natAbs (2 : Int).natAbs = z52) := Lib.hid (by rw [← hz52]; decide +kernel)
  have EF10 : Hid (((rndz z52 : Int) : Rat) = z3) := Lib.hid (by rw [← hz52, ← hz3]; decide +kernel)
  have HC10 : Hid (Bd 8189 z52) := Lib.hid (by rw [← hz52]; exact (Bd.frac (k := 64) _ (by decide) (by decide) (by decide)).mono (by decide))
  have EF11 : Hid (((rndz zt : Int) : Rat) = zo) := Lib.hid (by rw [← hzt, ← hzo]; decide +kernel)
  have HC11 : Hid (Bd 8189 zt) := Lib.hid (by rw [← hzt]; exact (Bd.frac (k := 64) _ (by decide) (by decide) (by decide)).mono (by decide))
  have EO15 : Hid (frac (decide ((3 : Int) < 0) != decide ((1 : Int) < 0)) (3 : Int).natAbs (1 : Int).natAbs = z3) := Lib.hid (by rw [← hz3]; decide +kernel)
  have EO16 : Hid (frac (decide ((-7 : Int) < 0) != decide ((1 : Int) < 0)) (-7 : Int).natAbs (1 : Int).natAbs = zm7) := Lib.hid (by rw [← hzm7]; decide +kernel)
  have EF12 : Hid (intX (rneg zm7) (limbs (rn zm7)) (limbs zm7.den) = (-7, 0)) := Lib.hid (by rw [intX_x HBzm7.out, ← hzm7]; decide +kernel)
  have EF13 : Hid (intX (rneg zh) (limbs (rn zh)) (limbs zh.den) = (0, 18)) := Lib.hid (by rw [intX_x HBzh.out, ← hzh]; decide +kernel)
  have EO17 : Hid (frac (decide ((-9223372036854775808 : Int) < 0) != decide ((1 : Int) < 0)) (-9223372036854775808 : Int).natAbs (1 : Int).natAbs = zmB) := Lib.hid (by rw [← hzmB]; decide +kernel)
  have EF14 : Hid (intX (rneg zmB) (limbs (rn zmB)) (limbs zmB.den) = (-9223372036854775808, 0)) := Lib.hid (by rw [intX_x HBzmB.out, ← hzmB]; decide +kernel)
  have EO18 : Hid (frac (decide ((4 : Int) < 0) != decide ((1 : Int) < 0)) (4 : Int).natAbs (1 : Int).natAbs = z4) := Lib.hid (by rw [← hz4]; decide +kernel)
  have EQT : Hid (qtext (rneg z4) (rn z4) z4.den = { data := #[52] }) := Lib.hid (by rw [← hz4, show rneg (frac false 4 1) = false by decide +kernel, show rn (frac false 4 1) = 4 by decide +kernel, show (frac false 4 1).den = 1 by decide +kernel]; unfold qtext; rw [dec_one (by decide) (by decide)]; rfl)
  have EF16 : Hid (parP (bl { data := #[54, 47, 52] }) = (0, 0, (rneg z32, rn z32, z32.den))) := Lib.hid (by rw [← hz32]; decide +kernel)
  have EF17 : Hid (parP (bl { data := #[45, 48, 47, 55] }) = (0, 0, (rneg zo, rn zo, zo.den))) := Lib.hid (by rw [← hzo]; decide +kernel)
  have EF18 : Hid (parP (bl { data := #[49, 47, 48] }) = (6, 2, (false, 0, 0))) := Lib.hid (by decide +kernel)
  have EF19 : Hid (parP (bl { data := #[49, 47] }) = (11, 2, (false, 0, 0))) := Lib.hid (by decide +kernel)
  have EF20 : Hid (parP (bl { data := #[45, 45, 49] }) = (11, 1, (false, 0, 0))) := Lib.hid (by decide +kernel)
  have EF21 : Hid (parP (bl { data := #[49, 47, 48, 50] }) = (11, 2, (false, 0, 0))) := Lib.hid (by decide +kernel)
  have EF22 : Hid (parP (bl { data := #[49, 47, 50, 47, 51] }) = (11, 3, (false, 0, 0))) := Lib.hid (by decide +kernel)
  obtain ⟨SO, hSO⟩ : ∃ S, bstr (List.replicate 5001 49) = S := ⟨_, rfl⟩
  have CT1 := (fun w => times_one 5001 (by decide) (by decide) w)
  rw [hSO] at CT1
  replace CT1 := Lib.hid CT1
  have HPO : Hid (parP (bl SO) = (4, 5000, (false, 0, 0))) := Lib.hid (by rw [← hSO]; exact par_ones)
  clear hSO
  have EO19 : Hid (frac (decide ((3 : Int) < 0) != decide ((2 : Int) < 0)) (3 : Int).natAbs (2 : Int).natAbs = z32) := Lib.hid (by rw [← hz32]; decide +kernel)
  have HT := Lib.hid hT
  have HM := Lib.hid hm
  have HG := Lib.hid hg
  clear hT hm hg hzo hzm2 hzh hzt hzmh hzm43 hzm23 hz34 hzm34 hz1 hz23 hzm32 hz52 hz3 hzm7 hzmB hz4 hz32
  go_enter Tryz.func6, Tryz.ntmps6
  go_wp2_with (with_reducible refine G.any_mark _ ?_; (try generalize Array.size (World.heap (G.w _)) = bk); (try dsimp only [List.set_cons_zero, List.set_cons_succ]); (try clear g); intro g)
  (try (refine cmark _ ?_; (try dsimp only [List.set_cons_zero, List.set_cons_succ]); (try clear g); intro g))
  refine (llives_x _ (G.tab g HT.out)).mono ?_
  rintro e w1 ⟨rfl, hb⟩
  obtain ⟨g1, rfl⟩ := G.call_ex _ hb
  clear hb
  (try clear g)
  revert g1
  intro g
  go_wp2_with (with_reducible refine G.any_mark _ ?_; (try generalize Array.size (World.heap (G.w _)) = bk); (try dsimp only [List.set_cons_zero, List.set_cons_succ]); (try clear g); intro g)
  (try (refine cmark _ ?_; (try dsimp only [List.set_cons_zero, List.set_cons_succ]); (try clear g); intro g))
  refine (qOf_x 0 (-5) zo (by decide) HBzo.out EO0.out (by decide) (by decide) (by decide) (by decide) _ (G.tab g HT.out)).mono ?_
  rintro e w1 ⟨An1, cn1, Fn1, Bn1, dn1, Hn1, rfl, hsn1, htn1, hn, hm⟩
  have hnnn1 := fun k o hk => Nat.le_trans g.chg.size (hn.new k o hk)
  have hmmn1 := fun k o hk => Nat.le_trans g.chg.size (hm.new k o hk)
  obtain ⟨g1, rfl⟩ := G.new2_ex _ hn hm
  clear hn hm
  (try clear g)
  revert g1
  intro g
  go_wp2_with (with_reducible refine G.any_mark _ ?_; (try generalize Array.size (World.heap (G.w _)) = bk); (try dsimp only [List.set_cons_zero, List.set_cons_succ]); (try clear g); intro g)
  (try (refine cmark _ ?_; (try dsimp only [List.set_cons_zero, List.set_cons_succ]); (try clear g); intro g))
  refine (qOf_e 1 (by decide) (by decide) _ (G.tab g HT.out)).mono ?_
  rintro e w1 ⟨An2, cn2, Fn2, Bn2, dn2, Hn2, rfl, hsn2, htn2, hn, hm⟩
  have hnnn2 := fun k o hk => Nat.le_trans g.chg.size (hn.new k o hk)
  have hmmn2 := fun k o hk => Nat.le_trans g.chg.size (hm.new k o hk)
  obtain ⟨g1, rfl⟩ := G.new2_ex _ hn hm
  clear hn hm
  (try clear g)
  revert g1
  intro g
  go_wp2_with (with_reducible refine G.any_mark _ ?_; (try generalize Array.size (World.heap (G.w _)) = bk); (try dsimp only [List.set_cons_zero, List.set_cons_succ]); (try clear g); intro g)
  (try (refine cmark _ ?_; (try dsimp only [List.set_cons_zero, List.set_cons_succ]); (try clear g); intro g))
  refine (qOf_x (-9223372036854775808) 4611686018427387904 zm2 (by decide) HBzm2.out EO1.out (by decide) (by decide) (by decide) (by decide) _ (G.tab g HT.out)).mono ?_
  rintro e w1 ⟨An3, cn3, Fn3, Bn3, dn3, Hn3, rfl, hsn3, htn3, hn, hm⟩
  have hnnn3 := fun k o hk => Nat.le_trans g.chg.size (hn.new k o hk)
  have hmmn3 := fun k o hk => Nat.le_trans g.chg.size (hm.new k o hk)
  obtain ⟨g1, rfl⟩ := G.new2_ex _ hn hm
  clear hn hm
  (try clear g)
  revert g1
  intro g
  go_wp2_with (with_reducible refine G.any_mark _ ?_; (try generalize Array.size (World.heap (G.w _)) = bk); (try dsimp only [List.set_cons_zero, List.set_cons_succ]); (try clear g); intro g)
  (as_aux_lemma =>
  (try (refine cmark _ ?_; (try dsimp only [List.set_cons_zero, List.set_cons_succ]); (try clear g); intro g))
  refine (lof_x (1) (2) zh (by decide) EO2.out (by decide) (by decide) (by decide) (by decide) _).mono ?_
  rintro e w1 ⟨An4, cn4, Fn4, Bn4, dn4, Hn4, rfl, hsn4, htn4, hn, hm⟩
  have hnnn4 := fun k o hk => Nat.le_trans g.chg.size (hn.new k o hk)
  have hmmn4 := fun k o hk => Nat.le_trans g.chg.size (hm.new k o hk)
  obtain ⟨g1, rfl⟩ := G.new2_ex _ hn hm
  clear hn hm
  (try clear g)
  revert g1
  intro g
  go_wp2_with (with_reducible refine G.any_mark _ ?_; (try generalize Array.size (World.heap (G.w _)) = bk); (try dsimp only [List.set_cons_zero, List.set_cons_succ]); (try clear g); intro g)
  (try (refine cmark _ ?_; (try dsimp only [List.set_cons_zero, List.set_cons_succ]); (try clear g); intro g))
  refine (lof_x (1) (2) zh (by decide) EO2.out (by decide) (by decide) (by decide) (by decide) _).mono ?_
  rintro e w1 ⟨An5, cn5, Fn5, Bn5, dn5, Hn5, rfl, hsn5, htn5, hn, hm⟩
  have hnnn5 := fun k o hk => Nat.le_trans g.chg.size (hn.new k o hk)
  have hmmn5 := fun k o hk => Nat.le_trans g.chg.size (hm.new k o hk)
  obtain ⟨g1, rfl⟩ := G.new2_ex _ hn hm
  clear hn hm
  (try clear g)
  revert g1
  intro g
  go_wp2_with (with_reducible refine G.any_mark _ ?_; (try generalize Array.size (World.heap (G.w _)) = bk); (try dsimp only [List.set_cons_zero, List.set_cons_succ]); (try clear g); intro g)
  (try (refine cmark _ ?_; (try dsimp only [List.set_cons_zero, List.set_cons_succ]); (try clear g); intro g))
  refine (qSub_x _ _ _ _ _ _ _ _ zh zh zo HBzh.out HBzh.out HBzo.out EF1.out _ (G.sl g (by simp) hsn4) (G.sl g (by simp) htn4) (G.sl g (by simp) hsn5) (G.sl g (by simp) htn5) (G.tab g HT.out)).mono ?_
  rintro e w1 ⟨An6, cn6, Fn6, Bn6, dn6, Hn6, rfl, hsn6, htn6, hn, hm⟩
  have hnnn6 := fun k o hk => Nat.le_trans g.chg.size (hn.new k o hk)
  have hmmn6 := fun k o hk => Nat.le_trans g.chg.size (hm.new k o hk)
  obtain ⟨g1, rfl⟩ := G.new2_ex _ hn hm
  clear hn hm
  (try clear g)
  revert g1
  intro g
  go_wp2_with (with_reducible refine G.any_mark _ ?_; (try generalize Array.size (World.heap (G.w _)) = bk); (try dsimp only [List.set_cons_zero, List.set_cons_succ]); (try clear g); intro g)
  (try (refine cmark _ ?_; (try dsimp only [List.set_cons_zero, List.set_cons_succ]); (try clear g); intro g))
  refine (lof_x (-2) (3) zm23 (by decide) EO3.out (by decide) (by decide) (by decide) (by decide) _).mono ?_
  rintro e w1 ⟨An7, cn7, Fn7, Bn7, dn7, Hn7, rfl, hsn7, htn7, hn, hm⟩
  have hnnn7 := fun k o hk => Nat.le_trans g.chg.size (hn.new k o hk)
  have hmmn7 := fun k o hk => Nat.le_trans g.chg.size (hm.new k o hk)
  obtain ⟨g1, rfl⟩ := G.new2_ex _ hn hm
  clear hn hm
  (try clear g)
  revert g1
  intro g
  go_wp2_with (with_reducible refine G.any_mark _ ?_; (try generalize Array.size (World.heap (G.w _)) = bk); (try dsimp only [List.set_cons_zero, List.set_cons_succ]); (try clear g); intro g)
  (as_aux_lemma =>
  (try (refine cmark _ ?_; (try dsimp only [List.set_cons_zero, List.set_cons_succ]); (try clear g); intro g))
  refine (lof_x (3) (4) z34 (by decide) EO4.out (by decide) (by decide) (by decide) (by decide) _).mono ?_
  rintro e w1 ⟨An8, cn8, Fn8, Bn8, dn8, Hn8, rfl, hsn8, htn8, hn, hm⟩
  have hnnn8 := fun k o hk => Nat.le_trans g.chg.size (hn.new k o hk)
  have hmmn8 := fun k o hk => Nat.le_trans g.chg.size (hm.new k o hk)
  obtain ⟨g1, rfl⟩ := G.new2_ex _ hn hm
  clear hn hm
  (try clear g)
  revert g1
  intro g
  go_wp2_with (with_reducible refine G.any_mark _ ?_; (try generalize Array.size (World.heap (G.w _)) = bk); (try dsimp only [List.set_cons_zero, List.set_cons_succ]); (try clear g); intro g)
  (try (refine cmark _ ?_; (try dsimp only [List.set_cons_zero, List.set_cons_succ]); (try clear g); intro g))
  refine (qMul_x _ _ _ _ _ _ _ _ zm23 z34 zmh HBzm23.out HBz34.out HBzmh.out EF2.out _ (G.sl g (by simp) hsn7) (G.sl g (by simp) htn7) (G.sl g (by simp) hsn8) (G.sl g (by simp) htn8) (G.tab g HT.out)).mono ?_
  rintro e w1 ⟨An9, cn9, Fn9, Bn9, dn9, Hn9, rfl, hsn9, htn9, hn, hm⟩
  have hnnn9 := fun k o hk => Nat.le_trans g.chg.size (hn.new k o hk)
  have hmmn9 := fun k o hk => Nat.le_trans g.chg.size (hm.new k o hk)
  obtain ⟨g1, rfl⟩ := G.new2_ex _ hn hm
  clear hn hm
  (try clear g)
  revert g1
  intro g
  go_wp2_with (with_reducible refine G.any_mark _ ?_; (try generalize Array.size (World.heap (G.w _)) = bk); (try dsimp only [List.set_cons_zero, List.set_cons_succ]); (try clear g); intro g)
  (try (refine cmark _ ?_; (try dsimp only [List.set_cons_zero, List.set_cons_succ]); (try clear g); intro g))
  refine (lof_x (1) (1) z1 (by decide) EO5.out (by decide) (by decide) (by decide) (by decide) _).mono ?_
  rintro e w1 ⟨An10, cn10, Fn10, Bn10, dn10, Hn10, rfl, hsn10, htn10, hn, hm⟩
  have hnnn10 := fun k o hk => Nat.le_trans g.chg.size (hn.new k o hk)
  have hmmn10 := fun k o hk => Nat.le_trans g.chg.size (hm.new k o hk)
  obtain ⟨g1, rfl⟩ := G.new2_ex _ hn hm
  clear hn hm
  (try clear g)
  revert g1
  intro g
  go_wp2_with (with_reducible refine G.any_mark _ ?_; (try generalize Array.size (World.heap (G.w _)) = bk); (try dsimp only [List.set_cons_zero, List.set_cons_succ]); (try clear g); intro g)
  (try (refine cmark _ ?_; (try dsimp only [List.set_cons_zero, List.set_cons_succ]); (try clear g); intro g))
  refine (lof_x (-3) (4) zm34 (by decide) EO6.out (by decide) (by decide) (by decide) (by decide) _).mono ?_
  rintro e w1 ⟨An11, cn11, Fn11, Bn11, dn11, Hn11, rfl, hsn11, htn11, hn, hm⟩
  have hnnn11 := fun k o hk => Nat.le_trans g.chg.size (hn.new k o hk)
  have hmmn11 := fun k o hk => Nat.le_trans g.chg.size (hm.new k o hk)
  obtain ⟨g1, rfl⟩ := G.new2_ex _ hn hm
  clear hn hm
  (try clear g)
  revert g1
  intro g
  go_wp2_with (with_reducible refine G.any_mark _ ?_; (try generalize Array.size (World.heap (G.w _)) = bk); (try dsimp only [List.set_cons_zero, List.set_cons_succ]); (try clear g); intro g)
  (as_aux_lemma =>
  (try (refine cmark _ ?_; (try dsimp only [List.set_cons_zero, List.set_cons_succ]); (try clear g); intro g))
  refine (qDiv_x _ _ _ _ _ _ _ _ z1 zm34 zm43 HBz1.out HBzm34.out HBzm43.out EF4.out EF3.out _ (G.sl g (by simp) hsn10) (G.sl g (by simp) htn10) (G.sl g (by simp) hsn11) (G.sl g (by simp) htn11) (G.tab g HT.out)).mono ?_
  rintro e w1 ⟨An12, cn12, Fn12, Bn12, dn12, Hn12, rfl, hsn12, htn12, hn, hm⟩
  have hnnn12 := fun k o hk => Nat.le_trans g.chg.size (hn.new k o hk)
  have hmmn12 := fun k o hk => Nat.le_trans g.chg.size (hm.new k o hk)
  obtain ⟨g1, rfl⟩ := G.new2_ex _ hn hm
  clear hn hm
  (try clear g)
  revert g1
  intro g
  go_wp2_with (with_reducible refine G.any_mark _ ?_; (try generalize Array.size (World.heap (G.w _)) = bk); (try dsimp only [List.set_cons_zero, List.set_cons_succ]); (try clear g); intro g)
  (try (refine cmark _ ?_; (try dsimp only [List.set_cons_zero, List.set_cons_succ]); (try clear g); intro g))
  refine (lof_x (1) (1) z1 (by decide) EO5.out (by decide) (by decide) (by decide) (by decide) _).mono ?_
  rintro e w1 ⟨An13, cn13, Fn13, Bn13, dn13, Hn13, rfl, hsn13, htn13, hn, hm⟩
  have hnnn13 := fun k o hk => Nat.le_trans g.chg.size (hn.new k o hk)
  have hmmn13 := fun k o hk => Nat.le_trans g.chg.size (hm.new k o hk)
  obtain ⟨g1, rfl⟩ := G.new2_ex _ hn hm
  clear hn hm
  (try clear g)
  revert g1
  intro g
  go_wp2_with (with_reducible refine G.any_mark _ ?_; (try generalize Array.size (World.heap (G.w _)) = bk); (try dsimp only [List.set_cons_zero, List.set_cons_succ]); (try clear g); intro g)
  (try (refine cmark _ ?_; (try dsimp only [List.set_cons_zero, List.set_cons_succ]); (try clear g); intro g))
  refine (lof_x (0) (1) zo (by decide) EO7.out (by decide) (by decide) (by decide) (by decide) _).mono ?_
  rintro e w1 ⟨An14, cn14, Fn14, Bn14, dn14, Hn14, rfl, hsn14, htn14, hn, hm⟩
  have hnnn14 := fun k o hk => Nat.le_trans g.chg.size (hn.new k o hk)
  have hmmn14 := fun k o hk => Nat.le_trans g.chg.size (hm.new k o hk)
  obtain ⟨g1, rfl⟩ := G.new2_ex _ hn hm
  clear hn hm
  (try clear g)
  revert g1
  intro g
  go_wp2_with (with_reducible refine G.any_mark _ ?_; (try generalize Array.size (World.heap (G.w _)) = bk); (try dsimp only [List.set_cons_zero, List.set_cons_succ]); (try clear g); intro g)
  (try (refine cmark _ ?_; (try dsimp only [List.set_cons_zero, List.set_cons_succ]); (try clear g); intro g))
  refine (qDiv_e _ _ _ _ _ _ _ _ z1 zo HBz1.out HBzo.out EF5.out _ (G.sl g (by simp) hsn13) (G.sl g (by simp) htn13) (G.sl g (by simp) hsn14) (G.sl g (by simp) htn14) (G.tab g HT.out)).mono ?_
  rintro e w1 ⟨An15, cn15, Fn15, Bn15, dn15, Hn15, rfl, hsn15, htn15, hn, hm⟩
  have hnnn15 := fun k o hk => Nat.le_trans g.chg.size (hn.new k o hk)
  have hmmn15 := fun k o hk => Nat.le_trans g.chg.size (hm.new k o hk)
  obtain ⟨g1, rfl⟩ := G.new2_ex _ hn hm
  clear hn hm
  (try clear g)
  revert g1
  intro g
  go_wp2_with (with_reducible refine G.any_mark _ ?_; (try generalize Array.size (World.heap (G.w _)) = bk); (try dsimp only [List.set_cons_zero, List.set_cons_succ]); (try clear g); intro g)
  (as_aux_lemma =>
  (try (refine cmark _ ?_; (try dsimp only [List.set_cons_zero, List.set_cons_succ]); (try clear g); intro g))
  refine (lis_x _ _ _ _ (0) (1) zo (by decide) EO7.out (by decide) (by decide) (by decide) (by decide) _ (G.sl g (by simp) hsn1) (G.sl g (by simp) htn1)).mono ?_
  rintro e w1 ⟨rfl, hb⟩
  obtain ⟨g1, rfl⟩ := G.call_ex _ hb
  clear hb
  (try clear g)
  revert g1
  intro g
  go_wp2_with (with_reducible refine G.any_mark _ ?_; (try generalize Array.size (World.heap (G.w _)) = bk); (try dsimp only [List.set_cons_zero, List.set_cons_succ]); (try clear g); intro g)
  (try (refine cmark _ ?_; (try dsimp only [List.set_cons_zero, List.set_cons_succ]); (try clear g); intro g))
  refine (lbad_e _ _ _ _ 6 _ (G.sl g (by simp) hsn2) (G.sl g (by simp) htn2)).mono ?_
  rintro e w1 ⟨rfl, hb⟩
  obtain ⟨g1, rfl⟩ := G.call_ex _ hb
  clear hb
  (try clear g)
  revert g1
  intro g
  go_wp2_with (with_reducible refine G.any_mark _ ?_; (try generalize Array.size (World.heap (G.w _)) = bk); (try dsimp only [List.set_cons_zero, List.set_cons_succ]); (try clear g); intro g)
  (try (refine cmark _ ?_; (try dsimp only [List.set_cons_zero, List.set_cons_succ]); (try clear g); intro g))
  refine (lis_x _ _ _ _ (-2) (1) zm2 (by decide) EO8.out (by decide) (by decide) (by decide) (by decide) _ (G.sl g (by simp) hsn3) (G.sl g (by simp) htn3)).mono ?_
  rintro e w1 ⟨rfl, hb⟩
  obtain ⟨g1, rfl⟩ := G.call_ex _ hb
  clear hb
  (try clear g)
  revert g1
  intro g
  go_wp2_with (with_reducible refine G.any_mark _ ?_; (try generalize Array.size (World.heap (G.w _)) = bk); (try dsimp only [List.set_cons_zero, List.set_cons_succ]); (try clear g); intro g)
  (try (refine cmark _ ?_; (try dsimp only [List.set_cons_zero, List.set_cons_succ]); (try clear g); intro g))
  refine (lis_x _ _ _ _ (0) (1) zo (by decide) EO7.out (by decide) (by decide) (by decide) (by decide) _ (G.sl g (by simp) hsn6) (G.sl g (by simp) htn6)).mono ?_
  rintro e w1 ⟨rfl, hb⟩
  obtain ⟨g1, rfl⟩ := G.call_ex _ hb
  clear hb
  (try clear g)
  revert g1
  intro g
  go_wp2_with (with_reducible refine G.any_mark _ ?_; (try generalize Array.size (World.heap (G.w _)) = bk); (try dsimp only [List.set_cons_zero, List.set_cons_succ]); (try clear g); intro g)
  (as_aux_lemma =>
  (try (refine cmark _ ?_; (try dsimp only [List.set_cons_zero, List.set_cons_succ]); (try clear g); intro g))
  refine (lis_x _ _ _ _ (-1) (2) zmh (by decide) EO9.out (by decide) (by decide) (by decide) (by decide) _ (G.sl g (by simp) hsn9) (G.sl g (by simp) htn9)).mono ?_
  rintro e w1 ⟨rfl, hb⟩
  obtain ⟨g1, rfl⟩ := G.call_ex _ hb
  clear hb
  (try clear g)
  revert g1
  intro g
  go_wp2_with (with_reducible refine G.any_mark _ ?_; (try generalize Array.size (World.heap (G.w _)) = bk); (try dsimp only [List.set_cons_zero, List.set_cons_succ]); (try clear g); intro g)
  (try (refine cmark _ ?_; (try dsimp only [List.set_cons_zero, List.set_cons_succ]); (try clear g); intro g))
  refine (lis_x _ _ _ _ (-4) (3) zm43 (by decide) EO10.out (by decide) (by decide) (by decide) (by decide) _ (G.sl g (by simp) hsn12) (G.sl g (by simp) htn12)).mono ?_
  rintro e w1 ⟨rfl, hb⟩
  obtain ⟨g1, rfl⟩ := G.call_ex _ hb
  clear hb
  (try clear g)
  revert g1
  intro g
  go_wp2_with (with_reducible refine G.any_mark _ ?_; (try generalize Array.size (World.heap (G.w _)) = bk); (try dsimp only [List.set_cons_zero, List.set_cons_succ]); (try clear g); intro g)
  (try (refine cmark _ ?_; (try dsimp only [List.set_cons_zero, List.set_cons_succ]); (try clear g); intro g))
  refine (lbad_e _ _ _ _ 6 _ (G.sl g (by simp) hsn15) (G.sl g (by simp) htn15)).mono ?_
  rintro e w1 ⟨rfl, hb⟩
  obtain ⟨g1, rfl⟩ := G.call_ex _ hb
  clear hb
  (try clear g)
  revert g1
  intro g
  go_wp2_with (with_reducible refine G.any_mark _ ?_; (try generalize Array.size (World.heap (G.w _)) = bk); (try dsimp only [List.set_cons_zero, List.set_cons_succ]); (try clear g); intro g)
  obtain ⟨g2, hg2⟩ := G.less g (M' := []) (List.nil_sublist _)
  rw [hg2]
  clear hg2
  (try clear g)
  revert g2
  intro g
  (as_aux_lemma =>
  obtain ⟨g2, hg2⟩ := G.lessI g (I' := [heapOf w]) (by simp)
  rw [hg2]
  clear hg2
  (try clear g)
  revert g2
  intro g
  (try (refine cmark _ ?_; (try dsimp only [List.set_cons_zero, List.set_cons_succ]); (try clear g); intro g))
  refine (lof_x (-1) (2) zmh (by decide) EO9.out (by decide) (by decide) (by decide) (by decide) _).mono ?_
  rintro e w1 ⟨An16, cn16, Fn16, Bn16, dn16, Hn16, rfl, hsn16, htn16, hn, hm⟩
  have hnnn16 := fun k o hk => Nat.le_trans g.chg.size (hn.new k o hk)
  have hmmn16 := fun k o hk => Nat.le_trans g.chg.size (hm.new k o hk)
  obtain ⟨g1, rfl⟩ := G.new2_ex _ hn hm
  clear hn hm
  (try clear g)
  revert g1
  intro g
  go_wp2_with (with_reducible refine G.any_mark _ ?_; (try generalize Array.size (World.heap (G.w _)) = bk); (try dsimp only [List.set_cons_zero, List.set_cons_succ]); (try clear g); intro g)
  (try (refine cmark _ ?_; (try dsimp only [List.set_cons_zero, List.set_cons_succ]); (try clear g); intro g))
  refine (lof_x (1) (3) zt (by decide) EO11.out (by decide) (by decide) (by decide) (by decide) _).mono ?_
  rintro e w1 ⟨An17, cn17, Fn17, Bn17, dn17, Hn17, rfl, hsn17, htn17, hn, hm⟩
  have hnnn17 := fun k o hk => Nat.le_trans g.chg.size (hn.new k o hk)
  have hmmn17 := fun k o hk => Nat.le_trans g.chg.size (hm.new k o hk)
  obtain ⟨g1, rfl⟩ := G.new2_ex _ hn hm
  clear hn hm
  (try clear g)
  revert g1
  intro g
  go_wp2_with (with_reducible refine G.any_mark _ ?_; (try generalize Array.size (World.heap (G.w _)) = bk); (try dsimp only [List.set_cons_zero, List.set_cons_succ]); (try clear g); intro g)
  (try (refine cmark _ ?_; (try dsimp only [List.set_cons_zero, List.set_cons_succ]); (try clear g); intro g))
  refine (qCmp_x _ _ _ _ _ _ _ _ zmh zt (-1) HBzmh.out HBzt.out EF6.out _ (G.sl g (by simp) hsn16) (G.sl g (by simp) htn16) (G.sl g (by simp) hsn17) (G.sl g (by simp) htn17) (G.tab g HT.out)).mono ?_
  rintro e w1 ⟨rfl, hb⟩
  obtain ⟨g1, rfl⟩ := G.call_ex _ hb
  clear hb
  (try clear g)
  revert g1
  intro g
  go_wp2_with (with_reducible refine G.any_mark _ ?_; (try generalize Array.size (World.heap (G.w _)) = bk); (try dsimp only [List.set_cons_zero, List.set_cons_succ]); (try clear g); intro g)
  (as_aux_lemma =>
  (try (refine cmark _ ?_; (try dsimp only [List.set_cons_zero, List.set_cons_succ]); (try clear g); intro g))
  refine (lof_x (2) (3) z23 (by decide) EO12.out (by decide) (by decide) (by decide) (by decide) _).mono ?_
  rintro e w1 ⟨An18, cn18, Fn18, Bn18, dn18, Hn18, rfl, hsn18, htn18, hn, hm⟩
  have hnnn18 := fun k o hk => Nat.le_trans g.chg.size (hn.new k o hk)
  have hmmn18 := fun k o hk => Nat.le_trans g.chg.size (hm.new k o hk)
  obtain ⟨g1, rfl⟩ := G.new2_ex _ hn hm
  clear hn hm
  (try clear g)
  revert g1
  intro g
  go_wp2_with (with_reducible refine G.any_mark _ ?_; (try generalize Array.size (World.heap (G.w _)) = bk); (try dsimp only [List.set_cons_zero, List.set_cons_succ]); (try clear g); intro g)
  (try (refine cmark _ ?_; (try dsimp only [List.set_cons_zero, List.set_cons_succ]); (try clear g); intro g))
  refine (lof_x (2) (3) z23 (by decide) EO12.out (by decide) (by decide) (by decide) (by decide) _).mono ?_
  rintro e w1 ⟨An19, cn19, Fn19, Bn19, dn19, Hn19, rfl, hsn19, htn19, hn, hm⟩
  have hnnn19 := fun k o hk => Nat.le_trans g.chg.size (hn.new k o hk)
  have hmmn19 := fun k o hk => Nat.le_trans g.chg.size (hm.new k o hk)
  obtain ⟨g1, rfl⟩ := G.new2_ex _ hn hm
  clear hn hm
  (try clear g)
  revert g1
  intro g
  go_wp2_with (with_reducible refine G.any_mark _ ?_; (try generalize Array.size (World.heap (G.w _)) = bk); (try dsimp only [List.set_cons_zero, List.set_cons_succ]); (try clear g); intro g)
  (try (refine cmark _ ?_; (try dsimp only [List.set_cons_zero, List.set_cons_succ]); (try clear g); intro g))
  refine (qCmp_x _ _ _ _ _ _ _ _ z23 z23 (0) HBz23.out HBz23.out EF7.out _ (G.sl g (by simp) hsn18) (G.sl g (by simp) htn18) (G.sl g (by simp) hsn19) (G.sl g (by simp) htn19) (G.tab g HT.out)).mono ?_
  rintro e w1 ⟨rfl, hb⟩
  obtain ⟨g1, rfl⟩ := G.call_ex _ hb
  clear hb
  (try clear g)
  revert g1
  intro g
  go_wp2_with (with_reducible refine G.any_mark _ ?_; (try generalize Array.size (World.heap (G.w _)) = bk); (try dsimp only [List.set_cons_zero, List.set_cons_succ]); (try clear g); intro g)
  (try (refine cmark _ ?_; (try dsimp only [List.set_cons_zero, List.set_cons_succ]); (try clear g); intro g))
  refine (lof_x (-3) (2) zm32 (by decide) EO13.out (by decide) (by decide) (by decide) (by decide) _).mono ?_
  rintro e w1 ⟨An20, cn20, Fn20, Bn20, dn20, Hn20, rfl, hsn20, htn20, hn, hm⟩
  have hnnn20 := fun k o hk => Nat.le_trans g.chg.size (hn.new k o hk)
  have hmmn20 := fun k o hk => Nat.le_trans g.chg.size (hm.new k o hk)
  obtain ⟨g1, rfl⟩ := G.new2_ex _ hn hm
  clear hn hm
  (try clear g)
  revert g1
  intro g
  go_wp2_with (with_reducible refine G.any_mark _ ?_; (try generalize Array.size (World.heap (G.w _)) = bk); (try dsimp only [List.set_cons_zero, List.set_cons_succ]); (try clear g); intro g)
  (as_aux_lemma =>
  (try (refine cmark _ ?_; (try dsimp only [List.set_cons_zero, List.set_cons_succ]); (try clear g); intro g))
  refine (qFloor_x _ _ _ _ zm32 zm2 HC8.out EF8.out _ (G.sl g (by simp) hsn20) (G.sl g (by simp) htn20) (G.tab g HT.out)).mono ?_
  rintro e w1 ⟨An21, cn21, Fn21, Bn21, dn21, Hn21, rfl, hsn21, htn21, hn, hm⟩
  have hnnn21 := fun k o hk => Nat.le_trans g.chg.size (hn.new k o hk)
  have hmmn21 := fun k o hk => Nat.le_trans g.chg.size (hm.new k o hk)
  obtain ⟨g1, rfl⟩ := G.new2_ex _ hn hm
  clear hn hm
  (try clear g)
  revert g1
  intro g
  go_wp2_with (with_reducible refine G.any_mark _ ?_; (try generalize Array.size (World.heap (G.w _)) = bk); (try dsimp only [List.set_cons_zero, List.set_cons_succ]); (try clear g); intro g)
  (try (refine cmark _ ?_; (try dsimp only [List.set_cons_zero, List.set_cons_succ]); (try clear g); intro g))
  refine (lof_x (-3) (2) zm32 (by decide) EO13.out (by decide) (by decide) (by decide) (by decide) _).mono ?_
  rintro e w1 ⟨An22, cn22, Fn22, Bn22, dn22, Hn22, rfl, hsn22, htn22, hn, hm⟩
  have hnnn22 := fun k o hk => Nat.le_trans g.chg.size (hn.new k o hk)
  have hmmn22 := fun k o hk => Nat.le_trans g.chg.size (hm.new k o hk)
  obtain ⟨g1, rfl⟩ := G.new2_ex _ hn hm
  clear hn hm
  (try clear g)
  revert g1
  intro g
  go_wp2_with (with_reducible refine G.any_mark _ ?_; (try generalize Array.size (World.heap (G.w _)) = bk); (try dsimp only [List.set_cons_zero, List.set_cons_succ]); (try clear g); intro g)
  (try (refine cmark _ ?_; (try dsimp only [List.set_cons_zero, List.set_cons_succ]); (try clear g); intro g))
  refine (qRound_x _ _ _ _ zm32 zm2 HC9.out EF9.out _ (G.sl g (by simp) hsn22) (G.sl g (by simp) htn22) (G.tab g HT.out)).mono ?_
  rintro e w1 ⟨An23, cn23, Fn23, Bn23, dn23, Hn23, rfl, hsn23, htn23, hn, hm⟩
  have hnnn23 := fun k o hk => Nat.le_trans g.chg.size (hn.new k o hk)
  have hmmn23 := fun k o hk => Nat.le_trans g.chg.size (hm.new k o hk)
  obtain ⟨g1, rfl⟩ := G.new2_ex _ hn hm
  clear hn hm
  (try clear g)
  revert g1
  intro g
  go_wp2_with (with_reducible refine G.any_mark _ ?_; (try generalize Array.size (World.heap (G.w _)) = bk); (try dsimp only [List.set_cons_zero, List.set_cons_succ]); (try clear g); intro g)
  (try (refine cmark _ ?_; (try dsimp only [List.set_cons_zero, List.set_cons_succ]); (try clear g); intro g))
  refine (lof_x (5) (2) z52 (by decide) EO14.out (by decide) (by decide) (by decide) (by decide) _).mono ?_
  rintro e w1 ⟨An24, cn24, Fn24, Bn24, dn24, Hn24, rfl, hsn24, htn24, hn, hm⟩
  have hnnn24 := fun k o hk => Nat.le_trans g.chg.size (hn.new k o hk)
  have hmmn24 := fun k o hk => Nat.le_trans g.chg.size (hm.new k o hk)
  obtain ⟨g1, rfl⟩ := G.new2_ex _ hn hm
  clear hn hm
  (try clear g)
  revert g1
  intro g
  go_wp2_with (with_reducible refine G.any_mark _ ?_; (try generalize Array.size (World.heap (G.w _)) = bk); (try dsimp only [List.set_cons_zero, List.set_cons_succ]); (try clear g); intro g)
  (as_aux_lemma =>
  (try (refine cmark _ ?_; (try dsimp only [List.set_cons_zero, List.set_cons_succ]); (try clear g); intro g))
  refine (qRound_x _ _ _ _ z52 z3 HC10.out EF10.out _ (G.sl g (by simp) hsn24) (G.sl g (by simp) htn24) (G.tab g HT.out)).mono ?_
  rintro e w1 ⟨An25, cn25, Fn25, Bn25, dn25, Hn25, rfl, hsn25, htn25, hn, hm⟩
  have hnnn25 := fun k o hk => Nat.le_trans g.chg.size (hn.new k o hk)
  have hmmn25 := fun k o hk => Nat.le_trans g.chg.size (hm.new k o hk)
  obtain ⟨g1, rfl⟩ := G.new2_ex _ hn hm
  clear hn hm
  (try clear g)
  revert g1
  intro g
  go_wp2_with (with_reducible refine G.any_mark _ ?_; (try generalize Array.size (World.heap (G.w _)) = bk); (try dsimp only [List.set_cons_zero, List.set_cons_succ]); (try clear g); intro g)
  (try (refine cmark _ ?_; (try dsimp only [List.set_cons_zero, List.set_cons_succ]); (try clear g); intro g))
  refine (lof_x (1) (3) zt (by decide) EO11.out (by decide) (by decide) (by decide) (by decide) _).mono ?_
  rintro e w1 ⟨An26, cn26, Fn26, Bn26, dn26, Hn26, rfl, hsn26, htn26, hn, hm⟩
  have hnnn26 := fun k o hk => Nat.le_trans g.chg.size (hn.new k o hk)
  have hmmn26 := fun k o hk => Nat.le_trans g.chg.size (hm.new k o hk)
  obtain ⟨g1, rfl⟩ := G.new2_ex _ hn hm
  clear hn hm
  (try clear g)
  revert g1
  intro g
  go_wp2_with (with_reducible refine G.any_mark _ ?_; (try generalize Array.size (World.heap (G.w _)) = bk); (try dsimp only [List.set_cons_zero, List.set_cons_succ]); (try clear g); intro g)
  (try (refine cmark _ ?_; (try dsimp only [List.set_cons_zero, List.set_cons_succ]); (try clear g); intro g))
  refine (qRound_x _ _ _ _ zt zo HC11.out EF11.out _ (G.sl g (by simp) hsn26) (G.sl g (by simp) htn26) (G.tab g HT.out)).mono ?_
  rintro e w1 ⟨An27, cn27, Fn27, Bn27, dn27, Hn27, rfl, hsn27, htn27, hn, hm⟩
  have hnnn27 := fun k o hk => Nat.le_trans g.chg.size (hn.new k o hk)
  have hmmn27 := fun k o hk => Nat.le_trans g.chg.size (hm.new k o hk)
  obtain ⟨g1, rfl⟩ := G.new2_ex _ hn hm
  clear hn hm
  (try clear g)
  revert g1
  intro g
  go_wp2_with (with_reducible refine G.any_mark _ ?_; (try generalize Array.size (World.heap (G.w _)) = bk); (try dsimp only [List.set_cons_zero, List.set_cons_succ]); (try clear g); intro g)
  (try (refine cmark _ ?_; (try dsimp only [List.set_cons_zero, List.set_cons_succ]); (try clear g); intro g))
  refine (lis_x _ _ _ _ (-2) (1) zm2 (by decide) EO8.out (by decide) (by decide) (by decide) (by decide) _ (G.sl g (by simp) hsn21) (G.sl g (by simp) htn21)).mono ?_
  rintro e w1 ⟨rfl, hb⟩
  obtain ⟨g1, rfl⟩ := G.call_ex _ hb
  clear hb
  (try clear g)
  revert g1
  intro g
  go_wp2_with (with_reducible refine G.any_mark _ ?_; (try generalize Array.size (World.heap (G.w _)) = bk); (try dsimp only [List.set_cons_zero, List.set_cons_succ]); (try clear g); intro g)
  (as_aux_lemma =>
  (try (refine cmark _ ?_; (try dsimp only [List.set_cons_zero, List.set_cons_succ]); (try clear g); intro g))
  refine (lis_x _ _ _ _ (-2) (1) zm2 (by decide) EO8.out (by decide) (by decide) (by decide) (by decide) _ (G.sl g (by simp) hsn23) (G.sl g (by simp) htn23)).mono ?_
  rintro e w1 ⟨rfl, hb⟩
  obtain ⟨g1, rfl⟩ := G.call_ex _ hb
  clear hb
  (try clear g)
  revert g1
  intro g
  go_wp2_with (with_reducible refine G.any_mark _ ?_; (try generalize Array.size (World.heap (G.w _)) = bk); (try dsimp only [List.set_cons_zero, List.set_cons_succ]); (try clear g); intro g)
  (try (refine cmark _ ?_; (try dsimp only [List.set_cons_zero, List.set_cons_succ]); (try clear g); intro g))
  refine (lis_x _ _ _ _ (3) (1) z3 (by decide) EO15.out (by decide) (by decide) (by decide) (by decide) _ (G.sl g (by simp) hsn25) (G.sl g (by simp) htn25)).mono ?_
  rintro e w1 ⟨rfl, hb⟩
  obtain ⟨g1, rfl⟩ := G.call_ex _ hb
  clear hb
  (try clear g)
  revert g1
  intro g
  go_wp2_with (with_reducible refine G.any_mark _ ?_; (try generalize Array.size (World.heap (G.w _)) = bk); (try dsimp only [List.set_cons_zero, List.set_cons_succ]); (try clear g); intro g)
  (try (refine cmark _ ?_; (try dsimp only [List.set_cons_zero, List.set_cons_succ]); (try clear g); intro g))
  refine (lis_x _ _ _ _ (0) (1) zo (by decide) EO7.out (by decide) (by decide) (by decide) (by decide) _ (G.sl g (by simp) hsn27) (G.sl g (by simp) htn27)).mono ?_
  rintro e w1 ⟨rfl, hb⟩
  obtain ⟨g1, rfl⟩ := G.call_ex _ hb
  clear hb
  (try clear g)
  revert g1
  intro g
  go_wp2_with (with_reducible refine G.any_mark _ ?_; (try generalize Array.size (World.heap (G.w _)) = bk); (try dsimp only [List.set_cons_zero, List.set_cons_succ]); (try clear g); intro g)
  obtain ⟨g2, hg2⟩ := G.less g (M' := []) (List.nil_sublist _)
  rw [hg2]
  clear hg2
  (try clear g)
  revert g2
  intro g
  (as_aux_lemma =>
  obtain ⟨g2, hg2⟩ := G.lessI g (I' := [heapOf w]) (by simp)
  rw [hg2]
  clear hg2
  (try clear g)
  revert g2
  intro g
  (try (refine cmark _ ?_; (try dsimp only [List.set_cons_zero, List.set_cons_succ]); (try clear g); intro g))
  refine (lof_x (-7) (1) zm7 (by decide) EO16.out (by decide) (by decide) (by decide) (by decide) _).mono ?_
  rintro e w1 ⟨An28, cn28, Fn28, Bn28, dn28, Hn28, rfl, hsn28, htn28, hn, hm⟩
  have hnnn28 := fun k o hk => Nat.le_trans g.chg.size (hn.new k o hk)
  have hmmn28 := fun k o hk => Nat.le_trans g.chg.size (hm.new k o hk)
  obtain ⟨g1, rfl⟩ := G.new2_ex _ hn hm
  clear hn hm
  (try clear g)
  revert g1
  intro g
  go_wp2_with (with_reducible refine G.any_mark _ ?_; (try generalize Array.size (World.heap (G.w _)) = bk); (try dsimp only [List.set_cons_zero, List.set_cons_succ]); (try clear g); intro g)
  (try (refine cmark _ ?_; (try dsimp only [List.set_cons_zero, List.set_cons_succ]); (try clear g); intro g))
  refine (qInt_l _ _ _ _ zm7 (-7) 0 EF12.out _ (G.sl g (by simp) hsn28) (G.sl g (by simp) htn28) (G.tab g HT.out)).mono ?_
  rintro e w1 ⟨rfl, hb⟩
  obtain ⟨g1, rfl⟩ := G.call_ex _ hb
  clear hb
  (try clear g)
  revert g1
  intro g
  go_wp2_with (with_reducible refine G.any_mark _ ?_; (try generalize Array.size (World.heap (G.w _)) = bk); (try dsimp only [List.set_cons_zero, List.set_cons_succ]); (try clear g); intro g)
  (try (refine cmark _ ?_; (try dsimp only [List.set_cons_zero, List.set_cons_succ]); (try clear g); intro g))
  refine (lof_x (1) (2) zh (by decide) EO2.out (by decide) (by decide) (by decide) (by decide) _).mono ?_
  rintro e w1 ⟨An29, cn29, Fn29, Bn29, dn29, Hn29, rfl, hsn29, htn29, hn, hm⟩
  have hnnn29 := fun k o hk => Nat.le_trans g.chg.size (hn.new k o hk)
  have hmmn29 := fun k o hk => Nat.le_trans g.chg.size (hm.new k o hk)
  obtain ⟨g1, rfl⟩ := G.new2_ex _ hn hm
  clear hn hm
  (try clear g)
  revert g1
  intro g
  go_wp2_with (with_reducible refine G.any_mark _ ?_; (try generalize Array.size (World.heap (G.w _)) = bk); (try dsimp only [List.set_cons_zero, List.set_cons_succ]); (try clear g); intro g)
  (as_aux_lemma =>
  (try (refine cmark _ ?_; (try dsimp only [List.set_cons_zero, List.set_cons_succ]); (try clear g); intro g))
  refine (qInt_l _ _ _ _ zh (0) 18 EF13.out _ (G.sl g (by simp) hsn29) (G.sl g (by simp) htn29) (G.tab g HT.out)).mono ?_
  rintro e w1 ⟨rfl, hb⟩
  obtain ⟨g1, rfl⟩ := G.call_ex _ hb
  clear hb
  (try clear g)
  revert g1
  intro g
  go_wp2_with (with_reducible refine G.any_mark _ ?_; (try generalize Array.size (World.heap (G.w _)) = bk); (try dsimp only [List.set_cons_zero, List.set_cons_succ]); (try clear g); intro g)
  (try (refine cmark _ ?_; (try dsimp only [List.set_cons_zero, List.set_cons_succ]); (try clear g); intro g))
  refine (int_top _ _ _ (G.lim1 g [0, 2147483648] 2 rfl rfl (by decide) (ok2' (by decide) (by decide))) (G.lim0 g [1] 1 rfl rfl (by decide) (ok1 (by decide))) (G.tab g HT.out)).mono ?_
  rintro e w1 ⟨rfl, hb⟩
  obtain ⟨g1, rfl⟩ := G.call_ex _ hb
  clear hb
  (try clear g)
  revert g1
  intro g
  go_wp2_with (with_reducible refine G.any_mark _ ?_; (try generalize Array.size (World.heap (G.w _)) = bk); (try dsimp only [List.set_cons_zero, List.set_cons_succ]); (try clear g); intro g)
  obtain ⟨g2, hg2⟩ := G.less g (M' := []) (List.nil_sublist _)
  rw [hg2]
  clear hg2
  (try clear g)
  revert g2
  intro g
  (try (refine cmark _ ?_; (try dsimp only [List.set_cons_zero, List.set_cons_succ]); (try clear g); intro g))
  refine (lof_x (-9223372036854775808) (1) zmB (by decide) EO17.out (by decide) (by decide) (by decide) (by decide) _).mono ?_
  rintro e w1 ⟨An30, cn30, Fn30, Bn30, dn30, Hn30, rfl, hsn30, htn30, hn, hm⟩
  have hnnn30 := fun k o hk => Nat.le_trans g.chg.size (hn.new k o hk)
  have hmmn30 := fun k o hk => Nat.le_trans g.chg.size (hm.new k o hk)
  obtain ⟨g1, rfl⟩ := G.new2_ex _ hn hm
  clear hn hm
  (try clear g)
  revert g1
  intro g
  go_wp2_with (with_reducible refine G.any_mark _ ?_; (try generalize Array.size (World.heap (G.w _)) = bk); (try dsimp only [List.set_cons_zero, List.set_cons_succ]); (try clear g); intro g)
  (as_aux_lemma =>
  (try (refine cmark _ ?_; (try dsimp only [List.set_cons_zero, List.set_cons_succ]); (try clear g); intro g))
  refine (qInt_l _ _ _ _ zmB (-9223372036854775808) 0 EF14.out _ (G.sl g (by simp) hsn30) (G.sl g (by simp) htn30) (G.tab g HT.out)).mono ?_
  rintro e w1 ⟨rfl, hb⟩
  obtain ⟨g1, rfl⟩ := G.call_ex _ hb
  clear hb
  (try clear g)
  revert g1
  intro g
  go_wp2_with (with_reducible refine G.any_mark _ ?_; (try generalize Array.size (World.heap (G.w _)) = bk); (try dsimp only [List.set_cons_zero, List.set_cons_succ]); (try clear g); intro g)
  (try (refine cmark _ ?_; (try dsimp only [List.set_cons_zero, List.set_cons_succ]); (try clear g); intro g))
  refine (lof_x (4) (1) z4 (by decide) EO18.out (by decide) (by decide) (by decide) (by decide) _).mono ?_
  rintro e w1 ⟨An31, cn31, Fn31, Bn31, dn31, Hn31, rfl, hsn31, htn31, hn, hm⟩
  have hnnn31 := fun k o hk => Nat.le_trans g.chg.size (hn.new k o hk)
  have hmmn31 := fun k o hk => Nat.le_trans g.chg.size (hm.new k o hk)
  obtain ⟨g1, rfl⟩ := G.new2_ex _ hn hm
  clear hn hm
  (try clear g)
  revert g1
  intro g
  go_wp2_with (with_reducible refine G.any_mark _ ?_; (try generalize Array.size (World.heap (G.w _)) = bk); (try dsimp only [List.set_cons_zero, List.set_cons_succ]); (try clear g); intro g)
  (try (refine cmark _ ?_; (try dsimp only [List.set_cons_zero, List.set_cons_succ]); (try clear g); intro g))
  refine (qText_x _ _ _ _ z4 HBz4.out _ (G.sl g (by simp) hsn31) (G.sl g (by simp) htn31) (G.tab g HT.out)).mono ?_
  rw [EQT.out]
  rintro e w1 ⟨rfl, hb⟩
  obtain ⟨g1, rfl⟩ := G.call_ex _ hb
  clear hb
  (try clear g)
  revert g1
  intro g
  go_wp2_with (with_reducible refine G.any_mark _ ?_; (try generalize Array.size (World.heap (G.w _)) = bk); (try dsimp only [List.set_cons_zero, List.set_cons_succ]); (try clear g); intro g)
  obtain ⟨g2, hg2⟩ := G.less g (M' := []) (List.nil_sublist _)
  rw [hg2]
  clear hg2
  (try clear g)
  revert g2
  intro g
  (as_aux_lemma =>
  obtain ⟨g2, hg2⟩ := G.lessI g (I' := [heapOf w]) (by simp)
  rw [hg2]
  clear hg2
  (try clear g)
  revert g2
  intro g
  (try (refine cmark _ ?_; (try dsimp only [List.set_cons_zero, List.set_cons_succ]); (try clear g); intro g))
  refine (qParse_at { data := #[54, 47, 52] } z32 mx _ EF16.out (G.oldcell g HM.out) (G.oldcell g HG.out) (G.tab g HT.out)).mono ?_
  rintro e w1 ⟨An32, cn32, Fn32, Bn32, dn32, Hn32, rfl, hsn32, htn32, hn, hm⟩
  have hnnn32 := fun k o hk => Nat.le_trans g.chg.size (hn.new k o hk)
  have hmmn32 := fun k o hk => Nat.le_trans g.chg.size (hm.new k o hk)
  obtain ⟨g1, rfl⟩ := G.new2_ex _ hn hm
  clear hn hm
  (try clear g)
  revert g1
  intro g
  go_wp2_with (with_reducible refine G.any_mark _ ?_; (try generalize Array.size (World.heap (G.w _)) = bk); (try dsimp only [List.set_cons_zero, List.set_cons_succ]); (try clear g); intro g)
  (try (refine cmark _ ?_; (try dsimp only [List.set_cons_zero, List.set_cons_succ]); (try clear g); intro g))
  refine (qParse_at { data := #[45, 48, 47, 55] } zo mx _ EF17.out (G.oldcell g HM.out) (G.oldcell g HG.out) (G.tab g HT.out)).mono ?_
  rintro e w1 ⟨An33, cn33, Fn33, Bn33, dn33, Hn33, rfl, hsn33, htn33, hn, hm⟩
  have hnnn33 := fun k o hk => Nat.le_trans g.chg.size (hn.new k o hk)
  have hmmn33 := fun k o hk => Nat.le_trans g.chg.size (hm.new k o hk)
  obtain ⟨g1, rfl⟩ := G.new2_ex _ hn hm
  clear hn hm
  (try clear g)
  revert g1
  intro g
  go_wp2_with (with_reducible refine G.any_mark _ ?_; (try generalize Array.size (World.heap (G.w _)) = bk); (try dsimp only [List.set_cons_zero, List.set_cons_succ]); (try clear g); intro g)
  (try (refine cmark _ ?_; (try dsimp only [List.set_cons_zero, List.set_cons_succ]); (try clear g); intro g))
  refine (qParse_e { data := #[49, 47, 48] } 6 2 2 mx rfl _ EF18.out (G.oldcell g HM.out) (G.oldcell g HG.out) (G.tab g HT.out)).mono ?_
  rintro e w1 ⟨An34, cn34, Fn34, Bn34, dn34, Hn34, rfl, hsn34, htn34, hn, hm⟩
  have hnnn34 := fun k o hk => Nat.le_trans g.chg.size (hn.new k o hk)
  have hmmn34 := fun k o hk => Nat.le_trans g.chg.size (hm.new k o hk)
  obtain ⟨g1, rfl⟩ := G.new2_ex _ hn hm
  clear hn hm
  (try clear g)
  revert g1
  intro g
  go_wp2_with (with_reducible refine G.any_mark _ ?_; (try generalize Array.size (World.heap (G.w _)) = bk); (try dsimp only [List.set_cons_zero, List.set_cons_succ]); (try clear g); intro g)
  (as_aux_lemma =>
  (try (refine cmark _ ?_; (try dsimp only [List.set_cons_zero, List.set_cons_succ]); (try clear g); intro g))
  refine (qParse_e { data := #[49, 47] } 11 2 2 mx rfl _ EF19.out (G.oldcell g HM.out) (G.oldcell g HG.out) (G.tab g HT.out)).mono ?_
  rintro e w1 ⟨An35, cn35, Fn35, Bn35, dn35, Hn35, rfl, hsn35, htn35, hn, hm⟩
  have hnnn35 := fun k o hk => Nat.le_trans g.chg.size (hn.new k o hk)
  have hmmn35 := fun k o hk => Nat.le_trans g.chg.size (hm.new k o hk)
  obtain ⟨g1, rfl⟩ := G.new2_ex _ hn hm
  clear hn hm
  (try clear g)
  revert g1
  intro g
  go_wp2_with (with_reducible refine G.any_mark _ ?_; (try generalize Array.size (World.heap (G.w _)) = bk); (try dsimp only [List.set_cons_zero, List.set_cons_succ]); (try clear g); intro g)
  (try (refine cmark _ ?_; (try dsimp only [List.set_cons_zero, List.set_cons_succ]); (try clear g); intro g))
  refine (qParse_e { data := #[45, 45, 49] } 11 1 1 mx rfl _ EF20.out (G.oldcell g HM.out) (G.oldcell g HG.out) (G.tab g HT.out)).mono ?_
  rintro e w1 ⟨An36, cn36, Fn36, Bn36, dn36, Hn36, rfl, hsn36, htn36, hn, hm⟩
  have hnnn36 := fun k o hk => Nat.le_trans g.chg.size (hn.new k o hk)
  have hmmn36 := fun k o hk => Nat.le_trans g.chg.size (hm.new k o hk)
  obtain ⟨g1, rfl⟩ := G.new2_ex _ hn hm
  clear hn hm
  (try clear g)
  revert g1
  intro g
  go_wp2_with (with_reducible refine G.any_mark _ ?_; (try generalize Array.size (World.heap (G.w _)) = bk); (try dsimp only [List.set_cons_zero, List.set_cons_succ]); (try clear g); intro g)
  (try (refine cmark _ ?_; (try dsimp only [List.set_cons_zero, List.set_cons_succ]); (try clear g); intro g))
  refine (qParse_e { data := #[49, 47, 48, 50] } 11 2 2 mx rfl _ EF21.out (G.oldcell g HM.out) (G.oldcell g HG.out) (G.tab g HT.out)).mono ?_
  rintro e w1 ⟨An37, cn37, Fn37, Bn37, dn37, Hn37, rfl, hsn37, htn37, hn, hm⟩
  have hnnn37 := fun k o hk => Nat.le_trans g.chg.size (hn.new k o hk)
  have hmmn37 := fun k o hk => Nat.le_trans g.chg.size (hm.new k o hk)
  obtain ⟨g1, rfl⟩ := G.new2_ex _ hn hm
  clear hn hm
  (try clear g)
  revert g1
  intro g
  go_wp2_with (with_reducible refine G.any_mark _ ?_; (try generalize Array.size (World.heap (G.w _)) = bk); (try dsimp only [List.set_cons_zero, List.set_cons_succ]); (try clear g); intro g)
  (try (refine cmark _ ?_; (try dsimp only [List.set_cons_zero, List.set_cons_succ]); (try clear g); intro g))
  refine (qParse_e { data := #[49, 47, 50, 47, 51] } 11 3 3 mx rfl _ EF22.out (G.oldcell g HM.out) (G.oldcell g HG.out) (G.tab g HT.out)).mono ?_
  rintro e w1 ⟨An38, cn38, Fn38, Bn38, dn38, Hn38, rfl, hsn38, htn38, hn, hm⟩
  have hnnn38 := fun k o hk => Nat.le_trans g.chg.size (hn.new k o hk)
  have hmmn38 := fun k o hk => Nat.le_trans g.chg.size (hm.new k o hk)
  obtain ⟨g1, rfl⟩ := G.new2_ex _ hn hm
  clear hn hm
  (try clear g)
  revert g1
  intro g
  go_wp2_with (with_reducible refine G.any_mark _ ?_; (try generalize Array.size (World.heap (G.w _)) = bk); (try dsimp only [List.set_cons_zero, List.set_cons_succ]); (try clear g); intro g)
  (as_aux_lemma =>
  (try (refine cmark _ ?_; (try dsimp only [List.set_cons_zero, List.set_cons_succ]); (try clear g); intro g))
  refine (CT1.out _).mono ?_
  rintro e w1 ⟨rfl, hb⟩
  obtain ⟨g1, rfl⟩ := G.call_ex _ hb
  clear hb
  (try clear g)
  revert g1
  intro g
  go_wp2_with (with_reducible refine G.any_mark _ ?_; (try generalize Array.size (World.heap (G.w _)) = bk); (try dsimp only [List.set_cons_zero, List.set_cons_succ]); (try clear g); intro g)
  (try (refine cmark _ ?_; (try dsimp only [List.set_cons_zero, List.set_cons_succ]); (try clear g); intro g))
  refine (qParse_e SO 4 5000 5000 mx rfl _ HPO.out (G.oldcell g HM.out) (G.oldcell g HG.out) (G.tab g HT.out)).mono ?_
  rintro e w1 ⟨An39, cn39, Fn39, Bn39, dn39, Hn39, rfl, hsn39, htn39, hn, hm⟩
  have hnnn39 := fun k o hk => Nat.le_trans g.chg.size (hn.new k o hk)
  have hmmn39 := fun k o hk => Nat.le_trans g.chg.size (hm.new k o hk)
  obtain ⟨g1, rfl⟩ := G.new2_ex _ hn hm
  clear hn hm
  (try clear g)
  revert g1
  intro g
  go_wp2_with (with_reducible refine G.any_mark _ ?_; (try generalize Array.size (World.heap (G.w _)) = bk); (try dsimp only [List.set_cons_zero, List.set_cons_succ]); (try clear g); intro g)
  (try (refine cmark _ ?_; (try dsimp only [List.set_cons_zero, List.set_cons_succ]); (try clear g); intro g))
  refine (lis_x _ _ _ _ (3) (2) z32 (by decide) EO19.out (by decide) (by decide) (by decide) (by decide) _ (G.sl g (by simp) hsn32) (G.sl g (by simp) htn32)).mono ?_
  rintro e w1 ⟨rfl, hb⟩
  obtain ⟨g1, rfl⟩ := G.call_ex _ hb
  clear hb
  (try clear g)
  revert g1
  intro g
  go_wp2_with (with_reducible refine G.any_mark _ ?_; (try generalize Array.size (World.heap (G.w _)) = bk); (try dsimp only [List.set_cons_zero, List.set_cons_succ]); (try clear g); intro g)
  (try (refine cmark _ ?_; (try dsimp only [List.set_cons_zero, List.set_cons_succ]); (try clear g); intro g))
  refine (lis_x _ _ _ _ (0) (1) zo (by decide) EO7.out (by decide) (by decide) (by decide) (by decide) _ (G.sl g (by simp) hsn33) (G.sl g (by simp) htn33)).mono ?_
  rintro e w1 ⟨rfl, hb⟩
  obtain ⟨g1, rfl⟩ := G.call_ex _ hb
  clear hb
  (try clear g)
  revert g1
  intro g
  go_wp2_with (with_reducible refine G.any_mark _ ?_; (try generalize Array.size (World.heap (G.w _)) = bk); (try dsimp only [List.set_cons_zero, List.set_cons_succ]); (try clear g); intro g)
  (as_aux_lemma =>
  obtain ⟨g2, hg2⟩ := G.less g (List.Sublist.cons_cons _ (List.Sublist.cons_cons _ (List.nil_sublist _)))
  rw [hg2]
  clear hg2
  (try clear g)
  revert g2
  intro g
  obtain ⟨g2, hg2⟩ := G.lessI g (I' := [heapOf w]) (by simp)
  rw [hg2]
  clear hg2
  (try clear g)
  revert g2
  intro g
  (try (refine cmark _ ?_; (try dsimp only [List.set_cons_zero, List.set_cons_succ]); (try clear g); intro g))
  refine (check_a _ _ _ (G.lim1 g [2] 1 rfl rfl (by decide) (ok1 (by decide))) (G.lim0 g [4] 1 rfl rfl (by decide) (ok1 (by decide))) (G.tab g HT.out)).mono ?_
  rintro e w1 ⟨rfl, hb⟩
  obtain ⟨g1, rfl⟩ := G.call_ex _ hb
  clear hb
  (try clear g)
  revert g1
  intro g
  go_wp2_with (with_reducible refine G.any_mark _ ?_; (try generalize Array.size (World.heap (G.w _)) = bk); (try dsimp only [List.set_cons_zero, List.set_cons_succ]); (try clear g); intro g)
  (try (refine cmark _ ?_; (try dsimp only [List.set_cons_zero, List.set_cons_succ]); (try clear g); intro g))
  refine (check_b _ _ (G.lim0 g [1] 1 rfl rfl (by decide) (ok1 (by decide))) (G.tab g HT.out)).mono ?_
  rintro e w1 ⟨rfl, hb⟩
  obtain ⟨g1, rfl⟩ := G.call_ex _ hb
  clear hb
  (try clear g)
  revert g1
  intro g
  go_wp2_with (with_reducible refine G.any_mark _ ?_; (try generalize Array.size (World.heap (G.w _)) = bk); (try dsimp only [List.set_cons_zero, List.set_cons_succ]); (try clear g); intro g)
  (as_aux_lemma =>
  (try (refine cmark _ ?_; (try dsimp only [List.set_cons_zero, List.set_cons_succ]); (try clear g); intro g))
  refine (check_c _ (G.tab g HT.out)).mono ?_
  rintro e w1 ⟨rfl, hb⟩
  obtain ⟨g1, rfl⟩ := G.call_ex _ hb
  clear hb
  (try clear g)
  revert g1
  intro g
  go_wp2_with (with_reducible refine G.any_mark _ ?_; (try generalize Array.size (World.heap (G.w _)) = bk); (try dsimp only [List.set_cons_zero, List.set_cons_succ]); (try clear g); intro g)
  (try (refine cmark _ ?_; (try dsimp only [List.set_cons_zero, List.set_cons_succ]); (try clear g); intro g))
  refine (check_d _ _ (G.lim0 g [0] 1 rfl rfl (by decide) (ok1 (by decide))) (G.tab g HT.out)).mono ?_
  rintro e w1 ⟨rfl, hb⟩
  obtain ⟨g1, rfl⟩ := G.call_ex _ hb
  clear hb
  (try clear g)
  revert g1
  intro g
  go_wp2_with (with_reducible refine G.any_mark _ ?_; (try generalize Array.size (World.heap (G.w _)) = bk); (try dsimp only [List.set_cons_zero, List.set_cons_succ]); (try clear g); intro g)
  (refine G.any_mark _ ?_; (try dsimp only [List.set_cons_zero, List.set_cons_succ]); (try clear g); intro g)
  obtain ⟨g2, hg2⟩ := G.less g (List.Sublist.cons_cons _ (List.Sublist.cons_cons _ (List.nil_sublist _)))
  rw [hg2]
  clear hg2
  (try clear g)
  revert g2
  intro g
  rename_i bd K9 ha9
  (try clear HBzo)
  (try clear HBzm2)
  (try clear HBzh)
  (try clear HBzt)
  (try clear HBzmh)
  (try clear HBzm43)
  (try clear HBzm23)
  (try clear HBz34)
  (try clear HBzm34)
  (try clear HBz23)
  (try clear HBzm32)
  (try clear HBz52)
  (try clear HBz3)
  (try clear HBzm7)
  (try clear HBzmB)
  (try clear HBz4)
  (try clear HBz32)
  (try clear EO0)
  (try clear EO1)
  (try clear EO2)
  (try clear EF1)
  (try clear EO3)
  (try clear EO4)
  (try clear EF2)
  (try clear EO6)
  (try clear EF3)
  (try clear EF4)
  (try clear EO7)
  (try clear EF5)
  (try clear EO8)
  (try clear EO9)
  (try clear EO10)
  (try clear EO11)
  (try clear EF6)
  (try clear EO12)
  (try clear EF7)
  (try clear EO13)
  (try clear EF8)
  (try clear HC8)
  (try clear EF9)
  (try clear HC9)
  (try clear EO14)
  (try clear EF10)
  (try clear HC10)
  (try clear EF11)
  (try clear HC11)
  (try clear EO15)
  (try clear EO16)
  (try clear EF12)
  (try clear EF13)
  (try clear EO17)
  (try clear EF14)
  (try clear EO18)
  (try clear EQT)
  (try clear EF16)
  (try clear EF17)
  (try clear EF18)
  (try clear EF19)
  (try clear EF20)
  (try clear EF21)
  (try clear EF22)
  (try clear HPO)
  (try clear EO19)
  (try clear HM)
  (try clear HG)
  (try clear hsn1)
  (try clear htn1)
  (try clear hnnn1)
  (try clear hmmn1)
  (try clear hsn2)
  (try clear htn2)
  (try clear hnnn2)
  (try clear hmmn2)
  (try clear hsn3)
  (try clear htn3)
  (try clear hnnn3)
  (try clear hmmn3)
  (try clear hsn4)
  (try clear htn4)
  (try clear hnnn4)
  (try clear hmmn4)
  (try clear hsn5)
  (try clear htn5)
  (try clear hnnn5)
  (try clear hmmn5)
  (try clear hsn6)
  (try clear htn6)
  (try clear hnnn6)
  (try clear hmmn6)
  (try clear hsn7)
  (try clear htn7)
  (try clear hnnn7)
  (try clear hmmn7)
  (try clear hsn8)
  (try clear htn8)
  (try clear hnnn8)
  (try clear hmmn8)
  (try clear hsn9)
  (try clear htn9)
  (try clear hnnn9)
  (try clear hmmn9)
  (try clear hsn10)
  (try clear htn10)
  (try clear hnnn10)
  (try clear hmmn10)
  (try clear hsn11)
  (try clear htn11)
  (try clear hnnn11)
  (try clear hmmn11)
  (try clear hsn12)
  (try clear htn12)
  (try clear hnnn12)
  (try clear hmmn12)
  (try clear hsn13)
  (try clear htn13)
  (try clear hnnn13)
  (try clear hmmn13)
  (try clear hsn14)
  (try clear htn14)
  (try clear hnnn14)
  (try clear hmmn14)
  (try clear hsn15)
  (try clear htn15)
  (try clear hnnn15)
  (try clear hmmn15)
  (try clear hsn16)
  (try clear htn16)
  (try clear hnnn16)
  (try clear hmmn16)
  (try clear hsn17)
  (try clear htn17)
  (try clear hnnn17)
  (try clear hmmn17)
  (try clear hsn18)
  (try clear htn18)
  (try clear hnnn18)
  (try clear hmmn18)
  (try clear hsn19)
  (try clear htn19)
  (try clear hnnn19)
  (try clear hmmn19)
  (try clear hsn20)
  (try clear htn20)
  (try clear hnnn20)
  (try clear hmmn20)
  (try clear hsn21)
  (try clear htn21)
  (try clear hnnn21)
  (try clear hmmn21)
  (try clear hsn22)
  (try clear htn22)
  (try clear hnnn22)
  (try clear hmmn22)
  (try clear hsn23)
  (try clear htn23)
  (try clear hnnn23)
  (try clear hmmn23)
  (try clear hsn24)
  (try clear htn24)
  (try clear hnnn24)
  (try clear hmmn24)
  (try clear hsn25)
  (try clear htn25)
  (try clear hnnn25)
  (try clear hmmn25)
  (try clear hsn26)
  (try clear htn26)
  (try clear hnnn26)
  (try clear hmmn26)
  (try clear hsn27)
  (try clear htn27)
  (try clear hnnn27)
  (try clear hmmn27)
  (try clear hsn28)
  (try clear htn28)
  (try clear hnnn28)
  (try clear hmmn28)
  (try clear hsn29)
  (try clear htn29)
  (try clear hnnn29)
  (try clear hmmn29)
  (try clear hsn30)
  (try clear htn30)
  (try clear hnnn30)
  (try clear hmmn30)
  (try clear hsn31)
  (try clear htn31)
  (try clear hnnn31)
  (try clear hmmn31)
  (try clear hsn32)
  (try clear htn32)
  (try clear hnnn32)
  (try clear hmmn32)
  (try clear hsn33)
  (try clear htn33)
  (try clear hnnn33)
  (try clear hmmn33)
  (try clear hsn34)
  (try clear htn34)
  (try clear hnnn34)
  (try clear hmmn34)
  (try clear hsn35)
  (try clear htn35)
  (try clear hnnn35)
  (try clear hmmn35)
  (try clear hsn36)
  (try clear htn36)
  (try clear hnnn36)
  (try clear hmmn36)
  (try clear hsn37)
  (try clear htn37)
  (try clear hnnn37)
  (try clear hmmn37)
  (try clear hsn38)
  (try clear htn38)
  (try clear hnnn38)
  (try clear hmmn38)
  (try clear hsn39)
  (try clear htn39)
  (try clear hnnn39)
  (try clear hmmn39)
  obtain ⟨i0, hi, hzz0, hzz1, hzz2⟩ := info_parts infoU32
  have HR0 : Hid (u32s (List.replicate 1 4294967295) = [.int .u32 4294967295]) := Lib.hid rfl
  have HRS : Hid (∀ k, u32s (List.replicate (k + 1) 4294967295) = u32s (List.replicate k 4294967295) ++ [.int .u32 4294967295]) := Lib.hid fun k => by
    rw [← rep_snoc, u32s_append]; rfl
  obtain ⟨n, hn⟩ : ∃ n : Nat, n = 256 := ⟨_, rfl⟩
  have H1 : ∀ u ∈ [Value.int .u32 4294967295], u.oneCell' = true := by intro u hu; rw [List.mem_singleton.1 hu]; rfl
  have HN := Lib.hid hn
  have hn' : (256 : Int) = (n : Int) := by omega
  have hnb : n ≤ 256 := by omega
  clear hn
  go_loopg [59] n (fun gk s59 wr => ∃ k : Nat, k + gk = n ∧ s59 = .int .i64 (k : Int) ∧ ((k = 0 ∧ ∃ g : G w [] [(bk, 25, [.bool false, .slice none 0 0, .slice (some ⟨bd, 0, none⟩) 1 1]), (bd, 29, [.int .u32 1])] [heapOf w], wr = g.w) ∨ (0 < k ∧ ∃ b cap cs, Row 29 1 k (u32s (List.replicate k 4294967295)) cap cs ∧ w.heap.size ≤ b ∧ ∃ g : G w [] [(b, 29, cs), (bk, 25, [.bool false, .slice (some ⟨b, 0, none⟩) k cap, .slice (some ⟨bd, 0, none⟩) 1 1]), (bd, 29, [.int .u32 1])] [heapOf w], wr = g.w)))
  case atStart => exact ⟨0, by omega, rfl, .inl ⟨rfl, g, rfl⟩⟩
  case round =>
    clear g
    obtain ⟨kq, rfl⟩ : ∃ kq : Nat, kq = gk := ⟨_, rfl⟩
    obtain ⟨k, hkg, rfl, hcase⟩ := hrel
    by_cases hk : k < n
    · have hki : (k : Int) < 256 := by omega
      rcases hcase with ⟨rfl, g, rfl⟩ | ⟨hk0, b, cap, cs, hrow, hb, g, rfl⟩
      · (as_aux_lemma =>
          go_wp2_with (first | (with_reducible refine G.any_mark _ ?_; (try generalize Array.size (World.heap (G.w _)) = bk); (try dsimp only [List.set_cons_zero, List.set_cons_succ]); (try clear g); intro g) | (at_builtin; refine wpList_append_lit0 rfl _ _ 23 rfl 29 i0 _ 1 4 Tryz.underlying23 hi hzz0 hzz1 hzz2 rfl (by decide) g rfl 1 rfl rfl H1 (by decide) (by decide) (by decide) ?_; clear g; intro b cap cs g hb hrow))
          go_roundg (kq - 1)
          case measure => omega
          case rel => exact ⟨1, by omega, by go_num, .inr ⟨by omega, b, cap, cs, by rw [HR0.out]; exact hrow, hb, _, rfl⟩⟩)
      · have hk0i : (0 : Int) ≤ (k : Int) := by omega
        have H2 : k + 1 ≤ maxLen := by show k + 1 ≤ 9223372036854775807; omega
        have H3 : (k + 1) * 4 ≤ 140737488355328 := by omega
        (as_aux_lemma =>
          go_wp2_with (first | (with_reducible refine G.any_mark _ ?_; (try generalize Array.size (World.heap (G.w _)) = bk); (try dsimp only [List.set_cons_zero, List.set_cons_succ]); (try clear g); intro g) | (at_builtin; refine wpList_append_lit rfl _ _ 23 rfl 29 i0 _ 1 4 Tryz.underlying23 hi hzz0 hzz1 hzz2 rfl (by decide) g hrow hb rfl 1 rfl rfl H1 (by decide) H2 H3 ?_; clear hb hrow g; intro b cap cs g hb hrow))
          go_roundg (kq - 1)
          case measure => omega
          case rel => exact ⟨k + 1, by omega, by go_num, .inr ⟨by omega, b, cap, cs, by rw [HRS.out]; exact hrow, hb, _, rfl⟩⟩)
    · have hki : ¬ ((k : Int) < 256) := by omega
      have hkn : k = n := by omega
      subst hkn
      rcases hcase with ⟨h0, g, rfl⟩ | ⟨hk0, b, cap, cs, hrow, hb, g, rfl⟩
      · exfalso; have := HN.out; omega
      · obtain rfl : k = 256 := HN.out
        clear hkg hki hk hn' hnb HN H1 HR0 HRS hi hzz0 hzz1 hzz2 hk0
        go_wp2_with (with_reducible refine G.any_mark _ ?_; (try generalize Array.size (World.heap (G.w _)) = bk); (try dsimp only [List.set_cons_zero, List.set_cons_succ]); (try clear g); intro g)
        exact tail_reg w HT.out z1 HBz1 EO5 b cap bk bd cs hrow hb g (by assumption)))))))))))))))))))
end Go.Proofs.YtjdnpkicdmapnaaGreatDoor
