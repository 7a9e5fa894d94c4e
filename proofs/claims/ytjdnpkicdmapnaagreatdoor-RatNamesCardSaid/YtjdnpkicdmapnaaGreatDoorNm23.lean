/- Plain facts and contracts of functions of the program, out of walks. Their conditions stand ahead of each. -/
import Derived.Test.YtjdnpkicdmapnaaGreatDoorNm1
import Derived.Test.YtjdnpkicdmapnaaGreatDoorNm17
import Derived.Test.YtjdnpkicdmapnaaGreatDoorNm18
import Derived.Below
import Derived.BigQuiet
import Derived.Deep.Draws
import Derived.Deep.LoopGhost
import Derived.Deep.QuietTactic
import Derived.Deep.RegionHeld3
import Derived.Laws.CopyOwn
import Derived.Laws.NewBlocks
import Derived.Laws.OwnMore
import Derived.Laws.Pointers
import Derived.Laws.Rows
import Derived.Lib.BitFns
import Derived.Lib.Hide
import Derived.Lib.ItoaNum
import Derived.LoopIn
import Derived.LoopNIn
import Derived.Maps.AppendAt
import Derived.OrdersIn
import Derived.OwnWalk
import Derived.OwnWalkIn
import Derived.RangeFuncBound
import Derived.RangeFuncBox
import Derived.RangeFuncCalls
import Derived.RangeFuncLeaves
import Derived.RangeFuncNested
import Derived.RowKit3
import Derived.Shelf.Abstract
import Derived.Shelf.RegionOpen
import Derived.StillTactics
import Derived.StillTailTactics
import Derived.TacticsInMore
import Derived.Test.YtjdnpkicdmapnaaGreatDoorProg
import Derived.WalkKit
import Derived.WalkLawsBesides
import Derived.WalkMore
import Derived.WalkSpells
set_option linter.unusedVariables false
set_option linter.unusedSimpArgs false
namespace Go.Proofs.YtjdnpkicdmapnaaGreatDoor
open Go.RowKit GW NL
theorem apart_of {w0 : World} {X : List Nat} {M : List Blk} {I : List Frag} (g : G w0 X M I) {F : Frag} (hF : F ∈ I) {A : Option Addr} {c : Nat} {l : List Nat} (h : F.Sl A c l) (hl : 0 < l.length) {b : Nat} (hb : b ∈ M.map (·.1)) : Apart A b := by
  obtain ⟨b', o, rfl, cs, T, fr, hf, _⟩ := h.lim hl
  intro a e
  cases e
  intro e
  exact (g.keep F hF b' _ hf).2 (by rw [show b' = b from e]; exact hb)
end Go.Proofs.YtjdnpkicdmapnaaGreatDoor
