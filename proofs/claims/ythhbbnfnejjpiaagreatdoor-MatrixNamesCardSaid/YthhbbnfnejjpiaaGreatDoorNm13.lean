/- Plain facts and contracts of functions of the program, out of walks. Their conditions stand ahead of each. -/
import Derived.Test.YthhbbnfnejjpiaaGreatDoorNm12
import Derived.Below
import Derived.BigQuiet
import Derived.Deep.Draws
import Derived.Deep.QuietTactic
import Derived.Deep.RegionHeld3
import Derived.Laws.NewBlocks
import Derived.Laws.OwnMore
import Derived.Laws.Pointers
import Derived.Laws.Rows
import Derived.Lib.BitFns
import Derived.Lib.Hide
import Derived.Lib.ItoaNum
import Derived.LoopIn
import Derived.LoopNIn
import Derived.OrdersHeld
import Derived.OwnWalkIn
import Derived.RangeFuncBound
import Derived.RangeFuncBox
import Derived.RangeFuncCalls
import Derived.RangeFuncLeaves
import Derived.RangeFuncNested
import Derived.RowKit3
import Derived.Shelf.Abstract
import Derived.Shelf.RegionOpen
import Derived.StillTactics
import Derived.StillTailTactics
import Derived.TacticsInMore
import Derived.Test.YthhbbnfnejjpiaaGreatDoorProg
import Derived.WalkKit
import Derived.WalkLawsBesides
import Derived.WalkSpells
set_option linter.unusedVariables false
set_option linter.unusedSimpArgs false
set_option exponentiation.threshold 10000
namespace Go.Proofs.YthhbbnfnejjpiaaGreatDoor
open Go.RowKit GW NL
theorem chk_ok {l:List Nat}(hk:Ok l)(h:chk l=0):l=limbs (val l)∧val l<2^8192∧l.length≤256:=by
 unfold chk at h
 by_cases h1:256<l.length
 ·rw[if_pos h1] at h;cases h
 ·rw[if_neg h1] at h
  by_cases h2:0<l.length∧l.getD (l.length-1) 0=0
  ·rw[if_pos h2] at h;cases h
  ·have t:Trim l:=by
    intro k hk2 h0
    exact h2 ⟨by omega,by rw[hk2];exact h0⟩
   have e:=limbs_val hk t
   refine⟨e.symm,?_,by omega⟩
   have:=(limbs_len (val l) 256).1 (by rw[e];omega)
   rwa[pow32] at this
theorem chk_limbs {v:Nat}(h:v<2^8192):chk (limbs v)=0:=by
 have hl:(limbs v).length≤256:=(limbs_len v 256).2 (by rw[pow32];exact h)
 unfold chk
 rw[if_neg (by omega),if_neg]
 rintro⟨h0,h1⟩
 exact trim_limbs v ((limbs v).length-1) (by omega) h1
end Go.Proofs.YthhbbnfnejjpiaaGreatDoor
