/- Plain facts and contracts of functions of the program, out of walks. Their conditions stand ahead of each. -/
import Derived.Test.YthhbbnfnejjpiaaGreatDoorNm9
import Derived.Test.YthhbbnfnejjpiaaGreatDoorNm17
import Derived.Below
import Derived.BigQuiet
import Derived.Deep.Draws
import Derived.Deep.LoopGhost
import Derived.Deep.QuietTactic
import Derived.Deep.RegionHeld3
import Derived.Defers
import Derived.Laws.BytesString
import Derived.Laws.Cells
import Derived.Laws.CopyOwn
import Derived.Laws.NewBlocks
import Derived.Laws.OwnMore
import Derived.Laws.Pointers
import Derived.Laws.Rows
import Derived.Lib.BitFns
import Derived.Lib.Hide
import Derived.Lib.ItoaNum
import Derived.LoopIn
import Derived.LoopNIn
import Derived.Maps.AppendAt
import Derived.OrdersHeld
import Derived.OrdersIn
import Derived.OwnWalk
import Derived.OwnWalkIn
import Derived.RangeFuncBound
import Derived.RangeFuncBox
import Derived.RangeFuncCalls
import Derived.RangeFuncLeaves
import Derived.RangeFuncNested
import Derived.RowKit3
import Derived.Shelf.Abstract
import Derived.Shelf.RegionOpen
import Derived.Shelf.Spec.TrailingZeros
import Derived.StillTactics
import Derived.StillTailTactics
import Derived.TacticsInMore
import Derived.Test.YthhbbnfnejjpiaaGreatDoorProg
import Derived.WalkKit
import Derived.WalkLawsBesides
import Derived.WalkMore
import Derived.WalkSpells
set_option linter.unusedVariables false
set_option linter.unusedSimpArgs false
namespace Go.Proofs.YthhbbnfnejjpiaaGreatDoor
open Go.RowKit GW NL
theorem lcmp_same (A1 A2:Option Addr)(c1 c2:Nat)(l1 l2:List Nat)(w:World)(h1:SlW w A1 c1 l1)(h2:SlW w A2 c2 l2)(hl:l1.length=l2.length)(hl9:l1.length≤1000000000):
  Calls Tryz.prog 157 #[.slice A1 l1.length c1,.slice A2 l2.length c2] w fun e w'=>e=.returned (.int .i64 (ord (val l1) (val l2)))∧Below w.heap.size w w':=by
 obtain⟨n,hn⟩:∃n,l1.length=n:=⟨_,rfl⟩
 have hn2:l2.length=n:=by omega
 have o1:=h1.ok
 have o2:=h2.ok
 rw[hn2,hn]
 have H1:=Lib.hid hn
 have H2:=Lib.hid hn2
 have hn9:n≤1000000000:=by omega
 clear hn hn2 hl hl9
 go_enter Tryz.func157,Tryz.ntmps157
 go_wp2_with fail
 go_loopg [5] n (fun gk s5 wr=>gk≤n∧s5=.int .i64 ((gk:Int)-1)∧Hid (∀j,gk≤j→j<n→l1.getD j 0=l2.getD j 0)∧Below w.heap.size w wr)
 case atStart=>exact⟨Nat.le_refl _,rfl,fun j h1 h2=>by omega,Below.refl _ _⟩
 case round=>
  obtain⟨hg,rfl,HE,hb⟩:=hrel
  cases gk with
  |zero=>
   have he:l1=l2:=eq_of_all (by rw[H1.out,H2.out]) fun j hj=>HE.out j (Nat.zero_le _) (by rw[←H1.out];exact hj)
   have hord:ord (val l1) (val l2)=0:=by rw[he];exact ord_self _
   have HO:=Lib.hid hord
   clear he hord
   go_wp2_with fail
   go_ret
   exact⟨ret_int HO.out.symm,hb⟩
  |succ k=>
   rw[show((k+1:Nat):Int)-1=(k:Int) by omega]
   have k1:(k:Int)<(n:Int):=by omega
   obtain⟨b1,p1,rfl,hc1⟩:=limW_cell h1.lim (by rw[H1.out];omega)
   obtain⟨b2,p2,rfl,hc2⟩:=limW_cell h2.lim (by rw[H2.out];omega)
   have e1:=below_old hb (hc1 k (by rw[H1.out];omega))
   have e2:=below_old hb (hc2 k (by rw[H2.out];omega))
   clear hc1 hc2
   have hat:=fun hne=>Lib.hid (ord_at o1 o2 (by rw[H1.out,H2.out]) (k:=k) (by rw[H1.out];omega) (fun j hj hj2=>HE.out j (by omega) (by rw[←H1.out];exact hj2)) hne)
   have HAT:=Lib.hid hat
   clear hat
   obtain⟨x,hx⟩:∃x,l1.getD k 0=x:=⟨_,rfl⟩
   obtain⟨y,hy⟩:∃y,l2.getD k 0=y:=⟨_,rfl⟩
   rw[hx] at e1 HAT
   rw[hy] at e2 HAT
   have HX:=Lib.hid hx
   have HY:=Lib.hid hy
   clear hx hy
   rcases Nat.lt_trichotomy x y with h|h|h
   ·have h':(x:Int)<(y:Int):=by omega
    have hord:ord (val l1) (val l2)= -1:=by rw[(HAT.out (by omega)).out];unfold ord;rw[if_pos h]
    have HO:=Lib.hid hord
    clear hord HAT h
    have hne:((x:Int)==(y:Int))=false:=by rw[beq_eq_false_iff_ne];omega
    have hne2:¬ ((x:Int)=(y:Int)):=by omega
    go_wp2_with fail
    go_quiet (fail)
    go_wp2_with fail
    go_quiet (fail)
    go_wp2_with fail
    go_ret
    exact⟨ret_int HO.out.symm,⟨hb.os,hb.tape,hb.output,hb.size,hb.block⟩⟩
   ·subst h
    have h':¬ ((x:Int)<(x:Int)):=by omega
    clear HAT
    go_wp2_with fail
    go_quiet (fail)
    go_wp2_with fail
    go_roundg k
    case measure=>omega
    case rel=>exact⟨by omega,rfl,fun j hj1 hj2=>by
     rcases Nat.lt_or_ge k j with h|h
     ·exact HE.out j (by omega) hj2
     ·obtain rfl:j=k:=by omega
      rw[HX.out,HY.out],⟨hb.os,hb.tape,hb.output,hb.size,hb.block⟩⟩
   ·have h':¬ ((x:Int)<(y:Int)):=by omega
    have h'':(y:Int)<(x:Int):=by omega
    have hord:ord (val l1) (val l2)=1:=by rw[(HAT.out (by omega)).out];unfold ord;rw[if_neg (by omega),if_pos h]
    have HO:=Lib.hid hord
    clear hord HAT h
    have hne:((x:Int)==(y:Int))=false:=by rw[beq_eq_false_iff_ne];omega
    have hne2:¬ ((x:Int)=(y:Int)):=by omega
    go_wp2_with fail
    go_quiet (fail)
    go_wp2_with fail
    go_quiet (fail)
    go_wp2_with fail
    go_ret
    exact⟨ret_int HO.out.symm,⟨hb.os,hb.tape,hb.output,hb.size,hb.block⟩⟩
/-- what compare returns -/
def lcv (a b:Nat):Int:=if(limbs a).length=(limbs b).length then ord a b else((limbs a).length:Int)-((limbs b).length:Int)
theorem lcv_lt {a b:Nat}:lcv a b<0↔a<b:=by
 unfold lcv
 split
 ·unfold ord;split
  ·simp;assumption
  ·split<;>simp<;>omega
 ·next h=>
  rcases Nat.lt_trichotomy (limbs a).length (limbs b).length with h1|h1|h1
  ·have:=limbs_lt_of_len h1;constructor<;>intro<;>omega
  ·exact absurd h1 h
  ·have:=limbs_lt_of_len h1;constructor<;>intro<;>omega
theorem lcv_eq {a b:Nat}:lcv a b=0↔a=b:=by
 unfold lcv
 split
 ·unfold ord;split
  ·simp;omega
  ·split<;>simp<;>omega
 ·next h=>
  constructor
  ·intro;omega
  ·rintro rfl;exact absurd rfl h
theorem lcv_rng {a b:Nat}(h1:(limbs a).length≤1000000000)(h2:(limbs b).length≤1000000000): -1000000000≤lcv a b∧lcv a b≤1000000000:=by
 unfold lcv
 split
 ·unfold ord;split
  ·decide
  ·split<;>decide
 ·omega
theorem lcmp_any (A1 A2:Option Addr)(c1 c2 a b:Nat)(w:World)(h1:SlW w A1 c1 (limbs a))(h2:SlW w A2 c2 (limbs b))(hl9:(limbs a).length≤1000000000)(hl8:(limbs b).length≤1000000000):
  Calls Tryz.prog 157 #[.slice A1 (limbs a).length c1,.slice A2 (limbs b).length c2] w fun e w'=>e=.returned (.int .i64 (lcv a b))∧Below w.heap.size w w':=by
 unfold lcv
 by_cases h:(limbs a).length=(limbs b).length
 ·have:=lcmp_same A1 A2 c1 c2 (limbs a) (limbs b) w h1 h2 h hl9
  rw[if_pos h]
  rwa[val_limbs,val_limbs] at this
 ·rw[if_neg h]
  have hne:(((limbs a).length:Int)==((limbs b).length:Int))=false:=by rw[beq_eq_false_iff_ne];omega
  have hne2:¬ (((limbs a).length:Int)=((limbs b).length:Int)):=by omega
  clear h h1 h2
  generalize (limbs a).length=n1 at*
  generalize (limbs b).length=n2 at*
  go_enter Tryz.func157,Tryz.ntmps157
  go_wp2_with fail
  go_ret
  exact⟨ret_int (by omega),Below.refl _ _⟩
end Go.Proofs.YthhbbnfnejjpiaaGreatDoor
