/- Plain facts and contracts of functions of the program, out of walks. Their conditions stand ahead of each. -/
import Derived.Test.YthhbbnfnejjpiaaGreatDoorNm1
import Derived.Below
import Derived.BigQuiet
import Derived.Deep.Draws
import Derived.Deep.QuietTactic
import Derived.Deep.RegionHeld3
import Derived.Laws.NewBlocks
import Derived.Laws.OwnMore
import Derived.Laws.Pointers
import Derived.Laws.Rows
import Derived.Lib.Hide
import Derived.OrdersHeld
import Derived.RowKit3
import Derived.StillTactics
import Derived.StillTailTactics
import Derived.Test.YthhbbnfnejjpiaaGreatDoorProg
import Derived.WalkKit
import Derived.WalkLawsBesides
import Derived.WalkSpells
set_option linter.unusedVariables false
set_option linter.unusedSimpArgs false
namespace Go.Proofs.YthhbbnfnejjpiaaGreatDoor
open Go.RowKit GW NL
/-- the error of limbs -/
def chk (l:List Nat):Int:=if 256<l.length then 4 else if 0<l.length∧l.getD (l.length-1) 0=0 then 3 else 0
theorem check_any (A:Option Addr)(c:Nat)(l:List Nat)(w:World)(h:SlW w A c l):
  Calls Tryz.prog 136 #[.slice A l.length c] w fun e w'=>e=.returned (.int .i64 (chk l))∧Below w.heap.size w w':=by
 have hm:=h.len
 have hmm:=h.max
 have hc:=h.cap
 unfold chk
 by_cases h1:256<l.length
 ·rw[if_pos h1]
  generalize l.length=n at*
  go_enter Tryz.func136,Tryz.ntmps136
  go_wp2_with fail
  go_ret
  exact⟨rfl,Below.refl _ _⟩
 ·rw[if_neg h1]
  by_cases h0:0<l.length
  ·obtain⟨b,o,rfl,hcell⟩:=limW_cell h.lim (by omega)
   have e1:=hcell (l.length-1) (by omega)
   clear hcell h
   generalize l.getD (l.length-1) 0=x at e1 ⊢
   generalize l.length=m at*
   have h0':(0:Int)<(m:Int):=by omega
   by_cases hx:x=0
   ·rw[if_pos ⟨by omega,hx⟩]
    have hx1:(((x:Nat):Int)==0)=true:=by simp[hx]
    clear hx
    generalize ((x:Nat):Int)=v at*
    go_enter Tryz.func136,Tryz.ntmps136
    go_wp2_with fail
    go_ret
    exact⟨rfl,Below.refl _ _⟩
   ·rw[if_neg (by omega)]
    have hx1:(((x:Nat):Int)==0)=false:=by simp[hx]
    clear hx
    generalize ((x:Nat):Int)=v at*
    go_enter Tryz.func136,Tryz.ntmps136
    go_wp2_with fail
    go_ret
    exact⟨rfl,Below.refl _ _⟩
  ·rw[if_neg (by omega)]
   have hl:l.length=0:=by omega
   rw[hl]
   go_enter Tryz.func136,Tryz.ntmps136
   go_wp2_with fail
   go_ret
   exact⟨rfl,Below.refl _ _⟩
theorem ret_slice {A:Option Addr}{n m c:Nat}(h:n=m):Ending.returned (.slice A n c)=.returned (.slice A m c):=by rw[h]
theorem ret_tup2 {k k':IntKind}{a a' b b':Int}(h:a=a')(h':b=b'):Ending.returned (.tuple #[.int k a,.int k' b])=.returned (.tuple #[.int k a',.int k' b']):=by rw[h,h']
theorem ret_int {k:IntKind}{a a':Int}(h:a=a'):Ending.returned (.int k a)=.returned (.int k a'):=by rw[h]
theorem add32_any (x y c:Nat)(hx:x<4294967296)(hy:y<4294967296)(hc:c<4294967296)(w:World):
  Calls Tryz.prog 173 #[.int .u32 x,.int .u32 y,.int .u32 c] w fun e w'=>e=.returned (.tuple #[.int .u32 (((x+y+c)%4294967296:Nat):Int),.int .u32 (((x+y+c)/4294967296:Nat):Int)])∧w=w':=by
 go_enter Tryz.func173,Tryz.ntmps173
 go_wp2_with fail
 go_ret2
 exact⟨ret_tup2 (by omega) (by omega),rfl⟩
theorem sub32_any (x y c:Nat)(hx:x<4294967296)(hy:y<4294967296)(hc:c≤1)(w:World):
  Calls Tryz.prog 164 #[.int .u32 x,.int .u32 y,.int .u32 c] w fun e w'=>e=.returned (.tuple #[.int .u32 (((x+4294967296-y-c)%4294967296:Nat):Int),.int .u32 (brw x y c:Nat)])∧w=w':=by
 have HB:=Lib.hid (K3.borrow32 x y c hx hy hc)
 go_enter Tryz.func164,Tryz.ntmps164
 go_wp2_with fail
 go_ret2
 exact⟨ret_tup2 (by omega) (by unfold brw;exact HB.out),rfl⟩
theorem mul_bound (x y z c:Nat)(hx:x<4294967296)(hy:y<4294967296)(hz:z<4294967296)(hc:c<4294967296):x*y+z+c<18446744073709551616∧x*y+z<18446744073709551616∧x*y<18446744073709551616:=by
 have:x*y≤4294967295*4294967295:=Nat.mul_le_mul (by omega) (by omega)
 omega
theorem infoU32:(Tryz.prog.info? 73).map (fun i=>(i.zero,i.size,i.bytes))=some (some (.int .u32 0),1,4):=by kernel_rfl
theorem madeU32 (n:Nat):madeCells (Value.int .u32 0).cells (n*1)=(u32s (List.replicate n 0)).toArray:=by
 rw[u32s_zeros,Nat.mul_one]
 apply Array.toList_inj.1
 exact(toList_madeCells_one _ _).trans (by simp)
theorem make_nat (n:Nat)(hn:n≤35184372088832)(w:World):(Instr.makeSlice 41 (.int .i64 (n:Int)) (.int .i64 (n:Int))).run Tryz.prog w=.ok (.slice (some ⟨w.heap.size,0,none⟩) n n) (w.alloc (.cells (u32s (List.replicate n 0)).toArray 73)):=by
 obtain⟨i0,hi,hz0,hz1,hz2⟩:=info_parts infoU32
 have h:=run_make (P:=Tryz.prog) w 41 73 i0 _ Tryz.underlying41 hi hz0 .i64 .i64 n n (by omega) (by omega) (by rw[hz2];omega) (by omega)
 rw[hz1] at h
 simp only[Int.toNat_natCast] at h
 rw[h,madeU32]
theorem u32s_zero_at {pre:List Nat}{k n:Nat}(hp:pre.length=k)(hk:k<n):(u32s (pre++List.replicate (n-k) 0))[k]?=some (.int .u32 0):=by
 rw[u32s_get,List.getElem?_append_right (by omega),hp,Nat.sub_self,List.getElem?_replicate,if_pos (by omega)];rfl
end Go.Proofs.YthhbbnfnejjpiaaGreatDoor
