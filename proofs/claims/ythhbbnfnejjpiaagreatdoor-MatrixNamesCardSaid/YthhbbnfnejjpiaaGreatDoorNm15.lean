/- Plain facts and contracts of functions of the program, out of walks. Their conditions stand ahead of each. -/
import Derived.Test.YthhbbnfnejjpiaaGreatDoorNm1
import Derived.Test.YthhbbnfnejjpiaaGreatDoorNm13
import Derived.Below
import Derived.BigQuiet
import Derived.Deep.Draws
import Derived.Deep.QuietTactic
import Derived.Deep.RegionHeld3
import Derived.Laws.NewBlocks
import Derived.Laws.OwnMore
import Derived.Laws.Pointers
import Derived.Laws.Rows
import Derived.Lib.BitFns
import Derived.Lib.Hide
import Derived.Lib.ItoaNum
import Derived.LoopIn
import Derived.LoopNIn
import Derived.Maps.AppendAt
import Derived.OrdersHeld
import Derived.OwnWalk
import Derived.OwnWalkIn
import Derived.RangeFuncBound
import Derived.RangeFuncBox
import Derived.RangeFuncCalls
import Derived.RangeFuncLeaves
import Derived.RangeFuncNested
import Derived.RowKit3
import Derived.Shelf.Abstract
import Derived.Shelf.RegionOpen
import Derived.StillTactics
import Derived.StillTailTactics
import Derived.TacticsInMore
import Derived.Test.YthhbbnfnejjpiaaGreatDoorProg
import Derived.WalkKit
import Derived.WalkLawsBesides
import Derived.WalkSpells
set_option linter.unusedVariables false
set_option linter.unusedSimpArgs false
namespace Go.Proofs.YthhbbnfnejjpiaaGreatDoor
open Go.RowKit GW NL
/-- What is returned reads as the limbs l, in new memory. -/
def RLim (l:List Nat)(w:World)(e:Ending)(w':World):Prop:=∃A c F,e=.returned (.slice A l.length c)∧F.Sl A c l∧New w w' F
theorem rlim_row {w0:World}{M:List Blk}{I:List Frag}{b cap n:Nat}{T:TypeId}{cs:List Value}{l:List Nat}(g:G w0 [] ((b,T,cs)::M) I)(h:Row T 1 n (u32s l) cap cs)(hn:l.length=n)(hlen:n≤140737488355328)(hk:Ok l):
  RLim l w0 (.returned (.slice (some ⟨b,0,none⟩) n cap)) g.w:=⟨_,cap,_,by rw[hn],sl_row h hn hlen hk,g.give (List.mem_cons_self ..)⟩
theorem own_any (A:Option Addr)(c:Nat)(l:List Nat)(w:World)(h:SlW w A c l)(hl9:l.length≤35184372088832):
  Calls Tryz.prog 124 #[.slice A l.length c] w (RLim l w):=by
 refine calls_b fun g=>?_
 have hk:=h.ok
 by_cases h0:l.length=0
 ·have hnil:l=[]:=List.eq_nil_of_length_eq_zero h0
  subst hnil
  have hmx:=h.max
  rw[List.length_nil]
  cases A
  ·go_enter Tryz.func124,Tryz.ntmps124
   go_wp2_with (with_reducible refine yq _ ?_;(try generalize (G.w _).heap.size=bk);(try dsimp only[yi,yj]);(try clear g);intro g)
   go_ret
   exact⟨_,0,_,rfl,Frag.Sl.nilc _ _ (by decide),g.none⟩
  ·go_enter Tryz.func124,Tryz.ntmps124
   go_wp2_with (with_reducible refine yq _ ?_;(try generalize (G.w _).heap.size=bk);(try dsimp only[yi,yj]);(try clear g);intro g)
   go_ret
   exact⟨_,0,_,rfl,Frag.Sl.nilc _ _ (by decide),g.none⟩
 ·have hl:0<l.length:=by omega
  obtain⟨b,o,rfl,_⟩:=lim_cells h.lim hl
  have hnews:=fun(M:List Blk) (g:G w [] M [heapOf w])=>lim_news g (List.mem_cons_self ..) h.lim
  obtain⟨n,hn⟩:∃n,l.length=n:=⟨_,rfl⟩
  rw[hn] at hl hl9 ⊢
  have HN:=Lib.hid hn
  clear hn
  obtain⟨i0,hi,hz0,hz1,hz2⟩:=info_parts infoU32
  go_enter Tryz.func124,Tryz.ntmps124
  go_wp2_with (first|(with_reducible refine yq _ ?_;(try generalize (G.w _).heap.size=bk);(try dsimp only[yi,yj]);(try clear g);intro g)|(at_builtin;refine wpList_append_e rfl _ _ 40 rfl 73 i0 _ 1 4 Tryz.underlying40 hi hz0 hz1 hz2 rfl (by decide) g (by exact g.fresh (List.mem_cons_self ..)) rfl ⟨b,o,none⟩ n c (u32s l) rfl (by rw[u32s_len,HN.out,Nat.mul_one]) (hnews _ g) (u32s_one l) hl (by show n≤9223372036854775807;omega) (by omega) ?_;intro b2 cap cs g hb2 hr))
  go_ret
  exact rlim_row g hr HN.out (by omega) hk
set_option maxRecDepth 20000 in
theorem clone_any (A:Option Addr)(c:Nat)(l:List Nat)(w:World)(h:SlW w A c l)(hl9:l.length≤35184372088832):
  Calls Tryz.prog 117 #[.slice A l.length c] w (RLim l w):=by
 refine calls_b fun g=>?_
 have hk:=h.ok
 by_cases h0:l.length=0
 ·have hnil:l=[]:=List.eq_nil_of_length_eq_zero h0
  subst hnil
  have hmx:=h.max
  rw[List.length_nil]
  have heq:=fun(A:Option Addr) (n c:Nat) (w:World)=>Lib.run_eql_slice_nil (P:=Tryz.prog) w 41 73 A n c 0 0 Tryz.underlying41
  cases A
  ·go_enter Tryz.func117,Tryz.ntmps117
   go_wp2_with (with_reducible refine yq _ ?_;(try generalize (G.w _).heap.size=bk);(try dsimp only[yi,yj]);(try clear g);intro g)
   go_ret
   exact⟨_,0,_,rfl,Frag.Sl.nilc _ _ (by decide),g.none⟩
  ·go_enter Tryz.func117,Tryz.ntmps117
   go_wp2_with (with_reducible refine yq _ ?_;(try generalize (G.w _).heap.size=bk);(try dsimp only[yi,yj]);(try clear g);intro g)
   go_ret
   exact⟨_,0,_,rfl,Frag.Sl.nilc _ _ (by decide),g.none⟩
 ·have hl:0<l.length:=by omega
  obtain⟨b,o,rfl,_⟩:=lim_cells h.lim hl
  have hnews:=fun(M:List Blk) (g:G w [] M [heapOf w])=>lim_news g (List.mem_cons_self ..) h.lim
  have heq:=fun(A:Option Addr) (n c:Nat) (w:World)=>Lib.run_eql_slice_nil (P:=Tryz.prog) w 41 73 A n c 0 0 Tryz.underlying41
  obtain⟨n,hn⟩:∃n,l.length=n:=⟨_,rfl⟩
  rw[hn] at hl hl9 ⊢
  have HN:=Lib.hid hn
  clear hn
  obtain⟨i0,hi,hz0,hz1,hz2⟩:=info_parts infoU32
  go_enter Tryz.func117,Tryz.ntmps117
  go_wp2_with (first|(with_reducible refine yq _ ?_;(try generalize (G.w _).heap.size=bk);(try dsimp only[yi,yj]);(try clear g);intro g)|(at_builtin;refine wpList_append_e rfl _ _ 41 rfl 73 i0 _ 1 4 Tryz.underlying41 hi hz0 hz1 hz2 rfl (by decide) g (by exact g.fresh (List.mem_cons_self ..)) rfl ⟨b,o,none⟩ n c (u32s l) rfl (by rw[u32s_len,HN.out,Nat.mul_one]) (hnews _ g) (u32s_one l) hl (by show n≤9223372036854775807;omega) (by omega) ?_;intro b2 cap cs g hb2 hr))
  go_ret
  exact rlim_row g hr HN.out (by omega) hk
theorem below_old {w w':World}(h:Below w.heap.size w w'){a:Addr}{v:Value}(hv:w.cell? a=some v):w'.cell? a=some v:=
 (World.cell?_of_block (h.block _ (World.block_lt_of_cell? w a hv))).trans hv
set_option maxHeartbeats 1000000 in
theorem same_any (A1 A2:Option Addr)(c1 c2:Nat)(l:List Nat)(w:World)(h1:SlW w A1 c1 l)(h2:SlW w A2 c2 l):
  Calls Tryz.prog 75 #[.slice A1 l.length c1,.slice A2 l.length c2] w fun e w'=>e=.returned (.bool true)∧Below w.heap.size w w':=by
 have hmx:=h1.len
 obtain⟨n,hn⟩:∃n,l.length=n:=⟨_,rfl⟩
 have HN:=Lib.hid hn
 rw[hn] at hmx ⊢
 clear hn
 go_enter Tryz.func75,Tryz.ntmps75
 go_wp2_with fail
 go_loopw [5] (fun i wr=>∃k:Nat,k≤n∧i=.int .i64 k∧Below w.heap.size w wr) (fun i _=>n-(intOf i).toNat)
 case atStart=>exact⟨0,by omega,rfl,Below.refl _ _⟩
 case round=>
  obtain⟨k,hk,rfl,hb⟩:=hrel
  by_cases hlt:k<n
  ·have k0:(0:Int)≤k:=by omega
   have k1:(k:Int)<n:=by omega
   obtain⟨b1,o1,rfl,hc1⟩:=limW_cell h1.lim (by rw[HN.out];omega)
   obtain⟨b2,o2,rfl,hc2⟩:=limW_cell h2.lim (by rw[HN.out];omega)
   have e1:=below_old hb (hc1 k (by rw[HN.out];omega))
   have e2:=below_old hb (hc2 k (by rw[HN.out];omega))
   clear hc1 hc2
   generalize ((l.getD k 0:Nat):Int)=x at*
   go_wp2_with fail
   go_quiet (fail)
   go_wp2_with fail
   exact⟨⟨k+1,by omega,by go_num,⟨hb.os,hb.tape,hb.output,hb.size,hb.block⟩⟩,by simp[intOf];omega⟩
  ·have:k=n:=by omega
   subst this
   go_wp2_with fail
   go_ret
   exact⟨rfl,hb⟩
end Go.Proofs.YthhbbnfnejjpiaaGreatDoor
