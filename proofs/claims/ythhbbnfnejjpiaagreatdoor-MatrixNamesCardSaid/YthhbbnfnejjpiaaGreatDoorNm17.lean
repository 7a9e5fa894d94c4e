/- Plain facts and contracts of functions of the program, out of walks. Their conditions stand ahead of each. -/
import Derived.Test.YthhbbnfnejjpiaaGreatDoorNm1
import Derived.Test.YthhbbnfnejjpiaaGreatDoorNm2
import Derived.Test.YthhbbnfnejjpiaaGreatDoorNm14
import Derived.Test.YthhbbnfnejjpiaaGreatDoorNm15
import Derived.Below
import Derived.BigQuiet
import Derived.Deep.Draws
import Derived.Deep.LoopGhost
import Derived.Deep.QuietTactic
import Derived.Deep.RegionHeld3
import Derived.Defers
import Derived.Laws.BytesString
import Derived.Laws.Cells
import Derived.Laws.CopyOwn
import Derived.Laws.NewBlocks
import Derived.Laws.OwnMore
import Derived.Laws.Pointers
import Derived.Laws.Rows
import Derived.Lib.BitFns
import Derived.Lib.Hide
import Derived.Lib.ItoaNum
import Derived.LoopIn
import Derived.LoopNIn
import Derived.Maps.AppendAt
import Derived.OrdersHeld
import Derived.OrdersIn
import Derived.OwnWalk
import Derived.OwnWalkIn
import Derived.RangeFuncBound
import Derived.RangeFuncBox
import Derived.RangeFuncCalls
import Derived.RangeFuncLeaves
import Derived.RangeFuncNested
import Derived.RowKit3
import Derived.Shelf.Abstract
import Derived.Shelf.RegionOpen
import Derived.StillTactics
import Derived.StillTailTactics
import Derived.TacticsInMore
import Derived.Test.YthhbbnfnejjpiaaGreatDoorProg
import Derived.WalkKit
import Derived.WalkLawsBesides
import Derived.WalkMore
import Derived.WalkSpells
set_option linter.unusedVariables false
set_option linter.unusedSimpArgs false
set_option exponentiation.threshold 10000
namespace Go.Proofs.YthhbbnfnejjpiaaGreatDoor
open Go.RowKit GW NL
theorem lim1 {x:Nat}(h:x<4294967296)(h0:x≠0):limbs x=[x]:=limbs_one h0 h
theorem len_ne {v:Nat}(h:v≠0):0<(limbs v).length:=by
 rcases Nat.eq_zero_or_pos (limbs v).length with h1|h1
 ·exact absurd (limbs_nil.1 (List.eq_nil_of_length_eq_zero h1)) h
 ·exact h1
/-- trim: the limbs without zeros at the end; the slice keeps its address -/
theorem rtrim_any (A:Option Addr)(c:Nat)(l:List Nat)(w:World)(h:SlW w A c l):
  Calls Tryz.prog 155 #[.slice A l.length c] w fun e w'=>e=.returned (.slice A (limbs (val l)).length c)∧Below w.heap.size w w':=by
 have hm:=h.len
 have hmm:=h.max
 have hc:=h.cap
 have hk:=h.ok
 go_enter Tryz.func155,Tryz.ntmps155
 go_wp2_with fail
 go_loopw [0] (fun v wr=>∃k:Nat,k≤l.length∧v=.slice A k c∧val (l.take k)=val l∧Below w.heap.size w wr) (fun v _=>match v with| .slice _ k _=>k|_=>0)
 case atStart=>exact⟨l.length,Nat.le_refl _,rfl,by rw[List.take_length],Below.refl _ _⟩
 case round =>
  obtain⟨k,hk1,rfl,hv,hb⟩:=hrel
  have HV:=Lib.hid hv
  clear hv
  by_cases h0:0<k
  ·obtain⟨b,o,rfl,hcell⟩:=limW_cell h.lim (by omega)
   have e1:=(World.cell?_of_block (hb.block _ (World.block_lt_of_cell? w _ (hcell (k-1) (by omega))))).trans (hcell (k-1) (by omega))
   clear hcell h
   have hn:(limbs (val l)).length≤k:=by
    rw[←HV.out]
    have:=limbs_len_le_of_ok (hk.take k)
    rw[List.length_take] at this
    omega
   have h0':(0:Int)<(k:Int):=by omega
   by_cases hx:l.getD (k-1) 0=0
   ·have hv':val (l.take (k-1))=val l:=by
     rw[←HV.out]
     have:=val_take_getD l (k-1)
     rw[show k-1+1=k by omega,hx] at this
     omega
    have HV':=Lib.hid hv'
    clear hv'
    have hx1:(((l.getD (k-1) 0:Nat):Int)==0)=true:=by simp only[hx];rfl
    clear hx
    generalize ((l.getD (k-1) 0:Nat):Int)=v at*
    go_wp2_with fail
    refine⟨⟨k-1,by omega,?_,HV'.out,hb⟩,?_⟩
    ·rfl
    ·dsimp only;omega
   ·have hn':(limbs (val l)).length=k:=by
     have hl:(l.take k).length=k:=by rw[List.length_take];omega
     have t:Trim (l.take k):=by
      intro j hj
      rw[hl] at hj
      rw[getD_take (by omega),show j=k-1 by omega]
      exact hx
     rw[←HV.out,limbs_val (hk.take k) t,hl]
    have HN:=Lib.hid hn'
    clear hn'
    have hx1:(((l.getD (k-1) 0:Nat):Int)==0)=false:=by simp only[beq_eq_false_iff_ne,ne_eq];omega
    clear hx
    generalize ((l.getD (k-1) 0:Nat):Int)=v at*
    go_wp2_with fail
    go_ret
    exact⟨ret_slice HN.out.symm,hb⟩
  ·obtain rfl:k=0:=by omega
   have hn':(limbs (val l)).length=0:=by
    have:=HV.out
    rw[List.take_zero] at this
    rw[←this]
    rw[show val []=0 from rfl,limbs_zero];rfl
   have HN:=Lib.hid hn'
   clear hn'
   go_wp2_with fail
   go_ret
   exact⟨ret_slice HN.out.symm,hb⟩
theorem rlimb_any (A:Option Addr)(c:Nat)(l:List Nat)(i:Nat)(w:World)(h:SlW w A c l)(hi:i≤1000000000000):
  Calls Tryz.prog 167 #[.slice A l.length c,.int .i64 i] w fun e w'=>e=.returned (.int .u64 ((l.getD i 0:Nat):Int))∧w=w':=by
 have hm:=h.len
 have hmm:=h.max
 have hc:=h.cap
 by_cases hlt:i<l.length
 ·obtain⟨b,o,rfl,hcell⟩:=limW_cell h.lim (by omega)
  have e1:=hcell i hlt
  have hx:=h.ok.getD i
  clear hcell h
  generalize l.getD i 0=x at e1 hx ⊢
  generalize l.length=n at*
  have hw:IntKind.u64.wrap (x:Int)=(x:Int):=by rw[IntKind.wrap_u64];omega
  have hl:¬ ((n:Int)≤(i:Int)):=by omega
  go_enter Tryz.func167,Tryz.ntmps167
  go_wp2_with fail
  go_ret
  exact⟨rfl,rfl⟩
 ·have e1:l.getD i 0=0:=by rw[List.getD_eq_getElem?_getD,List.getElem?_eq_none (by omega)];rfl
  rw[e1]
  generalize l.length=n at*
  have hl:(n:Int)≤(i:Int):=by omega
  go_enter Tryz.func167,Tryz.ntmps167
  go_wp2_with fail
  go_ret
  exact⟨rfl,rfl⟩
theorem rcmp_same (A1 A2:Option Addr)(c1 c2:Nat)(l1 l2:List Nat)(w:World)(h1:SlW w A1 c1 l1)(h2:SlW w A2 c2 l2)(hl:l1.length=l2.length)(hl9:l1.length≤1000000000):
  Calls Tryz.prog 140 #[.slice A1 l1.length c1,.slice A2 l2.length c2] w fun e w'=>e=.returned (.int .i64 (ord (val l1) (val l2)))∧Below w.heap.size w w':=by
 obtain⟨n,hn⟩:∃n,l1.length=n:=⟨_,rfl⟩
 have hn2:l2.length=n:=by omega
 have o1:=h1.ok
 have o2:=h2.ok
 rw[hn2,hn]
 have H1:=Lib.hid hn
 have H2:=Lib.hid hn2
 have hn9:n≤1000000000:=by omega
 clear hn hn2 hl hl9
 go_enter Tryz.func140,Tryz.ntmps140
 go_wp2_with fail
 go_loopg [5] n (fun gk s5 wr=>gk≤n∧s5=.int .i64 ((gk:Int)-1)∧Hid (∀j,gk≤j→j<n→l1.getD j 0=l2.getD j 0)∧Below w.heap.size w wr)
 case atStart=>exact⟨Nat.le_refl _,rfl,fun j h1 h2=>by omega,Below.refl _ _⟩
 case round=>
  obtain⟨hg,rfl,HE,hb⟩:=hrel
  cases gk with
  |zero=>
   have he:l1=l2:=eq_of_all (by rw[H1.out,H2.out]) fun j hj=>HE.out j (Nat.zero_le _) (by rw[←H1.out];exact hj)
   have hord:ord (val l1) (val l2)=0:=by rw[he];exact ord_self _
   have HO:=Lib.hid hord
   clear he hord
   go_wp2_with fail
   go_ret
   exact⟨ret_int HO.out.symm,hb⟩
  |succ k=>
   rw[show((k+1:Nat):Int)-1=(k:Int) by omega]
   have k1:(k:Int)<(n:Int):=by omega
   obtain⟨b1,p1,rfl,hc1⟩:=limW_cell h1.lim (by rw[H1.out];omega)
   obtain⟨b2,p2,rfl,hc2⟩:=limW_cell h2.lim (by rw[H2.out];omega)
   have e1:=below_old hb (hc1 k (by rw[H1.out];omega))
   have e2:=below_old hb (hc2 k (by rw[H2.out];omega))
   clear hc1 hc2
   have hat:=fun hne=>Lib.hid (ord_at o1 o2 (by rw[H1.out,H2.out]) (k:=k) (by rw[H1.out];omega) (fun j hj hj2=>HE.out j (by omega) (by rw[←H1.out];exact hj2)) hne)
   have HAT:=Lib.hid hat
   clear hat
   obtain⟨x,hx⟩:∃x,l1.getD k 0=x:=⟨_,rfl⟩
   obtain⟨y,hy⟩:∃y,l2.getD k 0=y:=⟨_,rfl⟩
   rw[hx] at e1 HAT
   rw[hy] at e2 HAT
   have HX:=Lib.hid hx
   have HY:=Lib.hid hy
   clear hx hy
   rcases Nat.lt_trichotomy x y with h|h|h
   ·have h':(x:Int)<(y:Int):=by omega
    have hord:ord (val l1) (val l2)= -1:=by rw[(HAT.out (by omega)).out];unfold ord;rw[if_pos h]
    have HO:=Lib.hid hord
    clear hord HAT h
    go_wp2_with fail
    go_quiet (fail)
    go_wp2_with fail
    go_ret
    exact⟨ret_int HO.out.symm,⟨hb.os,hb.tape,hb.output,hb.size,hb.block⟩⟩
   ·subst h
    have h':¬ ((x:Int)<(x:Int)):=by omega
    clear HAT
    go_wp2_with fail
    go_quiet (fail)
    go_wp2_with fail
    go_quiet (fail)
    go_wp2_with fail
    go_roundg k
    case measure=>omega
    case rel=>exact⟨by omega,rfl,fun j hj1 hj2=>by
     rcases Nat.lt_or_ge k j with h|h
     ·exact HE.out j (by omega) hj2
     ·obtain rfl:j=k:=by omega
      rw[HX.out,HY.out],⟨hb.os,hb.tape,hb.output,hb.size,hb.block⟩⟩
   ·have h':¬ ((x:Int)<(y:Int)):=by omega
    have h'':(y:Int)<(x:Int):=by omega
    have hord:ord (val l1) (val l2)=1:=by rw[(HAT.out (by omega)).out];unfold ord;rw[if_neg (by omega),if_pos h]
    have HO:=Lib.hid hord
    clear hord HAT h
    go_wp2_with fail
    go_quiet (fail)
    go_wp2_with fail
    go_quiet (fail)
    go_wp2_with fail
    go_ret
    exact⟨ret_int HO.out.symm,⟨hb.os,hb.tape,hb.output,hb.size,hb.block⟩⟩
theorem rcmp_any (A1 A2:Option Addr)(c1 c2 a b:Nat)(w:World)(h1:SlW w A1 c1 (limbs a))(h2:SlW w A2 c2 (limbs b))(hl9:(limbs a).length≤1000000000):
  Calls Tryz.prog 140 #[.slice A1 (limbs a).length c1,.slice A2 (limbs b).length c2] w fun e w'=>e=.returned (.int .i64 (ord a b))∧Below w.heap.size w w':=by
 rcases Nat.lt_trichotomy (limbs a).length (limbs b).length with h|h|h
 ·have hord:ord a b= -1:=by unfold ord;rw[if_pos (limbs_lt_of_len h)]
  rw[hord]
  have h':((limbs a).length:Int)<((limbs b).length:Int):=by omega
  clear hord h
  generalize (limbs a).length=n1 at*
  generalize (limbs b).length=n2 at*
  go_enter Tryz.func140,Tryz.ntmps140
  go_wp2_with fail
  go_ret
  exact⟨rfl,Below.refl _ _⟩
 ·have:=rcmp_same A1 A2 c1 c2 (limbs a) (limbs b) w h1 h2 h hl9
  rwa[val_limbs,val_limbs] at this
 ·have hord:ord a b=1:=by have:=limbs_lt_of_len h;unfold ord;rw[if_neg (by omega),if_pos this]
  rw[hord]
  have h':¬ ((limbs a).length:Int)<((limbs b).length:Int):=by omega
  have h'':((limbs b).length:Int)<((limbs a).length:Int):=by omega
  clear hord h
  generalize (limbs a).length=n1 at*
  generalize (limbs b).length=n2 at*
  go_enter Tryz.func140,Tryz.ntmps140
  go_wp2_with fail
  go_ret
  exact⟨rfl,Below.refl _ _⟩
theorem nb_half {x:Nat}(h:x≠0):nb x=nb (x/2)+1:=by
 apply nb_uniq
 ·have:=nb_lt (x/2)
  rw[Nat.pow_succ];omega
 ·right
  rw[Nat.add_sub_cancel]
  by_cases h2:x/2=0
  ·rw[h2,nb_zero];omega
  ·have h3:=nb_ge h2
   have h4:=nb_pos h2
   have:2^nb (x/2)=2*2^(nb (x/2)-1):=by rw[←Nat.pow_succ'];congr 1;omega
   omega
theorem rbits_any (A:Option Addr)(c v:Nat)(w:World)(h:SlW w A c (limbs v))(hl:(limbs v).length≤1000000000):
  Calls Tryz.prog 150 #[.slice A (limbs v).length c] w fun e w'=>e=.returned (.int .i64 (nb v:Nat))∧Below w.heap.size w w':=by
 by_cases h0:v=0
 ·subst h0
  rw[limbs_zero,nb_zero]
  go_enter Tryz.func150,Tryz.ntmps150
  go_wp2_with fail
  go_ret
  exact⟨rfl,Below.refl _ _⟩
 ·obtain⟨m,hm⟩:∃m,(limbs v).length=m+1:=⟨(limbs v).length-1,by have:=len_ne h0;omega⟩
  obtain⟨b,o,rfl,hcell⟩:=limW_cell h.lim (by omega)
  have e1:=hcell m (by omega)
  have hx:=(ok_limbs v).getD m
  have hnb:=nb_top hm
  have hxn:nb ((limbs v).getD m 0)≤32:=(nb_le _ _).2 hx
  rw[hnb]
  clear hcell h h0
  generalize (limbs v).getD m 0=x at*
  have hm9:m≤1000000000:=by omega
  rw[hm]
  have hw1:IntKind.i64.wrap (32*(m:Int))=32*(m:Int):=by rw[IntKind.wrap_i64];omega
  clear hnb hm hl
  obtain⟨M,hM⟩:∃M,32*m=M:=⟨_,rfl⟩
  have hMi:32*(m:Int)=(M:Int):=by omega
  have hM9:M≤32000000000:=by omega
  rw[hM]
  clear hM
  go_enter Tryz.func150,Tryz.ntmps150
  go_wp2_with fail
  go_loopg [3,4] x (fun gk s3 s4 wr=>∃k:Nat,Hid (k+nb gk=M+nb x)∧k≤33000000000∧s3=.int .i64 (k:Int)∧s4=.int .u32 (gk:Int)∧gk<4294967296∧Below w.heap.size w wr)
  case atStart=>exact⟨M,rfl,by omega,rfl,rfl,hx,Below.refl _ _⟩
  case round=>
   obtain⟨k,HK,hk9,rfl,rfl,hg,hb⟩:=hrel
   clear e1
   by_cases h0:gk=0
   ·subst h0
    have hK:=HK.out
    rw[nb_zero,Nat.add_zero] at hK
    have HK3:=Lib.hid hK
    clear hK HK
    go_wp2_with fail
    go_ret
    exact⟨ret_int (by have:=HK3.out;omega),hb⟩
   ·have hgi:(0:Int)<(gk:Int):=by omega
    obtain⟨y,hy⟩:∃y,gk/2=y:=⟨_,rfl⟩
    have hyi:Int.tdiv (gk:Int) 2=(y:Int):=by rw[Int.tdiv_eq_ediv_of_nonneg (by omega)];omega
    have hyj:(gk:Int)/2=(y:Int):=by omega
    have hlt:y<gk:=by omega
    have HK2:Hid (k+1+nb y=M+nb x):=Lib.hid (by have:=HK.out;rw[nb_half h0,hy] at this;omega)
    have hk8:k+1≤33000000000:=by
     have:=HK2.out;omega
    clear hy HK
    go_wp2_with fail
    go_roundg y
    case measure=>exact hlt
    case rel=>exact⟨k+1,HK2,hk8,by go_num,rfl,by omega,hb⟩
set_option maxRecDepth 20000 in
set_option maxHeartbeats 4000000 in
theorem rmul_any (A1 A2:Option Addr)(c1 c2:Nat)(l1 l2:List Nat)(w:World)(h1:SlW w A1 c1 l1)(h2:SlW w A2 c2 l2)(hl1:l1.length≤1000000000)(hl2:l2.length≤1000000000):
  Calls Tryz.prog 128 #[.slice A1 l1.length c1,.slice A2 l2.length c2] w (RNat (val l1*val l2) w):=by
 refine calls_b fun g=>?_
 obtain⟨n1,hn1⟩:∃n:Nat,l1.length=n:=⟨_,rfl⟩
 obtain⟨n2,hn2⟩:∃n:Nat,l2.length=n:=⟨_,rfl⟩
 obtain⟨n,hn⟩:∃n:Nat,n1+n2=n:=⟨_,rfl⟩
 have hmk:∀w,(Instr.makeSlice 41 (.int .i64 ((n1:Int)+(n2:Int))) (.int .i64 ((n1:Int)+(n2:Int)))).run Tryz.prog w=.ok (.slice (some ⟨w.heap.size,0,none⟩) n n) (w.alloc (.cells (u32s (List.replicate n 0)).toArray 73)):=by
  intro w
  have:=make_nat n (by omega) w
  rw[←hn] at this ⊢
  exact this
 rw[hn1,hn2]
 have HN1:=Lib.hid hn1
 have HN2:=Lib.hid hn2
 have HN:=Lib.hid hn
 have ha1:l1.length≤n1:=by omega
 have ha2:n1≤l1.length:=by omega
 have ha3:l2.length≤n2:=by omega
 have ha4:n2≤l2.length:=by omega
 have ha5:n≤n1+n2:=by omega
 have ha6:n1+n2≤n:=by omega
 clear hn1 hn2 hn
 go_enter Tryz.func128,Tryz.ntmps128
 go_wp2_with (with_reducible refine yq _ ?_;(try generalize (G.w _).heap.size=bk);(try dsimp only[yi,yj]);(try clear g);intro g)
 obtain⟨ob,rfl⟩:∃ob:Nat,ob=bk:=⟨_,rfl⟩
 go_loopg [6] n1 (fun gk i wr=>∃(k:Nat) (out:List Nat),k+gk=n1∧i=.int .i64 k∧n≤out.length∧out.length≤n∧Ok out∧Hid (∀j,k+n2≤j→out.getD j 0=0)∧Hid (val out=val (l1.take k)*val l2)∧∃g:G w [] [(ob,73,u32s out)] [heapOf w],wr=g.w)
 case atStart=>exact⟨0,List.replicate n 0,by omega,rfl,by simp,by simp,Ok.zeros _,fun j _=>by simp[List.getElem?_replicate];split<;>rfl,Lib.hid (by rw[val_zeros];simp[val]),g,rfl⟩
 case round=>
  clear g hmk
  obtain⟨ko,rfl⟩:∃ko:Nat,ko=gk:=⟨_,rfl⟩
  obtain⟨k,out,hkg,rfl,hp1,hp2,hok,HZ,HV,g,rfl⟩:=hrel
  by_cases hk2:k<n1
  ·obtain⟨b,o,rfl,hcell⟩:=lim_cells h1.lim (by omega)
   have e0:=Lib.hid (hcell k (by omega))
   clear hcell
   have hx:=h1.ok.getD k
   obtain⟨x,hxe⟩:∃x,l1.getD k 0=x:=⟨_,rfl⟩
   rw[hxe] at e0 hx
   have HX:=Lib.hid hxe
   clear hxe
   have hko:0<ko:=by omega
   go_wp2_with (with_reducible refine yq _ ?_;(try generalize (G.w _).heap.size=bk);(try dsimp only[yi,yj]);(try clear g);intro g)
   go_loopg [7,8] n2 (fun gk s7 s8 wr=>∃(j c:Nat) (out:List Nat),j+gk=n2∧s7=.int .u64 c∧s8=.int .i64 j∧n≤out.length∧out.length≤n∧Ok out∧c<4294967296∧Hid (∀i,k+n2≤i→out.getD i 0=0)∧Hid (val out+4294967296^(k+j)*c=val (l1.take k)*val l2+4294967296^k*(x*val (l2.take j)))∧∃g:G w [] [(ob,73,u32s out)] [heapOf w],wr=g.w)
   case atStart=>exact⟨0,0,out,by omega,rfl,rfl,hp1,hp2,hok,by omega,HZ,Lib.hid (by rw[List.take_zero];simp[val];exact HV.out),g,rfl⟩
   case round=>
    clear g
    clear HV HZ hok hp1 hp2
    obtain⟨j,c,out,hjg,rfl,rfl,hp1,hp2,hok,hc,HZ,HV,g,rfl⟩:=hrel
    by_cases hj2:j<n2
    ·obtain⟨b2,o2,rfl,hcell⟩:=lim_cells h2.lim (by omega)
     have e1:=Lib.hid (hcell j (by omega))
     clear hcell
     have hy:=h2.ok.getD j
     obtain⟨kj,hkj'⟩:∃kj,k+j=kj:=⟨_,rfl⟩
     have hkj:kj<out.length:=by omega
     have e2:=u32s_getD hkj
     have hzz:=hok.getD kj
     have st:=Lib.hid (mul_step (l2:=l2) (by rw[hkj'];exact hkj) HV.out)
     rw[hkj'] at st
     have hs:=Lib.hid (u32s_set out kj ((x*l2.getD j 0+out.getD kj 0+c)%4294967296))
     have hc2:=mul_carry hx hy hzz hc
     have hr:(x*l2.getD j 0+out.getD kj 0+c)%4294967296<4294967296:=by omega
     have HZ2:Hid (∀i,k+n2≤i→(out.set kj ((x*l2.getD j 0+out.getD kj 0+c)%4294967296)).getD i 0=0):=Lib.hid (fun i hi=>by rw[NL.getD_set_ne (by omega)];exact HZ.out i hi)
     have hok2:=hok.set kj hr
     have hlen:(out.set kj ((x*l2.getD j 0+out.getD kj 0+c)%4294967296)).length=out.length:=List.length_set ..
     have hbig:=mul_bound x (l2.getD j 0) (out.getD kj 0) c hx hy hzz hc
     generalize out.getD kj 0=z at*
     generalize l2.getD j 0=y at*
     obtain⟨xy,hxy⟩:∃xy,x*y=xy:=⟨_,rfl⟩
     have f0:(x:Int)*(y:Int)=(xy:Int):=by rw[←hxy];exact(Int.natCast_mul x y).symm
     rw[hxy] at st hs hc2 hr HZ2 hok2 hlen hbig
     obtain⟨t,ht⟩:∃t,xy+z+c=t:=⟨_,rfl⟩
     rw[ht] at st hs hc2 hr HZ2 hok2 hlen hbig
     obtain⟨cz,hcz⟩:∃cz,c+z=cz:=⟨_,rfl⟩
     have f1:(c:Int)+(z:Int)=(cz:Int):=by omega
     have f2:(cz:Int)+(xy:Int)=(t:Int):=by omega
     have f3:IntKind.u64.wrap (cz:Int)=(cz:Int):=by rw[IntKind.wrap_u64];omega
     have f4:IntKind.u64.wrap (t:Int)=(t:Int):=by rw[IntKind.wrap_u64];omega
     have f5:IntKind.u64.wrap (xy:Int)=(xy:Int):=by rw[IntKind.wrap_u64];omega
     have f6:IntKind.u64.wrap (x:Int)=(x:Int):=by rw[IntKind.wrap_u64];omega
     have f7:IntKind.u64.wrap (y:Int)=(y:Int):=by rw[IntKind.wrap_u64];omega
     have f8:IntKind.u64.wrap (z:Int)=(z:Int):=by rw[IntKind.wrap_u64];omega
     obtain⟨r,hrr⟩:∃r,t%4294967296=r:=⟨_,rfl⟩
     obtain⟨q,hqq⟩:∃q,t/4294967296=q:=⟨_,rfl⟩
     have f9:IntKind.u32.wrap (t:Int)=(r:Int):=by rw[IntKind.wrap_u32];omega
     have f10:(t:Int)/4294967296=(q:Int):=by omega
     rw[hrr] at st hs hr HZ2 hok2 hlen
     rw[hqq] at st hc2
     have hl1:=Nat.le_of_eq hlen
     have hl2:=Nat.le_of_eq hlen.symm
     have g1:(k:Int)+(j:Int)=(kj:Int):=by omega
     have g2:IntKind.i64.wrap (kj:Int)=(kj:Int):=by rw[IntKind.wrap_i64];omega
     have g3:(kj:Int)<(n:Int):=by omega
     have g4:kj<n:=by omega
     have HKJ:=Lib.hid hkj'
     clear hlen hxy ht hcz hrr hqq hbig hkj' HZ HV
     have ee0:=e0.out _ _ _ _ g (by simp)
     have ee1:=e1.out _ _ _ _ g (by simp)
     go_wp2_with fail
     go_region_held3 (fun w'=>w'.cell? ⟨ob,kj,none⟩=some (.int .u32 (z:Int))∧w'.cell? ⟨b,o+k,none⟩=some (.int .u32 (x:Int))∧w'.cell? ⟨b2,o2+j,none⟩=some (.int .u32 (y:Int))) ((simp only[G.drew_eq,G.drewN_eq,G.cell0];exact⟨e2,e0.out _ _ _ _ _ (by simp),e1.out _ _ _ _ _ (by simp)⟩)) (fail)
     clear ee0 ee1
     ((try simp only[G.drew_eq,G.drewN_eq]);(refine yq _ ?_;(try generalize (G.w _).heap.size=bk);(try dsimp only[yi,yj]);(try clear g);intro g))
     go_wp2_with (with_reducible refine yq _ ?_;(try generalize (G.w _).heap.size=bk);(try dsimp only[yi,yj]);(try clear g);intro g)
     obtain⟨g2',hg2⟩:=g.as (by rw[hs.out])
     go_roundg (gk-1)
     case measure=>omega
     case rel=>exact⟨j+1,q,out.set kj r,by omega,rfl,by go_num,by omega,by omega,hok2,hc2,HZ2,Lib.hid (by have:=st.out;have e:=HKJ.out;rw[←e] at this ⊢;exact this),g2',hg2⟩
    ·obtain rfl:j=n2:=by omega
     have hn2:l2.length=j:=by omega
     obtain⟨kj,hkj'⟩:∃kj,k+j=kj:=⟨_,rfl⟩
     have hkl:k+l2.length<out.length:=by omega
     have hkl':kj<out.length:=by omega
     have hz0:=HZ.out (k+j) (Nat.le_refl _)
     have e2:=u32s_getD hkl'
     have rd:=Lib.hid (mul_round (l1:=l1) (c:=c) hkl (by rw[hn2];exact hz0) (by rw[HX.out,hn2];exact HV.out))
     have hs:=Lib.hid (u32s_set out kj c)
     have hok2:=hok.set kj hc
     have HZ2:Hid (∀i,k+1+j≤i→(out.set kj c).getD i 0=0):=Lib.hid (fun i hi=>by rw[NL.getD_set_ne (by omega)];exact HZ.out i (by omega))
     rw[hn2,hkj'] at rd
     have hlen:(out.set kj c).length=out.length:=List.length_set ..
     have hl1:=Nat.le_of_eq hlen
     have hl2:=Nat.le_of_eq hlen.symm
     have f9:IntKind.u32.wrap (c:Int)=(c:Int):=by rw[IntKind.wrap_u32];omega
     have g1:(k:Int)+(j:Int)=(kj:Int):=by omega
     have g2:IntKind.i64.wrap (kj:Int)=(kj:Int):=by rw[IntKind.wrap_i64];omega
     have g3:(kj:Int)<(n:Int):=by omega
     have g4:kj<n:=by omega
     clear hlen hn2 hz0 HZ HV hkj'
     generalize out.getD kj 0=z at*
     go_wp2_with (with_reducible refine yq _ ?_;(try generalize (G.w _).heap.size=bk);(try dsimp only[yi,yj]);(try clear g);intro g)
     obtain⟨g2',hg2⟩:=g.as (by rw[hs.out])
     go_roundg (ko-1)
     case measure=>omega
     case rel=>exact⟨k+1,out.set kj c,by omega,by go_num,by omega,by omega,hok2,HZ2,rd,g2',hg2⟩
  ·obtain rfl:k=n1:=by omega
   have hn1:l1.length≤k:=by omega
   have e1:=HV.out
   rw[val_take_all hn1] at e1
   have E1:=Lib.hid e1
   obtain rfl:n=out.length:=by omega
   clear e1 hn1
   have hsl:SlW g.w (some ⟨ob,0,none⟩) out.length out:=(sl_blk (Nat.le_refl _) (by omega) hok).at (blkF_sub g.blk0)
   clear HN
   go_wp2_with (with_reducible refine yq _ ?_;(try generalize (G.w _).heap.size=bk);(try dsimp only[yi,yj]);(try clear g);intro g)
   refine(rtrim_any _ _ out _ hsl).mono ?_
   rintro e w1 ⟨rfl,hb⟩
   obtain⟨g1,rfl⟩:=G.call_ex _ hb
   clear hb hsl g
   revert g1
   intro g
   go_wp2_with (with_reducible refine yq _ ?_;(try generalize (G.w _).heap.size=bk);(try dsimp only[yi,yj]);(try clear g);intro g)
   go_ret
   exact rnat_end g (List.mem_cons_self ..) hok (Nat.le_refl _) (by omega) E1.out
/-- one limb shifted up, with what came from below -/
theorem up_next {pre l:List Nat}{k c r X:Nat}(hp:pre.length=k)(hr:r<32)(hc:c<2^r)(hX:l.getD k 0=X)(hx:X<4294967296)(h:val pre+4294967296^k*c=val (l.take k)*2^r):
  (X*2^r+c)/4294967296<2^r∧X*2^r+c<18446744073709551616∧val (pre++[(X*2^r+c)%4294967296])+4294967296^(k+1)*((X*2^r+c)/4294967296)=val (l.take (k+1))*2^r:=by
 have h1:X*2^r+2^r≤4294967296*2^r:=by
  have:=Nat.mul_le_mul_right (2^r) (Nat.succ_le_of_lt hx)
  rwa[Nat.succ_mul] at this
 have h2:(2:Nat)^r≤2^31:=Nat.pow_le_pow_right (by decide) (by omega)
 refine⟨Nat.div_lt_of_lt_mul (by omega),by omega,?_⟩
 rw[val_snoc,hp,val_take_getD,hX]
 have p:=pow_split k (X*2^r+c)
 rw[Nat.mul_add _ (X*2^r) c] at p
 rw[Nat.add_mul,Nat.mul_assoc]
 omega
theorem Row.pre {T:TypeId}{n m cap:Nat}{xs:List Nat}{cs:List Value}(h:Row T 1 n (u32s xs) cap cs)(hm:m≤n):Row T 1 m (u32s (xs.take m)) cap cs:=by
 have hx:=h.xl
 rw[u32s_len] at hx
 refine⟨Nat.le_trans hm h.le,h.max,h.len,?_,by rw[u32s_len,List.length_take];omega⟩
 have ht:=h.take
 rw[Nat.mul_one] at ht ⊢
 have:cs.take m=(cs.take n).take m:=by rw[List.take_take,Nat.min_eq_left hm]
 rw[this,ht]
 simp[u32s,List.map_take]
theorem ret_bool {a a':Bool}(h:a=a'):Ending.returned (.bool a)=.returned (.bool a'):=by rw[h]
theorem rbelow_any (A1 A2:Option Addr)(c1 c2 n:Nat)(l1 l2:List Nat)(w:World)(h1:SlW w A1 c1 l1)(h2:SlW w A2 c2 l2)(hn1:l1.length=n)(hn2:l2.length=n)(hn9:n≤1000000000):
  Calls Tryz.prog 152 #[.slice A1 n c1,.slice A2 n c2] w fun e w'=>e=.returned (.bool (decide (val l1<val l2)))∧w=w':=by
 have o1:=h1.ok
 have o2:=h2.ok
 have CL1:=Lib.hid (fun k (hk:k≤1000000001) w h=>rlimb_any A1 c1 l1 k w h (by omega))
 have CL2:=Lib.hid (fun k (hk:k≤1000000001) w h=>rlimb_any A2 c2 l2 k w h (by omega))
 rw[hn1] at CL1
 rw[hn2] at CL2
 have H1:=Lib.hid hn1
 have H2:=Lib.hid hn2
 clear hn1 hn2
 go_enter Tryz.func152,Tryz.ntmps152
 go_wp2_with fail
 go_loopg [5] n (fun gk s5 wr=>gk≤n∧s5=.int .i64 ((gk:Int)-1)∧Hid (∀j,gk≤j→j<n→l1.getD j 0=l2.getD j 0)∧wr=w)
 case atStart=>exact⟨Nat.le_refl _,rfl,fun j h1 h2=>by omega,rfl⟩
 case round =>
  obtain⟨hg,rfl,HE,rfl⟩:=hrel
  cases gk with
  |zero=>
   have he:l1=l2:=eq_of_all (by rw[H1.out,H2.out]) fun j hj=>HE.out j (Nat.zero_le _) (by rw[←H1.out];exact hj)
   have HO:Hid (decide (val l1<val l2)=false):=Lib.hid (decide_eq_false (by rw[he];omega))
   clear he
   go_wp2_with fail
   go_ret
   exact⟨ret_bool HO.out.symm,rfl⟩
  |succ k=>
   rw[show((k+1:Nat):Int)-1=(k:Int) by omega]
   have CLa:=Lib.hid (CL1.out k (by omega))
   have CLb:=Lib.hid (CL2.out k (by omega))
   have HAT:Hid (∀hne,ord (val l1) (val l2)=ord (l1.getD k 0) (l2.getD k 0)):=Lib.hid (fun hne=>ord_at o1 o2 (by rw[H1.out,H2.out]) (k:=k) (by rw[H1.out];omega) (fun j hj hj2=>HE.out j (by omega) (by rw[←H1.out];exact hj2)) hne)
   obtain⟨x,hx⟩:∃x,l1.getD k 0=x:=⟨_,rfl⟩
   obtain⟨y,hy⟩:∃y,l2.getD k 0=y:=⟨_,rfl⟩
   rw[hx] at CLa HAT
   rw[hy] at CLb HAT
   have HX:=Lib.hid hx
   have HY:=Lib.hid hy
   clear hx hy
   by_cases hxy:x=y
   ·subst hxy
    clear HAT
    go_wp2_with fail
    refine(CLa.out _ h1).mono ?_
    rintro e w1 ⟨rfl,rfl⟩
    go_wp2_with fail
    refine(CLb.out _ h2).mono ?_
    rintro e w1 ⟨rfl,rfl⟩
    go_wp2_with fail
    go_roundg k
    case measure=>omega
    case rel=>exact⟨by omega,rfl,fun j hj1 hj2=>by
     rcases Nat.lt_or_ge k j with h|h
     ·exact HE.out j (by omega) hj2
     ·obtain rfl:j=k:=by omega
      rw[HX.out,HY.out],rfl⟩
   ·have hne:((x:Int)==(y:Int))=false:=by rw[beq_eq_false_iff_ne];omega
    have hne2:¬ ((x:Int)=(y:Int)):=by omega
    have HO:Hid (decide (val l1<val l2)=decide ((x:Int)<(y:Int))):=Lib.hid (by
     have:=HAT.out hxy
     apply decide_eq_decide.2
     unfold ord at this
     constructor
     ·intro h
      rw[if_pos h] at this
      split at this
      ·omega
      ·split at this<;>omega
     ·intro h
      rw[if_pos (show x<y by omega)] at this
      split at this
      ·assumption
      ·split at this<;>omega)
    clear HAT hxy
    go_wp2_with fail
    refine(CLa.out _ h1).mono ?_
    rintro e w1 ⟨rfl,rfl⟩
    go_wp2_with fail
    refine(CLb.out _ h2).mono ?_
    rintro e w1 ⟨rfl,rfl⟩
    go_wp2_with fail
    refine(CLa.out _ h1).mono ?_
    rintro e w1 ⟨rfl,rfl⟩
    go_wp2_with fail
    refine(CLb.out _ h2).mono ?_
    rintro e w1 ⟨rfl,rfl⟩
    go_wp2_with fail
    go_ret
    exact⟨ret_bool (by rw[HO.out];exact decide_eq_decide.2 (by omega)),rfl⟩
theorem sub_end2 {pre l1 l2:List Nat}{n c:Nat}(ok:Ok pre)(hp:pre.length=n)(h1:l1.length=n)(h2:l2.length=n)(hle:val l2≤val l1)(h:val pre+val (l2.take n)=val (l1.take n)+4294967296^n*c):val pre=val l1-val l2:=
 (sub_end ok hp (by omega) (by omega) hle h).1
set_option maxRecDepth 20000 in
set_option maxHeartbeats 2000000 in
theorem rtake_any (b n cap:Nat)(cs:List Value)(l1 l2:List Nat)(A2:Option Addr)(c2:Nat)(w:World)(hb:w.heap[b]?=some (.cells cs.toArray 73 (0,0)))(hrow:Row 73 1 n (u32s l1) cap cs)(h2:SlW w A2 c2 l2)(hap:Apart A2 b)
  (hn1:l1.length=n) (hn2:l2.length=n) (o1:Ok l1) (hle:val l2≤val l1) (hn9:n≤1000000000):
  Calls Tryz.prog 153 #[.slice (some ⟨b,0,none⟩) n cap,.slice A2 n c2] w fun e w'=>e=.returned (.tuple #[])∧Chg [b] w w'∧∃l' cs',w'.heap[b]?=some (.cells cs'.toArray 73 (0,0))∧Row 73 1 n (u32s l') cap cs'∧l'.length=n∧Ok l'∧val l'=val l1-val l2:=by
 have hd:=h2.but hap
 have o2:=h2.ok
 refine calls_m hb fun g=>?_
 have CL:=Lib.hid (fun k (hk:k≤1000000001) w h=>rlimb_any A2 c2 l2 k w h (by omega))
 rw[hn2] at CL
 have H1:=Lib.hid hn1
 have H2:=Lib.hid hn2
 have HLE:=Lib.hid hle
 have hle':=hrow.le
 clear hn1 hn2 hle
 go_enter Tryz.func153,Tryz.ntmps153
 go_wp2_with (with_reducible refine yq _ ?_;(try generalize (G.w _).heap.size=bk);(try dsimp only[yi,yj]);(try clear g);intro g)
 go_loopg [4,5] n (fun gk s4 s5 wr=>∃(k c:Nat) (pre:List Nat) (cs':List Value),k+gk=n∧s4=.int .u64 (c:Int)∧s5=.int .i64 (k:Int)∧c≤1∧Hid (pre.length=k∧Ok pre∧val pre+val (l2.take k)=val (l1.take k)+4294967296^k*c)∧Row 73 1 n (u32s (pre++l1.drop k)) cap cs'∧∃g:G w [b] [(b,73,cs')] [heapBut w b],wr=g.w)
 case atStart=>exact⟨0,0,[],cs,by omega,rfl,rfl,by omega,⟨rfl,Ok.nil,by simp[val]⟩,hrow,g,rfl⟩
 case round=>
  clear g hrow
  obtain⟨k,c,pre,cs',hkg,rfl,rfl,hc1,HA,hrow,g,rfl⟩:=hrel
  by_cases hgo:k<n
  ·have HA2:=Lib.hid (sub_step o1 o2 hc1 HA.out.1 HA.out.2.2)
   have CLb:=Lib.hid (CL.out k (by omega))
   have hx:=o1.getD k
   have hy:=o2.getD k
   have hpl:=HA.out.1
   have hpo:=HA.out.2.1
   have hcell:=hrow.get (by rw[List.length_append,List.length_drop,hpl,H1.out];omega) hgo
   rw[ten_get hpl] at hcell
   have hset:=ten_set (xs:=l1) (x:=(l1.getD k 0+4294967296-l2.getD k 0-c)%4294967296) hpl (by rw[H1.out];exact hgo)
   have hrow2:=hrow.set (x:=(l1.getD k 0+4294967296-l2.getD k 0-c)%4294967296) hgo
   rw[hset] at hrow2
   generalize l1.getD k 0=x at*
   generalize l2.getD k 0=y at*
   obtain⟨d,hd'⟩:∃d:Nat,((x:Int)-(y:Int))%18446744073709551616=(d:Int):=⟨(((x:Int)-(y:Int))%18446744073709551616).toNat,by omega⟩
   obtain⟨t,ht⟩:∃t:Nat,((d:Int)-(c:Int))%18446744073709551616=(t:Int):=⟨(((d:Int)-(c:Int))%18446744073709551616).toNat,by omega⟩
   have f3:IntKind.u64.wrap ((x:Int)-(y:Int))=(d:Int):=by rw[IntKind.wrap_u64];exact hd'
   have f4:IntKind.u64.wrap ((d:Int)-(c:Int))=(t:Int):=by rw[IntKind.wrap_u64];exact ht
   have f7:IntKind.u64.wrap (x:Int)=(x:Int):=by rw[IntKind.wrap_u64];omega
   obtain⟨lo,hlo⟩:∃lo,(x+4294967296-y-c)%4294967296=lo:=⟨_,rfl⟩
   obtain⟨c',hc'⟩:∃c',brw x y c=c':=⟨_,rfl⟩
   have hb':(x<y+c∧c'=1)∨(y+c≤x∧c'=0):=by unfold brw at hc';split at hc'<;>omega
   have f5:IntKind.u32.wrap (t:Int)=(lo:Int):=by rw[IntKind.wrap_u32];omega
   have f6:(t:Int)/9223372036854775808=(c':Int):=by omega
   have hc1':c'≤1:=by omega
   have hlo9:lo<4294967296:=by omega
   rw[hlo,hc'] at HA2
   rw[hlo] at hrow2
   have HROW:=Lib.hid hrow2
   have HA3:Hid ((pre++[lo]).length=k+1∧Ok (pre++[lo])∧val (pre++[lo])+val (l2.take (k+1))=val (l1.take (k+1))+4294967296^(k+1)*c'):=Lib.hid ⟨by rw[List.length_append,hpl];rfl,hpo.append (Ok.cons hlo9 Ok.nil),HA2.out⟩
   have hki:(k:Int)<(n:Int):=by omega
   have hgk:0<gk:=by omega
   clear hd' ht hlo hc' hb' HA2 hset hrow2 hrow
   go_wp2_with (with_reducible refine yq _ ?_;(try generalize (G.w _).heap.size=bk);(try dsimp only[yi,yj]);(try clear g);intro g)
   go_region_held3 (fun w'=>w'.cell? ⟨b,k,none⟩=some (.int .u32 (x:Int))) ((simp only[G.drew_eq,G.drewN_eq,G.cell0];exact hcell)) ((go_at_call 167;refine(CLb.out _ (G.sl _ (by simp) hd)).mono ?_;rintro e w1 ⟨rfl,rfl⟩))
   ((try simp only[G.drew_eq,G.drewN_eq]);(refine yq _ ?_;(try generalize (G.w _).heap.size=bk);(try dsimp only[yi,yj]);(try clear g);intro g))
   go_wp2_with (with_reducible refine yq _ ?_;(try generalize (G.w _).heap.size=bk);(try dsimp only[yi,yj]);(try clear g);intro g)
   go_roundg (gk-1)
   case measure=>omega
   case rel=>exact⟨k+1,c',pre++[lo],_,by omega,rfl,by go_num,hc1',HA3,HROW.out,g,rfl⟩
  ·obtain rfl:k=n:=by omega
   obtain⟨hpl,hpo,heq⟩:=HA.out
   have HEND:=Lib.hid (sub_end2 hpo hpl H1.out H2.out HLE.out heq)
   rw[List.drop_of_length_le (by rw[H1.out];exact Nat.le_refl _),List.append_nil] at hrow
   have hki:¬ ((k:Int)<(k:Int)):=by omega
   have HROW:=Lib.hid hrow
   have HPL:=Lib.hid hpl
   clear hpl heq hrow
   go_wp2_with (with_reducible refine yq _ ?_;(try generalize (G.w _).heap.size=bk);(try dsimp only[yi,yj]);(try clear g);intro g)
   go_end0
   exact⟨rfl,g.chg,pre,cs',g.blk0,HROW.out,HPL.out,hpo,HEND.out⟩
set_option maxRecDepth 20000 in
set_option maxHeartbeats 4000000 in
theorem rhalve_any (b n cap:Nat)(cs:List Value)(l:List Nat)(w:World)(hb:w.heap[b]?=some (.cells cs.toArray 73 (0,0)))(hrow:Row 73 1 n (u32s l) cap cs)
  (hn1:l.length=n) (o1:Ok l) (hn9:n≤1000000000):
  Calls Tryz.prog 154 #[.slice (some ⟨b,0,none⟩) n cap] w fun e w'=>e=.returned (.tuple #[])∧Chg [b] w w'∧∃l' cs',w'.heap[b]?=some (.cells cs'.toArray 73 (0,0))∧Row 73 1 n (u32s l') cap cs'∧l'.length=n∧Ok l'∧val l'=val l/2:=by
 refine calls_m hb fun g=>?_
 have H1:=Lib.hid hn1
 have hle':=hrow.le
 clear hn1
 go_enter Tryz.func154,Tryz.ntmps154
 go_wp2_with (with_reducible refine yq _ ?_;(try generalize (G.w _).heap.size=bk);(try dsimp only[yi,yj]);(try clear g);intro g)
 go_loopg [2] n (fun gk s2 wr=>∃(k:Nat) (pre:List Nat) (cs':List Value),k+gk=n∧s2=.int .i64 (k:Int)∧Hid (pre.length=k∧Ok pre∧val pre=val l/2^1%4294967296^k)∧Row 73 1 n (u32s (pre++l.drop k)) cap cs'∧∃g:G w [b] [(b,73,cs')] [heapBut w b],wr=g.w)
 case atStart=>exact⟨0,[],cs,by omega,rfl,⟨rfl,Ok.nil,by simp[val,Nat.mod_one]⟩,hrow,g,rfl⟩
 case round=>
  clear g hrow
  obtain⟨k,pre,cs',hkg,rfl,HA,hrow,g,rfl⟩:=hrel
  by_cases hgo:k<n
  ·have hpl:=HA.out.1
   have hpo:=HA.out.2.1
   have dl:=down_limb o1 k 1 (by decide)
   have st:=low_step hpl HA.out.2.2 dl
   have hlen:(pre++l.drop k).length=n:=by rw[List.length_append,List.length_drop,hpl,H1.out];omega
   have hcell:=hrow.get hlen hgo
   rw[ten_get hpl] at hcell
   have hset:=ten_set (xs:=l) (x:=(l.getD k 0+4294967296*l.getD (k+1) 0)/2^1%4294967296) hpl (by rw[H1.out];exact hgo)
   have hrow2:=hrow.set (x:=(l.getD k 0+4294967296*l.getD (k+1) 0)/2^1%4294967296) hgo
   rw[hset] at hrow2
   have hsl:=fun(g:G w [b] [(b,73,cs')] [heapBut w b])=>(sl_row (b:=b) hrow hlen (by omega) (hpo.append (o1.drop k))).at (blkF_sub g.blk0)
   have hgd:(pre++l.drop k).getD (k+1) 0=l.getD (k+1) 0:=by
    rw[List.getD_eq_getElem?_getD,List.getElem?_append_right (by omega),hpl,List.getElem?_drop,show k+(k+1-k)=k+1 by omega,←List.getD_eq_getElem?_getD]
   have CL:=Lib.hid (fun w h=>rlimb_any (some ⟨b,0,none⟩) cap (pre++l.drop k) (k+1) w h (by omega))
   rw[hgd,hlen] at CL
   have hx:=o1.getD k
   have hy:=o1.getD (k+1)
   generalize l.getD k 0=x at*
   generalize l.getD (k+1) 0=y at*
   obtain⟨lo,hlo⟩:∃lo,(x+4294967296*y)/2^1%4294967296=lo:=⟨_,rfl⟩
   rw[hlo] at st hrow2
   obtain⟨xh,hxh⟩:∃xh,x/2=xh:=⟨_,rfl⟩
   obtain⟨yt,hyt⟩:∃yt,y*2147483648%4294967296=yt:=⟨_,rfl⟩
   have hlo2:yt+xh=lo:=by rw[Nat.pow_one] at hlo;omega
   have hor:bits .or .u32 (xh:Int) (yt:Int)=(lo:Int):=by
    rw[K3.or32_add _ _ 31 (by omega) (by omega) (by omega) (by omega),hlo2]
   have f1:(x:Int)/2=(xh:Int):=by omega
   have f2:IntKind.u32.wrap ((y:Int)*2147483648)=(yt:Int):=by rw[IntKind.wrap_u32];omega
   have f3:IntKind.u64.wrap ((y:Int)*2147483648)=(y:Int)*2147483648:=by rw[IntKind.wrap_u64];omega
   have f4:(y:Int)*2147483648%4294967296=(yt:Int):=by omega
   have hlo9:lo<4294967296:=by rw[←hlo];exact Nat.mod_lt _ (by decide)
   have HROW:=Lib.hid hrow2
   have HA2:Hid ((pre++[lo]).length=k+1∧Ok (pre++[lo])∧val (pre++[lo])=val l/2^1%4294967296^(k+1)):=Lib.hid ⟨by rw[List.length_append,hpl];rfl,hpo.append (Ok.cons hlo9 Ok.nil),st⟩
   have HSL:=Lib.hid hsl
   have hki:(k:Int)<(n:Int):=by omega
   have hk1:IntKind.i64.wrap ((k:Int)+1)=(k:Int)+1:=by rw[IntKind.wrap_i64];omega
   have hc1:((k+1:Nat):Int)=(k:Int)+1:=by omega
   rw[hc1] at CL
   have hgk:0<gk:=by omega
   clear hlo hxh hyt hlo2 hset hrow2 hrow hgd hlen dl st hsl hc1
   go_wp2_with (with_reducible refine yq _ ?_;(try generalize (G.w _).heap.size=bk);(try dsimp only[yi,yj]);(try clear g);intro g)
   go_region_with ((go_at_call 167;refine(CL.out _ (HSL.out _)).mono ?_;rintro e w1 ⟨rfl,rfl⟩))
   all_goals ((try simp only[G.drew_eq,G.drewN_eq]);(refine yq _ ?_;(try generalize (G.w _).heap.size=bk);(try dsimp only[yi,yj]);(try clear g);intro g))
   all_goals go_wp2_with (with_reducible refine yq _ ?_;(try generalize (G.w _).heap.size=bk);(try dsimp only[yi,yj]);(try clear g);intro g)
   all_goals go_roundg (gk-1)
   all_goals first|omega|exact⟨k+1,pre++[lo],_,by omega,by go_num,HA2,HROW.out,g,rfl⟩
  ·obtain rfl:k=n:=by omega
   obtain⟨hpl,hpo,heq⟩:=HA.out
   have hend:=down_end (s:=1) o1 (n:=k) (by rw[H1.out];exact Nat.le_refl _) heq
   rw[Nat.pow_one] at hend
   rw[List.drop_of_length_le (by rw[H1.out];exact Nat.le_refl _),List.append_nil] at hrow
   have hki:¬ ((k:Int)<(k:Int)):=by omega
   have HROW:=Lib.hid hrow
   have HPL:=Lib.hid hpl
   have HEND:=Lib.hid hend
   clear hpl heq hrow hend
   go_wp2_with (with_reducible refine yq _ ?_;(try generalize (G.w _).heap.size=bk);(try dsimp only[yi,yj]);(try clear g);intro g)
   go_end0
   exact⟨rfl,g.chg,pre,cs',g.blk0,HROW.out,HPL.out,hpo,HEND.out⟩
/-- What is returned reads as the limbs l, in a block of its own that may be written. -/
def ROwn (l:List Nat)(w:World)(e:Ending)(w':World):Prop:=∃b cap cs,e=.returned (.slice (some ⟨b,0,none⟩) l.length cap)∧Row 73 1 l.length (u32s l) cap cs∧Below w.heap.size w w'∧w.heap.size≤b∧w'.heap[b]?=some (.cells cs.toArray 73 (0,0))
theorem own_own (A:Option Addr)(c:Nat)(l:List Nat)(w:World)(h:SlW w A c l)(hl9:l.length≤35184372088832)(hl:0<l.length):
  Calls Tryz.prog 124 #[.slice A l.length c] w (ROwn l w):=by
 refine calls_b fun g=>?_
 obtain⟨b,o,rfl,_⟩:=lim_cells h.lim hl
 have hnews:=fun(M:List Blk) (g:G w [] M [heapOf w])=>lim_news g (List.mem_cons_self ..) h.lim
 obtain⟨n,hn⟩:∃n,l.length=n:=⟨_,rfl⟩
 rw[hn] at hl hl9 ⊢
 have HN:=Lib.hid hn
 clear hn
 obtain⟨i0,hi,hz0,hz1,hz2⟩:=info_parts infoU32
 go_enter Tryz.func124,Tryz.ntmps124
 go_wp2_with (first|(with_reducible refine yq _ ?_;(try generalize (G.w _).heap.size=bk);(try dsimp only[yi,yj]);(try clear g);intro g)|(at_builtin;refine wpList_append_e rfl _ _ 40 rfl 73 i0 _ 1 4 Tryz.underlying40 hi hz0 hz1 hz2 rfl (by decide) g (by exact g.fresh (List.mem_cons_self ..)) rfl ⟨b,o,none⟩ n c (u32s l) rfl (by rw[u32s_len,HN.out,Nat.mul_one]) (hnews _ g) (u32s_one l) hl (by show n≤9223372036854775807;omega) (by omega) ?_;intro b2 cap cs g hb2 hr))
 go_ret
 exact⟨b2,cap,cs,ret_slice HN.out.symm,by rw[HN.out];exact hr,g.below,hb2,g.blk0⟩
set_option maxRecDepth 20000 in
set_option maxHeartbeats 2000000 in
theorem rshift_own (A:Option Addr)(c:Nat)(l:List Nat)(s:Nat)(w:World)(h:SlW w A c l)(hl:l.length≤1000000000)(hs:s≤1000000000):
  Calls Tryz.prog 151 #[.slice A l.length c,.int .i64 (s:Int)] w (ROwn (limbs (val l*2^s)) w):=by
 refine calls_b fun g=>?_
 obtain⟨n1,hn1⟩:∃n:Nat,l.length=n:=⟨_,rfl⟩
 obtain⟨q,hq⟩:∃q:Nat,s/32=q:=⟨_,rfl⟩
 obtain⟨r,hr⟩:∃r:Nat,s%32=r:=⟨_,rfl⟩
 have hr32:r<32:=by omega
 have hq9:q≤1000000000:=by omega
 have hqi:Int.tdiv (s:Int) 32=(q:Int):=by rw[Int.tdiv_eq_ediv_of_nonneg (by omega)];omega
 have hri:Int.tmod (s:Int) 32=(r:Int):=by rw[Int.tmod_eq_emod_of_nonneg (by omega)];omega
 have hpow:4294967296^q*2^r=2^s:=by rw[pow32,←Nat.pow_add];congr 1;omega
 have HP:=Lib.hid hpow
 have hs0:¬ ((s:Int)<0):=by omega
 rw[hn1]
 have HN1:=Lib.hid hn1
 have hn9:n1≤1000000000:=by omega
 have hmk:=fun w=>make_nat q (by omega) w
 have HZ:Hid (Row 73 1 q (u32s (List.replicate q 0)) q (u32s (List.replicate q 0))):=Lib.hid ⟨Nat.le_refl _,by show q≤9223372036854775807;omega,by rw[u32s_len,List.length_replicate,Nat.mul_one],by rw[Nat.mul_one,List.take_of_length_le (by rw[u32s_len,List.length_replicate];exact Nat.le_refl _)],by rw[u32s_len,List.length_replicate,Nat.mul_one]⟩
 obtain⟨i0,hi,hzz0,hzz1,hzz2⟩:=info_parts infoU32
 have hc0:Hid ((0:Nat)<2^r):=Lib.hid (Nat.two_pow_pos r)
 clear hn1 hq hr hpow hl
 generalize (s:Int)=si at*
 go_enter Tryz.func151,Tryz.ntmps151
 go_wp2_with (with_reducible refine yq _ ?_;(try generalize (G.w _).heap.size=bk);(try dsimp only[yi,yj]);(try clear g);intro g)
 obtain⟨zb,rfl⟩:∃zb:Nat,zb=bk:=⟨_,rfl⟩
 have hzb:w.heap.size≤zb:=g.fresh (List.mem_cons_self ..)
 go_loopg [7,8,9] n1 (fun gk s7 s8 s9 wr=>∃(k c:Nat) (pre:List Nat) (b cap:Nat) (cs:List Value),k+gk=n1∧s8=.int .u64 (c:Int)∧s9=.int .i64 (k:Int)∧c<4294967296∧Hid (c<2^r∧pre.length=k∧Ok pre∧val pre+4294967296^k*c=val (l.take k)*2^r)∧s7=.slice (some ⟨b,0,none⟩) (q+k) cap∧Row 73 1 (q+k) (u32s (List.replicate q 0++pre)) cap cs∧w.heap.size≤b∧∃g:G w [] [(b,73,cs)] [heapOf w],wr=g.w)
 case atStart=>exact⟨0,0,[],zb,q,_,by omega,rfl,rfl,by omega,⟨hc0.out,rfl,Ok.nil,by simp[val]⟩,rfl,by rw[List.append_nil];exact HZ.out,hzb,g,rfl⟩
 case round=>
  clear g hmk HZ hzb
  obtain⟨k,c,pre,b',cap,cs,hkg,rfl,rfl,hc9,HI,rfl,hrow,hb,g,rfl⟩:=hrel
  have hr0:¬ ((r:Int)<0):=by omega
  have hr1:(0:Int)≤(r:Int):=by omega
  by_cases hk:k<n1
  ·obtain⟨b,o,rfl,hcell⟩:=lim_cells h.lim (by rw[HN1.out];omega)
   have e0:=hcell k (by rw[HN1.out];omega) _ _ _ _ g (by simp)
   clear hcell
   have hX:=h.ok.getD k
   have hun:=up_next (l:=l) HI.out.2.1 hr32 HI.out.1 rfl hX HI.out.2.2.2
   have hdis:bits .or .u64 (c:Int) ((l.getD k 0*2^r:Nat):Int)=((l.getD k 0*2^r+c:Nat):Int):=K3.or64_add _ _ r (by omega) HI.out.1 (by omega) (Nat.mul_mod_left _ _)
   have hlt2:l.getD k 0*2^r<18446744073709551616:=by omega
   have hpo:=HI.out.2.2.1
   have hpl:=HI.out.2.1
   generalize l.getD k 0=X at*
   have hsh:IntKind.u64.wrap ((X:Int)*2^r)=((X*2^r:Nat):Int):=by
    rw[show(X:Int)*2^r=((X*2^r:Nat):Int) by rw[Int.natCast_mul,Int.natCast_pow];rfl,IntKind.wrap_u64]
    omega
   have hwX:IntKind.u64.wrap (X:Int)=(X:Int):=by rw[IntKind.wrap_u64];omega
   generalize X*2^r=y at*
   obtain⟨t,ht⟩:∃t,y+c=t:=⟨_,rfl⟩
   rw[ht] at hun hdis
   obtain⟨lo,hlo⟩:∃lo,t%4294967296=lo:=⟨_,rfl⟩
   obtain⟨hi',hhi⟩:∃hi',t/4294967296=hi':=⟨_,rfl⟩
   have ht9:=hun.2.1
   have f5:IntKind.u32.wrap (t:Int)=(lo:Int):=by rw[IntKind.wrap_u32];omega
   have f6:(t:Int)/4294967296=(hi':Int):=by omega
   have hlo9:lo<4294967296:=by omega
   have hhi9:hi'<4294967296:=by omega
   rw[hlo,hhi] at hun
   have HI2:Hid (hi'<2^r∧(pre++[lo]).length=k+1∧Ok (pre++[lo])∧val (pre++[lo])+4294967296^(k+1)*hi'=val (l.take (k+1))*2^r):=Lib.hid ⟨hun.1,by rw[List.length_append,hpl];rfl,hpo.append (Ok.cons hlo9 Ok.nil),hun.2.2⟩
   have H1:∀u∈ [Value.int .u32 (lo:Int)],u.oneCell'=true:=by intro u hu;rw[List.mem_singleton.1 hu];rfl
   have H2:q+k+1≤maxLen:=by show q+k+1≤9223372036854775807;omega
   have H3:(q+k+1)*4≤140737488355328:=by omega
   have HAP:Hid (u32s (List.replicate q 0++(pre++[lo]))=u32s (List.replicate q 0++pre)++[.int .u32 (lo:Int)]):=Lib.hid (by rw[←List.append_assoc,u32s_append];rfl)
   have hki:(k:Int)<(n1:Int):=by omega
   have hgk:0<gk:=by omega
   have hkg2:k+1+(gk-1)=n1:=by omega
   clear hun ht hlo hhi hlt2 hX HI hpl
   go_wp2_with (first|(with_reducible refine yq _ ?_;(try generalize (G.w _).heap.size=bk);(try dsimp only[yi,yj]);(try clear g);intro g)|(at_builtin;refine wpList_append_lit rfl _ _ 41 rfl 73 i0 _ 1 4 Tryz.underlying41 hi hzz0 hzz1 hzz2 rfl (by decide) g hrow hb rfl 1 rfl rfl H1 (by decide) H2 H3 ?_;clear hb hrow g e0;intro b' cap cs g hb hrow))
   go_roundg (gk-1)
   case measure=>omega
   case rel=>exact⟨k+1,hi',pre++[lo],b',cap,cs,hkg2,rfl,by go_num,hhi9,HI2,rfl,by rw[HAP.out];exact hrow,hb,g,rfl⟩
  ·obtain rfl:k=n1:=by omega
   have hpl:=HI.out.2.1
   have heq:=HI.out.2.2.2
   rw[val_take_all (by rw[HN1.out];exact Nat.le_refl _)] at heq
   have hL:(List.replicate q 0++(pre++[c])).length=q+k+1:=by rw[List.length_append,List.length_append,List.length_replicate,hpl];rfl
   have hV:val (List.replicate q 0++(pre++[c]))=val l*2^s:=by
    rw[val_append,val_zeros,val_snoc,hpl,heq,List.length_replicate,Nat.zero_add,←HP.out,Nat.mul_left_comm]
   have hO:Ok (List.replicate q 0++(pre++[c])):=(Ok.zeros q).append (HI.out.2.2.1.append (Ok.cons hc9 Ok.nil))
   have HAP:Hid (u32s (List.replicate q 0++(pre++[c]))=u32s (List.replicate q 0++pre)++[.int .u32 (c:Int)]):=Lib.hid (by rw[←List.append_assoc,u32s_append];rfl)
   generalize List.replicate q 0++(pre++[c])=L at*
   have CT1:=Lib.hid (fun A cap w h=>rtrim_any A cap L w h)
   rw[hL] at CT1
   have HL:=Lib.hid hL
   have HV:=Lib.hid hV
   have H1:∀u∈ [Value.int .u32 (c:Int)],u.oneCell'=true:=by intro u hu;rw[List.mem_singleton.1 hu];rfl
   have H2:q+k+1≤maxLen:=by show q+k+1≤9223372036854775807;omega
   have H3:(q+k+1)*4≤140737488355328:=by omega
   have f5:IntKind.u32.wrap (c:Int)=(c:Int):=by rw[IntKind.wrap_u32];omega
   have hki:¬ ((k:Int)<(k:Int)):=by omega
   clear hL hV heq hpl HI
   go_wp2_with (first|(with_reducible refine yq _ ?_;(try generalize (G.w _).heap.size=bk);(try dsimp only[yi,yj]);(try clear g);intro g)|(at_builtin;refine wpList_append_lit rfl _ _ 41 rfl 73 i0 _ 1 4 Tryz.underlying41 hi hzz0 hzz1 hzz2 rfl (by decide) g hrow hb rfl 1 rfl rfl H1 (by decide) H2 H3 ?_;clear hb hrow g;intro b' cap cs g hb hrow))
   rw[←HAP.out] at hrow
   have hsl:SlW g.w (some ⟨b',0,none⟩) cap L:=(sl_row hrow HL.out (by omega) hO).at (blkF_sub g.blk0)
   have hsr:=Lib.hid (sl_trim (sl_row (b:=b') hrow HL.out (by omega) hO))
   refine(CT1.out _ _ _ hsl).mono ?_
   rintro e w1 ⟨rfl,hb⟩
   obtain⟨g1,rfl⟩:=G.call_ex _ hb
   clear hb
   (try clear g)
   revert g1
   intro g
   clear hsl
   go_wp2_with (with_reducible refine yq _ ?_;(try generalize (G.w _).heap.size=bk);(try dsimp only[yi,yj]);(try clear g);intro g)
   go_ret
   have hlim:(limbs (val L)).length≤q+k+1:=by rw[←HL.out];exact limbs_len_le_of_ok hO
   have hpre:=Row.pre hrow hlim
   rw[limbs_prefix hO] at hpre
   rw[←HV.out]
   exact⟨b',cap,cs,rfl,hpre,g.below,hb,g.blk0⟩
theorem len_nb {u v:Nat}(h:nb u=nb v):(limbs u).length=(limbs v).length:=by
 have key:∀ {x y:Nat},nb x=nb y→(limbs x).length≤(limbs y).length:=by
  intro x y h
  refine(limbs_len _ _).2 ?_
  have:=(limbs_len y _).1 (Nat.le_refl _)
  rw[pow32] at this ⊢
  exact(nb_le _ _).1 (by rw[h];exact(nb_le _ _).2 this)
 exact Nat.le_antisymm (key h) (key h.symm)
theorem nb_len (a:Nat):nb a≤32*(limbs a).length:=by
 have:=(limbs_len a _).1 (Nat.le_refl _)
 rw[pow32] at this
 exact(nb_le a _).2 this
theorem nb_shift {b n:Nat}(hb:b≠0):nb (b*2^n)=nb b+n:=by
 apply nb_uniq
 ·rw[Nat.pow_add];exact Nat.mul_lt_mul_of_pos_right (nb_lt b) (Nat.two_pow_pos n)
 ·right
  have h1:=nb_pos hb
  rw[show nb b+n-1=(nb b-1)+n by omega,Nat.pow_add]
  exact Nat.mul_le_mul_right _ (nb_ge hb)
theorem apart_m {w0:World}{X:List Nat}{M:List Blk}{I:List Frag}(g:G w0 X M I){i j:Nat}{x y:Blk}(hi:M[i]?=some x)(hj:M[j]?=some y)(hne:i≠j):Apart (some ⟨x.1,0,none⟩) y.1:=by
 intro a e
 cases e
 exact dist_ne g.dist hi hj hne
theorem rquot_less (A1 A2:Option Addr)(c1 c2 a b:Nat)(w:World)(h1:SlW w A1 c1 (limbs a))(h2:SlW w A2 c2 (limbs b))(hl1:(limbs a).length≤100000000)(hl2:(limbs b).length≤100000000)(hn:nb a<nb b):
  Calls Tryz.prog 127 #[.slice A1 (limbs a).length c1,.slice A2 (limbs b).length c2] w (RNN (a/b) (a%b) w):=by
 refine calls_b fun g=>?_
 have hab:a<b:=by
  rcases Nat.lt_or_ge a b with h|h
  ·exact h
  ·have h3:=nb_lt a
   have:nb b≤nb a:=(nb_le b _).2 (Nat.lt_of_le_of_lt h h3)
   omega
 rw[Nat.div_eq_of_lt hab,Nat.mod_eq_of_lt hab]
 have C1:=Lib.hid (fun w h1=>rbits_any A1 c1 a w h1 (by omega))
 have C2:=Lib.hid (fun w h2=>rbits_any A2 c2 b w h2 (by omega))
 have C3:=Lib.hid (fun w h=>own_any A1 c1 (limbs a) w h (by omega))
 unfold RLim at C3
 have hna:nb a≤3200000000:=by have:=nb_len a;omega
 have hnb:nb b≤3200000000:=by have:=nb_len b;omega
 generalize nb a=na at*
 generalize nb b=nb' at*
 obtain⟨N,hN⟩:∃N,(na:Int)-(nb':Int)=N:=⟨_,rfl⟩
 have hN0:N<0:=by omega
 have hw:IntKind.i64.wrap N=N:=by rw[IntKind.wrap_i64];omega
 clear hab hn hna hnb
 go_enter Tryz.func127,Tryz.ntmps127
 go_wp2_with (with_reducible refine yq _ ?_;(try generalize (G.w _).heap.size=bk);(try dsimp only[yi,yj]);(try clear g);intro g)
 refine(C1.out _ (G.sl g (by simp) h1)).mono ?_
 rintro e w1 ⟨rfl,hb⟩
 obtain⟨g1,rfl⟩:=G.call_ex _ hb
 clear hb
 (try clear g)
 revert g1
 intro g
 go_wp2_with (with_reducible refine yq _ ?_;(try generalize (G.w _).heap.size=bk);(try dsimp only[yi,yj]);(try clear g);intro g)
 refine(C2.out _ (G.sl g (by simp) h2)).mono ?_
 rintro e w1 ⟨rfl,hb⟩
 obtain⟨g1,rfl⟩:=G.call_ex _ hb
 clear hb
 (try clear g)
 revert g1
 intro g
 go_wp2_with (with_reducible refine yq _ ?_;(try generalize (G.w _).heap.size=bk);(try dsimp only[yi,yj]);(try clear g);intro g)
 refine(C3.out _ (G.sl g (by simp) h1)).mono ?_
 rintro e w1 ⟨A,c,F,rfl,hs,hn⟩
 have hnn:=fun k o hk=>Nat.le_trans g.chg.size (hn.new k o hk)
 obtain⟨g1,rfl⟩:=G.new_ex _ hn
 clear hn
 (try clear g)
 revert g1
 intro g
 go_wp2_with (with_reducible refine yq _ ?_;(try generalize (G.w _).heap.size=bk);(try dsimp only[yi,yj]);(try clear g);intro g)
 go_ret2
 exact⟨none,0,(fun _=>none),_,_,_,by rw[limbs_zero];rfl,by rw[limbs_zero];exact Frag.Sl.nil _ _,hs,g.none,g.pass (by simp) hnn⟩
set_option maxRecDepth 20000 in
set_option maxHeartbeats 4000000 in
theorem rquot_more (A1 A2:Option Addr)(c1 c2 a b n0:Nat)(w:World)(h1:SlW w A1 c1 (limbs a))(h2:SlW w A2 c2 (limbs b))(hl1:(limbs a).length≤10000000)(hb0:b≠0)(hn:nb a=nb b+n0):
  Calls Tryz.prog 127 #[.slice A1 (limbs a).length c1,.slice A2 (limbs b).length c2] w (RNN (a/b) (a%b) w):=by
 refine calls_b fun g=>?_
 have hl2:(limbs b).length≤10000000:=by
  refine Nat.le_trans ((limbs_len _ _).2 ?_) hl1
  have:=(limbs_len a _).1 (Nat.le_refl _)
  rw[pow32] at this ⊢
  exact(nb_le _ _).1 (by have:=(nb_le a _).2 this;omega)
 have hna:nb a≤320000000:=by have:=nb_len a;omega
 have ha0:a≠0:=by
  intro e
  subst e
  have:=nb_pos hb0
  rw[nb_zero] at hn
  omega
 have hn9:n0≤320000000:=by omega
 have C1:=Lib.hid (fun w h1=>rbits_any A1 c1 a w h1 (by omega))
 have C2:=Lib.hid (fun w h2=>rbits_any A2 c2 b w h2 (by omega))
 have C3:=Lib.hid (fun w h=>own_own A1 c1 (limbs a) w h (by omega) (len_ne ha0))
 have C4:=Lib.hid (fun w h=>rshift_own A2 c2 (limbs b) n0 w h (by omega) (by omega))
 rw[val_limbs] at C4
 unfold ROwn at C3 C4
 have hld:(limbs (b*2^n0)).length=(limbs a).length:=len_nb (by rw[nb_shift hb0];exact hn.symm)
 rw[hld] at C4
 have HQ:=Lib.hid (Qb.start hb0 hn)
 have HDV:Hid (val (limbs (b*2^n0))=b*2^n0):=Lib.hid (val_limbs _)
 have HRV:Hid (val (limbs a)=a):=Lib.hid (val_limbs _)
 have oa:=ok_limbs a
 have od:=ok_limbs (b*2^n0)
 have hf:((nb a:Nat):Int)-((nb b:Nat):Int)=(n0:Int):=by omega
 have hwn:IntKind.i64.wrap (n0:Int)=(n0:Int):=by rw[IntKind.wrap_i64];omega
 obtain⟨la,hla⟩:∃la,(limbs a).length=la:=⟨_,rfl⟩
 rw[hla] at C1 C3 C4 hld hl1 ⊢
 have HLA:=Lib.hid hla
 have HLD:=Lib.hid hld
 obtain⟨lb,hlb⟩:∃lb,(limbs b).length=lb:=⟨_,rfl⟩
 rw[hlb] at C2 C4 ⊢
 clear hla hld hlb hl2
 generalize limbs (b*2^n0)=dl0 at*
 obtain⟨m,hm⟩:∃m,n0/32+1=m:=⟨_,rfl⟩
 have hq1:Int.tdiv (n0:Int) 32=((n0/32:Nat):Int):=by rw[Int.tdiv_eq_ediv_of_nonneg (by omega)];omega
 have hq2:((n0/32:Nat):Int)+1=(m:Int):=by omega
 have hmk:∀w,(Instr.makeSlice 41 (.int .i64 (m:Int)) (.int .i64 (m:Int))).run Tryz.prog w=.ok (.slice (some ⟨w.heap.size,0,none⟩) m m) (w.alloc (.cells (u32s (List.replicate m 0)).toArray 73)):=fun w=>make_nat m (by omega) w
 have hm9:m≤10000001:=by omega
 have hmn:∀k,k≤n0→k/32<m:=fun k hk=>by omega
 have HMN:=Lib.hid hmn
 clear hm hmn ha0 hna
 generalize n0/32=n32 at*
 generalize nb a=na at*
 generalize nb b=nb' at*
 clear hn
 go_enter Tryz.func127,Tryz.ntmps127
 go_wp2_with (with_reducible refine yq _ ?_;(try generalize (G.w _).heap.size=bk);(try dsimp only[yi,yj]);(try clear g);intro g)
 refine(C1.out _ (G.sl g (by simp) h1)).mono ?_
 rintro e w1 ⟨rfl,hb⟩
 obtain⟨g1,rfl⟩:=G.call_ex _ hb
 clear hb
 (try clear g)
 revert g1
 intro g
 go_wp2_with (with_reducible refine yq _ ?_;(try generalize (G.w _).heap.size=bk);(try dsimp only[yi,yj]);(try clear g);intro g)
 refine(C2.out _ (G.sl g (by simp) h2)).mono ?_
 rintro e w1 ⟨rfl,hb⟩
 obtain⟨g1,rfl⟩:=G.call_ex _ hb
 clear hb
 (try clear g)
 revert g1
 intro g
 go_wp2_with (with_reducible refine yq _ ?_;(try generalize (G.w _).heap.size=bk);(try dsimp only[yi,yj]);(try clear g);intro g)
 refine(C3.out _ (G.sl g (by simp) h1)).mono ?_
 rintro e w1 ⟨rb,rcap,rcs,rfl,hrow,hbe,hfr,hbl⟩
 obtain⟨g1,rfl⟩:=G.own_ex g hbe hfr hbl
 clear hbe hfr hbl g
 revert g1
 intro g
 go_wp2_with (with_reducible refine yq _ ?_;(try generalize (G.w _).heap.size=bk);(try dsimp only[yi,yj]);(try clear g);intro g)
 refine(C4.out _ (G.sl g (by simp) h2)).mono ?_
 rintro e w1 ⟨db,dcap,dcs,rfl,hdrow,hbe,hfr,hbl⟩
 obtain⟨g1,rfl⟩:=G.own_ex g hbe hfr hbl
 clear hbe hfr hbl g
 revert g1
 intro g
 go_wp2_with (with_reducible refine yq _ ?_;(try generalize (G.w _).heap.size=bk);(try dsimp only[yi,yj]);(try clear g);intro g)
 clear C1 C2 C3 C4 hmk hq1 hq2 hf hwn
 obtain⟨qb,rfl⟩:∃qb:Nat,qb=bk:=⟨_,rfl⟩
 have HI0:Hid ((limbs a).length=la∧Ok (limbs a)∧dl0.length=la∧Ok dl0∧(List.replicate m 0).length=m∧Ok (List.replicate m 0)∧(∀k,n0+1=k+1→val dl0=b*2^k)∧Qb a b (n0+1) (val (limbs a)) (val (List.replicate m 0))):=
  Lib.hid ⟨HLA.out,oa,HLD.out,od,List.length_replicate,Ok.zeros _,fun k hk=>by rw[show k=n0 by omega];exact HDV.out,by rw[HRV.out,val_zeros];exact HQ.out⟩
 clear HQ HDV HRV HLA HLD
 go_loopg [6] (n0+1) (fun gk s6 wr=>∃(rl dl ql:List Nat) (rcs dcs:List Value),s6=.int .i64 ((gk:Int)-1)∧gk≤n0+1∧Hid (rl.length=la∧Ok rl∧dl.length=la∧Ok dl∧ql.length=m∧Ok ql∧(∀k,gk=k+1→val dl=b*2^k)∧Qb a b gk (val rl) (val ql))∧Row 73 1 la (u32s rl) rcap rcs∧Row 73 1 la (u32s dl) dcap dcs∧∃g:G w [] [(qb,73,u32s ql),(db,73,dcs),(rb,73,rcs)] [heapOf w],wr=g.w)
 case atStart=>exact⟨limbs a,dl0,List.replicate m 0,rcs,dcs,by go_num,Nat.le_refl _,HI0,hrow,hdrow,g,rfl⟩
 case round=>
  clear g hrow hdrow HI0 rcs dcs
  obtain⟨rl,dl,ql,rcs,dcs,rfl,hg,HI,hrow,hdrow,g,rfl⟩:=hrel
  cases gk with
  |zero=>
   obtain⟨i1,i2,i3,i4,i5,i6,_,i8⟩:=HI.out
   obtain⟨e1,e2⟩:=i8.stop
   have T1:=Lib.hid (fun w h=>rtrim_any (some ⟨qb,0,none⟩) m ql w h)
   have T2:=Lib.hid (fun w h=>rtrim_any (some ⟨rb,0,none⟩) rcap rl w h)
   rw[i5,e1] at T1
   rw[i1,e2] at T2
   have S1:=Lib.hid (sl_trim (sl_blk (b:=qb) (T:=73) (l:=ql) (fr:=(0,0)) (c:=m) (by omega) (by omega) i6))
   have S2:=Lib.hid (sl_trim (sl_row (b:=rb) hrow i1 (by omega) i2))
   rw[e1] at S1
   rw[e2] at S2
   have P1:=Lib.hid (fun(g:G w [] [(qb,73,u32s ql),(db,73,dcs),(rb,73,rcs)] [heapOf w])=>(sl_blk (b:=qb) (T:=73) (l:=ql) (fr:=(0,0)) (c:=m) (by omega) (by omega) i6).at (blkF_sub g.blk0))
   have P2:=Lib.hid (fun(g:G w [] [(qb,73,u32s ql),(db,73,dcs),(rb,73,rcs)] [heapOf w])=>(sl_row (b:=rb) hrow i1 (by omega) i2).at (blkF_sub g.blk2))
   clear i1 i2 i3 i4 i5 i6 i8 e1 e2 HI
   generalize a/b=q at*
   generalize a%b=r at*
   go_wp2_with (with_reducible refine yq _ ?_;(try generalize (G.w _).heap.size=bk);(try dsimp only[yi,yj]);(try clear g);intro g)
   refine(T1.out _ (P1.out g)).mono ?_
   rintro e w1 ⟨rfl,hb⟩
   obtain⟨g1,rfl⟩:=G.call_ex _ hb
   clear hb
   (try clear g)
   revert g1
   intro g
   go_wp2_with (with_reducible refine yq _ ?_;(try generalize (G.w _).heap.size=bk);(try dsimp only[yi,yj]);(try clear g);intro g)
   refine(T2.out _ (P2.out g)).mono ?_
   rintro e w1 ⟨rfl,hb⟩
   obtain⟨g1,rfl⟩:=G.call_ex _ hb
   clear hb
   (try clear g)
   revert g1
   intro g
   go_wp2_with (with_reducible refine yq _ ?_;(try generalize (G.w _).heap.size=bk);(try dsimp only[yi,yj]);(try clear g);intro g)
   go_ret2
   exact⟨_,_,_,_,_,_,rfl,S1.out,S2.out,g.give (List.mem_cons_self ..),g.give (by simp)⟩
  |succ k=>
   rw[show((k+1:Nat):Int)-1=(k:Int) by omega]
   have hk0:(0:Int)≤(k:Int):=by omega
   have CBq:=Lib.hid (fun(g:G w [] [(qb,73,u32s ql),(db,73,dcs),(rb,73,rcs)] [heapOf w])=>rbelow_any (some ⟨rb,0,none⟩) (some ⟨db,0,none⟩) rcap dcap la rl dl g.w ((sl_row (b:=rb) hrow HI.out.1 (by omega) HI.out.2.1).at (blkF_sub g.blk2)) ((sl_row (b:=db) hdrow HI.out.2.2.1 (by omega) HI.out.2.2.2.1).at (blkF_sub g.blk1)) HI.out.1 HI.out.2.2.1 (by omega))
   by_cases hlt:val rl<val dl
   ·rw[decide_eq_true hlt] at CBq
    have CH:=Lib.hid (fun(g:G w [] [(qb,73,u32s ql),(db,73,dcs),(rb,73,rcs)] [heapOf w])=>rhalve_any db la dcap dcs dl g.w g.blk1 hdrow HI.out.2.2.1 HI.out.2.2.2.1 (by omega))
    have HK:Hid (Qb a b k (val rl) (val ql)):=Lib.hid (HI.out.2.2.2.2.2.2.2.keep (by rw[←HI.out.2.2.2.2.2.2.1 k rfl];exact hlt))
    clear hlt
    go_wp2_with (with_reducible refine yq _ ?_;(try generalize (G.w _).heap.size=bk);(try dsimp only[yi,yj]);(try clear g);intro g)
    refine(CBq.out g).mono ?_
    rintro e w1 ⟨rfl,rfl⟩
    go_wp2_with (with_reducible refine yq _ ?_;(try generalize (G.w _).heap.size=bk);(try dsimp only[yi,yj]);(try clear g);intro g)
    refine(CH.out g).mono ?_
    rintro e w1 ⟨rfl,hch,dl',dcs',hhb,hdrow',j1,j2,j3⟩
    obtain⟨g1,rfl⟩:=G.mut1 g hch hhb
    clear hch hhb g
    revert g1
    intro g
    have HI2:Hid (rl.length=la∧Ok rl∧dl'.length=la∧Ok dl'∧ql.length=m∧Ok ql∧(∀k',k=k'+1→val dl'=b*2^k')∧Qb a b k (val rl) (val ql)):=
     Lib.hid ⟨HI.out.1,HI.out.2.1,j1,j2,HI.out.2.2.2.2.1,HI.out.2.2.2.2.2.1,fun k' hk'=>by
      rw[j3,HI.out.2.2.2.2.2.2.1 k rfl,hk',Nat.pow_succ,←Nat.mul_assoc,Nat.mul_div_cancel _ (by decide)],HK.out⟩
    have HRW:=Lib.hid hdrow'
    clear j1 j2 j3 hdrow' CBq CH
    go_wp2_with (with_reducible refine yq _ ?_;(try generalize (G.w _).heap.size=bk);(try dsimp only[yi,yj]);(try clear g);intro g)
    go_roundg k
    case measure=>omega
    case rel=>exact⟨rl,dl',ql,rcs,dcs',by go_num,by omega,HI2,hrow,HRW.out,g,rfl⟩
   ·rw[decide_eq_false hlt] at CBq
    have CTk:=Lib.hid (fun(g:G w [] [(qb,73,u32s ql),(db,73,dcs),(rb,73,rcs)] [heapOf w])=>rtake_any rb la rcap rcs rl dl (some ⟨db,0,none⟩) dcap g.w g.blk2 hrow ((sl_row (b:=db) hdrow HI.out.2.2.1 (by omega) HI.out.2.2.2.1).at (blkF_sub g.blk1)) (apart_m g (i:=1) (j:=2) rfl rfl (by decide)) HI.out.1 HI.out.2.2.1 HI.out.2.1 (by omega) (by omega))
    have hkm:=HMN.out k (by omega)
    obtain⟨s1,s2,s3⟩:=bit_set (q:=ql) (k:=k) HI.out.2.2.2.2.2.1 (by rw[HI.out.2.2.2.2.1];exact hkm) HI.out.2.2.2.2.2.2.2.dvd
    have HK:Hid (Qb a b k (val rl-val dl) (val ql+2^k)):=Lib.hid (by
     have e:=HI.out.2.2.2.2.2.2.1 k rfl
     rw[e]
     exact HI.out.2.2.2.2.2.2.2.sub (by rw[←e];omega))
    have hql9:=HI.out.2.2.2.2.2.1.getD (k/32)
    have hcell:=u32s_getD (l:=ql) (j:=k/32) (by rw[HI.out.2.2.2.2.1];exact hkm)
    obtain⟨j,hj⟩:∃j,k/32=j:=⟨_,rfl⟩
    obtain⟨r,hr⟩:∃r,k%32=r:=⟨_,rfl⟩
    rw[hj] at hkm s1 s2 s3 hql9 hcell
    rw[hr] at s1 s2 s3
    have hr32:r<32:=by omega
    have f1:Int.tdiv (k:Int) 32=(j:Int):=by rw[Int.tdiv_eq_ediv_of_nonneg (by omega)];omega
    have f2:Int.tmod (k:Int) 32=(r:Int):=by rw[Int.tmod_eq_emod_of_nonneg (by omega)];omega
    generalize ql.getD j 0=y at*
    have hpr:2^r<2^(r+1):=Nat.pow_lt_pow_right (by decide) (by omega)
    have hp9:2^r<4294967296:=Nat.lt_of_lt_of_le (Nat.pow_lt_pow_right (a:=2) (by decide) hr32) (Nat.le_refl _)
    have hor:bits .or .u32 (y:Int) ((2^r:Nat):Int)=((y+2^r:Nat):Int):=by
     rw[K3.or32_comm,K3.or32_add _ _ (r+1) (by omega) hpr (by omega) s1]
    have hpi:(2:Int)^r=((2^r:Nat):Int):=by rw[Int.natCast_pow];rfl
    have hset:=Lib.hid (u32s_set ql j (y+2^r))
    have hv2:=Lib.hid s3
    have hok2:=HI.out.2.2.2.2.2.1.set j s2
    generalize 2^r=p at*
    obtain⟨yp,hyp⟩:∃yp,y+p=yp:=⟨_,rfl⟩
    rw[hyp] at hor hset hv2 hok2 s2
    have hwp:IntKind.u32.wrap (p:Int)=(p:Int):=by rw[IntKind.wrap_u32];omega
    have hwy:IntKind.u32.wrap (yp:Int)=(yp:Int):=by rw[IntKind.wrap_u32];omega
    have hr0:¬ ((r:Int)<0):=by omega
    have hr1:(0:Int)≤(r:Int):=by omega
    have hj0:(0:Int)≤(j:Int):=by omega
    have hjm:(j:Int)<(m:Int):=by omega
    have hwj:IntKind.i64.wrap (j:Int)=(j:Int):=by rw[IntKind.wrap_i64];omega
    have hwr:IntKind.i64.wrap (r:Int)=(r:Int):=by rw[IntKind.wrap_i64];omega
    have hlq:(ql.set j yp).length=m:=by rw[List.length_set];exact HI.out.2.2.2.2.1
    clear s1 s2 s3 hpr hj hr hyp hlt
    go_wp2_with (with_reducible refine yq _ ?_;(try generalize (G.w _).heap.size=bk);(try dsimp only[yi,yj]);(try clear g);intro g)
    refine(CBq.out g).mono ?_
    rintro e w1 ⟨rfl,rfl⟩
    go_wp2_with (with_reducible refine yq _ ?_;(try generalize (G.w _).heap.size=bk);(try dsimp only[yi,yj]);(try clear g);intro g)
    refine(CTk.out g).mono ?_
    rintro e w1 ⟨rfl,hch,rl',rcs',hhb,hrow',j1,j2,j3⟩
    obtain⟨g1,rfl⟩:=G.mut2 g hch hhb
    clear hch hhb g CBq CTk
    revert g1
    intro g
    go_wp2_with (with_reducible refine yq _ ?_;(try generalize (G.w _).heap.size=bk);(try dsimp only[yi,yj]);(try clear g);intro g)
    go_region
    all_goals ((try simp only[G.drew_eq,G.drewN_eq]);(refine yq _ ?_;(try generalize (G.w _).heap.size=bk);(try dsimp only[yi,yj]);(try clear g);intro g))
    all_goals go_wp2_with (with_reducible refine yq _ ?_;(try generalize (G.w _).heap.size=bk);(try dsimp only[yi,yj]);(try clear g);intro g)
    all_goals
     obtain⟨g2,hg2⟩:=g.as (by rw[hset.out])
     rw[hg2]
     clear hg2 g
     refine(rhalve_any db la dcap dcs dl g2.w g2.blk1 hdrow HI.out.2.2.1 HI.out.2.2.2.1 (by omega)).mono ?_
     rintro e w1 ⟨rfl,hch,dl',dcs',hhb,hdrow',q1,q2,q3⟩
     obtain⟨g1,rfl⟩:=G.mut1 g2 hch hhb
     clear hch hhb g2
     revert g1
     intro g
     have HI2:Hid (rl'.length=la∧Ok rl'∧dl'.length=la∧Ok dl'∧(ql.set j yp).length=m∧Ok (ql.set j yp)∧(∀k',k=k'+1→val dl'=b*2^k')∧Qb a b k (val rl') (val (ql.set j yp))):=
      Lib.hid ⟨j1,j2,q1,q2,hlq,hok2,fun k' hk'=>by
       rw[q3,HI.out.2.2.2.2.2.2.1 k rfl,hk',Nat.pow_succ,←Nat.mul_assoc,Nat.mul_div_cancel _ (by decide)],by rw[j3,hv2.out];exact HK.out⟩
     have HRW:=Lib.hid hdrow'
     have HRW2:=Lib.hid hrow'
     clear q1 q2 q3 hdrow' j1 j2 j3 hrow'
     go_wp2_with (with_reducible refine yq _ ?_;(try generalize (G.w _).heap.size=bk);(try dsimp only[yi,yj]);(try clear g);intro g)
     go_roundg k
     case measure=>omega
     case rel=>exact⟨rl',dl',ql.set j yp,rcs',dcs',by go_num,by omega,HI2,HRW2.out,HRW.out,g,rfl⟩
theorem rquot_any (A1 A2:Option Addr)(c1 c2 a b:Nat)(w:World)(h1:SlW w A1 c1 (limbs a))(h2:SlW w A2 c2 (limbs b))(hl1:(limbs a).length≤10000000)(hl2:(limbs b).length≤10000000)(hb0:b≠0):
  Calls Tryz.prog 127 #[.slice A1 (limbs a).length c1,.slice A2 (limbs b).length c2] w (RNN (a/b) (a%b) w):=by
 by_cases h:nb a<nb b
 ·exact rquot_less A1 A2 c1 c2 a b w h1 h2 (by omega) (by omega) h
 ·exact rquot_more A1 A2 c1 c2 a b (nb a-nb b) w h1 h2 hl1 hb0 (by omega)
end Go.Proofs.YthhbbnfnejjpiaaGreatDoor
