/- Plain facts and contracts of functions of the program, out of walks. Their conditions stand ahead of each. -/
import Derived.Test.YthhbbnfnejjpiaaGreatDoorNm8
import Derived.Below
import Derived.BigQuiet
import Derived.Deep.Draws
import Derived.Deep.LoopGhost
import Derived.Deep.QuietTactic
import Derived.Deep.RegionHeld3
import Derived.Laws.NewBlocks
import Derived.Laws.OwnMore
import Derived.Laws.Pointers
import Derived.Laws.Rows
import Derived.Lib.Hide
import Derived.OrdersHeld
import Derived.RangeFuncNested
import Derived.RowKit3
import Derived.Shelf.Spec.TrailingZeros
import Derived.StillTactics
import Derived.StillTailTactics
import Derived.Test.YthhbbnfnejjpiaaGreatDoorProg
import Derived.WalkKit
import Derived.WalkLawsBesides
import Derived.WalkMore
import Derived.WalkSpells
set_option linter.unusedVariables false
set_option linter.unusedSimpArgs false
set_option exponentiation.threshold 10000
namespace Go.Proofs.YthhbbnfnejjpiaaGreatDoor
open Go.RowKit GW NL
set_option maxRecDepth 20000 in
set_option maxHeartbeats 4000000 in
theorem ltimes_any (A1 A2:Option Addr)(c1 c2:Nat)(l1 l2:List Nat)(w:World)(h1:SlW w A1 c1 l1)(h2:SlW w A2 c2 l2)(hl1:l1.length≤1000000000)(hl2:l2.length≤1000000000):
  Calls Tryz.prog 115 #[.slice A1 l1.length c1,.slice A2 l2.length c2] w (RNat (val l1*val l2) w):=by
 refine calls_b fun g=>?_
 obtain⟨n1,hn1⟩:∃n:Nat,l1.length=n:=⟨_,rfl⟩
 obtain⟨n2,hn2⟩:∃n:Nat,l2.length=n:=⟨_,rfl⟩
 obtain⟨n,hn⟩:∃n:Nat,n1+n2=n:=⟨_,rfl⟩
 have hmk:∀w,(Instr.makeSlice 105 (.int .i64 ((n1:Int)+(n2:Int))) (.int .i64 ((n1:Int)+(n2:Int)))).run Tryz.prog w=.ok (.slice (some ⟨w.heap.size,0,none⟩) n n) (w.alloc (.cells (u32s (List.replicate n 0)).toArray 73)):=by
  intro w
  have:=make_lim n (by omega) w
  rw[←hn] at this ⊢
  exact this
 rw[hn1,hn2]
 have HN1:=Lib.hid hn1
 have HN2:=Lib.hid hn2
 have HN:=Lib.hid hn
 have ha1:l1.length≤n1:=by omega
 have ha2:n1≤l1.length:=by omega
 have ha3:l2.length≤n2:=by omega
 have ha4:n2≤l2.length:=by omega
 have ha5:n≤n1+n2:=by omega
 have ha6:n1+n2≤n:=by omega
 clear hn1 hn2 hn
 go_enter Tryz.func115,Tryz.ntmps115
 go_wp2_with (with_reducible refine yq _ ?_;(try generalize (G.w _).heap.size=bk);(try dsimp only[yi,yj]);(try clear g);intro g)
 obtain⟨ob,rfl⟩:∃ob:Nat,ob=bk:=⟨_,rfl⟩
 go_loopg [19] n1 (fun gk i wr=>∃(k:Nat) (out:List Nat),k+gk=n1∧i=.int .i64 k∧n≤out.length∧out.length≤n∧Ok out∧Hid (∀j,k+n2≤j→out.getD j 0=0)∧Hid (val out=val (l1.take k)*val l2)∧∃g:G w [] [(ob,73,u32s out)] [heapOf w],wr=g.w)
 case atStart=>exact⟨0,List.replicate n 0,by omega,rfl,by simp,by simp,Ok.zeros _,fun j _=>by simp[List.getElem?_replicate];split<;>rfl,Lib.hid (by rw[val_zeros];simp[val]),g,rfl⟩
 case round=>
  clear g hmk
  obtain⟨ko,rfl⟩:∃ko:Nat,ko=gk:=⟨_,rfl⟩
  obtain⟨k,out,hkg,rfl,hp1,hp2,hok,HZ,HV,g,rfl⟩:=hrel
  by_cases hk2:k<n1
  ·obtain⟨b,o,rfl,hcell⟩:=lim_cells h1.lim (by omega)
   have e0:=Lib.hid (hcell k (by omega))
   clear hcell
   have hx:=h1.ok.getD k
   obtain⟨x,hxe⟩:∃x,l1.getD k 0=x:=⟨_,rfl⟩
   rw[hxe] at e0 hx
   have HX:=Lib.hid hxe
   clear hxe
   have hko:0<ko:=by omega
   have ee0:=e0.out _ _ _ _ g (by simp)
   go_wp2_with (with_reducible refine yq _ ?_;(try generalize (G.w _).heap.size=bk);(try dsimp only[yi,yj]);(try clear g);intro g)
   clear ee0
   go_loopg [8,26] n2 (fun gk s7 s8 wr=>∃(j c:Nat) (out:List Nat),j+gk=n2∧s7=.int .u64 c∧s8=.int .i64 j∧n≤out.length∧out.length≤n∧Ok out∧c<4294967296∧Hid (∀i,k+n2≤i→out.getD i 0=0)∧Hid (val out+4294967296^(k+j)*c=val (l1.take k)*val l2+4294967296^k*(x*val (l2.take j)))∧∃g:G w [] [(ob,73,u32s out)] [heapOf w],wr=g.w)
   case atStart=>exact⟨0,0,out,by omega,rfl,rfl,hp1,hp2,hok,by omega,HZ,Lib.hid (by rw[List.take_zero];simp[val];exact HV.out),g,rfl⟩
   case round=>
    clear g
    clear HV HZ hok hp1 hp2
    obtain⟨j,c,out,hjg,rfl,rfl,hp1,hp2,hok,hc,HZ,HV,g,rfl⟩:=hrel
    by_cases hj2:j<n2
    ·obtain⟨b2,o2,rfl,hcell⟩:=lim_cells h2.lim (by omega)
     have e1:=Lib.hid (hcell j (by omega))
     clear hcell
     have hy:=h2.ok.getD j
     obtain⟨kj,hkj'⟩:∃kj,k+j=kj:=⟨_,rfl⟩
     have hkj:kj<out.length:=by omega
     have e2:=u32s_getD hkj
     have hzz:=hok.getD kj
     have st:=Lib.hid (mul_step (l2:=l2) (by rw[hkj'];exact hkj) HV.out)
     rw[hkj'] at st
     have hs:=Lib.hid (u32s_set out kj ((x*l2.getD j 0+out.getD kj 0+c)%4294967296))
     have hc2:=mul_carry hx hy hzz hc
     have hr:(x*l2.getD j 0+out.getD kj 0+c)%4294967296<4294967296:=by omega
     have HZ2:Hid (∀i,k+n2≤i→(out.set kj ((x*l2.getD j 0+out.getD kj 0+c)%4294967296)).getD i 0=0):=Lib.hid (fun i hi=>by rw[NL.getD_set_ne (by omega)];exact HZ.out i hi)
     have hok2:=hok.set kj hr
     have hlen:(out.set kj ((x*l2.getD j 0+out.getD kj 0+c)%4294967296)).length=out.length:=List.length_set ..
     have hbig:=mul_bound x (l2.getD j 0) (out.getD kj 0) c hx hy hzz hc
     generalize out.getD kj 0=z at*
     generalize l2.getD j 0=y at*
     obtain⟨xy,hxy⟩:∃xy,x*y=xy:=⟨_,rfl⟩
     have f0:(x:Int)*(y:Int)=(xy:Int):=by rw[←hxy];exact(Int.natCast_mul x y).symm
     rw[hxy] at st hs hc2 hr HZ2 hok2 hlen hbig
     obtain⟨t,ht⟩:∃t,xy+z+c=t:=⟨_,rfl⟩
     rw[ht] at st hs hc2 hr HZ2 hok2 hlen hbig
     obtain⟨cz,hcz⟩:∃cz,xy+z=cz:=⟨_,rfl⟩
     have f1:(xy:Int)+(z:Int)=(cz:Int):=by omega
     have f2:(c:Int)+(cz:Int)=(t:Int):=by omega
     have f3:IntKind.u64.wrap (cz:Int)=(cz:Int):=by rw[IntKind.wrap_u64];omega
     have f4:IntKind.u64.wrap (t:Int)=(t:Int):=by rw[IntKind.wrap_u64];omega
     have f5:IntKind.u64.wrap (xy:Int)=(xy:Int):=by rw[IntKind.wrap_u64];omega
     have f6:IntKind.u64.wrap (x:Int)=(x:Int):=by rw[IntKind.wrap_u64];omega
     have f7:IntKind.u64.wrap (y:Int)=(y:Int):=by rw[IntKind.wrap_u64];omega
     have f8:IntKind.u64.wrap (z:Int)=(z:Int):=by rw[IntKind.wrap_u64];omega
     obtain⟨r,hrr⟩:∃r,t%4294967296=r:=⟨_,rfl⟩
     obtain⟨q,hqq⟩:∃q,t/4294967296=q:=⟨_,rfl⟩
     have f9:IntKind.u32.wrap (t:Int)=(r:Int):=by rw[IntKind.wrap_u32];omega
     have f10:(t:Int)/4294967296=(q:Int):=by omega
     rw[hrr] at st hs hr HZ2 hok2 hlen
     rw[hqq] at st hc2
     have hl1:=Nat.le_of_eq hlen
     have hl2:=Nat.le_of_eq hlen.symm
     have g1:(k:Int)+(j:Int)=(kj:Int):=by omega
     have g2:IntKind.i64.wrap (kj:Int)=(kj:Int):=by rw[IntKind.wrap_i64];omega
     have g3:(kj:Int)<(n:Int):=by omega
     have g4:kj<n:=by omega
     have HKJ:=Lib.hid hkj'
     clear hlen hxy ht hcz hrr hqq hbig hkj' HZ HV
     have ee1:=e1.out _ _ _ _ g (by simp)
     go_wp2_with (with_reducible refine yq _ ?_;(try generalize (G.w _).heap.size=bk);(try dsimp only[yi,yj]);(try clear g);intro g)
     obtain⟨g2',hg2⟩:=g.as (by rw[hs.out])
     go_roundg (gk-1)
     case measure=>omega
     case rel=>exact⟨j+1,q,out.set kj r,by omega,rfl,by go_num,by omega,by omega,hok2,hc2,HZ2,Lib.hid (by have:=st.out;have e:=HKJ.out;rw[←e] at this ⊢;exact this),g2',hg2⟩
    ·obtain rfl:j=n2:=by omega
     have hn2:l2.length=j:=by omega
     obtain⟨kj,hkj'⟩:∃kj,k+j=kj:=⟨_,rfl⟩
     have hkl:k+l2.length<out.length:=by omega
     have hkl':kj<out.length:=by omega
     have hz0:=HZ.out (k+j) (Nat.le_refl _)
     have e2:=u32s_getD hkl'
     have rd:=Lib.hid (mul_round (l1:=l1) (c:=c) hkl (by rw[hn2];exact hz0) (by rw[HX.out,hn2];exact HV.out))
     have hs:=Lib.hid (u32s_set out kj c)
     have hok2:=hok.set kj hc
     have HZ2:Hid (∀i,k+1+j≤i→(out.set kj c).getD i 0=0):=Lib.hid (fun i hi=>by rw[NL.getD_set_ne (by omega)];exact HZ.out i (by omega))
     rw[hn2,hkj'] at rd
     have hlen:(out.set kj c).length=out.length:=List.length_set ..
     have hl1:=Nat.le_of_eq hlen
     have hl2:=Nat.le_of_eq hlen.symm
     have f9:IntKind.u32.wrap (c:Int)=(c:Int):=by rw[IntKind.wrap_u32];omega
     have g1:(k:Int)+(j:Int)=(kj:Int):=by omega
     have g2:IntKind.i64.wrap (kj:Int)=(kj:Int):=by rw[IntKind.wrap_i64];omega
     have g3:(kj:Int)<(n:Int):=by omega
     have g4:kj<n:=by omega
     clear hlen hn2 hz0 HZ HV hkj'
     generalize out.getD kj 0=z at*
     go_wp2_with (with_reducible refine yq _ ?_;(try generalize (G.w _).heap.size=bk);(try dsimp only[yi,yj]);(try clear g);intro g)
     obtain⟨g2',hg2⟩:=g.as (by rw[hs.out])
     go_roundg (ko-1)
     case measure=>omega
     case rel=>exact⟨k+1,out.set kj c,by omega,by go_num,by omega,by omega,hok2,HZ2,rd,g2',hg2⟩
  ·obtain rfl:k=n1:=by omega
   have hn1:l1.length≤k:=by omega
   have e1:=HV.out
   rw[val_take_all hn1] at e1
   have E1:=Lib.hid e1
   obtain rfl:n=out.length:=by omega
   clear e1 hn1
   have hsl:SlW g.w (some ⟨ob,0,none⟩) out.length out:=(sl_blk (Nat.le_refl _) (by omega) hok).at (blkF_sub g.blk0)
   clear HN
   go_wp2_with (with_reducible refine yq _ ?_;(try generalize (G.w _).heap.size=bk);(try dsimp only[yi,yj]);(try clear g);intro g)
   refine(ltrim_any _ _ out _ hsl).mono ?_
   rintro e w1 ⟨rfl,hb⟩
   obtain⟨g1,rfl⟩:=G.call_ex _ hb
   clear hb hsl g
   revert g1
   intro g
   go_wp2_with (with_reducible refine yq _ ?_;(try generalize (G.w _).heap.size=bk);(try dsimp only[yi,yj]);(try clear g);intro g)
   go_ret
   exact rnat_end g (List.mem_cons_self ..) hok (Nat.le_refl _) (by omega) E1.out
end Go.Proofs.YthhbbnfnejjpiaaGreatDoor
