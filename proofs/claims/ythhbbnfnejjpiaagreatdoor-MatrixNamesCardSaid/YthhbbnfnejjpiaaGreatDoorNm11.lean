/- Plain facts and contracts of functions of the program, out of walks. Their conditions stand ahead of each. -/
import Derived.Test.YthhbbnfnejjpiaaGreatDoorNm1
import Derived.Test.YthhbbnfnejjpiaaGreatDoorNm2
import Derived.Test.YthhbbnfnejjpiaaGreatDoorNm9
import Derived.Test.YthhbbnfnejjpiaaGreatDoorNm10
import Derived.Below
import Derived.BigQuiet
import Derived.Deep.Draws
import Derived.Deep.LoopGhost
import Derived.Deep.QuietTactic
import Derived.Deep.RegionHeld3
import Derived.Laws.CopyOwn
import Derived.Laws.NewBlocks
import Derived.Laws.OwnMore
import Derived.Laws.Pointers
import Derived.Laws.Rows
import Derived.Lib.BitFns
import Derived.Lib.Hide
import Derived.Lib.ItoaNum
import Derived.Lib.TrailingZeros
import Derived.Maps.AppendAt
import Derived.OrdersHeld
import Derived.RangeFuncNested
import Derived.RowKit3
import Derived.Shelf.Spec.TrailingZeros
import Derived.StillTactics
import Derived.StillTailTactics
import Derived.Test.YthhbbnfnejjpiaaGreatDoorProg
import Derived.WalkKit
import Derived.WalkLawsBesides
import Derived.WalkMore
import Derived.WalkSpells
set_option linter.unusedVariables false
set_option linter.unusedSimpArgs false
namespace Go.Proofs.YthhbbnfnejjpiaaGreatDoor
open Go.RowKit GW NL
theorem ltwos_any (A:Option Addr)(c:Nat)(l:List Nat)(w:World)(h:SlW w A c l)(h0:val l≠0)(hT:Tab w):
  Calls Tryz.prog 162 #[.slice A l.length c] w fun e w'=>e=.returned (.int .i64 (tz (val l):Nat))∧w=w':=by
 have hm:=h.len
 have hmm:=h.max
 have hc:=h.cap
 have ho:=h.ok
 have HT:=Lib.hid hT
 obtain⟨n,hn⟩:∃n,l.length=n:=⟨_,rfl⟩
 rw[hn] at hm hc ⊢
 have HN:=Lib.hid hn
 have H0:=Lib.hid h0
 clear hT hn h0
 go_enter Tryz.func162,Tryz.ntmps162
 go_wp2_with fail
 go_loopg [3] n (fun gk i wr=>∃k:Nat,k+gk=n∧i=.int .i64 k∧Hid (∀j,j<k→l.getD j 0=0)∧wr=w)
 case atStart=>exact⟨0,by omega,rfl,Lib.hid (fun j hj=>absurd hj (Nat.not_lt_zero j)),rfl⟩
 case round=>
  obtain⟨k,hkg,rfl,HZ,rfl⟩:=hrel
  have hkn:k<n:=by
   rcases Nat.lt_or_ge k n with h'|h'
   ·exact h'
   ·exfalso
    apply H0.out
    have:∀j,j≤l.length→val (l.take j)=0:=by
     intro j
     induction j with
     |zero=>intro _;rw[List.take_zero];rfl
     |succ j ih=>intro hj;rw[val_take_getD,ih (by omega),HZ.out j (by rw[HN.out] at hj;omega)];simp
    have:=this l.length (Nat.le_refl _)
    rwa[List.take_length] at this
  obtain⟨b,o,rfl,hcell⟩:=limW_cell h.lim (by rw[HN.out];omega)
  have e1:=hcell k (by rw[HN.out];omega)
  clear hcell
  have hk2:(k:Int)<(n:Int):=by omega
  by_cases hx:l.getD k 0=0
  ·have HZ2:Hid (∀j,j<k+1→l.getD j 0=0):=Lib.hid (fun j hj=>by
    rcases Nat.lt_or_ge j k with h'|h'
    ·exact HZ.out j h'
    ·rw[show j=k by omega];exact hx)
   have hx1:(((l.getD k 0:Nat):Int)==0)=true:=by simp only[hx];rfl
   clear hx HZ
   generalize ((l.getD k 0:Nat):Int)=v at*
   go_wp2_with fail
   go_roundg (gk-1)
   case measure=>omega
   case rel=>exact⟨k+1,by omega,by go_num,HZ2,rfl⟩
  ·obtain⟨ht,hk32⟩:=tz_limb ho HZ.out hx
   have hxl:=ho.getD k
   have CZ:=Lib.hid (fun w h=>tz32_any (l.getD k 0) hxl hx w h)
   have HTZ:=Lib.hid ht
   have hx1:(((l.getD k 0:Nat):Int)==0)=false:=by simp only[beq_eq_false_iff_ne,ne_eq];omega
   clear hx HZ ht
   generalize Lib.ctz 32 (l.getD k 0)=z at*
   generalize l.getD k 0=v at*
   go_wp2_with fail
   refine(CZ.out _ HT.out).mono ?_
   rintro e w1 ⟨rfl,rfl⟩
   go_wp2_with fail
   go_ret
   exact⟨ret_int (by rw[HTZ.out];omega),rfl⟩
theorem G.tab_m {w:World}{b:Nat}{X:List Nat}{M:List Blk}{I:List Frag}(g:G w X M I)(hI:heapBut w b∈I)(hT:Tab w)(hb:b≠0):Tab g.w:=fun j hj=>by
 refine g.frag_cell hI ?_
 have:=hT j hj
 unfold World.cell? at this
 unfold Frag.cell heapBut
 simp only at this ⊢
 rw[if_neg (fun e=>hb e.symm)]
 exact this
/-- What odd does to the block of its slice. -/
def ROdd (b o cap n v:Nat)(cl:Nat)(w:World)(e:Ending)(w':World):Prop:=∃q cs',e=.returned (.slice (some ⟨b,o+q,none⟩) (limbs (od v)).length (cap-q))∧q<n∧q+(limbs (od v)).length≤n∧Chg [b] w w'∧w'.heap[b]?=some (.cells cs'.toArray 73 (0,0))∧Seg cs' (o+q) (limbs (od v))∧cs'.length=cl
set_option maxRecDepth 20000 in
set_option maxHeartbeats 2000000 in
theorem lodd_any (b o n cap:Nat)(cs:List Value)(l:List Nat)(w:World)(hb:w.heap[b]?=some (.cells cs.toArray 73 (0,0)))(hs:Seg cs o l)(hn:l.length=n)(hcap:n≤cap)(hcap2:cap≤9223372036854775807)(hn9:n≤1000000000)(hk:Ok l)(h0:val l≠0)(hT:Tab w)(hbT:b≠0):
  Calls Tryz.prog 163 #[.slice (some ⟨b,o,none⟩) n cap] w (ROdd b o cap n (val l) cs.length w):=by
 refine calls_m hb fun g=>?_
 have hsl:SlW g.w (some ⟨b,o,none⟩) cap l:=(hs.sl (by omega) hcap2 (by omega) hk).at (blkF_sub g.blk0)
 have hTg:Tab g.w:=G.tab_m g (List.mem_cons_self ..) hT hbT
 have C2:=Lib.hid (fun w h hT=>ltwos_any (some ⟨b,o,none⟩) cap l w h h0 hT)
 rw[hn] at C2
 have hq:=tz_len hk h0
 have hod:=od_split hk
 obtain⟨t,ht⟩:∃t,tz (val l)=t:=⟨_,rfl⟩
 rw[ht] at C2 hq hod
 obtain⟨q,hqe⟩:∃q,t/32=q:=⟨_,rfl⟩
 obtain⟨r,hre⟩:∃r,t%32=r:=⟨_,rfl⟩
 rw[hqe] at hq hod
 rw[hre] at hod
 have hr32:r<32:=by omega
 have hqi:Int.tdiv (t:Int) 32=(q:Int):=by rw[Int.tdiv_eq_ediv_of_nonneg (by omega)];omega
 have hri:Int.tmod (t:Int) 32=(r:Int):=by rw[Int.tmod_eq_emod_of_nonneg (by omega)];omega
 have hqi2:(t:Int)/32=(q:Int):=by omega
 have hri2:(t:Int)%32=(r:Int):=by omega
 have ht9:t≤32000000000:=by omega
 obtain⟨n',hn'⟩:∃n',n-q=n':=⟨_,rfl⟩
 obtain⟨o',ho'⟩:∃o',o+q=o':=⟨_,rfl⟩
 obtain⟨c',hc'⟩:∃c',cap-q=c':=⟨_,rfl⟩
 have hsd:=hs.drop q (by omega)
 have hok':=hk.drop q
 obtain⟨l',hl'⟩:∃l',l.drop q=l':=⟨_,rfl⟩
 have hll:l'.length=n':=by rw[←hl',List.length_drop];omega
 rw[hl'] at hsd hok' hod
 rw[ho'] at hsd
 have HQ:=Lib.hid (show q<n by omega)
 have HO:=Lib.hid ho'
 have HC:=Lib.hid hc'
 have HLL:=Lib.hid hll
 have HOD:=Lib.hid hod
 have HSD:=Lib.hid hsd
 have hqn:q<n:=by omega
 have hqn2:(q:Int)≤(n:Int):=by omega
 have hqc:q<cap:=by omega
 have hn'9:n'≤1000000000:=by omega
 have hc'9:n'≤c':=by omega
 have hc'8:c'≤9223372036854775807:=by omega
 have hr0:¬ ((r:Int)<0):=by omega
 have hr1:(0:Int)≤(r:Int):=by omega
 clear hl' hll hod hsd hs hq hn hqe hre ht
 go_enter Tryz.func163,Tryz.ntmps163
 go_wp2_with (with_reducible refine yq _ ?_;(try generalize (G.w _).heap.size=bk);(try dsimp only[yi,yj]);(try clear g);intro g)
 refine(C2.out _ hsl hTg).mono ?_
 rintro e w1 ⟨rfl,rfl⟩
 go_wp2_with (with_reducible refine yq _ ?_;(try generalize (G.w _).heap.size=bk);(try dsimp only[yi,yj]);(try clear g);intro g)
 go_loopg [13] n' (fun gk i wr=>∃(k:Nat) (pre:List Nat) (cs':List Value),k+gk=n'∧i=.int .i64 k∧pre.length=k∧Ok pre∧Hid (val pre=val l'/2^r%4294967296^k)∧Hid (Seg cs' o' (pre++l'.drop k))∧cs'.length=cs.length∧∃g:G w [b] [(b,73,cs')] [heapBut w b],wr=g.w)
 case atStart=>exact⟨0,[],cs,by omega,rfl,rfl,Ok.nil,Lib.hid (by simp[val,Nat.mod_one]),Lib.hid (by rw[List.drop_zero,List.nil_append];exact HSD.out),rfl,g,rfl⟩
 case round=>
  clear g hsl hTg
  obtain⟨k,pre,cs',hkg,rfl,hp,hpo,HV,HS,hcl,g,rfl⟩:=hrel
  have HP:=Lib.hid hp
  have HCL:=Lib.hid hcl
  clear hp hcl
  have hLl:(pre++l'.drop k).length=n':=by rw[List.length_append,List.length_drop,HP.out,HLL.out];omega
  have hLo:Ok (pre++l'.drop k):=hpo.append (hok'.drop k)
  have HSLg:Hid (∀g:G w [b] [(b,73,cs')] [heapBut w b],SlW g.w (some ⟨b,o',none⟩) c' (pre++l'.drop k)):=Lib.hid (fun g=>(HS.out.sl (by omega) hc'8 (by omega) hLo).at (blkF_sub g.blk0))
  have HLn:=Lib.hid hLl
  by_cases hk2:k<n'
  ·have e1:=HS.out.get k (by omega)
   rw[pre_get HP.out (Nat.le_refl _)] at e1
   have hx:=hok'.getD k
   have hy:=hok'.getD (k+1)
   have dl:=down_limb hok' k r hr32
   have st:=Lib.hid (low_step HP.out HV.out dl)
   have CL:Hid (∀w,SlW w (some ⟨b,o',none⟩) c' (pre++l'.drop k)→Calls Tryz.prog 165 #[.slice (some ⟨b,o',none⟩) n' c',.int .i64 ((k:Int)+1)] w fun e w'=>e=.returned (.int .u32 ((l'.getD (k+1) 0:Nat):Int))∧w=w'):=Lib.hid (fun w hw=>by
    have:=lat_any (some ⟨b,o',none⟩) c' (pre++l'.drop k) (k+1) w hw (by omega)
    rw[HLn.out,pre_get HP.out (by omega)] at this
    exact this)
   have HS2:∀z,Hid (Seg (cs'.set (o'+k) (.int .u32 ((z:Nat):Int))) o' ((pre++[z])++l'.drop (k+1))):=fun z=>Lib.hid (by
    rw[←pre_set HP.out (by rw[HLL.out];exact hk2)]
    exact HS.out.set (by rw[HLn.out];exact hk2) z)
   have hr:(l'.getD k 0+4294967296*l'.getD (k+1) 0)/2^r%4294967296<4294967296:=Nat.mod_lt _ (by decide)
   clear dl hLl
   generalize l'.getD k 0=x at*
   generalize l'.getD (k+1) 0=y at*
   have hor:=shl32_or x y hx hy
   have ht:x+4294967296*y<18446744073709551616:=by omega
   obtain⟨tt,htt⟩:∃t,x+4294967296*y=t:=⟨_,rfl⟩
   rw[htt] at hor ht st hr
   clear htt
   obtain⟨z,hz⟩:∃z,tt/2^r%4294967296=z:=⟨_,rfl⟩
   rw[hz] at st hr
   have HE:Hid (IntKind.u32.wrap (bits .or .u64 (IntKind.u64.wrap (IntKind.u64.wrap (y:Int)*4294967296)) (IntKind.u64.wrap (x:Int))/2^r)=(z:Int)):=Lib.hid (by
    rw[hor,←hz,show(tt:Int)/2^r=((tt/2^r:Nat):Int) by rw[Int.natCast_ediv,Int.natCast_pow];rfl,IntKind.wrap_u32]
    omega)
   have HS3:=HS2 z
   have hcl2:Hid ((cs'.set (o'+k) (.int .u32 ((z:Nat):Int))).length=cs.length):=Lib.hid (by rw[List.length_set];exact HCL.out)
   clear hz hor ht HS2
   have hi2:(k:Int)<(n':Int):=by omega
   have hw2:IntKind.i64.wrap ((k:Int)+1)=(k:Int)+1:=by rw[IntKind.wrap_i64];omega
   generalize pre++l'.drop k=L at*
   go_wp2_with (with_reducible refine yq _ ?_;(try generalize (G.w _).heap.size=bk);(try dsimp only[yi,yj]);(try clear g);intro g)
   go_region_with (first|(go_at_call 165;refine(CL.out _ (HSLg.out _)).mono ?_;rintro e w1 ⟨rfl,rfl⟩))
   all_goals ((try simp only[G.drew_eq,G.drewN_eq]);(refine yq _ ?_;(try clear g);intro g))
   all_goals go_wp2_with (with_reducible refine yq _ ?_;(try generalize (G.w _).heap.size=bk);(try dsimp only[yi,yj]);(try clear g);intro g)
   all_goals obtain⟨g2,hg2⟩:=g.as (by rw[HE.out])
   all_goals go_roundg (gk-1)
   all_goals first|omega|exact⟨k+1,pre++[z],_,by omega,by go_num,by rw[List.length_append,HP.out];rfl,hpo.append (Ok.cons hr Ok.nil),st,HS3,hcl2.out,g2,hg2⟩
  ·obtain rfl:k=n':=by omega
   have hv:val (pre++l'.drop k)=od (val l):=by
    rw[HOD.out,List.drop_of_length_le (by rw[HLL.out];exact Nat.le_refl _),List.append_nil]
    exact down_end hok' (n:=k) (by rw[HLL.out];exact Nat.le_refl _) HV.out
   have hst:=HS.out.trim hLo
   rw[hv] at hst
   have CT:=Lib.hid (fun w h=>(by
    have:=ltrim_any (some ⟨b,o',none⟩) c' (pre++l'.drop k) w h
    rw[hv,HLn.out] at this
    exact this:Calls Tryz.prog 142 #[.slice (some ⟨b,o',none⟩) k c'] w fun e w'=>e=.returned (.slice (some ⟨b,o',none⟩) (limbs (od (val l))).length c')∧Below w.heap.size w w'))
   have hlo9:Hid (q+(limbs (od (val l))).length≤n):=Lib.hid (by have:=limbs_len_le_of_ok hLo;rw[hv,HLn.out] at this;omega)
   have HST:=Lib.hid hst
   clear hst hv hLl
   generalize hlo:(limbs (od (val l))).length=lo at*
   have HLO:=Lib.hid hlo
   clear hlo
   go_wp2_with (with_reducible refine yq _ ?_;(try generalize (G.w _).heap.size=bk);(try dsimp only[yi,yj]);(try clear g);intro g)
   refine(CT.out _ (HSLg.out _)).mono ?_
   rintro e w1 ⟨rfl,hb1⟩
   obtain⟨g1,rfl⟩:=G.call_ex _ hb1
   clear hb1
   (try clear g)
   revert g1
   intro g
   go_wp2_with (with_reducible refine yq _ ?_;(try generalize (G.w _).heap.size=bk);(try dsimp only[yi,yj]);(try clear g);intro g)
   go_ret
   exact⟨q,cs',by rw[HO.out,HC.out,HLO.out];rfl,HQ.out,by rw[HLO.out];exact hlo9.out,g.chg,g.blk0,by rw[HO.out];exact HST.out,HCL.out⟩
end Go.Proofs.YthhbbnfnejjpiaaGreatDoor
