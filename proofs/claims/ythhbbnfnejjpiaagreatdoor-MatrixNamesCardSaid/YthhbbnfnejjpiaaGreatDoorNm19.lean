/- Plain facts and contracts of functions of the program, out of walks. Their conditions stand ahead of each. -/
import Derived.Test.YthhbbnfnejjpiaaGreatDoorNm2
import Derived.Test.YthhbbnfnejjpiaaGreatDoorNm10
import Derived.Test.YthhbbnfnejjpiaaGreatDoorNm14
import Derived.Test.YthhbbnfnejjpiaaGreatDoorNm15
import Derived.Test.YthhbbnfnejjpiaaGreatDoorNm18
import Derived.Below
import Derived.BigQuiet
import Derived.Deep.Draws
import Derived.Deep.LoopGhost
import Derived.Deep.QuietTactic
import Derived.Deep.RegionHeld3
import Derived.Defers
import Derived.Laws.BytesString
import Derived.Laws.Cells
import Derived.Laws.CopyOwn
import Derived.Laws.CopyRow
import Derived.Laws.NewBlocks
import Derived.Laws.OwnMore
import Derived.Laws.Pointers
import Derived.Laws.Rows
import Derived.Lib.BitFns
import Derived.Lib.Hide
import Derived.Lib.ItoaNum
import Derived.LoopIn
import Derived.LoopNIn
import Derived.Maps.AppendAt
import Derived.OrdersHeld
import Derived.OrdersIn
import Derived.OwnWalk
import Derived.OwnWalkIn
import Derived.RangeFuncBound
import Derived.RangeFuncBox
import Derived.RangeFuncCalls
import Derived.RangeFuncLeaves
import Derived.RangeFuncNested
import Derived.RowKit3
import Derived.Shelf.Abstract
import Derived.Shelf.RegionOpen
import Derived.Shelf.Spec.TrailingZeros
import Derived.StillTactics
import Derived.StillTailTactics
import Derived.TacticsInMore
import Derived.Test.YthhbbnfnejjpiaaGreatDoorProg
import Derived.WalkKit
import Derived.WalkLawsBesides
import Derived.WalkMore
import Derived.WalkSpells
set_option linter.unusedVariables false
set_option linter.unusedSimpArgs false
namespace Go.Proofs.YthhbbnfnejjpiaaGreatDoor
open Go.RowKit GW NL
set_option maxRecDepth 20000 in
theorem lclone_any (A:Option Addr)(c:Nat)(l:List Nat)(w:World)(h:SlW w A c l)(hl9:l.length≤35184372088832):
  Calls Tryz.prog 161 #[.slice A l.length c] w (RLim l w):=by
 refine calls_b fun g=>?_
 have hk:=h.ok
 by_cases h0:l.length=0
 ·have hnil:l=[]:=List.eq_nil_of_length_eq_zero h0
  subst hnil
  have hmx:=h.max
  rw[List.length_nil]
  have heq:=fun(A:Option Addr) (n c:Nat) (w:World)=>Lib.run_eql_slice_nil (P:=Tryz.prog) w 105 73 A n c 0 0 Tryz.underlying105
  cases A
  ·go_enter Tryz.func161,Tryz.ntmps161
   go_wp2_with (with_reducible refine yq _ ?_;(try generalize (G.w _).heap.size=bk);(try dsimp only[yi,yj]);(try clear g);intro g)
   go_ret
   exact⟨_,0,_,rfl,Frag.Sl.nilc _ _ (by decide),g.none⟩
  ·go_enter Tryz.func161,Tryz.ntmps161
   go_wp2_with (with_reducible refine yq _ ?_;(try generalize (G.w _).heap.size=bk);(try dsimp only[yi,yj]);(try clear g);intro g)
   go_ret
   exact⟨_,0,_,rfl,Frag.Sl.nilc _ _ (by decide),g.none⟩
 ·have hl:0<l.length:=by omega
  obtain⟨b,o,rfl,_⟩:=lim_cells h.lim hl
  have hnews:=fun(M:List Blk) (g:G w [] M [heapOf w])=>lim_news g (List.mem_cons_self ..) h.lim
  have heq:=fun(A:Option Addr) (n c:Nat) (w:World)=>Lib.run_eql_slice_nil (P:=Tryz.prog) w 105 73 A n c 0 0 Tryz.underlying105
  obtain⟨n,hn⟩:∃n,l.length=n:=⟨_,rfl⟩
  rw[hn] at hl hl9 ⊢
  have HN:=Lib.hid hn
  clear hn
  obtain⟨i0,hi,hz0,hz1,hz2⟩:=info_parts infoU32
  go_enter Tryz.func161,Tryz.ntmps161
  go_wp2_with (first|(with_reducible refine yq _ ?_;(try generalize (G.w _).heap.size=bk);(try dsimp only[yi,yj]);(try clear g);intro g)|(at_builtin;refine wpList_append_e rfl _ _ 105 rfl 73 i0 _ 1 4 Tryz.underlying105 hi hz0 hz1 hz2 rfl (by decide) g (by exact g.fresh (List.mem_cons_self ..)) rfl ⟨b,o,none⟩ n c (u32s l) rfl (by rw[u32s_len,HN.out,Nat.mul_one]) (hnews _ g) (u32s_one l) hl (by show n≤9223372036854775807;omega) (by omega) ?_;intro b2 cap cs g hb2 hr))
  go_ret
  exact rlim_row g hr HN.out (by omega) hk
/-- the cells that a copy takes over -/
theorem lim_src {F:Frag}{A:Option Addr}{l:List Nat}{w0:World}{X:List Nat}{M:List Blk}{I:List Frag}(g:G w0 X M I)(hF:F∈I)(h:F.Lim A l)(hl:0<(u32s l).length):∃ad,A=some ad∧∀j u,(u32s l)[j]?=some u→g.w.cell? (ad.add j)=some u:=by
 rw[u32s_len] at hl
 obtain⟨b,o,rfl,_⟩:=h hl
 exact⟨_,rfl,lim_news g hF h⟩
theorem lover_less (A1 A2:Option Addr)(c1 c2 a b:Nat)(w:World)(h1:SlW w A1 c1 (limbs a))(h2:SlW w A2 c2 (limbs b))(hl1:(limbs a).length≤100000000)(hab:a<b)(hl2:(limbs b).length≤100000000):
  Calls Tryz.prog 146 #[.slice A1 (limbs a).length c1,.slice A2 (limbs b).length c2] w (RNN (a/b) (a%b) w):=by
 refine calls_b fun g=>?_
 rw[Nat.div_eq_of_lt hab,Nat.mod_eq_of_lt hab]
 have hord:lcv a b<0:=lcv_lt.2 hab
 have C1:=Lib.hid (fun w h1 h2=>lcmp_any A1 A2 c1 c2 a b w h1 h2 (by omega) (by omega))
 generalize lcv a b=C at*
 have C2:=Lib.hid (fun w h=>lclone_any A1 c1 (limbs a) w h (by omega))
 clear hab
 go_enter Tryz.func146,Tryz.ntmps146
 go_wp2_with (with_reducible refine yq _ ?_;(try generalize (G.w _).heap.size=bk);(try dsimp only[yi,yj]);(try clear g);intro g)
 refine(C1.out _ (G.sl g (by simp) h1) (G.sl g (by simp) h2)).mono ?_
 rintro e w1 ⟨rfl,hb⟩
 obtain⟨g1,rfl⟩:=G.call_ex _ hb
 clear hb
 (try clear g)
 revert g1
 intro g
 go_wp2_with (with_reducible refine yq _ ?_;(try generalize (G.w _).heap.size=bk);(try dsimp only[yi,yj]);(try clear g);intro g)
 refine(C2.out _ (G.sl g (by simp) h1)).mono ?_
 rintro e w1 ⟨A,c,F,rfl,hs,hn⟩
 have hnn:=fun k o hk=>Nat.le_trans g.chg.size (hn.new k o hk)
 obtain⟨g1,rfl⟩:=G.new_ex _ hn
 clear hn
 (try clear g)
 revert g1
 intro g
 go_wp2_with (with_reducible refine yq _ ?_;(try generalize (G.w _).heap.size=bk);(try dsimp only[yi,yj]);(try clear g);intro g)
 (try rw[Exit.noGoto_ret])
 go_ret2
 exact⟨none,0,(fun _=>none),_,_,_,by rw[limbs_zero];rfl,by rw[limbs_zero];exact Frag.Sl.nil _ _,hs,g.none,g.pass (by simp) hnn⟩
set_option maxRecDepth 20000 in
set_option maxHeartbeats 4000000 in
theorem lover_long (A1 A2:Option Addr)(c1 c2 a b n:Nat)(w:World)(h1:SlW w A1 c1 (limbs a))(h2:SlW w A2 c2 (limbs b))(hl1:(limbs a).length≤100000000)(hab:¬ a<b)(hb:(limbs b).length=n+1):
  Calls Tryz.prog 146 #[.slice A1 (limbs a).length c1,.slice A2 (limbs b).length c2] w (RNN (a/b) (a%b) w):=by
 refine calls_b fun g=>?_
 have hb0:b≠0:=fun e=>by rw[limbs_nil.2 e] at hb;cases hb
 have hlm:=limbs_len_mono (m:=b) (n:=a) (by omega)
 have hC0:¬ lcv a b<0:=fun h=>hab (lcv_lt.1 h)
 have C1:=Lib.hid (fun w h1 h2=>lcmp_any A1 A2 c1 c2 a b w h1 h2 (by omega) (by omega))
 generalize lcv a b=C at*
 have hC1:(0:Int)≤C:=by omega
 obtain⟨u,hue,hu,hDl,hDg⟩:=norm_up hb0 hb
 obtain⟨bb,bo,rfl,hcell⟩:=lim_cells h2.lim (by omega)
 have e0:=Lib.hid (hcell n (by omega))
 clear hcell
 have hx:=(ok_limbs b).getD n
 have CLZ:=Lib.hid (fun w=>Tryz.bits_LeadingZeros32 (((limbs b).getD n 0:Nat):Int) w (by omega) (by omega))
 have hnb:nb ((limbs b).getD n 0)≤32:=(nb_le _ _).2 hx
 have hue2:(32:Int)-(nb ((limbs b).getD n 0):Nat)=(u:Int):=by omega
 rw[show(((limbs b).getD n 0:Nat):Int).toNat=(limbs b).getD n 0 by omega,nb_bitLen _ hx,hue2] at CLZ
 generalize (limbs b).getD n 0=top at*
 obtain⟨la,hla⟩:∃la,(limbs a).length=la:=⟨_,rfl⟩
 obtain⟨m,hm⟩:∃m,la+1=n+1+m:=⟨la-n,by omega⟩
 have CS1:=Lib.hid (fun w h=>lup_any (some ⟨bb,bo,none⟩) c2 (limbs b) u w h (by omega) hu)
 have CS2:=Lib.hid (fun w h=>lup_any A1 c1 (limbs a) u w h (by omega) hu)
 rw[val_limbs] at CS1 CS2
 have HLT:=Lib.hid (norm_lt (a:=a) (m:=m) hu hDg (by omega))
 have HPD:=Lib.hid (pad_limbs (a:=a) hu (show(limbs a).length+1=la+1 by omega))
 have HST:=Lib.hid (fun r q (h:Dv (a*2^u) (b*2^u) (n+1) m 0 r q)=>h.stop (Nat.pos_of_ne_zero hb0))
 have hD0:b*2^u≠0:=Nat.ne_of_gt (Nat.mul_pos (Nat.pos_of_ne_zero hb0) (Nat.two_pow_pos u))
 have hV0:a*2^u≠0:=Nat.ne_of_gt (Nat.mul_pos (show 0<a by omega) (Nat.two_pow_pos u))
 have hDn:=Lib.hid (trim_limbs (b*2^u) n hDl)
 have hDlt:=Lib.hid (val_lt (ok_limbs (b*2^u)))
 rw[val_limbs,hDl] at hDlt
 obtain⟨V,hV⟩:∃V,a*2^u=V:=⟨_,rfl⟩
 obtain⟨D,hD⟩:∃D,b*2^u=D:=⟨_,rfl⟩
 rw[hV] at CS2 HLT HPD HST hV0
 rw[hD] at CS1 HLT HST hD0 hDl hDn hDlt
 have HDL:=Lib.hid hDl
 rw[hb] at C1 CS1 ⊢
 rw[hla] at C1 CS2 ⊢
 have hla8:la≤100000000:=by omega
 have hn8:n≤100000000:=by omega
 have hmk:∀w,(Instr.makeSlice 105 (.int .i64 ((la:Int)+1)) (.int .i64 ((la:Int)+1))).run Tryz.prog w=.ok (.slice (some ⟨w.heap.size,0,none⟩) (la+1) (la+1)) (w.alloc (.cells (u32s (List.replicate (la+1) 0)).toArray 73)):=fun w=>make_lim (la+1) (by omega) w
 have hmk2:∀w,(Instr.makeSlice 105 (.int .i64 (m:Int)) (.int .i64 (m:Int))).run Tryz.prog w=.ok (.slice (some ⟨w.heap.size,0,none⟩) m m) (w.alloc (.cells (u32s (List.replicate m 0)).toArray 73)):=fun w=>make_lim m (by omega) w
 have hsub:(la:Int)-((n:Int)+1)=(m:Int)-1:=by omega
 have HM:=Lib.hid hm
 have HBL:=Lib.hid hb
 have HLA:=Lib.hid hla
 have ha1:n+1≤la+1:=by omega
 have ha2:m≤la+1:=by omega
 have HV0:=Lib.hid hV0
 have HD0:=Lib.hid hD0
 clear hab hb0 hnb hue hue2 hDl hDg hlm hl1 hm hb hla hV hD hV0 hD0
 go_enter Tryz.func146,Tryz.ntmps146
 go_wp2_with (with_reducible refine yq _ ?_;(try generalize (G.w _).heap.size=bk);(try dsimp only[yi,yj]);(try clear g);intro g)
 refine(C1.out _ (G.sl g (by simp) h1) (G.sl g (by simp) h2)).mono ?_
 rintro e w1 ⟨rfl,hb⟩
 obtain⟨g1,rfl⟩:=G.call_ex _ hb
 clear hb
 (try clear g)
 revert g1
 intro g
 have e1:=e0.out _ _ _ _ g (by simp)
 go_wp2_with (with_reducible refine yq _ ?_;(try generalize (G.w _).heap.size=bk);(try dsimp only[yi,yj]);(try clear g);intro g)
 refine(CLZ.out _).mono ?_
 rintro e w1 ⟨rfl,rfl⟩
 clear e1
 go_wp2_with (with_reducible refine yq _ ?_;(try generalize (G.w _).heap.size=bk);(try dsimp only[yi,yj]);(try clear g);intro g)
 refine(CS1.out _ (G.sl g (by simp) h2)).mono ?_
 rintro e w1 ⟨Ad,cd,Fd,rfl,hsd,hnw⟩
 obtain⟨g1,rfl⟩:=G.new_ex _ hnw
 clear hnw g
 revert g1
 intro g
 rw[HDL.out]
 go_wp2_with (with_reducible refine yq _ ?_;(try generalize (G.w _).heap.size=bk);(try dsimp only[yi,yj]);(try clear g);intro g)
 refine(CS2.out _ (G.sl g (by simp) h1)).mono ?_
 rintro e w1 ⟨As,cs,Fs,rfl,hss,hnw⟩
 obtain⟨g1,rfl⟩:=G.new_ex _ hnw
 clear hnw g
 revert g1
 intro g
 have hlv:0<(limbs V).length:=by
  rcases Nat.eq_zero_or_pos (limbs V).length with h|h
  ·exact absurd (limbs_nil.1 (List.eq_nil_of_length_eq_zero h)) HV0.out
  ·exact h
 obtain⟨bs,os,rfl,_⟩:=lim_cells hss.lim hlv
 obtain⟨rb,rfl⟩:∃rb:Nat,rb=bk:=⟨_,rfl⟩
 have hnews:=Lib.hid (lim_news g (List.mem_cons_self ..) hss.lim)
 have hspl:=Lib.hid (splice_u32s (List.replicate (la+1) 0) 0 (limbs V))
 have hrow:(List.replicate (la+1) 0).take 0++(limbs V++(List.replicate (la+1) 0).drop (0+(limbs V).length))=limbs V++List.replicate (la+1-(limbs V).length) 0:=by
  rw[List.take_zero,List.nil_append,Nat.zero_add,List.drop_replicate]
 rw[hrow] at hspl
 have hpd:=HPD.out
 have HRL:Hid ((limbs V++List.replicate (la+1-(limbs V).length) 0).length=la+1):=Lib.hid (by rw[List.length_append,List.length_replicate];omega)
 have HRV:Hid (val (limbs V++List.replicate (la+1-(limbs V).length) 0)=V):=Lib.hid (by rw[val_pad,val_limbs])
 have HRK:Hid (Ok (limbs V++List.replicate (la+1-(limbs V).length) 0)):=Lib.hid ((ok_limbs V).append (Ok.zeros _))
 generalize limbs V++List.replicate (la+1-(limbs V).length) 0=r0 at*
 have HCL:Hid ((u32s (limbs V)).length=min (limbs V).length (la+1)):=Lib.hid (by rw[u32s_len];omega)
 have HUL:Hid (0+(u32s (limbs V)).length≤(u32s (List.replicate (la+1) 0)).length):=Lib.hid (by rw[u32s_len,u32s_len,List.length_replicate];omega)
 have h1c:=Lib.hid (u32s_one (limbs V))
 have HLV:=Lib.hid hlv
 clear hrow hpd hlv
 generalize u32s (limbs V)=ws at*
 generalize (limbs V).length=lv at*
 generalize u32s (List.replicate (la+1) 0)=z0 at*
 go_wp2_with (first|(with_reducible refine yq _ ?_;(try generalize (G.w _).heap.size=bk);(try dsimp only[yi,yj]);(try clear g);intro g)|((with_reducible show wpList _ _ _ _ _ _);refine wpList_copy_g (o:=⟨some 42,_,_,_,_,_⟩) rfl _ _ 105 105 rfl 73 Tryz.underlying105 (by kernel_rfl) _ _ (la+1) (la+1) lv cs rfl rfl g 0 rfl 0 ws HCL.out (fun _=>⟨rfl,_,rfl,hnews.out⟩) HUL.out h1c.out ?_;clear hnews g;dsimp only[List.set_cons_zero];intro g))
 obtain⟨g2,hg2⟩:=g.as (by rw[hspl.out])
 rw[hg2]
 clear hg2 g
 revert g2
 intro g
 clear hmk hmk2 hspl HUL HCL HLV HPD h1c hsub
 clear hss
 go_wp2_with fail
 have HDV:=Lib.hid (Dv.start (V:=V) (D:=D) (n:=n+1) (m:=m) (r:=r0) (by have:=HRL.out;have:=HM.out;omega) HRK.out HRV.out HLT.out)
 obtain⟨qb,rfl⟩:∃qb:Nat,qb=bk:=⟨_,rfl⟩
 go_loopg [10] m (fun gk s10 wr=>∃(r q:List Nat),s10=.int .i64 ((gk:Int)-1)∧gk≤m∧Hid (Dv V D (n+1) m gk r q)∧∃g:G w [] [(qb,73,u32s q),(rb,73,u32s r)] [Fd,heapOf w],wr=g.w)
 case atStart=>
  obtain⟨g2,hg2⟩:=g.lessI (I':=[Fd,heapOf w]) (by simp)
  exact⟨r0,List.replicate m 0,rfl,Nat.le_refl _,HDV,g2,hg2⟩
 case round=>
  clear g HRL HRV HRK HDV r0 HLT
  obtain⟨r,q,rfl,hgm,DV,g,rfl⟩:=hrel
  cases gk with
  |zero=>
   have hst:=HST.out r q DV.out
   have hrl:=DV.out.rlen
   have hql:=DV.out.qlen
   have hqo:=DV.out.qok
   have hro:=DV.out.rok
   have hM:=HM.out
   have CTq:=Lib.hid (fun(I:List Frag) (g:G w [] [(qb,73,u32s q),(rb,73,u32s r)] I)=>(by
    have:=ltrim_any (some ⟨qb,0,none⟩) m q g.w ((sl_blk (by omega) (by omega) hqo).at (blkF_sub g.blk0))
    rw[hql,hst.1] at this
    exact this:Calls Tryz.prog 142 #[.slice (some ⟨qb,0,none⟩) m m] g.w fun e w'=>e=.returned (.slice (some ⟨qb,0,none⟩) (limbs (a/b)).length m)∧Below g.w.heap.size g.w w'))
   have CTr:=Lib.hid (fun(I:List Frag) (g:G w [] [(qb,73,u32s q),(rb,73,u32s r)] I)=>(by
    have:=ltrim_any (some ⟨rb,0,none⟩) (la+1) r g.w ((sl_blk (by omega) (by omega) hro).at (blkF_sub g.blk1))
    rw[show r.length=la+1 by omega,hst.2] at this
    exact this:Calls Tryz.prog 142 #[.slice (some ⟨rb,0,none⟩) (la+1) (la+1)] g.w fun e w'=>e=.returned (.slice (some ⟨rb,0,none⟩) (limbs (a%b*2^u)).length (la+1))∧Below g.w.heap.size g.w w'))
   have CSh:=Lib.hid (fun(I:List Frag) (g:G w [] [(qb,73,u32s q),(rb,73,u32s r)] I)=>(by
    have hsl:=sl_trim ((sl_blk (b:=rb) (T:=73) (l:=r) (fr:=(0,0)) (c:=la+1) (by omega) (by omega) hro).at (blkF_sub g.blk1))
    rw[hst.2] at hsl
    have hlw:(limbs (a%b*2^u)).length≤la+1:=by
     have:=limbs_len_le_of_ok hro
     rw[hst.2] at this
     omega
    have:=ldown_any (some ⟨rb,0,none⟩) (la+1) (limbs (a%b*2^u)) u g.w hsl (by omega) hu
    rw[val_limbs,Nat.mul_div_cancel _ (Nat.two_pow_pos u)] at this
    exact this:Calls Tryz.prog 169 #[.slice (some ⟨rb,0,none⟩) (limbs (a%b*2^u)).length (la+1),.int .i64 (u:Int)] g.w (RNat (a%b) g.w)))
   have hqv:=hst.1
   have HQV:=Lib.hid hqv
   have HQL:=Lib.hid hql
   have HRLn:=Lib.hid (show r.length=la+1 by omega)
   have hm9:m≤140737488355328:=by omega
   clear hst hrl hql hM hqv
   generalize (limbs (a%b*2^u)).length=lw at*
   go_wp2_with (with_reducible refine yq _ ?_;(try generalize (G.w _).heap.size=bk);(try dsimp only[yi,yj]);(try clear g);intro g)
   (with_reducible refine(CTq.out _ _).mono ?_)
   rintro e w1 ⟨rfl,hb⟩
   obtain⟨g1,rfl⟩:=G.call_ex _ hb
   clear hb
   (try clear g)
   revert g1
   intro g
   go_wp2_with (with_reducible refine yq _ ?_;(try generalize (G.w _).heap.size=bk);(try dsimp only[yi,yj]);(try clear g);intro g)
   (with_reducible refine(CTr.out _ _).mono ?_)
   rintro e w1 ⟨rfl,hb⟩
   obtain⟨g1,rfl⟩:=G.call_ex _ hb
   clear hb
   (try clear g)
   revert g1
   intro g
   go_wp2_with (with_reducible refine yq _ ?_;(try generalize (G.w _).heap.size=bk);(try dsimp only[yi,yj]);(try clear g);intro g)
   (with_reducible refine(CSh.out _ _).mono ?_)
   rintro e w1 ⟨Ax,cx,Fx,rfl,hsx,hnx⟩
   have hnn:=fun k o hk=>Nat.le_trans g.chg.size (hnx.new k o hk)
   obtain⟨g1,rfl⟩:=G.new_ex _ hnx
   clear hnx
   (try clear g)
   revert g1
   intro g
   go_wp2_with (with_reducible refine yq _ ?_;(try generalize (G.w _).heap.size=bk);(try dsimp only[yi,yj]);(try clear g);intro g)
   (try rw[Exit.noGoto_ret])
   go_ret2
   refine⟨_,_,_,_,_,_,rfl,?_,hsx,g.give (List.mem_cons_self ..),g.pass (by simp) hnn⟩
   have hqs:=sl_trim (sl_blk (b:=qb) (T:=73) (l:=q) (fr:=(0,0)) (c:=m) (Nat.le_of_eq HQL.out) hm9 hqo)
   rw[HQV.out] at hqs
   exact hqs
  |succ j=>
   rw[show((j+1:Nat):Int)-1=(j:Int) by omega]
   have hrl:=DV.out.rlen
   have hql:=DV.out.qlen
   have hM:=HM.out
   obtain⟨J1,hJ1⟩:∃J1,j+(n+1)=J1:=⟨_,rfl⟩
   obtain⟨J0,hJ0⟩:∃J0,j+n=J0:=⟨_,rfl⟩
   have hs1:(j:Int)+((n:Int)+1)=(J1:Int):=by omega
   have hs2:(J1:Int)-1=(J0:Int):=by omega
   have hr1:=u32s_getD (l:=r) (j:=J1) (by omega)
   have hr0:=u32s_getD (l:=r) (j:=J0) (by omega)
   obtain⟨bd,od,rfl,hcd⟩:=lim_cells hsd.lim (by rw[HDL.out];omega)
   have ed:=Lib.hid (hcd n (by rw[HDL.out];omega))
   have hgs:=(by have:=DV.out;rw[←val_limbs D] at this;exact this.guess (ok_limbs D) HDL.out (Nat.pos_of_ne_zero hDn.out):_)
   rw[val_limbs,hJ1,hJ0] at hgs
   have hx1:=DV.out.rok.getD J1
   have hx0:=DV.out.rok.getD J0
   have hdt:=(ok_limbs D).getD n
   have hdp:=Nat.pos_of_ne_zero hDn.out
   generalize (limbs D).getD n 0=dt at*
   generalize r.getD J1 0=x1 at*
   generalize r.getD J0 0=x0 at*
   have hor:bits .or .u64 (IntKind.u64.wrap (IntKind.u64.wrap (x1:Int)*4294967296)) (IntKind.u64.wrap (x0:Int))=((x1*4294967296+x0:Nat):Int):=by
    rw[shl32_or x0 x1 hx0 hx1];omega
   have hh:x1*4294967296+x0<18446744073709551616:=by omega
   obtain⟨H,hH⟩:∃H,x1*4294967296+x0=H:=⟨_,rfl⟩
   rw[hH] at hor hh hgs
   clear hH
   have HG:=Lib.hid hgs
   have HJ1:=Lib.hid hJ1
   have HJ0:=Lib.hid hJ0
   have HRL:=Lib.hid hrl
   have HQL:=Lib.hid hql
   have hjm:j<m:=by omega
   have hJ1a:J1<la+1:=by omega
   have hJ0a:J0<la+1:=by omega
   have hJ1b:(0:Int)≤(J1:Int):=by omega
   have hJ1c:(J1:Int)<(la:Int)+1:=by omega
   have hJ0c:(J0:Int)<(la:Int)+1:=by omega
   have hw1:IntKind.i64.wrap (J1:Int)=(J1:Int):=by rw[IntKind.wrap_i64];omega
   have hw2:IntKind.i64.wrap (J0:Int)=(J0:Int):=by rw[IntKind.wrap_i64];omega
   have e1:=ed.out _ _ _ _ g (by simp)
   clear hgs hJ1 hJ0 hrl hql hM hcd
   go_wp2_with fail
   go_region_held3 (fun w'=>w'.cell? ⟨rb,J1,none⟩=some (.int .u32 (x1:Int))∧w'.cell? ⟨rb,J0,none⟩=some (.int .u32 (x0:Int))) (((try simp only[G.drew_eq,G.drewN_eq,G.cell1]);exact⟨hr1,hr0⟩)) (fail)
   ((try simp only[G.drew_eq,G.drewN_eq]);(refine yq _ ?_;(try clear g);intro g))
   clear e1
   have e1:=ed.out _ _ _ _ g (by simp)
   obtain⟨Q,hQ⟩:∃Q,H/dt=Q:=⟨_,rfl⟩
   have hq1:Int.tdiv (H:Int) (dt:Int)=(Q:Int):=by rw[Int.tdiv_eq_ediv_of_nonneg (by omega),←hQ];exact(Int.natCast_ediv H dt).symm
   have hq2:(H:Int)/(dt:Int)=(Q:Int):=by rw[←hQ];exact(Int.natCast_ediv H dt).symm
   have hdz:((dt:Int)==0)=false:=by rw[beq_eq_false_iff_ne];omega
   have hdz2:¬ ((dt:Int)=0):=by omega
   have hQ64:Q<18446744073709551616:=by rw[←hQ];exact Nat.lt_of_le_of_lt (Nat.div_le_self _ _) hh
   have hwd:IntKind.u64.wrap (dt:Int)=(dt:Int):=by rw[IntKind.wrap_u64];omega
   rw[hQ] at HG
   clear hQ
   obtain⟨G0,hG0⟩:∃G0,min Q 4294967295=G0:=⟨_,rfl⟩
   have hmin:min (Q:Int) 4294967295=(G0:Int):=by omega
   have hG1:G0<4294967296:=by omega
   obtain⟨qd,hqd⟩:∃qd,val (r.drop j)/D=qd:=⟨_,rfl⟩
   have hqG:qd≤G0:=by have:=HG.out;rw[hqd] at this;omega
   have HQD:=Lib.hid hqd
   clear hG0 hqd
   go_wp2_with (with_reducible refine yq _ ?_;(try generalize (G.w _).heap.size=bk);(try dsimp only[yi,yj]);(try clear g);intro g)
   clear hr1 hr0 hmin hq1 hq2 e1
   have hsegR:=DV.out.seg (Nat.le_of_lt hDlt.out)
   have hro:=DV.out.rok
   obtain⟨R,hR⟩:∃R,val (r.drop j)=R:=⟨_,rfl⟩
   rw[hR] at hsegR HQD
   have hR2:=hsegR.2.1
   have hk2:J1+1-j=n+1+1:=by have:=HJ1.out;omega
   have hfit:j+(n+1+1)≤r.length:=by have:=HRL.out;omega
   have hlaj:n+1+1≤la+1-j:=by have:=HM.out;omega
   have hsegl:((r.drop j).take (n+1+1)).length=n+1+1:=seg_len hfit
   have hRl:(limbs R).length≤n+1+1:=by
    have:=limbs_len_le_of_ok ((hro.drop j).take (n+1+1))
    rw[hsegR.1,hsegl] at this
    exact this
   have CTp:=Lib.hid (fun(I:List Frag) (g:G w [] [(qb,73,u32s q),(rb,73,u32s r)] I)=>(by
    have:=ltrim_any (some ⟨rb,j,none⟩) (la+1-j) ((r.drop j).take (n+1+1)) g.w ((sl_seg hfit hlaj (by omega) hro).at (blkF_sub g.blk1))
    rw[hsegl,hsegR.1] at this
    rw[hk2]
    exact this:Calls Tryz.prog 142 #[.slice (some ⟨rb,j,none⟩) (J1+1-j) (la+1-j)] g.w fun e w'=>e=.returned (.slice (some ⟨rb,j,none⟩) (limbs R).length (la+1-j))∧Below g.w.heap.size g.w w'))
   have HSP:Hid (∀w',(blkF rb (.cells (u32s r).toArray 73 (0,0))).sub w'→SlW w' (some ⟨rb,j,none⟩) (la+1-j) (limbs R)):=Lib.hid (fun w' hs=>by
    have:=sl_trim ((sl_seg (b:=rb) (T:=73) (out:=r) (fr:=(0,0)) (o:=j) (k:=n+1+1) (c:=la+1-j) hfit hlaj (by omega) hro).at hs)
    rw[hsegR.1] at this
    exact this)
   have HSEG:=Lib.hid hsegR
   have HRR:=Lib.hid hR
   have HK2:=Lib.hid hk2
   have HFIT:=Lib.hid hfit
   have hcap9:la+1-j≤140737488355328:=by omega
   clear hsegR hR hk2 hfit hsegl hlaj
   have hG0v:val [G0]=G0:=val_single G0
   have hG0k:Ok [G0]:=Ok.cons hG1 Ok.nil
   have CTl:=Lib.hid (fun(b:Nat) w h=>(by
    have:=ltrim_any (some ⟨b,0,none⟩) 1 [G0] w h
    rw[hG0v] at this
    exact this:Calls Tryz.prog 142 #[.slice (some ⟨b,0,none⟩) 1 1] w fun e w'=>e=.returned (.slice (some ⟨b,0,none⟩) (limbs G0).length 1)∧Below w.heap.size w w'))
   have hG0l:(limbs G0).length≤1:=(limbs_len _ _).2 (by simpa using hG1)
   have CTm:=Lib.hid (fun(b:Nat) w h1 h2=>(by
    have:=ltimes_any (some ⟨bd,od,none⟩) (some ⟨b,0,none⟩) cd 1 (limbs D) (limbs G0) w h1 h2 (by rw[HDL.out];omega) (by omega)
    rw[HDL.out,val_limbs,val_limbs] at this
    exact this:Calls Tryz.prog 115 #[.slice (some ⟨bd,od,none⟩) (n+1) cd,.slice (some ⟨b,0,none⟩) (limbs G0).length 1] w (RNat (D*G0) w)))
   have hw4:IntKind.u32.wrap (G0:Int)=(G0:Int):=by rw[IntKind.wrap_u32];omega
   have HG0:=Lib.hid hG0v
   clear hG0v
   generalize (limbs G0).length=lg at*
   (with_reducible refine(CTp.out _ _).mono ?_)
   rintro e w1 ⟨rfl,hb⟩
   obtain⟨g1,rfl⟩:=G.call_ex _ hb
   clear hb
   (try clear g)
   revert g1
   intro g
   go_wp2_with (with_reducible refine yq _ ?_;(try generalize (G.w _).heap.size=bk);(try dsimp only[yi,yj]);(try clear g);intro g)
   have hsl1:SlW g.w (some ⟨bk,0,none⟩) 1 [G0]:=(sl_blk (by simp) (by decide) hG0k).at (blkF_sub g.blk0)
   refine(CTl.out _ _ hsl1).mono ?_
   rintro e w1 ⟨rfl,hb⟩
   obtain⟨g1,rfl⟩:=G.call_ex _ hb
   clear hb hsl1
   (try clear g)
   revert g1
   intro g
   go_wp2_with (with_reducible refine yq _ ?_;(try generalize (G.w _).heap.size=bk);(try dsimp only[yi,yj]);(try clear g);intro g)
   have hsl1:SlW g.w (some ⟨bk,0,none⟩) 1 (limbs G0):=by
    have:=sl_trim ((sl_blk (l:=[G0]) (b:=bk) (T:=73) (fr:=(0,0)) (c:=1) (by simp) (by decide) hG0k).at (blkF_sub g.blk0))
    rwa[HG0.out] at this
   refine(CTm.out _ _ (G.sl g (by simp) hsd) hsl1).mono ?_
   rintro e w1 ⟨Ap,cp,Fp,rfl,hsp,hnw⟩
   obtain⟨g1,rfl⟩:=G.new_ex _ hnw
   clear hnw hsl1
   (try clear g)
   revert g1
   intro g
   obtain⟨g2,hg2⟩:=G.less g (M':=[(qb,73,u32s q),(rb,73,u32s r)]) (by simp)
   rw[hg2]
   clear hg2 g
   revert g2
   intro g
   clear CTm CTl CTp hor hh hwd hdz hdz2 HG hG0k hG0l
   go_wp2_with (with_reducible refine yq _ ?_;(try generalize (G.w _).heap.size=bk);(try dsimp only[yi,yj]);(try clear g);intro g)
   go_loopg [12,14] G0 (fun gk s12 s14 wr=>∃(Ap:Option Addr) (cp:Nat) (Fp:Frag),s12=.int .u64 (gk:Int)∧s14=.slice Ap (limbs (D*gk)).length cp∧qd≤gk∧gk<4294967296∧Fp.Sl Ap cp (limbs (D*gk))∧∃g:G w [] [(qb,73,u32s q),(rb,73,u32s r)] [Fp,Fd,heapOf w],wr=g.w)
   case atStart=>exact⟨Ap,cp,Fp,rfl,rfl,hqG,hG1,hsp,g,rfl⟩
   case round=>
    clear g hqG hG1 hw4 HG0 hsp
    obtain⟨Ap,cp,Fp,rfl,rfl,hqk,hk32,hsp,g,rfl⟩:=hrel
    have hDp:=Nat.pos_of_ne_zero HD0.out
    have hlD:(limbs D).length=n+1:=HDL.out
    have hPl:(limbs (D*gk)).length≤n+1+1:=by
     refine(limbs_len _ _).2 ?_
     rw[Nat.pow_succ]
     have h1:D*gk≤D*4294967296:=Nat.mul_le_mul_left _ (by omega)
     have h2:D*4294967296<4294967296^(n+1)*4294967296:=Nat.mul_lt_mul_of_pos_right hDlt.out (by decide)
     omega
    have CC:=Lib.hid (fun w h1 h2=>lcmp_any (some ⟨rb,j,none⟩) Ap (la+1-j) cp R (D*gk) w h1 h2 (by omega) (by omega))
    have hlt0:=lcv_lt (a:=R) (b:=D*gk)
    have hrng:=lcv_rng (a:=R) (b:=D*gk) (by omega) (by omega)
    by_cases hlt:R<D*gk
    ·obtain⟨gk',rfl⟩:∃gk',gk=gk'+1:=⟨gk-1,by
      rcases Nat.eq_zero_or_pos gk with h|h
      ·subst h;rw[Nat.mul_zero] at hlt;omega
      ·omega⟩
     have hqlt:qd≤gk':=by
      have:R/D<gk'+1:=Nat.div_lt_of_lt_mul hlt
      rw[HQD.out] at this
      omega
     have hC2:lcv R (D*(gk'+1))<0:=hlt0.2 hlt
     generalize lcv R (D*(gk'+1))=C' at*
     have CLs:=Lib.hid (fun w (h1:SlW w Ap cp (limbs (D*(gk'+1)))) (h2:SlW w (some ⟨bd,od,none⟩) cd (limbs D))=>(by
      have hle:D≤D*(gk'+1):=Nat.le_mul_of_pos_right _ (by omega)
      have:=lless_any Ap (some ⟨bd,od,none⟩) cp cd (limbs (D*(gk'+1))) (limbs D) w h1 h2 (by omega) (limbs_len_mono hle) (by rw[val_limbs,val_limbs];exact hle)
      rw[val_limbs,val_limbs,hlD,show D*(gk'+1)-D=D*gk' by rw[Nat.mul_succ];omega] at this
      exact this:Calls Tryz.prog 158 #[.slice Ap (limbs (D*(gk'+1))).length cp,.slice (some ⟨bd,od,none⟩) (n+1) cd] w (RNat (D*gk') w)))
     have hw5:((gk'+1:Nat):Int)-1=(gk':Int):=by omega
     have hw6:IntKind.u64.wrap (gk':Int)=(gk':Int):=by rw[IntKind.wrap_u64];omega
     obtain⟨gi,hgi⟩:∃gi,gi=gk'+1:=⟨_,rfl⟩
     rw[←hgi] at CC CLs hsp hw5 ⊢
     clear hlt hlt0 hPl hlD
     generalize hlp:(limbs (D*gi)).length=lp at*
     have HLP:=Lib.hid hlp
     have HGI:=Lib.hid hgi
     clear hlp hgi
     go_wp2_with (with_reducible refine yq _ ?_;(try generalize (G.w _).heap.size=bk);(try dsimp only[yi,yj]);(try clear g);intro g)
     refine(CC.out _ (HSP.out _ (blkF_sub g.blk1)) (G.sl g (by simp) hsp)).mono ?_
     rintro e w1 ⟨rfl,hb⟩
     obtain⟨g1,rfl⟩:=G.call_ex _ hb
     clear hb
     (try clear g)
     revert g1
     intro g
     go_wp2_with (with_reducible refine yq _ ?_;(try generalize (G.w _).heap.size=bk);(try dsimp only[yi,yj]);(try clear g);intro g)
     refine(CLs.out _ (G.sl g (by simp) hsp) (G.sl g (by simp) hsd)).mono ?_
     rintro e w1 ⟨Ap2,cp2,Fp2,rfl,hsp2,hnw⟩
     obtain⟨g1,rfl⟩:=G.new_ex _ hnw
     clear hnw
     (try clear g)
     revert g1
     intro g
     obtain⟨g2,hg2⟩:=g.lessI (I':=[Fp2,Fd,heapOf w]) (by simp)
     rw[hg2]
     clear hg2 g
     revert g2
     intro g
     go_wp2_with (with_reducible refine yq _ ?_;(try generalize (G.w _).heap.size=bk);(try dsimp only[yi,yj]);(try clear g);intro g)
     go_roundg gk'
     case measure=>have:=HGI.out;omega
     case rel=>exact⟨Ap2,cp2,Fp2,rfl,rfl,hqlt,by have:=HGI.out;omega,hsp2,g,rfl⟩
    ·have hqe:gk=qd:=by
      have:gk≤R/D:=(Nat.le_div_iff_mul_le hDp).2 (by rw[Nat.mul_comm];omega)
      rw[HQD.out] at this
      omega
     have hC2:¬ lcv R (D*gk)<0:=fun h=>hlt (hlt0.1 h)
     generalize lcv R (D*gk)=C' at*
     obtain⟨L,hL⟩:∃L,R-D*gk=L:=⟨_,rfl⟩
     have hLD:L<D:=by
      rw[←hL,hqe,←HQD.out]
      have:=Nat.mod_lt R hDp
      have h3:=Nat.div_add_mod R D
      omega
     have hLl:(limbs L).length≤n+1:=by rw[←hlD];exact limbs_len_mono (by omega)
     have CLs:=Lib.hid (fun w (h1:SlW w (some ⟨rb,j,none⟩) (la+1-j) (limbs R)) (h2:SlW w Ap cp (limbs (D*gk)))=>(by
      have:=lless_any (some ⟨rb,j,none⟩) Ap (la+1-j) cp (limbs R) (limbs (D*gk)) w h1 h2 (by omega) (limbs_len_mono (by omega)) (by rw[val_limbs,val_limbs];omega)
      rw[val_limbs,val_limbs,hL] at this
      exact this:Calls Tryz.prog 158 #[.slice (some ⟨rb,j,none⟩) (limbs R).length (la+1-j),.slice Ap (limbs (D*gk)).length cp] w (RNat L w)))
     have hfit:=HFIT.out
     have hDV2:Dv V D (n+1) m j (layAt r j (n+1+1) (limbs L)) (q.set j gk):=by
      refine DV.out.next (Nat.le_of_lt hDlt.out) hjm hk32 (by rw[HRR.out,HQD.out];exact hqe) hDp (layAt_len hfit (by omega)) (layAt_ok DV.out.rok (ok_limbs L)) (layAt_off hfit (by omega)) ?_
      rw[layAt_seg hfit (by omega),val_limbs,HSEG.out.1,←hL]
     have HD2:=Lib.hid hDV2
     have hset:=Lib.hid (u32s_set q j gk)
     have hqj:j<q.length:=by rw[HQL.out];exact hjm
     have hqz:=u32s_getD hqj
     have hlay:=Lib.hid (layAt_cells (v:=limbs L) hfit (by omega))
     rw[←HK2.out] at hlay
     have HCL:Hid ((u32s (limbs L)).length=min (limbs L).length (la+1-j)):=Lib.hid (by rw[u32s_len];have:=HK2.out;omega)
     have HUL:Hid (j+(u32s (limbs L)).length≤(splice (u32s r) j (List.replicate (J1+1-j) (Value.int .u32 0))).length):=Lib.hid (by
      rw[length_splice _ _ _ (by rw[List.length_replicate,u32s_len,HK2.out];exact hfit),u32s_len,u32s_len];omega)
     have HCF:Hid (j+(J1+1-j)≤(u32s r).length):=Lib.hid (by rw[u32s_len,HK2.out];exact hfit)
     have h1c:=Lib.hid (u32s_one (limbs L))
     have HJp:Hid (0<J1+1-j):=Lib.hid (by rw[HK2.out];omega)
     obtain⟨J2,hJ2⟩:∃J2,J1+1=J2:=⟨_,rfl⟩
     have hs3:(J1:Int)+1=(J2:Int):=by omega
     have hw3:IntKind.i64.wrap (J2:Int)=(J2:Int):=by rw[IntKind.wrap_i64];omega
     have hw4:IntKind.u32.wrap (gk:Int)=(gk:Int):=by rw[IntKind.wrap_u32];omega
     have hJ2a:J2≤la+1:=by omega
     have hJ2b:(J2:Int)≤(la:Int)+1:=by omega
     have hJ2c:(0:Int)≤(J2:Int):=by omega
     have hjJ:j≤J2:=by have:=HJ1.out;omega
     have hjJ2:(j:Int)≤(J2:Int):=by omega
     have hjl:j≤la+1:=by omega
     have hjl2:(j:Int)≤(la:Int)+1:=by omega
     have HLL:Hid ((u32s (limbs L)).length=(limbs L).length):=Lib.hid (u32s_len _)
     rw[hJ2] at hlay HUL HCF HJp
     have HJJ:Hid (J2-j=n+1+1):=Lib.hid (by rw[←hJ2];exact HK2.out)
     clear hlt hlt0 hPl hlD hqe hL hDV2 hfit hqj hJ2
     generalize hlp:(limbs (D*gk)).length=lp at*
     generalize hlr:(limbs R).length=lr at*
     generalize hll:(limbs L).length=ll at*
     have HLP:=Lib.hid hlp
     have HLR:=Lib.hid hlr
     have HLL2:=Lib.hid hll
     clear hlp hlr hll
     go_wp2_with (with_reducible refine yq _ ?_;(try generalize (G.w _).heap.size=bk);(try dsimp only[yi,yj]);(try clear g);intro g)
     refine(CC.out _ (HSP.out _ (blkF_sub g.blk1)) (G.sl g (by simp) hsp)).mono ?_
     rintro e w1 ⟨rfl,hb⟩
     obtain⟨g1,rfl⟩:=G.call_ex _ hb
     clear hb
     (try clear g)
     revert g1
     intro g
     go_wp2_with (with_reducible refine yq _ ?_;(try generalize (G.w _).heap.size=bk);(try dsimp only[yi,yj]);(try clear g);intro g)
     refine(CLs.out _ (HSP.out _ (blkF_sub g.blk1)) (G.sl g (by simp) hsp)).mono ?_
     rintro e w1 ⟨Al,cl,Fl,rfl,hsl,hnw⟩
     obtain⟨g1,rfl⟩:=G.new_ex _ hnw
     clear hnw
     (try clear g)
     revert g1
     intro g
     rw[HLL2.out]
     go_wp2_with (first|(with_reducible refine yq _ ?_;(try generalize (G.w _).heap.size=bk);(try dsimp only[yi,yj]);(try clear g);intro g)|((with_reducible show wpList _ _ _ _ _ _);refine wpList_clear_g rfl _ _ rfl 73 Tryz.underlying105 (.int .u32 0) (.int .u32 0) Tryz.zeroValue73 rfl rfl rb j (J2-j) (la+1-j) rfl HJp.out g 1 rfl HCF.out ?_;clear g;dsimp only[List.set_cons_zero,List.set_cons_succ];intro g)|((with_reducible show wpList _ _ _ _ _ _);refine wpList_copy_g (o:=⟨some 119,_,_,_,_,_⟩) rfl _ _ 105 105 rfl 73 Tryz.underlying105 (by kernel_rfl) _ _ (la+1-j) (la+1-j) ll cl rfl rfl g 1 rfl j (u32s (limbs L)) HCL.out (fun hp=>⟨rfl,lim_src g (List.mem_cons_self ..) hsl.lim hp⟩) HUL.out h1c.out ?_;clear g;dsimp only[List.set_cons_zero,List.set_cons_succ];intro g))
     obtain⟨g2,hg2⟩:=g.as (by rw[hset.out,hlay.out,HJJ.out])
     obtain⟨g3,hg3⟩:=g2.lessI (I':=[Fd,heapOf w]) (by simp)
     go_roundg j
     case measure=>omega
     case rel=>exact⟨_,_,rfl,by omega,HD2,g3,hg2.trans hg3⟩
theorem lover_any (A1 A2:Option Addr)(c1 c2 a b:Nat)(w:World)(h1:SlW w A1 c1 (limbs a))(h2:SlW w A2 c2 (limbs b))(hl1:(limbs a).length≤100000000)(hl2:(limbs b).length≤100000000)(hb:b≠0):
  Calls Tryz.prog 146 #[.slice A1 (limbs a).length c1,.slice A2 (limbs b).length c2] w (RNN (a/b) (a%b) w):=by
 by_cases hab:a<b
 ·exact lover_less A1 A2 c1 c2 a b w h1 h2 hl1 hab hl2
 ·have hl:(limbs b).length≠0:=fun e=>hb (limbs_nil.1 (List.eq_nil_of_length_eq_zero e))
  exact lover_long A1 A2 c1 c2 a b ((limbs b).length-1) w h1 h2 hl1 hab (by omega)
end Go.Proofs.YthhbbnfnejjpiaaGreatDoor
