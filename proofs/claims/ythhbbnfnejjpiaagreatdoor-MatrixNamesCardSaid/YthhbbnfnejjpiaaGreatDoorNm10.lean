/- Plain facts and contracts of functions of the program, out of walks. Their conditions stand ahead of each. -/
import Derived.Test.YthhbbnfnejjpiaaGreatDoorNm2
import Derived.Test.YthhbbnfnejjpiaaGreatDoorNm9
import Derived.Below
import Derived.BigQuiet
import Derived.Deep.Draws
import Derived.Deep.LoopGhost
import Derived.Deep.QuietTactic
import Derived.Deep.RegionHeld3
import Derived.Laws.NewBlocks
import Derived.Laws.OwnMore
import Derived.Laws.Pointers
import Derived.Laws.Rows
import Derived.Lib.BitFns
import Derived.Lib.Hide
import Derived.Lib.ItoaNum
import Derived.OrdersHeld
import Derived.RangeFuncNested
import Derived.RowKit3
import Derived.Shelf.Spec.TrailingZeros
import Derived.StillTactics
import Derived.StillTailTactics
import Derived.Test.YthhbbnfnejjpiaaGreatDoorProg
import Derived.WalkKit
import Derived.WalkLawsBesides
import Derived.WalkMore
import Derived.WalkSpells
set_option linter.unusedVariables false
set_option linter.unusedSimpArgs false
namespace Go.Proofs.YthhbbnfnejjpiaaGreatDoor
open Go.RowKit GW NL
theorem shl32_or (x y:Nat)(hx:x<4294967296)(hy:y<4294967296):bits .or .u64 (IntKind.u64.wrap (IntKind.u64.wrap (y:Int)*4294967296)) (IntKind.u64.wrap (x:Int))=((x+4294967296*y:Nat):Int):=by
 rw[show IntKind.u64.wrap (y:Int)=(y:Int) by rw[IntKind.wrap_u64];omega,show IntKind.u64.wrap (x:Int)=(x:Int) by rw[IntKind.wrap_u64];omega]
 rw[show IntKind.u64.wrap ((y:Int)*4294967296)=((4294967296*y:Nat):Int) by rw[IntKind.wrap_u64];omega,K3.or64_comm,K3.or64_add _ _ 32 (by omega) (by omega) (by omega) (by omega),Nat.add_comm]
set_option maxRecDepth 100000 in
set_option maxHeartbeats 1000000 in
theorem ldown_any (A:Option Addr)(c:Nat)(l:List Nat)(r:Nat)(w:World)(h:SlW w A c l)(hl:l.length≤1000000000)(hr32:r<32):
  Calls Tryz.prog 169 #[.slice A l.length c,.int .i64 (r:Int)] w (RNat (val l/2^r) w):=by
 refine calls_b fun g=>?_
 obtain⟨n,hn⟩:∃n:Nat,l.length=n:=⟨_,rfl⟩
 have hmx:=h.len
 have hmxx:=h.max
 have hcp:=h.cap
 have hmk:∀w,(Instr.makeSlice 105 (.int .i64 (n:Int)) (.int .i64 (n:Int))).run Tryz.prog w=.ok (.slice (some ⟨w.heap.size,0,none⟩) n n) (w.alloc (.cells (u32s (List.replicate n 0)).toArray 73)):=fun w=>make_lim n (by omega) w
 have ha1:l.length≤n:=by omega
 have ha2:n≤l.length:=by omega
 rw[hn] at hmx hcp
 have HLN:=Lib.hid hn
 rw[hn]
 have hn9:n≤1000000000:=by omega
 have hr0:¬ ((r:Int)<0):=by omega
 have hr1:(0:Int)≤(r:Int):=by omega
 clear hn hl
 go_enter Tryz.func169,Tryz.ntmps169
 go_wp2_with (with_reducible refine yq _ ?_;(try generalize (G.w _).heap.size=bk);(try dsimp only[yi,yj]);(try clear g);intro g)
 go_loopw [12] (fun i wr=>∃(k:Nat) (pre:List Nat),i=.int .i64 k∧k≤n∧pre.length=k∧Ok pre∧val pre=val l/2^r%4294967296^k∧∃g:G w [] [(bk,73,u32s (pre++List.replicate (n-k) 0))] [heapOf w],wr=g.w) (fun i _=>n-(intOf i).toNat)
 case atStart=>exact⟨0,[],rfl,Nat.zero_le _,rfl,Ok.nil,by simp[val,Nat.mod_one],g,rfl⟩
 case round=>
  clear g hmk
  obtain⟨k,pre,rfl,hk,hp,hok,hv,g,rfl⟩:=hrel
  have HP:=Lib.hid hp
  have HV:=Lib.hid hv
  clear hp hv
  by_cases hk2:k<n
  ·obtain⟨b,o,rfl,hcell⟩:=lim_cells h.lim (by omega)
   have e0:=Lib.hid (hcell k (by omega))
   clear hcell
   have hx:=h.ok.getD k
   have hy:=h.ok.getD (k+1)
   have hpl:=u32s_zero_at HP.out hk2
   have dl:=down_limb h.ok k r hr32
   have st:=Lib.hid (low_step HP.out HV.out dl)
   have hq:=Lib.hid (set_zeros' HP.out hk2 ((l.getD k 0+4294967296*l.getD (k+1) 0)/2^r%4294967296))
   have CL:Hid (∀w,SlW w (some ⟨b,o,none⟩) c l→Calls Tryz.prog 165 #[.slice (some ⟨b,o,none⟩) n c,.int .i64 ((k:Int)+1)] w fun e w'=>e=.returned (.int .u32 ((l.getD (k+1) 0:Nat):Int))∧w=w'):=Lib.hid (fun w hw=>by
    have:=lat_any (some ⟨b,o,none⟩) c l (k+1) w hw (by omega)
    rwa[HLN.out] at this)
   have hr:(l.getD k 0+4294967296*l.getD (k+1) 0)/2^r%4294967296<4294967296:=Nat.mod_lt _ (by decide)
   clear dl
   generalize l.getD k 0=x at*
   generalize l.getD (k+1) 0=y at*
   have hor:=shl32_or x y hx hy
   have ht:x+4294967296*y<18446744073709551616:=by omega
   obtain⟨t,htt⟩:∃t,x+4294967296*y=t:=⟨_,rfl⟩
   rw[htt] at hor ht st hq hr
   clear htt
   obtain⟨z,hz⟩:∃z,t/2^r%4294967296=z:=⟨_,rfl⟩
   rw[hz] at st hq hr
   have HE:Hid (IntKind.u32.wrap (bits .or .u64 (IntKind.u64.wrap (IntKind.u64.wrap (y:Int)*4294967296)) (IntKind.u64.wrap (x:Int))/2^r)=(z:Int)):=Lib.hid (by
    rw[hor,←hz,show(t:Int)/2^r=((t/2^r:Nat):Int) by rw[Int.natCast_ediv,Int.natCast_pow];rfl,IntKind.wrap_u32]
    omega)
   clear hz hor ht
   have hi2:(k:Int)<(n:Int):=by omega
   have hw2:IntKind.i64.wrap ((k:Int)+1)=(k:Int)+1:=by rw[IntKind.wrap_i64];omega
   go_wp2_with (with_reducible refine yq _ ?_;(try generalize (G.w _).heap.size=bk);(try dsimp only[yi,yj]);(try clear g);intro g)
   go_region_held3 (fun w'=>w'.cell? ⟨b,o+k,none⟩=some (.int .u32 ((x:Nat):Int))) (exact e0.out _ _ _ _ _ (by simp)) ((go_at_call 165;refine(CL.out _ (G.sl _ (by simp) h)).mono ?_;rintro e w1 ⟨rfl,rfl⟩))
   ((try simp only[G.drew_eq,G.drewN_eq]);(refine yq _ ?_;(try generalize (G.w _).heap.size=bk);(try dsimp only[yi,yj]);(try clear g);intro g))
   go_wp2_with (with_reducible refine yq _ ?_;(try generalize (G.w _).heap.size=bk);(try dsimp only[yi,yj]);(try clear g);intro g)
   obtain⟨g2,hg2⟩:=g.as (by rw[HE.out,u32s_set,hq.out])
   exact⟨⟨k+1,pre++[z],by go_num,by omega,by rw[List.length_append,HP.out];rfl,hok.append (Ok.cons hr Ok.nil),st.out,g2,hg2⟩,by simp[intOf];omega⟩
  ·obtain rfl:k=n:=by omega
   have e1:=down_end h.ok (n:=k) (by rw[HLN.out];exact Nat.le_refl _) HV.out
   obtain⟨g2,hg2⟩:=g.as (M':=[(bk,73,u32s pre)]) (by rw[Nat.sub_self,List.replicate_zero,List.append_nil])
   rw[hg2]
   clear hg2 g
   revert g2
   intro g
   have E1:=Lib.hid e1
   clear e1
   have hp:=HP.out
   clear HP
   subst hp
   have hsl:SlW g.w (some ⟨bk,0,none⟩) pre.length pre:=(sl_blk (Nat.le_refl _) (by omega) hok).at (blkF_sub g.blk0)
   go_wp2_with (with_reducible refine yq _ ?_;(try generalize (G.w _).heap.size=bk);(try dsimp only[yi,yj]);(try clear g);intro g)
   refine(ltrim_any _ _ pre _ hsl).mono ?_
   rintro e w1 ⟨rfl,hb⟩
   obtain⟨g1,rfl⟩:=G.call_ex _ hb
   clear hb hsl g
   revert g1
   intro g
   go_wp2_with (with_reducible refine yq _ ?_;(try generalize (G.w _).heap.size=bk);(try dsimp only[yi,yj]);(try clear g);intro g)
   go_ret
   exact rnat_end g (List.mem_cons_self ..) hok (Nat.le_refl _) (by omega) E1.out
set_option maxRecDepth 100000 in
set_option maxHeartbeats 1000000 in
theorem lup_any (A:Option Addr)(c:Nat)(l:List Nat)(r:Nat)(w:World)(h:SlW w A c l)(hl:l.length≤1000000000)(hr32:r<32):
  Calls Tryz.prog 166 #[.slice A l.length c,.int .i64 (r:Int)] w (RNat (val l*2^r) w):=by
 refine calls_b fun g=>?_
 obtain⟨n,hn⟩:∃n:Nat,l.length=n:=⟨_,rfl⟩
 have hmx:=h.len
 have hmxx:=h.max
 have hcp:=h.cap
 have hmk:∀w,(Instr.makeSlice 105 (.int .i64 ((n:Int)+1)) (.int .i64 ((n:Int)+1))).run Tryz.prog w=.ok (.slice (some ⟨w.heap.size,0,none⟩) (n+1) (n+1)) (w.alloc (.cells (u32s (List.replicate (n+1) 0)).toArray 73)):=fun w=>make_lim (n+1) (by omega) w
 have ha1:l.length≤n:=by omega
 have ha2:n≤l.length:=by omega
 rw[hn] at hmx hcp
 have HLN:=Lib.hid hn
 rw[hn]
 have hn9:n≤1000000000:=by omega
 have hr0:¬ ((r:Int)<0):=by omega
 have hr1:(0:Int)≤(r:Int):=by omega
 clear hn hl
 go_enter Tryz.func166,Tryz.ntmps166
 go_wp2_with (with_reducible refine yq _ ?_;(try generalize (G.w _).heap.size=bk);(try dsimp only[yi,yj]);(try clear g);intro g)
 go_loopw [14] (fun i wr=>∃(k:Nat) (pre:List Nat),i=.int .i64 k∧k≤n+1∧pre.length=k∧Ok pre∧val pre=val l*2^r%4294967296^k∧∃g:G w [] [(bk,73,u32s (pre++List.replicate (n+1-k) 0))] [heapOf w],wr=g.w) (fun i _=>n+1-(intOf i).toNat)
 case atStart=>exact⟨0,[],rfl,Nat.zero_le _,rfl,Ok.nil,by simp[val,Nat.mod_one],g,rfl⟩
 case round=>
  clear g hmk
  obtain⟨k,pre,rfl,hk,hp,hok,hv,g,rfl⟩:=hrel
  have HP:=Lib.hid hp
  have HV:=Lib.hid hv
  clear hp hv
  by_cases hk2:k<n+1
  ·have h':Ok (0::l):=Ok.cons (by decide) h.ok
   have hx:=h'.getD k
   have hy:=h'.getD (k+1)
   have hpl:=u32s_zero_at HP.out hk2
   have dl:=up_limb0 h.ok k r hr32
   have st:=Lib.hid (low_step HP.out HV.out dl)
   have hq:=Lib.hid (set_zeros' HP.out hk2 (((0::l).getD k 0+4294967296*(0::l).getD (k+1) 0)*2^r%18446744073709551616/4294967296))
   have CL:Hid (∀w,SlW w A c l→Calls Tryz.prog 165 #[.slice A n c,.int .i64 (k:Int)] w fun e w'=>e=.returned (.int .u32 (((0::l).getD (k+1) 0:Nat):Int))∧w=w'):=Lib.hid (fun w hw=>by
    have:=lat_any A c l k w hw (by omega)
    rw[HLN.out] at this
    rw[List.getD_cons_succ]
    exact this)
   have hr:((0::l).getD k 0+4294967296*(0::l).getD (k+1) 0)*2^r%18446744073709551616/4294967296<4294967296:=Nat.div_lt_of_lt_mul (Nat.mod_lt _ (by decide))
   clear dl
   have HX:Hid (k=0→(0::l).getD k 0=0):=Lib.hid (by rintro rfl;rfl)
   have HC:Hid (∀j,k=j+1→(0::l).getD k 0=l.getD j 0):=Lib.hid (by rintro j rfl;rw[List.getD_cons_succ])
   generalize (0::l).getD k 0=x at*
   generalize (0::l).getD (k+1) 0=y at*
   have hor:=shl32_or x y hx hy
   have hor0:=shl32_or 0 y (by decide) hy
   have ht:x+4294967296*y<18446744073709551616:=by omega
   obtain⟨t,htt⟩:∃t,x+4294967296*y=t:=⟨_,rfl⟩
   rw[htt] at hor ht st hq hr
   obtain⟨z,hz⟩:∃z,t*2^r%18446744073709551616/4294967296=z:=⟨_,rfl⟩
   rw[hz] at st hq hr
   have hz2:IntKind.u32.wrap (IntKind.u64.wrap ((t:Int)*2^r)/4294967296)=(z:Int):=by
    rw[show(t:Int)*2^r=((t*2^r:Nat):Int) by rw[Int.natCast_mul,Int.natCast_pow];rfl,IntKind.wrap_u64,IntKind.wrap_u32]
    omega
   have hi2:(k:Int)<(n:Int)+1:=by omega
   have hkn:k<n+1:=hk2
   have HT:=Lib.hid htt
   have HZ:=Lib.hid hz
   have fin:∀(g:G w [] [(bk,73,u32s ((pre++List.replicate (n+1-k) 0).set k z))] [heapOf w]),∃g':G w [] [(bk,73,u32s ((pre++[z])++List.replicate (n+1-(k+1)) 0))] [heapOf w],g.w=g'.w:=fun g=>g.as (by rw[hq.out])
   have FIN:=Lib.hid fin
   clear htt hz fin
   by_cases hk0:k=0
   ·have hx0:=HX.out hk0
    have HK0:=Lib.hid hk0
    have hkp:¬ ((0:Int)<(k:Int)):=by omega
    subst hx0
    have HE:Hid (IntKind.u64.wrap (bits .or .u64 ((y:Int)*4294967296) 0*2^r)/4294967296%4294967296=(z:Int)):=Lib.hid (by
     rw[show IntKind.u64.wrap ((0:Nat):Int)=0 by decide,show IntKind.u64.wrap (IntKind.u64.wrap (y:Int)*4294967296)=(y:Int)*4294967296 by rw[IntKind.wrap_u64,IntKind.wrap_u64];omega] at hor
     rw[hor,←IntKind.wrap_u32];exact hz2)
    clear hor hz2 hor0 HX HC hk0
    go_wp2_with (with_reducible refine yq _ ?_;(try generalize (G.w _).heap.size=bk);(try dsimp only[yi,yj]);(try clear g);intro g)
    refine(CL.out _ (G.sl _ (by simp) h)).mono ?_
    rintro e w1 ⟨rfl,rfl⟩
    go_wp2_with (with_reducible refine yq _ ?_;(try generalize (G.w _).heap.size=bk);(try dsimp only[yi,yj]);(try clear g);intro g)
    obtain⟨g2,hg2⟩:=g.as (by rw[HE.out,u32s_set,hq.out])
    exact⟨⟨k+1,pre++[z],by go_num,by omega,by rw[List.length_append,HP.out];rfl,hok.append (Ok.cons hr Ok.nil),st.out,g2,hg2⟩,by simp[intOf];omega⟩
   ·obtain⟨j,hj⟩:∃j,k=j+1:=⟨k-1,by omega⟩
    have hxj:=HC.out j hj
    obtain⟨b,o,rfl,hcell⟩:=lim_cells h.lim (by omega)
    have e0:=hcell j (by omega) _ _ _ _ g (by simp)
    clear hcell
    rw[←hxj] at e0
    have HE:Hid (IntKind.u64.wrap (bits .or .u64 ((y:Int)*4294967296) (x:Int)*2^r)/4294967296%4294967296=(z:Int)):=Lib.hid (by
     rw[show IntKind.u64.wrap (x:Int)=(x:Int) by rw[IntKind.wrap_u64];omega,show IntKind.u64.wrap (IntKind.u64.wrap (y:Int)*4294967296)=(y:Int)*4294967296 by rw[IntKind.wrap_u64,IntKind.wrap_u64];omega] at hor
     rw[hor,←IntKind.wrap_u32];exact hz2)
    have hkp:(0:Int)<(k:Int):=by omega
    have hkj:(k:Int)-1=(j:Int):=by omega
    have hj1:j<n:=by omega
    have hj2:(j:Int)<(n:Int):=by omega
    have HJ:=Lib.hid hj
    clear hor hz2 hor0 HX HC hk0 hj hxj
    go_wp2_with (with_reducible refine yq _ ?_;(try generalize (G.w _).heap.size=bk);(try dsimp only[yi,yj]);(try clear g);intro g)
    clear e0
    refine(CL.out _ (G.sl _ (by simp) h)).mono ?_
    rintro e w1 ⟨rfl,rfl⟩
    go_wp2_with (with_reducible refine yq _ ?_;(try generalize (G.w _).heap.size=bk);(try dsimp only[yi,yj]);(try clear g);intro g)
    obtain⟨g2,hg2⟩:=g.as (by rw[HE.out,u32s_set,hq.out])
    exact⟨⟨k+1,pre++[z],by go_num,by omega,by rw[List.length_append,HP.out];rfl,hok.append (Ok.cons hr Ok.nil),st.out,g2,hg2⟩,by simp[intOf];omega⟩
  ·obtain rfl:k=n+1:=by omega
   have e1:=up_end h.ok (n:=n+1) (by omega) hr32 HV.out
   obtain⟨g2,hg2⟩:=g.as (M':=[(bk,73,u32s pre)]) (by rw[Nat.sub_self,List.replicate_zero,List.append_nil])
   rw[hg2]
   clear hg2 g
   revert g2
   intro g
   have E1:=Lib.hid e1
   clear e1
   have hp:=HP.out
   have hsl:SlW g.w (some ⟨bk,0,none⟩) (n+1) pre:=(sl_blk (by omega) (by omega) hok).at (blkF_sub g.blk0)
   have CT:=Lib.hid (fun w h=>ltrim_any (some ⟨bk,0,none⟩) (n+1) pre w h)
   rw[hp] at CT
   clear hp
   go_wp2_with (with_reducible refine yq _ ?_;(try generalize (G.w _).heap.size=bk);(try dsimp only[yi,yj]);(try clear g);intro g)
   refine(CT.out _ hsl).mono ?_
   rintro e w1 ⟨rfl,hb⟩
   obtain⟨g1,rfl⟩:=G.call_ex _ hb
   clear hb hsl g
   revert g1
   intro g
   go_wp2_with (with_reducible refine yq _ ?_;(try generalize (G.w _).heap.size=bk);(try dsimp only[yi,yj]);(try clear g);intro g)
   go_ret
   exact rnat_end g (List.mem_cons_self ..) hok (by have:=HP.out;omega) (by omega) E1.out
end Go.Proofs.YthhbbnfnejjpiaaGreatDoor
