/- Plain facts and contracts of functions of the program, out of walks. Their conditions stand ahead of each. -/
import Derived.Test.YthhbbnfnejjpiaaGreatDoorNm1
import Derived.Test.YthhbbnfnejjpiaaGreatDoorNm7
import Derived.Test.YthhbbnfnejjpiaaGreatDoorShelf
import Derived.Below
import Derived.BigQuiet
import Derived.Deep.Draws
import Derived.Deep.LoopGhost
import Derived.Deep.QuietTactic
import Derived.Deep.RegionHeld3
import Derived.Laws.NewBlocks
import Derived.Laws.OwnMore
import Derived.Laws.Pointers
import Derived.Laws.Rows
import Derived.Lib.Hide
import Derived.OrdersHeld
import Derived.RangeFuncNested
import Derived.RowKit3
import Derived.Shelf.Spec.TrailingZeros
import Derived.StillTactics
import Derived.StillTailTactics
import Derived.Test.YthhbbnfnejjpiaaGreatDoorProg
import Derived.WalkKit
import Derived.WalkLawsBesides
import Derived.WalkMore
import Derived.WalkSpells
set_option linter.unusedVariables false
set_option linter.unusedSimpArgs false
namespace Go.Proofs.YthhbbnfnejjpiaaGreatDoor
open Go.RowKit GW NL
/-- the table of math/bits -/
def Tab (w:World):Prop:=TabAt 0 Lib.deBruijn32tab w
theorem Tab.below {w w':World}(h:Tab w)(hb:Below w.heap.size w w'):Tab w':=fun j hj=>by
 have:=h j hj
 exact(hb.cell (p:=⟨0,j,none⟩) (World.block_lt_of_cell? w _ this)).trans this
theorem G.tab {w0:World}{M:List Blk}{I:List Frag}(g:G w0 [] M I)(h:Tab w0):Tab g.w:=h.below g.below
theorem tz32_core (x k idx:Nat)(w:World)(hx0:((x:Int)==0)=false)
  (key:bits BinOp.and IntKind.u32 (x:Int) (-(x:Int)%4294967296)*125613361%4294967296/134217728=(idx:Int))
  (hi:idx<32) (hk:k<32) (hcell:w.cell? ⟨0,idx,none⟩=some (.int .u8 k)):
  Calls Tryz.prog 174 #[.int .u32 x] w fun e w'=>e=.returned (.int .i64 k)∧w=w':=by
 go_enter Tryz.func174,Tryz.ntmps174
 go_wp2_with (simp only[key])
 go_ret
 exact⟨rfl,rfl⟩
theorem tz32_any (x:Nat)(hx:x<4294967296)(hx0:x≠0)(w:World)(hT:Tab w):
  Calls Tryz.prog 174 #[.int .u32 x] w fun e w'=>e=.returned (.int .i64 (Lib.ctz 32 x))∧w=w':=by
 obtain⟨hlow,hk⟩:=Lib.lowest_bit 32 x hx0 hx
 obtain⟨hi,htab⟩:=Lib.deBruijn32_at _ hk
 have hcell:=hT _ (by simpa [Lib.deBruijn32tab] using hi)
 rw[htab] at hcell
 exact tz32_core x _ _ w (by simp;omega) (tz32_key x _ hx hx0 hlow) hi hk hcell
theorem lat_any (A:Option Addr)(c:Nat)(l:List Nat)(i:Nat)(w:World)(h:SlW w A c l)(hi:i≤1000000000000):
  Calls Tryz.prog 165 #[.slice A l.length c,.int .i64 i] w fun e w'=>e=.returned (.int .u32 ((l.getD i 0:Nat):Int))∧w=w':=by
 have hm:=h.len
 have hmm:=h.max
 have hc:=h.cap
 by_cases hlt:i<l.length
 ·obtain⟨b,o,rfl,hcell⟩:=limW_cell h.lim (by omega)
  have e1:=hcell i hlt
  clear hcell
  generalize l.getD i 0=x at e1 ⊢
  generalize l.length=n at*
  go_enter Tryz.func165,Tryz.ntmps165
  go_wp2_with fail
  go_ret
  exact⟨rfl,rfl⟩
 ·have e1:l.getD i 0=0:=by rw[List.getD_eq_getElem?_getD,List.getElem?_eq_none (by omega)];rfl
  rw[e1]
  generalize l.length=n at*
  go_enter Tryz.func165,Tryz.ntmps165
  go_wp2_with fail
  go_ret
  exact⟨rfl,rfl⟩
theorem ltrim_any (A:Option Addr)(c:Nat)(l:List Nat)(w:World)(h:SlW w A c l):
  Calls Tryz.prog 142 #[.slice A l.length c] w fun e w'=>e=.returned (.slice A (limbs (val l)).length c)∧Below w.heap.size w w':=by
 have hm:=h.len
 have hmm:=h.max
 have hc:=h.cap
 have hk:=h.ok
 go_enter Tryz.func142,Tryz.ntmps142
 go_wp2_with fail
 go_loopw [0] (fun v wr=>∃k:Nat,k≤l.length∧v=.slice A k c∧val (l.take k)=val l∧Below w.heap.size w wr) (fun v _=>match v with| .slice _ k _=>k|_=>0)
 case atStart=>exact⟨l.length,Nat.le_refl _,rfl,by rw[List.take_length],Below.refl _ _⟩
 case round =>
  obtain⟨k,hk1,rfl,hv,hb⟩:=hrel
  have HV:=Lib.hid hv
  clear hv
  by_cases h0:0<k
  ·obtain⟨b,o,rfl,hcell⟩:=limW_cell h.lim (by omega)
   have e1:=(World.cell?_of_block (hb.block _ (World.block_lt_of_cell? w _ (hcell (k-1) (by omega))))).trans (hcell (k-1) (by omega))
   clear hcell h
   have hn:(limbs (val l)).length≤k:=by
    rw[←HV.out]
    have:=limbs_len_le_of_ok (hk.take k)
    rw[List.length_take] at this
    omega
   have h0':(0:Int)<(k:Int):=by omega
   by_cases hx:l.getD (k-1) 0=0
   ·have hv':val (l.take (k-1))=val l:=by
     rw[←HV.out]
     have:=val_take_getD l (k-1)
     rw[show k-1+1=k by omega,hx] at this
     omega
    have HV':=Lib.hid hv'
    clear hv'
    have hx1:(((l.getD (k-1) 0:Nat):Int)==0)=true:=by simp only[hx];rfl
    clear hx
    generalize ((l.getD (k-1) 0:Nat):Int)=v at*
    go_wp2_with fail
    refine⟨⟨k-1,by omega,?_,HV'.out,hb⟩,?_⟩
    ·rfl
    ·dsimp only;omega
   ·have hn':(limbs (val l)).length=k:=by
     have hl:(l.take k).length=k:=by rw[List.length_take];omega
     have t:Trim (l.take k):=by
      intro j hj
      rw[hl] at hj
      rw[getD_take (by omega),show j=k-1 by omega]
      exact hx
     rw[←HV.out,limbs_val (hk.take k) t,hl]
    have HN:=Lib.hid hn'
    clear hn'
    have hx1:(((l.getD (k-1) 0:Nat):Int)==0)=false:=by simp only[beq_eq_false_iff_ne,ne_eq];omega
    clear hx
    generalize ((l.getD (k-1) 0:Nat):Int)=v at*
    go_wp2_with fail
    go_ret
    exact⟨ret_slice HN.out.symm,hb⟩
  ·obtain rfl:k=0:=by omega
   have hn':(limbs (val l)).length=0:=by
    have:=HV.out
    rw[List.take_zero] at this
    rw[←this]
    rw[show val []=0 from rfl,limbs_zero];rfl
   have HN:=Lib.hid hn'
   clear hn'
   go_wp2_with fail
   go_ret
   exact⟨ret_slice HN.out.symm,hb⟩
theorem make_lim (n:Nat)(hn:n≤35184372088832)(w:World):(Instr.makeSlice 105 (.int .i64 (n:Int)) (.int .i64 (n:Int))).run Tryz.prog w=.ok (.slice (some ⟨w.heap.size,0,none⟩) n n) (w.alloc (.cells (u32s (List.replicate n 0)).toArray 73)):=by
 obtain⟨i0,hi,hz0,hz1,hz2⟩:=info_parts infoU32
 have h:=run_make (P:=Tryz.prog) w 105 73 i0 _ Tryz.underlying105 hi hz0 .i64 .i64 n n (by omega) (by omega) (by rw[hz2];omega) (by omega)
 rw[hz1] at h
 simp only[Int.toNat_natCast] at h
 rw[h,madeU32]
theorem lunit_any (A:Option Addr)(c:Nat)(v:Nat)(w:World)(h:SlW w A c (limbs v)):
  Calls Tryz.prog 138 #[.slice A (limbs v).length c] w fun e w'=>e=.returned (.bool (decide (v=1)))∧w=w':=by
 have hm:=h.len
 by_cases h1:(limbs v).length=1
 ·obtain⟨b,o,rfl,hcell⟩:=limW_cell h.lim (by omega)
  have e1:=hcell 0 (by omega)
  clear hcell h
  have hv:(limbs v).getD 0 0=v:=by
   have:=val_limbs v
   obtain⟨x,hx⟩:=List.length_eq_one_iff.1 h1
   rw[hx] at this ⊢
   simpa [val] using this
  rw[hv] at e1
  rw[h1]
  simp only[Nat.add_zero] at e1
  by_cases hx:v=1
  ·subst hx
   go_enter Tryz.func138,Tryz.ntmps138
   go_wp2_with fail
   go_ret
   exact⟨rfl,rfl⟩
  ·have hd:decide (v=1)=false:=decide_eq_false hx
   rw[hd]
   have hx1:(((v:Nat):Int)==1)=false:=by simp only[beq_eq_false_iff_ne,ne_eq];omega
   clear hx hd hv h1 hm
   generalize ((v:Nat):Int)=u at*
   go_enter Tryz.func138,Tryz.ntmps138
   go_wp2_with fail
   go_ret
   exact⟨rfl,rfl⟩
 ·have hv:v≠1:=by
   rintro rfl
   rw[limbs_one (by decide) (by decide)] at h1
   exact h1 rfl
  rw[decide_eq_false hv]
  have hl1:(((limbs v).length:Int)==1)=false:=by simp only[beq_eq_false_iff_ne,ne_eq];omega
  generalize (limbs v).length=n at*
  go_enter Tryz.func138,Tryz.ntmps138
  go_wp2_with fail
  go_ret
  exact⟨rfl,rfl⟩
set_option maxRecDepth 20000 in
theorem lplus_any (A1 A2:Option Addr)(c1 c2:Nat)(l1 l2:List Nat)(w:World)(h1:SlW w A1 c1 l1)(h2:SlW w A2 c2 l2)(hl1:l1.length≤1000000000)(hl2:l2.length≤1000000000):
  Calls Tryz.prog 156 #[.slice A1 l1.length c1,.slice A2 l2.length c2] w (RNat (val l1+val l2) w):=by
 refine calls_b fun g=>?_
 obtain⟨n,hn⟩:∃n:Nat,max l1.length l2.length+1=n:=⟨_,rfl⟩
 have hn1:l1.length<n:=by omega
 have hn2:l2.length<n:=by omega
 have hn3:n≤1000000001:=by omega
 have hmk:∀w,(Instr.makeSlice 105 (.int .i64 (max (l1.length:Int) (l2.length:Int)+1)) (.int .i64 (max (l1.length:Int) (l2.length:Int)+1))).run Tryz.prog w=.ok (.slice (some ⟨w.heap.size,0,none⟩) n n) (w.alloc (.cells (u32s (List.replicate n 0)).toArray 73)):=by
  intro w
  have:=make_lim n (by omega) w
  rw[show(max (l1.length:Int) (l2.length:Int)+1)=(n:Int) by omega]
  exact this
 have hmm:max (l1.length:Int) (l2.length:Int)+1≤9223372036854775807:=by omega
 have hm0:0≤max (l1.length:Int) (l2.length:Int):=by omega
 clear hn
 all_goals
  go_enter Tryz.func156,Tryz.ntmps156
  go_wp2_with (with_reducible refine yq _ ?_;(try generalize (G.w _).heap.size=bk);(try dsimp only[yi,yj]);(try clear g);intro g)
  go_loopw [6,17] (fun u i wr=>∃(k c:Nat) (pre:List Nat),u=.int .u32 (c:Int)∧i=.int .i64 k∧k≤n∧pre.length=k∧Ok pre∧c≤1∧val pre+4294967296^k*c=val (l1.take k)+val (l2.take k)∧∃g:G w [] [(bk,73,u32s (pre++List.replicate (n-k) 0))] [heapOf w],wr=g.w) (fun _ i _=>n-(intOf i).toNat)
  case atStart=>exact⟨0,0,[],rfl,rfl,Nat.zero_le _,rfl,Ok.nil,by omega,by simp[val],g,rfl⟩
  case round=>
   clear g hmk
   obtain⟨k,c,pre,rfl,rfl,hk,hp,hok,hc,hv,g,rfl⟩:=hrel
   have HP:=Lib.hid hp
   have HV:=Lib.hid hv
   clear hp hv
   by_cases hk2:k<n
   ·go_wp2_with (with_reducible refine yq _ ?_;(try generalize (G.w _).heap.size=bk);(try dsimp only[yi,yj]);(try clear g);intro g)
    refine(lat_any _ _ l1 k _ (g.sl (by simp) h1) (by omega)).mono ?_;rintro e w1 ⟨rfl,rfl⟩
    go_wp2_with (with_reducible refine yq _ ?_;(try generalize (G.w _).heap.size=bk);(try dsimp only[yi,yj]);(try clear g);intro g)
    refine(lat_any _ _ l2 k _ (g.sl (by simp) h2) (by omega)).mono ?_;rintro e w1 ⟨rfl,rfl⟩
    go_wp2_with (with_reducible refine yq _ ?_;(try generalize (G.w _).heap.size=bk);(try dsimp only[yi,yj]);(try clear g);intro g)
    have hx:=h1.ok.getD k
    have hy:=h2.ok.getD k
    have hpl:=u32s_zero_at HP.out hk2
    have st:=Lib.hid (add_step (l1:=l1) (l2:=l2) (c:=c) HP.out HV.out)
    have hq:=Lib.hid (set_zeros' HP.out hk2 ((l1.getD k 0+l2.getD k 0+c)%4294967296))
    have hc2:(l1.getD k 0+l2.getD k 0+c)/4294967296≤1:=by omega
    refine(add32_any (l1.getD k 0) (l2.getD k 0) c hx hy (by omega) _).mono ?_
    rintro e w1 ⟨rfl,rfl⟩
    have hr:(l1.getD k 0+l2.getD k 0+c)%4294967296<4294967296:=by omega
    generalize (l1.getD k 0+l2.getD k 0+c)%4294967296=r at*
    generalize (l1.getD k 0+l2.getD k 0+c)/4294967296=c2 at*
    go_wp2_with (with_reducible refine yq _ ?_;(try generalize (G.w _).heap.size=bk);(try dsimp only[yi,yj]);(try clear g);intro g)
    obtain⟨g2,hg2⟩:=g.as (by rw[u32s_set,hq.out])
    exact⟨⟨k+1,c2,pre++[r],rfl,by go_num,by omega,by rw[List.length_append,HP.out];rfl,hok.append (Ok.cons hr Ok.nil),hc2,st.out,g2,hg2⟩,by simp[intOf];omega⟩
   ·obtain rfl:k=n:=by omega
    obtain⟨e1,rfl⟩:=add_end h1.ok h2.ok hn1 hn2 HV.out
    obtain⟨g2,hg2⟩:=g.as (M':=[(bk,73,u32s pre)]) (by rw[Nat.sub_self,List.replicate_zero,List.append_nil])
    rw[hg2]
    clear hg2 g
    revert g2
    intro g
    have E1:=Lib.hid e1
    clear e1
    have hp:=HP.out
    subst hp
    have hsl:SlW g.w (some ⟨bk,0,none⟩) pre.length pre:=(sl_blk (Nat.le_refl _) (by omega) hok).at (blkF_sub g.blk0)
    go_wp2_with (with_reducible refine yq _ ?_;(try generalize (G.w _).heap.size=bk);(try dsimp only[yi,yj]);(try clear g);intro g)
    refine(ltrim_any _ _ pre _ hsl).mono ?_
    rintro e w1 ⟨rfl,hb⟩
    obtain⟨g1,rfl⟩:=G.call_ex _ hb
    clear hb hsl g
    revert g1
    intro g
    go_wp2_with (with_reducible refine yq _ ?_;(try generalize (G.w _).heap.size=bk);(try dsimp only[yi,yj]);(try clear g);intro g)
    go_ret
    exact rnat_end g (List.mem_cons_self ..) hok (Nat.le_refl _) (by omega) E1.out
set_option maxRecDepth 20000 in
theorem lless_any (A1 A2:Option Addr)(c1 c2:Nat)(l1 l2:List Nat)(w:World)(h1:SlW w A1 c1 l1)(h2:SlW w A2 c2 l2)(hl1:l1.length≤1000000000)(hl2:l2.length≤l1.length)(hle:val l2≤val l1):
  Calls Tryz.prog 158 #[.slice A1 l1.length c1,.slice A2 l2.length c2] w (RNat (val l1-val l2) w):=by
 refine calls_b fun g=>?_
 obtain⟨n,hn⟩:∃n:Nat,l1.length=n:=⟨_,rfl⟩
 have hmk:∀w,(Instr.makeSlice 105 (.int .i64 (n:Int)) (.int .i64 (n:Int))).run Tryz.prog w=.ok (.slice (some ⟨w.heap.size,0,none⟩) n n) (w.alloc (.cells (u32s (List.replicate n 0)).toArray 73)):=fun w=>make_lim n (by omega) w
 rw[hn]
 have HN:=Lib.hid hn
 have ha1:l1.length≤n:=by omega
 have ha2:n≤l1.length:=by omega
 have ha3:l2.length≤n:=by omega
 have hn9:n≤1000000000:=by omega
 clear hn
 go_enter Tryz.func158,Tryz.ntmps158
 go_wp2_with (with_reducible refine yq _ ?_;(try generalize (G.w _).heap.size=bk);(try dsimp only[yi,yj]);(try clear g);intro g)
 go_loopw [6,13] (fun u i wr=>∃(k c:Nat) (pre:List Nat),u=.int .u32 (c:Int)∧i=.int .i64 k∧k≤n∧pre.length=k∧Ok pre∧c≤1∧val pre+val (l2.take k)=val (l1.take k)+4294967296^k*c∧∃g:G w [] [(bk,73,u32s (pre++List.replicate (n-k) 0))] [heapOf w],wr=g.w) (fun _ i _=>n-(intOf i).toNat)
 case atStart=>exact⟨0,0,[],rfl,rfl,Nat.zero_le _,rfl,Ok.nil,by omega,by simp[val],g,rfl⟩
 case round=>
  clear g hmk
  obtain⟨k,c,pre,rfl,rfl,hk,hp,hok,hc,hv,g,rfl⟩:=hrel
  have HP:=Lib.hid hp
  have HV:=Lib.hid hv
  clear hp hv
  by_cases hk2:k<n
  ·obtain⟨b,o,rfl,hcell⟩:=lim_cells h1.lim (by omega)
   have e0:=Lib.hid (hcell k (by omega))
   clear hcell
   have hx:=h1.ok.getD k
   have hy:=h2.ok.getD k
   have hpl:=u32s_zero_at HP.out hk2
   have st:=Lib.hid (sub_step h1.ok h2.ok hc HP.out HV.out)
   have hq:=Lib.hid (set_zeros' HP.out hk2 ((l1.getD k 0+4294967296-l2.getD k 0-c)%4294967296))
   have CL:=Lib.hid (fun w h=>lat_any A2 c2 l2 k w h (by omega))
   have CS:=Lib.hid (fun w=>sub32_any (l1.getD k 0) (l2.getD k 0) c hx hy hc w)
   have hb2:=brw_le (l1.getD k 0) (l2.getD k 0) c
   have hr:(l1.getD k 0+4294967296-l2.getD k 0-c)%4294967296<4294967296:=Nat.mod_lt _ (by decide)
   generalize (l1.getD k 0+4294967296-l2.getD k 0-c)%4294967296=r at*
   generalize brw (l1.getD k 0) (l2.getD k 0) c=c2' at*
   generalize l1.getD k 0=x at*
   generalize l2.getD k 0=y at*
   go_wp2_with (with_reducible refine yq _ ?_;(try generalize (G.w _).heap.size=bk);(try dsimp only[yi,yj]);(try clear g);intro g)
   go_region_held3 (fun w'=>w'.cell? ⟨b,o+k,none⟩=some (.int .u32 ((x:Nat):Int))) (exact e0.out _ _ _ _ _ (by simp)) (first|(go_at_call 165;refine(CL.out _ (G.sl _ (by simp) h2)).mono ?_;rintro e w1 ⟨rfl,rfl⟩)|(go_at_call 164;refine(CS.out _).mono ?_;rintro e w1 ⟨rfl,rfl⟩))
   ((try simp only[G.drew_eq,G.drewN_eq]);(refine yq _ ?_;(try generalize (G.w _).heap.size=bk);(try dsimp only[yi,yj]);(try clear g);intro g))
   go_wp2_with (with_reducible refine yq _ ?_;(try generalize (G.w _).heap.size=bk);(try dsimp only[yi,yj]);(try clear g);intro g)
   obtain⟨g2,hg2⟩:=g.as (by rw[u32s_set,hq.out])
   exact⟨⟨k+1,c2',pre++[r],rfl,by go_num,by omega,by rw[List.length_append,HP.out];rfl,hok.append (Ok.cons hr Ok.nil),hb2,st.out,g2,hg2⟩,by simp[intOf];omega⟩
  ·obtain rfl:k=n:=by omega
   have hp:=HP.out
   obtain⟨e1,rfl⟩:=sub_end hok HP.out ha1 ha3 hle HV.out
   obtain⟨g2,hg2⟩:=g.as (M':=[(bk,73,u32s pre)]) (by rw[Nat.sub_self,List.replicate_zero,List.append_nil])
   rw[hg2]
   clear hg2 g
   revert g2
   intro g
   have E1:=Lib.hid e1
   clear e1 HP HN
   subst hp
   have hsl:SlW g.w (some ⟨bk,0,none⟩) pre.length pre:=(sl_blk (Nat.le_refl _) (by omega) hok).at (blkF_sub g.blk0)
   go_wp2_with (with_reducible refine yq _ ?_;(try generalize (G.w _).heap.size=bk);(try dsimp only[yi,yj]);(try clear g);intro g)
   refine(ltrim_any _ _ pre _ hsl).mono ?_
   rintro e w1 ⟨rfl,hb⟩
   obtain⟨g1,rfl⟩:=G.call_ex _ hb
   clear hb hsl g
   revert g1
   intro g
   go_wp2_with (with_reducible refine yq _ ?_;(try generalize (G.w _).heap.size=bk);(try dsimp only[yi,yj]);(try clear g);intro g)
   go_ret
   exact rnat_end g (List.mem_cons_self ..) hok (Nat.le_refl _) (by omega) E1.out
end Go.Proofs.YthhbbnfnejjpiaaGreatDoor
