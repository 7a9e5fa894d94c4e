/- Plain facts and contracts of functions of the program, out of walks. Their conditions stand ahead of each. -/
import Derived.Test.YthhbbnfnejjpiaaGreatDoorNm1
import Derived.Test.YthhbbnfnejjpiaaGreatDoorNm2
import Derived.Test.YthhbbnfnejjpiaaGreatDoorNm11
import Derived.Test.YthhbbnfnejjpiaaGreatDoorNm18
import Derived.Test.YthhbbnfnejjpiaaGreatDoorNm19
import Derived.Below
import Derived.BigQuiet
import Derived.Deep.Draws
import Derived.Deep.LoopGhost
import Derived.Deep.QuietTactic
import Derived.Deep.RegionHeld3
import Derived.Deep.RegionLaw
import Derived.Defers
import Derived.Laws.BytesString
import Derived.Laws.Cells
import Derived.Laws.CopyOwn
import Derived.Laws.CopyRow
import Derived.Laws.NewBlocks
import Derived.Laws.OwnMore
import Derived.Laws.Pointers
import Derived.Laws.Rows
import Derived.Lib.BitFns
import Derived.Lib.Hide
import Derived.Lib.ItoaNum
import Derived.Lib.TrailingZeros
import Derived.LoopIn
import Derived.LoopNIn
import Derived.Maps.AppendAt
import Derived.OrdersHeld
import Derived.OrdersIn
import Derived.OwnWalk
import Derived.OwnWalkIn
import Derived.RangeFuncBound
import Derived.RangeFuncBox
import Derived.RangeFuncCalls
import Derived.RangeFuncLeaves
import Derived.RangeFuncNested
import Derived.RowKit3
import Derived.Shelf.Abstract
import Derived.Shelf.RegionOpen
import Derived.Shelf.Spec.TrailingZeros
import Derived.StillTactics
import Derived.StillTailTactics
import Derived.TacticsInMore
import Derived.Test.YthhbbnfnejjpiaaGreatDoorProg
import Derived.WalkKit
import Derived.WalkLawsBesides
import Derived.WalkMore
import Derived.WalkSpells
set_option linter.unusedVariables false
set_option linter.unusedSimpArgs false
namespace Go.Proofs.YthhbbnfnejjpiaaGreatDoor
open Go.RowKit GW NL
theorem Row.seg {T:TypeId}{n cap:Nat}{l:List Nat}{cs:List Value}(h:Row T 1 n (u32s l) cap cs)(hn:l.length=n):Seg cs 0 l:=by
 have hx:=h.xl
 have hl:=h.len
 have hle:=h.le
 refine⟨by omega,fun j hj=>?_⟩
 have:=u32s_getD (l:=l) (j:=j) hj
 rw[←h.take,List.getElem?_take_of_lt (by omega)] at this
 rw[Nat.zero_add]
 exact this
theorem lclone_own (A:Option Addr)(c:Nat)(l:List Nat)(w:World)(h:SlW w A c l)(hl9:l.length≤100000000)(hl:0<l.length):
  Calls Tryz.prog 161 #[.slice A l.length c] w (fun e w'=>∃b cap cs,e=.returned (.slice (some ⟨b,0,none⟩) l.length cap)∧l.length≤cap∧cap≤9223372036854775807∧Seg cs 0 l∧Below w.heap.size w w'∧w.heap.size≤b∧w'.heap[b]?=some (.cells cs.toArray 73 (0,0))):=by
 refine calls_b fun g=>?_
 obtain⟨b,o,rfl,_⟩:=lim_cells h.lim hl
 have hnews:=fun(M:List Blk) (g:G w [] M [heapOf w])=>lim_news g (List.mem_cons_self ..) h.lim
 have heq:=fun(A:Option Addr) (n c:Nat) (w:World)=>Lib.run_eql_slice_nil (P:=Tryz.prog) w 105 73 A n c 0 0 Tryz.underlying105
 obtain⟨n,hn⟩:∃n,l.length=n:=⟨_,rfl⟩
 rw[hn] at hl hl9 ⊢
 have HN:=Lib.hid hn
 clear hn
 obtain⟨i0,hi,hz0,hz1,hz2⟩:=info_parts infoU32
 go_enter Tryz.func161,Tryz.ntmps161
 go_wp2_with (first|(with_reducible refine yq _ ?_;(try generalize (G.w _).heap.size=bk);(try dsimp only[yi,yj]);(try clear g);intro g)|(at_builtin;refine wpList_append_e rfl _ _ 105 rfl 73 i0 _ 1 4 Tryz.underlying105 hi hz0 hz1 hz2 rfl (by decide) g (by exact g.fresh (List.mem_cons_self ..)) rfl ⟨b,o,none⟩ n c (u32s l) rfl (by rw[u32s_len,HN.out,Nat.mul_one]) (hnews _ g) (u32s_one l) hl (by show n≤9223372036854775807;omega) (by omega) ?_;intro b2 cap cs g hb2 hr))
 go_ret
 exact⟨b2,cap,cs,rfl,hr.le,hr.max,Row.seg hr HN.out,g.below,hb2,g.blk0⟩
theorem limbs_ne {v:Nat}(h:v≠0):(((limbs v).length:Int)==0)=false∧0<(limbs v).length:=by
 have:(limbs v).length≠0:=fun e=>h (limbs_nil.1 (List.eq_nil_of_length_eq_zero e))
 exact⟨by rw[beq_eq_false_iff_ne];omega,by omega⟩
set_option maxRecDepth 20000 in
theorem lgcd_easy (F0:Frag)(A1 A2:Option Addr)(c1 c2 a b:Nat)(w:World)(hF:F0.sub w)(h1:F0.Sl A1 c1 (limbs a))(h2:F0.Sl A2 c2 (limbs b))(h:a=0∨b=1∨b=0∨a=1):
  Calls Tryz.prog 137 #[.slice A1 (limbs a).length c1,.slice A2 (limbs b).length c2] w (RAli F0 (Nat.gcd a b) w):=by
 refine calls_f hF fun g=>?_
 have CU1:=Lib.hid (fun w h=>lunit_any A1 c1 a w h)
 have CU2:=Lib.hid (fun w h=>lunit_any A2 c2 b w h)
 by_cases ha:a=0
 ·subst ha
  rw[Nat.gcd_zero_left,limbs_zero]
  clear CU1 CU2 h
  have H2:=Lib.hid h2
  rw[List.length_nil]
  clear h2
  generalize hlb:(limbs b).length=lb at*
  have HLB:=Lib.hid hlb
  clear hlb
  go_enter Tryz.func137,Tryz.ntmps137
  go_wp2_with (with_reducible refine yq _ ?_;(try generalize (G.w _).heap.size=bk);(try dsimp only[yi,yj]);(try clear g);intro g)
  go_ret
  exact⟨A2,c2,F0,by rw[HLB.out];rfl,H2.out,g.passOr (List.mem_cons_self ..) (F0.over_self w)⟩
 ·obtain⟨la1,la2⟩:=limbs_ne ha
  by_cases hb1:b=1
  ·subst hb1
   rw[Nat.gcd_one_right]
   have hd:decide ((1:Nat)=1)=true:=rfl
   rw[hd] at CU2
   clear CU1 h hd
   have H2:=Lib.hid h2
   clear h2
   generalize hlb:(limbs 1).length=lb at*
   have HLB:=Lib.hid hlb
   clear hlb
   generalize (limbs a).length=la at*
   go_enter Tryz.func137,Tryz.ntmps137
   go_wp2_with (with_reducible refine yq _ ?_;(try generalize (G.w _).heap.size=bk);(try dsimp only[yi,yj]);(try clear g);intro g)
   refine(CU2.out _ (G.sl g (by simp) H2.out)).mono ?_
   rintro e w1 ⟨rfl,rfl⟩
   go_wp2_with (with_reducible refine yq _ ?_;(try generalize (G.w _).heap.size=bk);(try dsimp only[yi,yj]);(try clear g);intro g)
   go_ret
   exact⟨A2,c2,F0,by rw[HLB.out];rfl,H2.out,g.passOr (List.mem_cons_self ..) (F0.over_self w)⟩
  ·rw[decide_eq_false hb1] at CU2
   by_cases hb:b=0
   ·subst hb
    rw[Nat.gcd_zero_right]
    rw[limbs_zero] at CU2 h2 ⊢
    rw[List.length_nil] at CU2 ⊢
    clear CU1 h
    have H2:=Lib.hid h2
    have H1:=Lib.hid h1
    clear h2 h1
    generalize hlb:(limbs a).length=la at*
    have HLB:=Lib.hid hlb
    clear hlb
    go_enter Tryz.func137,Tryz.ntmps137
    go_wp2_with (with_reducible refine yq _ ?_;(try generalize (G.w _).heap.size=bk);(try dsimp only[yi,yj]);(try clear g);intro g)
    refine(CU2.out _ (G.sl g (by simp) H2.out)).mono ?_
    rintro e w1 ⟨rfl,rfl⟩
    go_wp2_with (with_reducible refine yq _ ?_;(try generalize (G.w _).heap.size=bk);(try dsimp only[yi,yj]);(try clear g);intro g)
    go_ret
    exact⟨A1,c1,F0,by rw[HLB.out];rfl,H1.out,g.passOr (List.mem_cons_self ..) (F0.over_self w)⟩
   ·obtain⟨lb1,lb2⟩:=limbs_ne hb
    obtain rfl:a=1:=by omega
    rw[Nat.gcd_one_left]
    have hd:decide ((1:Nat)=1)=true:=rfl
    rw[hd] at CU1
    clear h hd
    have H2:=Lib.hid h2
    have H1:=Lib.hid h1
    clear h2 h1
    generalize hla:(limbs 1).length=la at*
    have HLA:=Lib.hid hla
    clear hla
    generalize (limbs b).length=lb at*
    go_enter Tryz.func137,Tryz.ntmps137
    go_wp2_with (with_reducible refine yq _ ?_;(try generalize (G.w _).heap.size=bk);(try dsimp only[yi,yj]);(try clear g);intro g)
    refine(CU2.out _ (G.sl g (by simp) H2.out)).mono ?_
    rintro e w1 ⟨rfl,rfl⟩
    go_wp2_with (with_reducible refine yq _ ?_;(try generalize (G.w _).heap.size=bk);(try dsimp only[yi,yj]);(try clear g);intro g)
    refine(CU1.out _ (G.sl g (by simp) H1.out)).mono ?_
    rintro e w1 ⟨rfl,rfl⟩
    go_wp2_with (with_reducible refine yq _ ?_;(try generalize (G.w _).heap.size=bk);(try dsimp only[yi,yj]);(try clear g);intro g)
    go_ret
    exact⟨A1,c1,F0,by rw[HLA.out];rfl,H1.out,g.passOr (List.mem_cons_self ..) (F0.over_self w)⟩
set_option maxRecDepth 20000 in
set_option maxHeartbeats 4000000 in
theorem lgcd_main (F0:Frag)(A1 A2:Option Addr)(c1 c2 a b:Nat)(w:World)(hF:F0.sub w)(h1:F0.Sl A1 c1 (limbs a))(h2:F0.Sl A2 c2 (limbs b))(hT:Tab w)(ha:a≠0)(hb:b≠0)(ha1:a≠1)(hb1:b≠1)(hl1:(limbs a).length≤100000000)(hl2:(limbs b).length≤100000000):
    Calls Tryz.prog 137 #[.slice A1 (limbs a).length c1,.slice A2 (limbs b).length c2] w (RAli F0 (Nat.gcd a b) w):=by
  refine calls_f hF fun g=>?_
  have CU1:=Lib.hid (fun w h=>lunit_any A1 c1 a w h)
  have CU2:=Lib.hid (fun w h=>lunit_any A2 c2 b w h)
  rw[decide_eq_false ha1] at CU1
  rw[decide_eq_false hb1] at CU2
  have hTlt:0<w.heap.size:=World.block_lt_of_cell? w _ (hT 0 (by decide))
  obtain⟨la1,la2⟩:=limbs_ne ha
  obtain⟨lb1,lb2⟩:=limbs_ne hb
  have CC1:=Lib.hid (fun w h=>lclone_own A1 c1 (limbs a) w h hl1 la2)
  have CC2:=Lib.hid (fun w h=>lclone_own A2 c2 (limbs b) w h hl2 lb2)
  have HT:=Lib.hid hT
  have HA:=Lib.hid ha
  have HB:=Lib.hid hb
  have HTL:=Lib.hid hTlt
  have oda:=od_spec a ha
  have odb:=od_spec b hb
  have HOA:=Lib.hid oda.2
  have HOB:=Lib.hid odb.2
  clear hT ha hb ha1 hb1 hTlt oda odb
  generalize hla:(limbs a).length=la at*
  generalize hlb:(limbs b).length=lb at*
  have HLA:=Lib.hid hla
  have HLB:=Lib.hid hlb
  clear hla hlb
  go_enter Tryz.func137,Tryz.ntmps137
  go_wp2_with (with_reducible refine yq _ ?_;(try generalize (G.w _).heap.size=bk);(try dsimp only[yi,yj]);(try clear g);intro g)
  refine(CU2.out _ (G.sl g (by simp) h2)).mono ?_
  rintro e w1 ⟨rfl,rfl⟩
  go_wp2_with (with_reducible refine yq _ ?_;(try generalize (G.w _).heap.size=bk);(try dsimp only[yi,yj]);(try clear g);intro g)
  refine(CU1.out _ (G.sl g (by simp) h1)).mono ?_
  rintro e w1 ⟨rfl,rfl⟩
  go_wp2_with (with_reducible refine yq _ ?_;(try generalize (G.w _).heap.size=bk);(try dsimp only[yi,yj]);(try clear g);intro g)
  refine(CC1.out _ (G.sl g (by simp) h1)).mono ?_
  rintro e w1 ⟨bx,capx,csx,rfl,hcx,hcx9,hsx,hbe,hfr,hbl⟩
  obtain⟨g1,rfl⟩:=G.own_ex g hbe hfr hbl
  clear hbe hfr hbl
  (try clear g)
  revert g1
  intro g
  go_wp2_with (with_reducible refine yq _ ?_;(try generalize (G.w _).heap.size=bk);(try dsimp only[yi,yj]);(try clear g);intro g)
  refine(CC2.out _ (G.sl g (by simp) h2)).mono ?_
  rintro e w1 ⟨bY,capy,csy,rfl,hcy,hcy9,hsy,hbe,hfr,hbl⟩
  obtain⟨g1,rfl⟩:=G.own_ex g hbe hfr hbl
  clear hbe hfr hbl
  (try clear g)
  revert g1
  intro g
  have hbx:w.heap.size≤bx:=g.fresh (m:=(bx,73,csx)) (by simp)
  have hbY:w.heap.size≤bY:=g.fresh (m:=(bY,73,csy)) (by simp)
  have CT1:=Lib.hid (fun w h hT=>(by
    have:=ltwos_any (some ⟨bx,0,none⟩) capx (limbs a) w h (by rw[val_limbs];exact HA.out) hT
    rw[val_limbs,HLA.out] at this
    exact this:Calls Tryz.prog 162 #[.slice (some ⟨bx,0,none⟩) la capx] w fun e w'=>e=.returned (.int .i64 (tz a:Nat))∧w=w'))
  have CT2:=Lib.hid (fun w h hT=>(by
    have:=ltwos_any (some ⟨bY,0,none⟩) capy (limbs b) w h (by rw[val_limbs];exact HB.out) hT
    rw[val_limbs,HLB.out] at this
    exact this:Calls Tryz.prog 162 #[.slice (some ⟨bY,0,none⟩) lb capy] w fun e w'=>e=.returned (.int .i64 (tz b:Nat))∧w=w'))
  have hka:=HA.out
  have hsl1:SlW g.w (some ⟨bx,0,none⟩) capx (limbs a):=(hsx.sl (by rw[HLA.out];exact hcx) hcx9 (by rw[HLA.out];omega) (ok_limbs a)).at (blkF_sub g.blk1)
  have hsl2:SlW g.w (some ⟨bY,0,none⟩) capy (limbs b):=(hsy.sl (by rw[HLB.out];exact hcy) hcy9 (by rw[HLB.out];omega) (ok_limbs b)).at (blkF_sub g.blk0)
  have hTg:=G.tab g HT.out
  clear hka
  generalize hta:tz a=ta at*
  generalize htb:tz b=tb at*
  have HTA:=Lib.hid hta
  have HTB:=Lib.hid htb
  clear hta htb
  go_wp2_with (with_reducible refine yq _ ?_;(try generalize (G.w _).heap.size=bk);(try dsimp only[yi,yj]);(try clear g);intro g)
  refine(CT1.out _ hsl1 hTg).mono ?_
  rintro e w1 ⟨rfl,rfl⟩
  go_wp2_with (with_reducible refine yq _ ?_;(try generalize (G.w _).heap.size=bk);(try dsimp only[yi,yj]);(try clear g);intro g)
  refine(CT2.out _ hsl2 hTg).mono ?_
  rintro e w1 ⟨rfl,rfl⟩
  clear hsl1 hsl2
  have HSX:=Lib.hid hsx
  have HSY:=Lib.hid hsy
  clear hsx hsy
  obtain⟨K,hK⟩:∃K,min ta tb=K:=⟨_,rfl⟩
  have hmin:min (ta:Int) (tb:Int)=(K:Int):=by omega
  have HK:=Lib.hid hK
  have CO1:=Lib.hid (fun w hb hT=>(by
    have:=lodd_any bx 0 la capx csx (limbs a) w hb HSX.out HLA.out hcx hcx9 (by omega) (ok_limbs a) (by rw[val_limbs];exact HA.out) hT (by have:=HTL.out;omega)
    rw[val_limbs] at this
    exact this:Calls Tryz.prog 163 #[.slice (some ⟨bx,0,none⟩) la capx] w (ROdd bx 0 capx la a csx.length w)))
  have CO2:=Lib.hid (fun w hb hT=>(by
    have:=lodd_any bY 0 lb capy csy (limbs b) w hb HSY.out HLB.out hcy hcy9 (by omega) (ok_limbs b) (by rw[val_limbs];exact HB.out) hT (by have:=HTL.out;omega)
    rw[val_limbs] at this
    exact this:Calls Tryz.prog 163 #[.slice (some ⟨bY,0,none⟩) lb capy] w (ROdd bY 0 capy lb b csy.length w)))
  clear hK
  go_wp2_with (with_reducible refine yq _ ?_;(try generalize (G.w _).heap.size=bk);(try dsimp only[yi,yj]);(try clear g);intro g)
  refine(CO1.out _ g.blk1 hTg).mono ?_
  rintro e w1 ⟨qx,csx',rfl,hqx,hqx2,hch,hhb,hsx,hcl⟩
  obtain⟨g1,rfl⟩:=G.mut1 g hch hhb
  clear hch hhb CO1 hTg hcl
  (try clear g)
  revert g1
  intro g
  have hTg:=G.tab g HT.out
  rw[Nat.zero_add] at hsx
  rw[Nat.zero_add]
  go_wp2_with (with_reducible refine yq _ ?_;(try generalize (G.w _).heap.size=bk);(try dsimp only[yi,yj]);(try clear g);intro g)
  refine(CO2.out _ g.blk0 hTg).mono ?_
  rintro e w1 ⟨qy,csy',rfl,hqy,hqy2,hch,hhb,hsy,hcl⟩
  obtain⟨g1,rfl⟩:=G.mut0 g hch hhb
  clear hch hhb CO2 hTg hcl HSX HSY CT1 CT2
  (try clear g)
  revert g1
  intro g
  rw[Nat.zero_add] at hsy
  rw[Nat.zero_add]
  have hpx:(limbs (od a)).length≤capx-qx:=by omega
  have hpy:(limbs (od b)).length≤capy-qy:=by omega
  have hpx9:capx-qx≤9223372036854775807:=by omega
  have hpy9:capy-qy≤9223372036854775807:=by omega
  have hlx:(limbs (od a)).length≤100000000:=by omega
  have hly:(limbs (od b)).length≤100000000:=by omega
  have CC:=Lib.hid (fun w h1 h2=>lcmp_any (some ⟨bx,qx,none⟩) (some ⟨bY,qy,none⟩) (capx-qx) (capy-qy) (od a) (od b) w h1 h2 (by omega) (by omega))
  have hslx:SlW g.w (some ⟨bx,qx,none⟩) (capx-qx) (limbs (od a)):=(hsx.sl hpx hpx9 (by omega) (ok_limbs _)).at (blkF_sub g.blk1)
  have hsly:SlW g.w (some ⟨bY,qy,none⟩) (capy-qy) (limbs (od b)):=(hsy.sl hpy hpy9 (by omega) (ok_limbs _)).at (blkF_sub g.blk0)
  have HSX:=Lib.hid hsx
  have HSY:=Lib.hid hsy
  clear hsx hsy hqx hqx2 hqy hqy2 hcx hcx9 hcy hcy9
  obtain⟨ox,rfl⟩:∃ox,ox=qx:=⟨_,rfl⟩
  obtain⟨oy,rfl⟩:∃oy,oy=qy:=⟨_,rfl⟩
  obtain⟨px,hpxe⟩:∃px,capx-ox=px:=⟨_,rfl⟩
  obtain⟨py,hpye⟩:∃py,capy-oy=py:=⟨_,rfl⟩
  rw[hpxe] at CC hslx hpx hpx9 ⊢
  rw[hpye] at CC hsly hpy hpy9 ⊢
  clear hpxe hpye
  obtain⟨X0,hX0⟩:∃X0,od a=X0:=⟨_,rfl⟩
  obtain⟨Y0,hY0⟩:∃Y0,od b=Y0:=⟨_,rfl⟩
  rw[hX0] at CC hslx hpx hlx HSX HOA ⊢
  rw[hY0] at CC hsly hpy hly HSY HOB ⊢
  have HX0:=Lib.hid hX0
  have HY0:=Lib.hid hY0
  clear hX0 hY0
  go_wp2_with (with_reducible refine yq _ ?_;(try generalize (G.w _).heap.size=bk);(try dsimp only[yi,yj]);(try clear g);intro g)
  refine(CC.out _ hslx hsly).mono ?_
  rintro e w1 ⟨rfl,hb⟩
  obtain⟨g1,rfl⟩:=G.call_ex _ hb
  clear hb hslx hsly CC
  (try clear g)
  revert g1
  intro g
  obtain⟨g2,hg2⟩:=g.perm (List.Perm.swap _ _ _)
  rw[hg2]
  clear hg2 g
  revert g2
  intro g
  go_wp2_with (with_reducible refine yq _ ?_;(try generalize (G.w _).heap.size=bk);(try dsimp only[yi,yj]);(try clear g);intro g)
  go_loopg [5,6,8] (X0+Y0) (fun gk s5 s6 s8 wr=>∃(X Y bx ox px bY oy py:Nat) (csx csy:List Value),s5=.slice (some ⟨bx,ox,none⟩) (limbs X).length px∧s6=.slice (some ⟨bY,oy,none⟩) (limbs Y).length py∧s8=.int .i64 (lcv X Y)∧X+Y≤gk∧Hid (X%2=1∧Y%2=1∧Nat.gcd X Y=Nat.gcd X0 Y0)∧(limbs X).length≤px∧px≤9223372036854775807∧(limbs X).length≤100000000∧(limbs Y).length≤py∧py≤9223372036854775807∧(limbs Y).length≤100000000∧Hid (Seg csx ox (limbs X))∧Hid (Seg csy oy (limbs Y))∧w.heap.size≤bx∧w.heap.size≤bY∧∃g:G w [] [(bx,73,csx),(bY,73,csy)] [F0],wr=g.w)
  case atStart=>exact⟨X0,Y0,bx,ox,px,bY,oy,py,_,_,rfl,rfl,rfl,Nat.le_refl _,Lib.hid ⟨HOA.out,HOB.out,rfl⟩,hpx,hpx9,hlx,hpy,hpy9,hly,HSX,HSY,hbx,hbY,g,rfl⟩
  case round=>
    clear g hbx hbY HSX HSY hpx hpx9 hlx hpy hpy9 hly HOA HOB
    obtain⟨ko,rfl⟩:∃ko,ko=gk:=⟨_,rfl⟩
    obtain⟨X,Y,ux,ox,px,uy,oy,py,csx,csy,rfl,rfl,rfl,hgk,HI,hpx,hpx9,hlx,hpy,hpy9,hly,HSX,HSY,hux,huy,g,rfl⟩:=hrel
    have hrng:=lcv_rng (a:=X) (b:=Y) (by omega) (by omega)
    by_cases heq:X=Y
    · subst heq
      have hXg:X=Nat.gcd X0 Y0:=by
        have:=HI.out.2.2
        rwa[Nat.gcd_self] at this
      have hX0:X≠0:=by have:=HI.out.1;omega
      have hlc:lcv X X=0:=lcv_eq.2 rfl
      rw[hlc]
      have hres:X*2^K=Nat.gcd a b:=by
        rw[gcd_parts HA.out HB.out,HTA.out,HTB.out,HX0.out,HY0.out,HK.out,←hXg]
      obtain⟨q,hq⟩:∃q,K/32=q:=⟨_,rfl⟩
      obtain⟨r,hr⟩:∃r,K%32=r:=⟨_,rfl⟩
      have hr32:r<32:=by omega
      have hta9:ta≤3200000000:=by
        have:=tz_len (ok_limbs a) (by rw[val_limbs];exact HA.out)
        rw[val_limbs,HTA.out,HLA.out] at this
        omega
      have hK9:K≤3200000000:=by have:=HK.out;omega
      have hq9:q≤100000000:=by omega
      have hqi:Int.tdiv (K:Int) 32=(q:Int):=by rw[Int.tdiv_eq_ediv_of_nonneg (by omega)];omega
      have hri:Int.tmod (K:Int) 32=(r:Int):=by rw[Int.tmod_eq_emod_of_nonneg (by omega)];omega
      have hqi2:(K:Int)/32=(q:Int):=by omega
      have hri2:(K:Int)%32=(r:Int):=by omega
      have hmk:=fun w=>make_lim q (by omega) w
      have hXr0:X*2^r≠0:=Nat.mul_ne_zero hX0 (Nat.ne_of_gt (Nat.two_pow_pos r))
      have hfin:=limbs_shift hXr0 q
      rw[show X*2^r*4294967296^q=Nat.gcd a b by rw[←hres,←hq,←hr];exact shift_parts X K] at hfin
      have CU:=Lib.hid (fun w h=>(by
        have:=lup_any (some ⟨ux,ox,none⟩) px (limbs X) r w h (by omega) hr32
        rw[val_limbs] at this
        exact this:Calls Tryz.prog 166 #[.slice (some ⟨ux,ox,none⟩) (limbs X).length px,.int .i64 (r:Int)] w (RNat (X*2^r) w)))
      have HSg:Hid (∀(M:List Blk) (g:G w [] M [F0]),(ux,73,csx)∈M→SlW g.w (some ⟨ux,ox,none⟩) px (limbs X)):=Lib.hid (fun M g hm=>(HSX.out.sl hpx hpx9 (by omega) (ok_limbs X)).at (blkF_sub (g.own _ hm)))
      have HFIN:=Lib.hid hfin
      have HXR:=Lib.hid hXr0
      have hq2:IntKind.i64.wrap (q:Int)=(q:Int):=by rw[IntKind.wrap_i64];omega
      have hr2:IntKind.i64.wrap (r:Int)=(r:Int):=by rw[IntKind.wrap_i64];omega
      obtain⟨i0,hi,hz0,hz1,hz2⟩:=info_parts infoU32
      have HZ:=Lib.hid (row_zeros 73 q (by omega))
      have hXL:0<(limbs (X*2^r)).length:=(limbs_ne hXr0).2
      have HXL:=Lib.hid hXL
      have hlx9:(limbs (X*2^r)).length≤100000001:=by
        refine Nat.le_trans ((limbs_len _ ((limbs X).length+1)).2 ?_) (by omega)
        have h1:=val_lt (ok_limbs X)
        rw[val_limbs] at h1
        rw[Nat.pow_succ]
        have h2:2^r≤4294967296:=by
          have:=Nat.pow_le_pow_right (n:=2) (by decide) (show r≤32 by omega)
          simpa using this
        exact Nat.lt_of_le_of_lt (Nat.mul_le_mul_left X h2) (Nat.mul_lt_mul_of_pos_right h1 (by decide))
      have HS9:Hid (q+(limbs (X*2^r)).length≤maxLen∧(q+(limbs (X*2^r)).length)*4≤140737488355328):=Lib.hid ⟨by show _≤9223372036854775807;omega,by omega⟩
      have HUP:Hid (0<(u32s (limbs (X*2^r))).length):=Lib.hid (by rw[u32s_len];exact hXL)
      clear hlc hres hq hr hta9 hfin hXr0 hXg HI hXL hlx9
      generalize hlx2:(limbs X).length=lx at*
      have HLX:=Lib.hid hlx2
      clear hlx2
      go_wp2_with (with_reducible refine yq _ ?_;(try generalize (G.w _).heap.size=bk);(try dsimp only[yi,yj]);(try clear g);intro g)
      go_region_law (first|((refine step_append_row rfl _ _ 105 rfl 73 i0 _ 1 4 Tryz.underlying105 hi hz0 hz1 hz2 rfl (by decide) _ HZ.out rfl (limbs (X*2^r)).length cu (u32s (limbs (X*2^r))) Au rfl (by rw[u32s_len,Nat.mul_one]) (lim_src _ (by simp) hsu.lim HUP.out) (u32s_one _) HXL.out HS9.out.1 HS9.out.2 ?_);intro b2 cap2 cs2 g hb2 hr2)|(go_simp;go_at_call 166;refine(CU.out _ ?_).mono ?_;(· exact HSg.out _ _ (by simp));rintro e w1 ⟨Au,cu,Fu,rfl,hsu,hnw⟩;obtain⟨g1,rfl⟩:=G.new_ex _ hnw;clear hnw;(try clear g);revert g1;intro g))
      all_goals go_wp2_with (with_reducible refine yq _ ?_;(try generalize (G.w _).heap.size=bk);(try dsimp only[yi,yj]);(try clear g);intro g)
      all_goals (try rw[Exit.noGoto_ret])
      all_goals go_ret
      all_goals rw[←u32s_append,HFIN.out] at hr2
      all_goals
        have hL:(limbs (Nat.gcd a b)).length=q+(limbs (X*2^r)).length:=by rw[←HFIN.out,List.length_append,List.length_replicate]
        have h9:=HS9.out.2
        exact⟨_,cap2,_,ret_slice hL.symm,sl_row hr2 hL (by omega) (ok_limbs _),g.giveOr (List.mem_cons_self ..)⟩
    · have h2 : X < Y ∨ Y < X := by omega
      have hcne:(lcv X Y==0)=false:=by rw[beq_eq_false_iff_ne];exact fun h=>heq (lcv_eq.1 h)
      have hcne3:(lcv X Y !=0)=true:=by rw[bne,hcne];rfl
      have hcne2:¬ lcv X Y=0:=fun h=>heq (lcv_eq.1 h)
      rcases h2 with hlt|hlt
      all_goals
        first
        | (have hsg : lcv X Y < 0 := lcv_lt.2 hlt
           generalize lcv X Y=cv at*
           obtain⟨g2,hg2⟩:=g.perm (List.Perm.swap _ _ _)
           rw[hg2]
           clear hg2 g
           revert g2
           intro g
           obtain⟨Z,rfl⟩:∃Z,Z=Y:=⟨_,rfl⟩
           obtain⟨S,rfl⟩:∃S,S=X:=⟨_,rfl⟩
           obtain⟨bz,rfl⟩:∃bz,bz=uy:=⟨_,rfl⟩
           obtain⟨bs,rfl⟩:∃bs,bs=ux:=⟨_,rfl⟩
           obtain⟨oz,rfl⟩:∃oz,oz=oy:=⟨_,rfl⟩
           obtain⟨os,rfl⟩:∃os,os=ox:=⟨_,rfl⟩
           obtain⟨pz,rfl⟩:∃pz,pz=py:=⟨_,rfl⟩
           obtain⟨ps,rfl⟩:∃ps,ps=px:=⟨_,rfl⟩
           obtain⟨csz,rfl⟩:∃csz,csz=csy:=⟨_,rfl⟩
           obtain⟨css,rfl⟩:∃css,css=csx:=⟨_,rfl⟩
           have HI2:Hid (Z%2=1∧S%2=1∧Nat.gcd Z S=Nat.gcd X0 Y0):=Lib.hid ⟨HI.out.2.1,HI.out.1,by rw[Nat.gcd_comm];exact HI.out.2.2⟩
           have HSZ:=HSY
           have HSS:=HSX
           have hpz:=hpy
           have hpz9:=hpy9
           have hlz:=hly
           have hps:=hpx
           have hps9:=hpx9
           have hls:=hlx
           have huz:=huy
           have hus:=hux
           clear HI HSX HSY hpx hpx9 hlx hpy hpy9 hly hux huy)
        | (have hsg : ¬ lcv X Y < 0 := fun h => by have := lcv_lt.1 h; omega
           generalize lcv X Y=cv at*
           obtain⟨Z,rfl⟩:∃Z,Z=X:=⟨_,rfl⟩
           obtain⟨S,rfl⟩:∃S,S=Y:=⟨_,rfl⟩
           obtain⟨bz,rfl⟩:∃bz,bz=ux:=⟨_,rfl⟩
           obtain⟨bs,rfl⟩:∃bs,bs=uy:=⟨_,rfl⟩
           obtain⟨oz,rfl⟩:∃oz,oz=ox:=⟨_,rfl⟩
           obtain⟨os,rfl⟩:∃os,os=oy:=⟨_,rfl⟩
           obtain⟨pz,rfl⟩:∃pz,pz=px:=⟨_,rfl⟩
           obtain⟨ps,rfl⟩:∃ps,ps=py:=⟨_,rfl⟩
           obtain⟨csz,rfl⟩:∃csz,csz=csx:=⟨_,rfl⟩
           obtain⟨css,rfl⟩:∃css,css=csy:=⟨_,rfl⟩
           have HI2:=HI
           have HSZ:=HSX
           have HSS:=HSY
           have hpz:=hpx
           have hpz9:=hpx9
           have hlz:=hlx
           have hps:=hpy
           have hps9:=hpy9
           have hls:=hly
           have huz:=hux
           have hus:=huy
           clear HI HSX HSY hpx hpx9 hlx hpy hpy9 hly hux huy)
      all_goals
        clear heq
        generalize hnz:(limbs Z).length=nz at*
        generalize hns:(limbs S).length=ns at*
        have HNZ:=Lib.hid hnz
        have HNS:=Lib.hid hns
        clear hnz hns
        go_wp2_with (with_reducible refine yq _ ?_;(try generalize (G.w _).heap.size=bk);(try dsimp only[yi,yj]);(try clear g);intro g)
        go_loopg [9,56] nz (fun gk2 s9 s56 wr=>∃(k c:Nat) (pre:List Nat) (csz':List Value),k+gk2=nz∧s9=.int .u32 (c:Int)∧s56=.int .i64 k∧c≤1∧Hid (pre.length=k)∧Ok pre∧Hid (val pre+val ((limbs S).take k)=val ((limbs Z).take k)+4294967296^k*c)∧Hid (Seg csz' oz (pre++(limbs Z).drop k))∧∃g:G w [] [(bz,73,csz'),(bs,73,css)] [F0],wr=g.w)
        case atStart=>exact⟨0,0,[],csz,by omega,rfl,rfl,by omega,Lib.hid rfl,Ok.nil,Lib.hid (by simp[val]),Lib.hid (by rw[List.drop_zero,List.nil_append];exact HSZ.out),g,rfl⟩
        case round=>
          clear g HSZ
          obtain⟨k,c,pre,csz',hkg,rfl,rfl,hc1,HP,hpo,HV,HS,g,rfl⟩:=hrel
          have hLl:(pre++(limbs Z).drop k).length=nz:=by rw[List.length_append,List.length_drop,HP.out,HNZ.out];omega
          have HLn:=Lib.hid hLl
          have hLo:Ok (pre++(limbs Z).drop k):=hpo.append ((ok_limbs Z).drop k)
          by_cases hk2:k<nz
          · have e1:=HS.out.get k (by omega)
            rw[pre_get HP.out (Nat.le_refl _)] at e1
            have hx:=(ok_limbs Z).getD k
            have hy:=(ok_limbs S).getD k
            have st:=Lib.hid (sub_step (ok_limbs Z) (ok_limbs S) hc1 HP.out HV.out)
            have CL:Hid (∀w,SlW w (some ⟨bs,os,none⟩) ps (limbs S)→Calls Tryz.prog 165 #[.slice (some ⟨bs,os,none⟩) ns ps,.int .i64 (k:Int)] w fun e w'=>e=.returned (.int .u32 (((limbs S).getD k 0:Nat):Int))∧w=w'):=Lib.hid (fun w hw=>by
              have:=lat_any (some ⟨bs,os,none⟩) ps (limbs S) k w hw (by omega)
              rw[HNS.out] at this
              exact this)
            have HSg:Hid (∀g:G w [] [(bz,73,csz'),(bs,73,css)] [F0],SlW g.w (some ⟨bs,os,none⟩) ps (limbs S)):=Lib.hid (fun g=>(HSS.out.sl (by rw[HNS.out];exact hps) hps9 (by rw[HNS.out];omega) (ok_limbs S)).at (blkF_sub g.blk1))
            have CS:=Lib.hid (fun w=>sub32_any ((limbs Z).getD k 0) ((limbs S).getD k 0) c hx hy hc1 w)
            have HS2:∀z,Hid (Seg (csz'.set (oz+k) (.int .u32 ((z:Nat):Int))) oz ((pre++[z])++(limbs Z).drop (k+1))):=fun z=>Lib.hid (by
              rw[←pre_set HP.out (by rw[HNZ.out];exact hk2)]
              exact HS.out.set (by rw[HLn.out];exact hk2) z)
            have HS3:=HS2 (((limbs Z).getD k 0+4294967296-(limbs S).getD k 0-c)%4294967296)
            have hb2:=brw_le ((limbs Z).getD k 0) ((limbs S).getD k 0) c
            have hr:((limbs Z).getD k 0+4294967296-(limbs S).getD k 0-c)%4294967296<4294967296:=Nat.mod_lt _ (by decide)
            have hkn:(k:Int)<(nz:Int):=by omega
            clear HS2 hLl hLo
            generalize ((limbs Z).getD k 0+4294967296-(limbs S).getD k 0-c)%4294967296=r at*
            generalize brw ((limbs Z).getD k 0) ((limbs S).getD k 0) c=c2' at*
            generalize (limbs Z).getD k 0=x at*
            generalize (limbs S).getD k 0=y at*
            go_wp2_with (with_reducible refine yq _ ?_;(try generalize (G.w _).heap.size=bk);(try dsimp only[yi,yj]);(try clear g);intro g)
            go_region_with (first|(go_at_call 165;refine(CL.out _ (HSg.out _)).mono ?_;rintro e w1 ⟨rfl,rfl⟩)|(go_at_call 164;refine(CS.out _).mono ?_;rintro e w1 ⟨rfl,rfl⟩))
            all_goals ((try simp only[G.drew_eq,G.drewN_eq]);(refine yq _ ?_;(try clear g);intro g))
            all_goals go_wp2_with (with_reducible refine yq _ ?_;(try generalize (G.w _).heap.size=bk);(try dsimp only[yi,yj]);(try clear g);intro g)
            all_goals go_roundg (gk-1)
            all_goals first|omega|exact⟨k+1,c2',pre++[r],_,by omega,rfl,by go_num,hb2,Lib.hid (by rw[List.length_append,HP.out];rfl),hpo.append (Ok.cons hr Ok.nil),st,HS3,g,rfl⟩
          · obtain rfl:k=nz:=by omega
            have hSZ:S<Z:=hlt
            have hse:=sub_end (l1:=limbs Z) (l2:=limbs S) hpo HP.out (by rw[HNZ.out];exact Nat.le_refl _) (by rw[HNS.out,←HNZ.out,←HNS.out];exact limbs_len_mono (by omega)) (by rw[val_limbs,val_limbs];omega) HV.out
            obtain⟨hpv,rfl⟩:=hse
            rw[val_limbs,val_limbs] at hpv
            have hnil:(limbs Z).drop k=[]:=List.drop_of_length_le (by rw[HNZ.out];exact Nat.le_refl _)
            have hsg2:=HS.out
            rw[hnil,List.append_nil] at hsg2
            have hTg:=G.tab g HT.out
            have CO:=Lib.hid (fun w hb hT=>(by
              have:=lodd_any bz oz k pz csz' pre w hb hsg2 HP.out hpz hpz9 (by omega) hpo (by rw[hpv];omega) hT (by have:=HTL.out;omega)
              rw[hpv] at this
              exact this:Calls Tryz.prog 163 #[.slice (some ⟨bz,oz,none⟩) k pz] w (ROdd bz oz pz k (Z-S) csz'.length w)))
            have hd0:Z-S≠0:=by omega
            have hod:=od_spec (Z-S) hd0
            have hole:=od_le (Z-S)
            have HI3:Hid (od (Z-S)%2=1∧S%2=1∧Nat.gcd (od (Z-S)) S=Nat.gcd X0 Y0):=Lib.hid ⟨hod.2,HI2.out.2.1,by rw[gcd_sub_odd hSZ HI2.out.2.1];exact HI2.out.2.2⟩
            have hS1:0<S:=by have:=HI2.out.2.1;omega
            clear hsg2 hnil hpv HV HS hLl hLo hod
            obtain⟨X',hX'⟩:∃X',od (Z-S)=X':=⟨_,rfl⟩
            unfold ROdd at CO
            rw[hX'] at CO HI3 hole
            clear hX'
            go_wp2_with (with_reducible refine yq _ ?_;(try generalize (G.w _).heap.size=bk);(try dsimp only[yi,yj]);(try clear g);intro g)
            refine(CO.out _ g.blk0 hTg).mono ?_
            rintro e w1 ⟨q,cs2,rfl,hq1,hq2,hch,hhb,hsx,hcl⟩
            obtain⟨g1,rfl⟩:=G.mut0 g hch hhb
            clear hch hhb CO hTg hcl
            (try clear g)
            revert g1
            intro g
            have hX9:(limbs X').length≤100000000:=by omega
            have hXp:(limbs X').length≤pz-q:=by omega
            have hXp9:pz-q≤9223372036854775807:=by omega
            have CC2:=Lib.hid (fun w h1 h2=>(by
              have:=lcmp_any (some ⟨bz,oz+q,none⟩) (some ⟨bs,os,none⟩) (pz-q) ps X' S w h1 h2 (by omega) (by rw[HNS.out];omega)
              rw[HNS.out] at this
              exact this:Calls Tryz.prog 157 #[.slice (some ⟨bz,oz+q,none⟩) (limbs X').length (pz-q),.slice (some ⟨bs,os,none⟩) ns ps] w fun e w'=>e=.returned (.int .i64 (lcv X' S))∧Below w.heap.size w w'))
            have hsl1:SlW g.w (some ⟨bz,oz+q,none⟩) (pz-q) (limbs X'):=(hsx.sl hXp hXp9 (by omega) (ok_limbs X')).at (blkF_sub g.blk0)
            have hsl2:SlW g.w (some ⟨bs,os,none⟩) ps (limbs S):=(HSS.out.sl (by rw[HNS.out];exact hps) hps9 (by rw[HNS.out];omega) (ok_limbs S)).at (blkF_sub g.blk1)
            have HSX':=Lib.hid hsx
            clear hsx
            go_wp2_with (with_reducible refine yq _ ?_;(try generalize (G.w _).heap.size=bk);(try dsimp only[yi,yj]);(try clear g);intro g)
            refine(CC2.out _ hsl1 hsl2).mono ?_
            rintro e w1 ⟨rfl,hb⟩
            obtain⟨g1,rfl⟩:=G.call_ex _ hb
            clear hb hsl1 hsl2
            (try clear g)
            revert g1
            intro g
            go_wp2_with (with_reducible refine yq _ ?_;(try generalize (G.w _).heap.size=bk);(try dsimp only[yi,yj]);(try clear g);intro g)
            go_roundg (ko-1)
            case measure=>omega
            case rel=>exact⟨X',S,bz,oz+q,pz-q,bs,os,ps,cs2,css,rfl,by rw[HNS.out],rfl,by omega,HI3,hXp,hXp9,hX9,by rw[HNS.out];exact hps,hps9,by rw[HNS.out];exact hls,HSX',HSS,huz,hus,g,rfl⟩
/-- the greatest common divisor; its limbs may be those of an argument -/
theorem lgcd_any (F0:Frag)(A1 A2:Option Addr)(c1 c2 a b:Nat)(w:World)(hF:F0.sub w)(h1:F0.Sl A1 c1 (limbs a))(h2:F0.Sl A2 c2 (limbs b))(hT:Tab w)(hl1:(limbs a).length≤100000000)(hl2:(limbs b).length≤100000000):
    Calls Tryz.prog 137 #[.slice A1 (limbs a).length c1,.slice A2 (limbs b).length c2] w (RAli F0 (Nat.gcd a b) w):=by
  by_cases h:a=0∨b=1∨b=0∨a=1
  · exact lgcd_easy F0 A1 A2 c1 c2 a b w hF h1 h2 h
  · exact lgcd_main F0 A1 A2 c1 c2 a b w hF h1 h2 hT (by omega) (by omega) (by omega) (by omega) hl1 hl2
theorem G.new3_ex {w0:World}{M:List Blk}{I:List Frag}{F0:Frag}(g:G w0 [] M I){w1:World}{F H:Frag}(h:NewOr (g.fr F0) g.w w1 F)(k:NewOr (g.fr F0) g.w w1 H):∃g':G w0 [] M (F::H::I),w1=g'.w∧F.over F0 w0∧H.over F0 w0:=by
 obtain⟨g1,e1,ho⟩:=g.newor_ex k
 obtain⟨g2,e2,ho2⟩:=g.newor_ex h
 exact⟨g1.see F (by rw[←e1];exact h.sub) fun k' o hk=>g2.keep F (List.mem_cons_self ..) k' o hk,e1,ho2,ho⟩
/-- What is returned is a fraction; its limbs lie in new memory or in F0. -/
def RFr (F0:Frag)(s:Bool)(n d:Nat)(w:World)(e:Ending)(w':World):Prop:=∃A c F B k H,e=.returned (.agg #[.bool s,.slice A (limbs n).length c,.slice B (limbs d).length k])∧F.Sl A c (limbs n)∧H.Sl B k (limbs d)∧NewOr F0 w w' F∧NewOr F0 w w' H
theorem lsame_any (A1 A2:Option Addr)(c1 c2 n m:Nat)(w:World):
  Calls Tryz.prog 144 #[.slice A1 n c1,.slice A2 m c2] w fun e w'=>e=.returned (.slice A1 n c1)∧w=w':=by
 go_enter Tryz.func144,Tryz.ntmps144
 go_wp2_with fail
 go_ret
 exact⟨rfl,rfl⟩
theorem low1_any (A1 A2:Option Addr)(c1 c2 a b:Nat)(w:World)(h1:SlW w A1 c1 (limbs a))(h2:SlW w A2 c2 (limbs b))(hl1:(limbs a).length≤100000000)(hl2:(limbs b).length≤100000000)(hb:b≠0):
  Calls Tryz.prog 145 #[.slice A1 (limbs a).length c1,.slice A2 (limbs b).length c2] w (RNat (a/b) w):=by
 refine calls_b fun g=>?_
 have C1:=Lib.hid (fun w h1 h2=>lover_any A1 A2 c1 c2 a b w h1 h2 hl1 hl2 hb)
 clear hb
 generalize (limbs a).length=la at*
 generalize (limbs b).length=lb at*
 go_enter Tryz.func145,Tryz.ntmps145
 go_wp2_with (with_reducible refine yq _ ?_;(try generalize (G.w _).heap.size=bk);(try dsimp only[yi,yj]);(try clear g);intro g)
 refine(C1.out _ (G.sl g (by simp) h1) (G.sl g (by simp) h2)).mono ?_
 rintro e w1 ⟨A,c,F,B,d,H,rfl,hs,ht,hn,hm⟩
 have hnn:=fun k o hk=>Nat.le_trans g.chg.size (hn.new k o hk)
 have hmm:=fun k o hk=>Nat.le_trans g.chg.size (hm.new k o hk)
 obtain⟨g1,rfl⟩:=G.new2_ex _ hn hm
 clear hn hm
 (try clear g)
 revert g1
 intro g
 go_wp2_with (with_reducible refine yq _ ?_;(try generalize (G.w _).heap.size=bk);(try dsimp only[yi,yj]);(try clear g);intro g)
 go_ret
 exact⟨_,_,_,rfl,hs,g.pass (by simp) hnn⟩
theorem divided_any (A1 A2 A3:Option Addr)(c1 c2 c3 a b g0:Nat)(w:World)(h1:SlW w A1 c1 (limbs a))(h2:SlW w A2 c2 (limbs b))(h3:SlW w A3 c3 (limbs g0))(hl1:(limbs a).length≤100000000)(hl2:(limbs b).length≤100000000)(hl3:(limbs g0).length≤100000000)(hg:g0≠0):
  Calls Tryz.prog 143 #[.slice A1 (limbs a).length c1,.slice A2 (limbs b).length c2,.func (.func 144) #[.slice A3 (limbs g0).length c3] #[],.func (.func 145) #[] #[]] w (RNN (a/g0) (b/g0) w):=by
 refine calls_b fun g=>?_
 have C1:=Lib.hid (fun w h1 h3=>low1_any A1 A3 c1 c3 a g0 w h1 h3 hl1 hl3 hg)
 have C2:=Lib.hid (fun w h2 h3=>low1_any A2 A3 c2 c3 b g0 w h2 h3 hl2 hl3 hg)
 generalize (limbs a).length=la at*
 generalize (limbs b).length=lb at*
 generalize (limbs g0).length=lg at*
 go_enter Tryz.func143,Tryz.ntmps143
 go_wp2_with (with_reducible refine yq _ ?_;(try generalize (G.w _).heap.size=bk);(try dsimp only[yi,yj]);(try clear g);intro g)
 refine(lsame_any _ _ _ _ _ _ _).mono ?_
 rintro e w1 ⟨rfl,rfl⟩
 go_wp2_with (with_reducible refine yq _ ?_;(try generalize (G.w _).heap.size=bk);(try dsimp only[yi,yj]);(try clear g);intro g)
 refine(C1.out _ (G.sl g (by simp) h1) (G.sl g (by simp) h3)).mono ?_
 rintro e w1 ⟨Aa,ca,Fa,rfl,hsa,hn⟩
 have hnna:=fun k o hk=>Nat.le_trans g.chg.size (hn.new k o hk)
 obtain⟨g1,rfl⟩:=G.new_ex _ hn
 clear hn
 (try clear g)
 revert g1
 intro g
 go_wp2_with (with_reducible refine yq _ ?_;(try generalize (G.w _).heap.size=bk);(try dsimp only[yi,yj]);(try clear g);intro g)
 refine(C2.out _ (G.sl g (by simp) h2) (G.sl g (by simp) h3)).mono ?_
 rintro e w1 ⟨Ab,cb,Fb,rfl,hsb,hn⟩
 have hnnb:=fun k o hk=>Nat.le_trans g.chg.size (hn.new k o hk)
 obtain⟨g1,rfl⟩:=G.new_ex _ hn
 clear hn
 (try clear g)
 revert g1
 intro g
 go_wp2_with (with_reducible refine yq _ ?_;(try generalize (G.w _).heap.size=bk);(try dsimp only[yi,yj]);(try clear g);intro g)
 go_ret2
 exact⟨_,_,_,_,_,_,rfl,hsa,hsb,g.pass (by simp) hnna,g.pass (by simp) hnnb⟩
set_option maxHeartbeats 4000000 in
/-- lowest terms -/
theorem low_any (F0:Frag)(s:Bool)(A1 A2:Option Addr)(c1 c2 n d:Nat)(w:World)(hF:F0.sub w)(h1:F0.Sl A1 c1 (limbs n))(h2:F0.Sl A2 c2 (limbs d))(hT:Tab w)(hl1:(limbs n).length≤100000000)(hl2:(limbs d).length≤100000000)(hd:d≠0):
  Calls Tryz.prog 116 #[.agg #[.bool s,.slice A1 (limbs n).length c1,.slice A2 (limbs d).length c2]] w (RFr F0 (s&&decide (n≠0)) (n/Nat.gcd n d) (d/Nat.gcd n d) w):=by
 refine calls_f hF fun g=>?_
 have hg0:Nat.gcd n d≠0:=Nat.ne_of_gt (Nat.gcd_pos_of_pos_right n (Nat.pos_of_ne_zero hd))
 have hgl:(limbs (Nat.gcd n d)).length≤100000000:=Nat.le_trans (limbs_len_mono (Nat.gcd_le_right n (Nat.pos_of_ne_zero hd))) hl2
 have CG:=Lib.hid (fun F w hF h1 h2 hT=>lgcd_any F A1 A2 c1 c2 n d w hF h1 h2 hT hl1 hl2)
 have CU:=Lib.hid (fun A c w h=>lunit_any A c (Nat.gcd n d) w h)
 have CD:=Lib.hid (fun A c w h1 h2 h3=>divided_any A1 A2 A c1 c2 c n d (Nat.gcd n d) w h1 h2 h3 hl1 hl2 hgl hg0)
 have HT:=Lib.hid hT
 have hn0:n=0∨n≠0:=by omega
 have hdz:n/Nat.gcd n d=0↔n=0:=by
  constructor
  ·intro h
   rcases Nat.eq_zero_or_pos n with h0|h0
   ·exact h0
   ·have:=Nat.div_pos (Nat.le_of_dvd h0 (Nat.gcd_dvd_left n d)) (Nat.pos_of_ne_zero hg0)
    omega
  ·intro h;rw[h];simp
 have hg1:Nat.gcd n d=1∨Nat.gcd n d≠1:=by omega
 have hv1:Nat.gcd n d=1→n/Nat.gcd n d=n∧d/Nat.gcd n d=d:=by intro h;rw[h];simp
 obtain⟨N,hN⟩:∃N,n/Nat.gcd n d=N:=⟨_,rfl⟩
 obtain⟨D,hD⟩:∃D,d/Nat.gcd n d=D:=⟨_,rfl⟩
 rw[hN] at hdz hv1 CD ⊢
 rw[hD] at hv1 CD ⊢
 clear hN hD
 generalize Nat.gcd n d=q at*
 clear hT hd
 have hNl:(N=0∧(limbs N).length=0)∨(N≠0∧0<(limbs N).length):=by
  by_cases h:N=0
  ·left;subst h;exact⟨rfl,by rw[limbs_zero];rfl⟩
  ·right;exact⟨h,(limbs_ne h).2⟩
 have HNL:=Lib.hid hNl
 have hdec:decide (n≠0)=decide (N≠0):=by
  apply decide_eq_decide.2
  exact not_congr hdz.symm
 rw[hdec]
 clear hdec
 obtain⟨lN,hlN⟩:∃lN,(limbs N).length=lN:=⟨_,rfl⟩
 rw[hlN] at hNl
 have HlN:=Lib.hid hlN
 clear hNl hdz hn0 hgl hlN
 generalize hln:(limbs n).length=ln at*
 generalize hld:(limbs d).length=ld at*
 have HLN:=Lib.hid hln
 have HLD:=Lib.hid hld
 clear hln hld
 go_enter Tryz.func116,Tryz.ntmps116
 go_wp2_with (with_reducible refine yq _ ?_;(try generalize (G.w _).heap.size=bk);(try dsimp only[yi,yj]);(try clear g);intro g)
 refine(CG.out (g.fr F0) _ (g.fr_sub (List.mem_cons_self ..)) (g.fr_sl (List.mem_cons_self ..) (F0.over_self w) h1) (g.fr_sl (List.mem_cons_self ..) (F0.over_self w) h2) (G.tab g HT.out)).mono ?_
 rintro e w1 ⟨Ag,cg,Fg,rfl,hsg,hng⟩
 obtain⟨g1,rfl,hov⟩:=g.newor_ex hng
 clear hng CG
 (try clear g)
 revert g1
 intro g
 go_wp2_with (with_reducible refine yq _ ?_;(try generalize (G.w _).heap.size=bk);(try dsimp only[yi,yj]);(try clear g);intro g)
 refine(CU.out Ag cg _ (G.sl g (by simp) hsg)).mono ?_
 rintro e w1 ⟨rfl,rfl⟩
 clear CU
 rcases hg1 with hq|hq
 ·rw[decide_eq_true hq]
  obtain⟨e1,e2⟩:=hv1 hq
  have E1:=Lib.hid e1
  have E2:=Lib.hid e2
  have hlnN:lN=ln:=by rw[←HlN.out,←HLN.out,e1]
  clear CD hv1 hg0 hq e1 e2
  subst hlnN
  rcases HNL.out with⟨k1,k2⟩|⟨k1,k2⟩
  ·rw[HlN.out] at k2
   have hfin:(s&&decide (N≠0))=false:=by rw[k1];simp
   have HFIN:=Lib.hid hfin
   subst k2
   clear hfin k1
   cases s
   all_goals
    go_wp2_with (with_reducible refine yq _ ?_;(try generalize (G.w _).heap.size=bk);(try dsimp only[yi,yj]);(try clear g);intro g)
    refine bodyPost_ret (v:=.agg #[.bool false,.slice A1 0 c1,.slice A2 ld c2]) (by simp[results,Tryz.results116,go_sem]) rfl ?_
    exact⟨A1,c1,F0,A2,c2,F0,by rw[HFIN.out,E1.out,E2.out,HLN.out,HLD.out],by rw[E1.out];exact h1,by rw[E2.out];exact h2,G.passOr _ (by simp) (F0.over_self w),G.passOr _ (by simp) (F0.over_self w)⟩
  ·rw[HlN.out] at k2
   have hfin:(s&&decide (N≠0))=s:=by rw[decide_eq_true k1];simp
   have HFIN:=Lib.hid hfin
   clear hfin k1
   have k3:(0:Int)<(lN:Int):=by omega
   cases s
   ·go_wp2_with (with_reducible refine yq _ ?_;(try generalize (G.w _).heap.size=bk);(try dsimp only[yi,yj]);(try clear g);intro g)
    refine bodyPost_ret (v:=.agg #[.bool false,.slice A1 lN c1,.slice A2 ld c2]) (by simp[results,Tryz.results116,go_sem]) rfl ?_
    exact⟨A1,c1,F0,A2,c2,F0,by rw[HFIN.out,E1.out,E2.out,HLN.out,HLD.out],by rw[E1.out];exact h1,by rw[E2.out];exact h2,G.passOr _ (by simp) (F0.over_self w),G.passOr _ (by simp) (F0.over_self w)⟩
   ·go_wp2_with (with_reducible refine yq _ ?_;(try generalize (G.w _).heap.size=bk);(try dsimp only[yi,yj]);(try clear g);intro g)
    refine bodyPost_ret (v:=.agg #[.bool true,.slice A1 lN c1,.slice A2 ld c2]) (by simp[results,Tryz.results116,go_sem]) rfl ?_
    exact⟨A1,c1,F0,A2,c2,F0,by rw[HFIN.out,E1.out,E2.out,HLN.out,HLD.out],by rw[E1.out];exact h1,by rw[E2.out];exact h2,G.passOr _ (by simp) (F0.over_self w),G.passOr _ (by simp) (F0.over_self w)⟩
 ·rw[decide_eq_false hq]
  clear hv1 hq
  go_wp2_with (with_reducible refine yq _ ?_;(try generalize (G.w _).heap.size=bk);(try dsimp only[yi,yj]);(try clear g);intro g)
  refine(CD.out _ _ _ (G.sl g (by simp) h1) (G.sl g (by simp) h2) (G.sl g (by simp) hsg)).mono ?_
  rintro e w1 ⟨An,cn,Fn,Ad,cd,Fd,rfl,hsn,hsd,hn1,hn2⟩
  have hov1:=hn1.over F0 g.chg.size
  have hov2:=hn2.over F0 g.chg.size
  obtain⟨g1,rfl⟩:=G.new2_ex _ hn1 hn2
  clear hn1 hn2 CD
  (try clear g)
  revert g1
  intro g
  rw[HlN.out]
  generalize hlD:(limbs D).length=lD
  have HlD:=Lib.hid hlD
  clear hlD
  rcases HNL.out with⟨k1,k2⟩|⟨k1,k2⟩
  ·rw[HlN.out] at k2
   have hfin:(s&&decide (N≠0))=false:=by rw[k1];simp
   have HFIN:=Lib.hid hfin
   subst k2
   clear hfin k1
   cases s
   all_goals
    go_wp2_with (with_reducible refine yq _ ?_;(try generalize (G.w _).heap.size=bk);(try dsimp only[yi,yj]);(try clear g);intro g)
    refine bodyPost_ret (v:=.agg #[.bool false,.slice An 0 cn,.slice Ad lD cd]) (by simp[results,Tryz.results116,go_sem]) rfl ?_
    exact⟨An,cn,Fn,Ad,cd,Fd,by rw[HFIN.out,HlN.out,HlD.out],hsn,hsd,G.passOr _ (by simp) hov1,G.passOr _ (by simp) hov2⟩
  ·rw[HlN.out] at k2
   have hfin:(s&&decide (N≠0))=s:=by rw[decide_eq_true k1];simp
   have HFIN:=Lib.hid hfin
   clear hfin k1
   have k3:(0:Int)<(lN:Int):=by omega
   cases s
   ·go_wp2_with (with_reducible refine yq _ ?_;(try generalize (G.w _).heap.size=bk);(try dsimp only[yi,yj]);(try clear g);intro g)
    refine bodyPost_ret (v:=.agg #[.bool false,.slice An lN cn,.slice Ad lD cd]) (by simp[results,Tryz.results116,go_sem]) rfl ?_
    exact⟨An,cn,Fn,Ad,cd,Fd,by rw[HFIN.out,HlN.out,HlD.out],hsn,hsd,G.passOr _ (by simp) hov1,G.passOr _ (by simp) hov2⟩
   ·go_wp2_with (with_reducible refine yq _ ?_;(try generalize (G.w _).heap.size=bk);(try dsimp only[yi,yj]);(try clear g);intro g)
    refine bodyPost_ret (v:=.agg #[.bool true,.slice An lN cn,.slice Ad lD cd]) (by simp[results,Tryz.results116,go_sem]) rfl ?_
    exact⟨An,cn,Fn,Ad,cd,Fd,by rw[HFIN.out,HlN.out,HlD.out],hsn,hsd,G.passOr _ (by simp) hov1,G.passOr _ (by simp) hov2⟩
/-- no memory -/
def nilF:Frag:=fun _=>none
theorem nilF_sub (w:World):nilF.sub w:=by intro k o h;cases h
def G.beginN (w:World):G w [] [] [heapOf w,nilF]:=
 ⟨w,Chg.refl _ w,by simp,by simp,by simp,by intro f hf;simp at hf;rcases hf with rfl|rfl;exact heapOf_sub w;exact nilF_sub w,by intro f hf k o hk;exact⟨.inr (by simp),by simp⟩⟩
theorem calls_n {P:Program}{f:FuncId}{args:Array Value}{w:World}{R:Ending→World→Prop}(h:∀g:G w [] [] [heapOf w,nilF],Calls P f args g.w R):Calls P f args w R:=h (G.beginN w)
theorem over_new {F:Frag}{w:World}(h:F.over nilF w):∀k o,F k=some o→w.heap.size≤k:=fun k o hk=>(h k o hk).resolve_left (by intro h;cases h)
/-- What is returned is the fraction of a rational number, in new memory. -/
def RNf (x:Rat)(w:World)(e:Ending)(w':World):Prop:=∃A c F B k H,e=.returned (.agg #[.bool (rneg x),.slice A (limbs (rn x)).length c,.slice B (limbs x.den).length k])∧F.Sl A c (limbs (rn x))∧H.Sl B k (limbs x.den)∧New w w' F∧New w w' H
/-- .. in new memory or in F0 -/
def RRa (F0:Frag)(x:Rat)(w:World)(e:Ending)(w':World):Prop:=RFr F0 (rneg x) (rn x) x.den w e w'
theorem low_rat (F0:Frag)(s:Bool)(A1 A2:Option Addr)(c1 c2 n d:Nat)(w:World)(hF:F0.sub w)(h1:F0.Sl A1 c1 (limbs n))(h2:F0.Sl A2 c2 (limbs d))(hT:Tab w)(hl1:(limbs n).length≤100000000)(hl2:(limbs d).length≤100000000)(hd:d≠0):
  Calls Tryz.prog 116 #[.agg #[.bool s,.slice A1 (limbs n).length c1,.slice A2 (limbs d).length c2]] w (RRa F0 (frac s n d) w):=by
 unfold RRa
 rw[frac_rneg s hd,frac_rn s hd,frac_den s hd]
 exact low_any F0 s A1 A2 c1 c2 n d w hF h1 h2 hT hl1 hl2 hd
theorem limbs_mul_len (a b:Nat):(limbs (a*b)).length≤(limbs a).length+(limbs b).length:=by
 refine(limbs_len _ _).2 ?_
 have h1:=val_lt (ok_limbs a)
 have h2:=val_lt (ok_limbs b)
 rw[val_limbs] at h1 h2
 rw[Nat.pow_add]
 exact Nat.mul_lt_mul'' h1 h2
theorem limbs_add_len (a b:Nat):(limbs (a+b)).length≤max (limbs a).length (limbs b).length+1:=by
 refine(limbs_len _ _).2 ?_
 have h1:=val_lt (ok_limbs a)
 have h2:=val_lt (ok_limbs b)
 rw[val_limbs] at h1 h2
 have h3:4294967296^(limbs a).length≤4294967296^max (limbs a).length (limbs b).length:=Nat.pow_le_pow_right (by decide) (Nat.le_max_left ..)
 have h4:4294967296^(limbs b).length≤4294967296^max (limbs a).length (limbs b).length:=Nat.pow_le_pow_right (by decide) (Nat.le_max_right ..)
 rw[Nat.pow_succ]
 omega
theorem lmul (A1 A2:Option Addr)(c1 c2 a b:Nat)(w:World)(h1:SlW w A1 c1 (limbs a))(h2:SlW w A2 c2 (limbs b))(hl1:(limbs a).length≤100000000)(hl2:(limbs b).length≤100000000):
  Calls Tryz.prog 115 #[.slice A1 (limbs a).length c1,.slice A2 (limbs b).length c2] w (RNat (a*b) w):=by
 have:=ltimes_any A1 A2 c1 c2 (limbs a) (limbs b) w h1 h2 (by omega) (by omega)
 rwa[val_limbs,val_limbs] at this
set_option maxRecDepth 20000 in
set_option maxHeartbeats 4000000 in
theorem ftimes_any (s1 s2:Bool)(A1 B1 A2 B2:Option Addr)(c1 k1 c2 k2 n1 d1 n2 d2:Nat)(w:World)(h1:SlW w A1 c1 (limbs n1))(j1:SlW w B1 k1 (limbs d1))(h2:SlW w A2 c2 (limbs n2))(j2:SlW w B2 k2 (limbs d2))(hT:Tab w)
  (l1:(limbs n1).length≤10000000) (m1:(limbs d1).length≤10000000) (l2:(limbs n2).length≤10000000) (m2:(limbs d2).length≤10000000) (z1:d1≠0) (z2:d2≠0):
  Calls Tryz.prog 78 #[.agg #[.bool s1,.slice A1 (limbs n1).length c1,.slice B1 (limbs d1).length k1],.agg #[.bool s2,.slice A2 (limbs n2).length c2,.slice B2 (limbs d2).length k2]] w (RNf (frac s1 n1 d1*frac s2 n2 d2) w):=by
 refine calls_n fun g=>?_
 have C1:=Lib.hid (fun w a b=>lmul A1 A2 c1 c2 n1 n2 w a b (by omega) (by omega))
 have C2:=Lib.hid (fun w a b=>lmul B1 B2 k1 k2 d1 d2 w a b (by omega) (by omega))
 have q1:=limbs_mul_len n1 n2
 have q2:=limbs_mul_len d1 d2
 have hd:d1*d2≠0:=Nat.mul_ne_zero z1 z2
 have HT:=Lib.hid hT
 rw[frac_mul]
 have CL:=Lib.hid (fun F A c B k s w hF h1 h2 hT=>low_rat F s A B c k (n1*n2) (d1*d2) w hF h1 h2 hT (by omega) (by omega) hd)
 clear hT hd z1 z2
 generalize (limbs n1).length=ln1 at*
 generalize (limbs d1).length=ld1 at*
 generalize (limbs n2).length=ln2 at*
 generalize (limbs d2).length=ld2 at*
 cases s1<;>cases s2
 all_goals
  first|rw[show(false !=false)=false from rfl]|rw[show(true !=true)=false from rfl]|rw[show(true !=false)=true from rfl]|rw[show(false !=true)=true from rfl]
  go_enter Tryz.func78,Tryz.ntmps78
  go_wp2_with (with_reducible refine yq _ ?_;(try generalize (G.w _).heap.size=bk);(try dsimp only[yi,yj]);(try clear g);intro g)
  go_region_held3 (G.heldN g [false,true,true]) (simp[G.heldN,HeldN,go_sem]) (first
   |(go_at_call 115;(with_reducible refine(C1.out _ ?_ ?_).mono ?_);(· exact G.sl _ (by simp) h1);(· exact G.sl _ (by simp) h2);rintro e w1 ⟨X1,x1,P1,rfl,hx1,hn1⟩;have ho1:=New.over hn1 nilF (G.chg _).size;obtain⟨g1,rfl⟩:=G.new_ex _ hn1;clear hn1;(try clear g);revert g1;intro g)
   |(go_at_call 115;(with_reducible refine(C2.out _ ?_ ?_).mono ?_);(· exact G.sl _ (by simp) j1);(· exact G.sl _ (by simp) j2);rintro e w1 ⟨X2,x2,P2,rfl,hx2,hn2⟩;have ho2:=New.over hn2 nilF (G.chg _).size;obtain⟨g1,rfl⟩:=G.new_ex _ hn2;clear hn2;(try clear g);revert g1;intro g)
   |(go_at_call 116;(with_reducible refine(CL.out (g.fr nilF) X1 x1 X2 x2 _ _ (g.fr_sub (by simp)) (g.fr_sl (by simp) ho1 hx1) (g.fr_sl (by simp) ho2 hx2) (G.tab g HT.out)).mono ?_);rintro e w1 ⟨Y1,y1,Q1,Y2,y2,Q2,rfl,hy1,hy2,hn1,hn2⟩;obtain⟨g1,rfl,hov1,hov2⟩:=G.new3_ex g hn1 hn2;clear hn1 hn2;(try clear g);revert g1;intro g))
  all_goals generalize frac _ (n1*n2) (d1*d2)=x at*
  all_goals go_wp2_with (with_reducible refine yq _ ?_;(try generalize (G.w _).heap.size=bk);(try dsimp only[yi,yj]);(try clear g);intro g)
  all_goals refine bodyPost_ret (v:=.agg #[.bool (rneg x),.slice Y1 (limbs (rn x)).length y1,.slice Y2 (limbs x.den).length y2]) (by simp[results,Tryz.results78,go_sem]) rfl ?_
  all_goals exact⟨Y1,y1,Q1,Y2,y2,Q2,rfl,hy1,hy2,G.pass _ (by simp) (over_new hov1),G.pass _ (by simp) (over_new hov2)⟩
theorem cmark {P:Program}{f:FuncId}{args:Array Value}{R:Ending→World→Prop}{w0:World}{X:List Nat}{M:List Blk}{I:List Frag}(g:G w0 X M I)(h:∀g:G w0 X M I,Calls P f args g.w R):Calls P f args g.mark.w R:=h _
theorem ladd (A1 A2:Option Addr)(c1 c2 a b:Nat)(w:World)(h1:SlW w A1 c1 (limbs a))(h2:SlW w A2 c2 (limbs b))(hl1:(limbs a).length≤100000000)(hl2:(limbs b).length≤100000000):
  Calls Tryz.prog 156 #[.slice A1 (limbs a).length c1,.slice A2 (limbs b).length c2] w (RNat (a+b) w):=by
 have:=lplus_any A1 A2 c1 c2 (limbs a) (limbs b) w h1 h2 (by omega) (by omega)
 rwa[val_limbs,val_limbs] at this
theorem lsub (A1 A2:Option Addr)(c1 c2 a b:Nat)(w:World)(h1:SlW w A1 c1 (limbs a))(h2:SlW w A2 c2 (limbs b))(hl1:(limbs a).length≤100000000)(h:b≤a):
  Calls Tryz.prog 158 #[.slice A1 (limbs a).length c1,.slice A2 (limbs b).length c2] w (RNat (a-b) w):=by
 have:=lless_any A1 A2 c1 c2 (limbs a) (limbs b) w h1 h2 (by omega) (limbs_len_mono h) (by rw[val_limbs,val_limbs];exact h)
 rwa[val_limbs,val_limbs] at this
set_option maxRecDepth 20000 in
set_option maxHeartbeats 4000000 in
theorem fplus_same (s:Bool)(A1 B1 A2 B2:Option Addr)(c1 k1 c2 k2 n1 d1 n2 d2:Nat)(w:World)(h1:SlW w A1 c1 (limbs n1))(j1:SlW w B1 k1 (limbs d1))(h2:SlW w A2 c2 (limbs n2))(j2:SlW w B2 k2 (limbs d2))(hT:Tab w)
  (l1:(limbs n1).length≤10000000) (m1:(limbs d1).length≤10000000) (l2:(limbs n2).length≤10000000) (m2:(limbs d2).length≤10000000) (z1:d1≠0) (z2:d2≠0):
  Calls Tryz.prog 130 #[.agg #[.bool s,.slice A1 (limbs n1).length c1,.slice B1 (limbs d1).length k1],.agg #[.bool s,.slice A2 (limbs n2).length c2,.slice B2 (limbs d2).length k2]] w (RNf (frac s n1 d1+frac s n2 d2) w):=by
 refine calls_n fun g=>?_
 have C1:=Lib.hid (fun w a b=>lmul A1 B2 c1 k2 n1 d2 w a b (by omega) (by omega))
 have C2:=Lib.hid (fun w a b=>lmul A2 B1 c2 k1 n2 d1 w a b (by omega) (by omega))
 have C3:=Lib.hid (fun w a b=>lmul B1 B2 k1 k2 d1 d2 w a b (by omega) (by omega))
 have q1:=limbs_mul_len n1 d2
 have q2:=limbs_mul_len n2 d1
 have q3:=limbs_mul_len d1 d2
 have hd:d1*d2≠0:=Nat.mul_ne_zero z1 z2
 have HT:=Lib.hid hT
 rw[frac_add_same s z1 z2]
 have CA:=Lib.hid (fun A1 A2 c1 c2 w a b=>ladd A1 A2 c1 c2 (n1*d2) (n2*d1) w a b (by omega) (by omega))
 have q4:=limbs_add_len (n1*d2) (n2*d1)
 have CL:=Lib.hid (fun F A c B k s w hF h1 h2 hT=>low_rat F s A B c k (n1*d2+n2*d1) (d1*d2) w hF h1 h2 hT (by omega) (by omega) hd)
 clear hT hd z1 z2
 generalize hX:n1*d2=X at*
 generalize hY:n2*d1=Y at*
 generalize hD:d1*d2=D at*
 clear hX hY hD
 generalize (limbs n1).length=ln1 at*
 generalize (limbs d1).length=ld1 at*
 generalize (limbs n2).length=ln2 at*
 generalize (limbs d2).length=ld2 at*
 cases s
 all_goals
  go_enter Tryz.func130,Tryz.ntmps130
  go_wp2_with (with_reducible refine yq _ ?_;(try generalize (G.w _).heap.size=bk);(try dsimp only[yi,yj]);(try clear g);intro g)
  go_region_held3 (G.heldN g [false,true,true]) (simp[G.heldN,HeldN,go_sem]) (first
   |(go_at_call 115;(with_reducible refine(C1.out _ ?_ ?_).mono ?_);(· exact G.sl _ (by simp) h1);(· exact G.sl _ (by simp) j2);rintro e w1 ⟨X1,x1,P1,rfl,hx1,hn1⟩;have ho1:=New.over hn1 nilF (G.chg _).size;obtain⟨g1,rfl⟩:=G.new_ex _ hn1;clear hn1;(try clear g);revert g1;intro g)
   |(go_at_call 115;(with_reducible refine(C2.out _ ?_ ?_).mono ?_);(· exact G.sl _ (by simp) h2);(· exact G.sl _ (by simp) j1);rintro e w1 ⟨X2,x2,P2,rfl,hx2,hn2⟩;have ho2:=New.over hn2 nilF (G.chg _).size;obtain⟨g1,rfl⟩:=G.new_ex _ hn2;clear hn2;(try clear g);revert g1;intro g))
  all_goals ((try simp only[G.drew_eq,G.drewN_eq]);(refine yq _ ?_;(try clear g);intro g))
  all_goals go_wp2_with (with_reducible refine yq _ ?_;(try generalize (G.w _).heap.size=bk);(try dsimp only[yi,yj]);(try clear g);intro g)
  all_goals go_region_held3 (G.heldN g [false,true,true]) (simp[G.heldN,HeldN,go_sem]) (first
   |(go_at_call 115;(with_reducible refine(C3.out _ ?_ ?_).mono ?_);(· exact G.sl _ (by simp) j1);(· exact G.sl _ (by simp) j2);rintro e w1 ⟨X3,x3,P3,rfl,hx3,hn3⟩;have ho3:=New.over hn3 nilF (G.chg _).size;obtain⟨g1,rfl⟩:=G.new_ex _ hn3;clear hn3;(try clear g);revert g1;intro g))
  all_goals (first|((try simp only[G.drew_eq,G.drewN_eq]);(refine yq _ ?_;(try generalize (G.w _).heap.size=bk);(try dsimp only[yi,yj]);(try clear g);intro g))|skip)
  all_goals go_wp2_with (with_reducible refine yq _ ?_;(try generalize (G.w _).heap.size=bk);(try dsimp only[yi,yj]);(try clear g);intro g)
  all_goals
   (with_reducible refine(CA.out _ _ _ _ _ ?_ ?_).mono ?_)
   ·exact G.sl _ (by simp) hx1
   ·exact G.sl _ (by simp) hx2
   rintro e w1 ⟨X4,x4,P4,rfl,hx4,hn4⟩
   have ho4:=New.over hn4 nilF (G.chg _).size
   obtain⟨g1,rfl⟩:=G.new_ex _ hn4
   clear hn4
   (try clear g)
   revert g1
   intro g
  all_goals go_wp2_with (with_reducible refine yq _ ?_;(try generalize (G.w _).heap.size=bk);(try dsimp only[yi,yj]);(try clear g);intro g)
  all_goals (try(refine cmark _ ?_;(try dsimp only[yi,yj]);(try clear g);intro g))
  all_goals (with_reducible refine(CL.out (g.fr nilF) _ _ _ _ _ _ (g.fr_sub (by simp)) (g.fr_sl (by simp) ho4 hx4) (g.fr_sl (by simp) ho3 hx3) (G.tab g HT.out)).mono ?_)
  all_goals
   rintro e w1 ⟨Y1,y1,Q1,Y2,y2,Q2,rfl,hy1,hy2,hn1,hn2⟩
   obtain⟨g1,rfl,hov1,hov2⟩:=G.new3_ex g hn1 hn2
   clear hn1 hn2
   (try clear g)
   revert g1
   intro g
  all_goals generalize frac _ (X+Y) D=x at*
  all_goals go_wp2_with (with_reducible refine yq _ ?_;(try generalize (G.w _).heap.size=bk);(try dsimp only[yi,yj]);(try clear g);intro g)
  all_goals refine bodyPost_ret (v:=.agg #[.bool (rneg x),.slice Y1 (limbs (rn x)).length y1,.slice Y2 (limbs x.den).length y2]) (by simp[results,Tryz.results130,go_sem]) rfl ?_
  all_goals exact⟨Y1,y1,Q1,Y2,y2,Q2,rfl,hy1,hy2,G.pass _ (by simp) (over_new hov1),G.pass _ (by simp) (over_new hov2)⟩
set_option maxRecDepth 20000 in
set_option maxHeartbeats 4000000 in
theorem fplus_lt (s t:Bool)(A1 B1 A2 B2:Option Addr)(c1 k1 c2 k2 n1 d1 n2 d2:Nat)(w:World)(h1:SlW w A1 c1 (limbs n1))(j1:SlW w B1 k1 (limbs d1))(h2:SlW w A2 c2 (limbs n2))(j2:SlW w B2 k2 (limbs d2))(hT:Tab w)
  (l1:(limbs n1).length≤10000000) (m1:(limbs d1).length≤10000000) (l2:(limbs n2).length≤10000000) (m2:(limbs d2).length≤10000000) (z1:d1≠0) (z2:d2≠0) (hst:s≠t) (hlt:n1*d2<n2*d1):
  Calls Tryz.prog 130 #[.agg #[.bool s,.slice A1 (limbs n1).length c1,.slice B1 (limbs d1).length k1],.agg #[.bool t,.slice A2 (limbs n2).length c2,.slice B2 (limbs d2).length k2]] w (RNf (frac s n1 d1+frac t n2 d2) w):=by
 refine calls_n fun g=>?_
 have C1:=Lib.hid (fun w a b=>lmul A1 B2 c1 k2 n1 d2 w a b (by omega) (by omega))
 have C2:=Lib.hid (fun w a b=>lmul A2 B1 c2 k1 n2 d1 w a b (by omega) (by omega))
 have C3:=Lib.hid (fun w a b=>lmul B1 B2 k1 k2 d1 d2 w a b (by omega) (by omega))
 have q1:=limbs_mul_len n1 d2
 have q2:=limbs_mul_len n2 d1
 have q3:=limbs_mul_len d1 d2
 have hd:d1*d2≠0:=Nat.mul_ne_zero z1 z2
 have HT:=Lib.hid hT
 rw[frac_add_lt hst z1 z2 hlt]
 have CC:=Lib.hid (fun A1 A2 c1 c2 w a b=>lcmp_any A1 A2 c1 c2 (n1*d2) (n2*d1) w a b (by omega) (by omega))
 have CA:=Lib.hid (fun A1 A2 c1 c2 w a b=>lsub A1 A2 c1 c2 (n2*d1) (n1*d2) w a b (by omega) (by omega))
 have q4:(limbs (n2*d1-n1*d2)).length≤(limbs (n2*d1)).length:=limbs_len_mono (Nat.sub_le _ _)
 have hcv:lcv (n1*d2) (n2*d1)<0:=lcv_lt.2 hlt
 generalize lcv (n1*d2) (n2*d1)=cv at*
 clear hlt
 have CL:=Lib.hid (fun F A c B k s w hF h1 h2 hT=>low_rat F s A B c k (n2*d1-n1*d2) (d1*d2) w hF h1 h2 hT (by omega) (by omega) hd)
 clear hT hd z1 z2
 generalize hX:n1*d2=X at*
 generalize hY:n2*d1=Y at*
 generalize hD:d1*d2=D at*
 clear hX hY hD
 generalize (limbs n1).length=ln1 at*
 generalize (limbs d1).length=ld1 at*
 generalize (limbs n2).length=ln2 at*
 generalize (limbs d2).length=ld2 at*
 cases s<;>cases t
 all_goals (try exact absurd rfl hst)
 all_goals clear hst
 all_goals
  go_enter Tryz.func130,Tryz.ntmps130
  go_wp2_with (with_reducible refine yq _ ?_;(try generalize (G.w _).heap.size=bk);(try dsimp only[yi,yj]);(try clear g);intro g)
  go_region_held3 (G.heldN g [false,true,true]) (simp[G.heldN,HeldN,go_sem]) (first
   |(go_at_call 115;(with_reducible refine(C1.out _ ?_ ?_).mono ?_);(· exact G.sl _ (by simp) h1);(· exact G.sl _ (by simp) j2);rintro e w1 ⟨X1,x1,P1,rfl,hx1,hn1⟩;have ho1:=New.over hn1 nilF (G.chg _).size;obtain⟨g1,rfl⟩:=G.new_ex _ hn1;clear hn1;(try clear g);revert g1;intro g)
   |(go_at_call 115;(with_reducible refine(C2.out _ ?_ ?_).mono ?_);(· exact G.sl _ (by simp) h2);(· exact G.sl _ (by simp) j1);rintro e w1 ⟨X2,x2,P2,rfl,hx2,hn2⟩;have ho2:=New.over hn2 nilF (G.chg _).size;obtain⟨g1,rfl⟩:=G.new_ex _ hn2;clear hn2;(try clear g);revert g1;intro g))
  all_goals ((try simp only[G.drew_eq,G.drewN_eq]);(refine yq _ ?_;(try clear g);intro g))
  all_goals go_wp2_with (with_reducible refine yq _ ?_;(try generalize (G.w _).heap.size=bk);(try dsimp only[yi,yj]);(try clear g);intro g)
  all_goals go_region_held3 (G.heldN g [false,true,true]) (simp[G.heldN,HeldN,go_sem]) (first
   |(go_at_call 115;(with_reducible refine(C3.out _ ?_ ?_).mono ?_);(· exact G.sl _ (by simp) j1);(· exact G.sl _ (by simp) j2);rintro e w1 ⟨X3,x3,P3,rfl,hx3,hn3⟩;have ho3:=New.over hn3 nilF (G.chg _).size;obtain⟨g1,rfl⟩:=G.new_ex _ hn3;clear hn3;(try clear g);revert g1;intro g))
  all_goals (first|((try simp only[G.drew_eq,G.drewN_eq]);(refine yq _ ?_;(try generalize (G.w _).heap.size=bk);(try dsimp only[yi,yj]);(try clear g);intro g))|skip)
  all_goals go_wp2_with (with_reducible refine yq _ ?_;(try generalize (G.w _).heap.size=bk);(try dsimp only[yi,yj]);(try clear g);intro g)
  all_goals
   (with_reducible refine(CC.out _ _ _ _ _ ?_ ?_).mono ?_)
   ·exact G.sl _ (by simp) hx1
   ·exact G.sl _ (by simp) hx2
   rintro e w1 ⟨rfl,hb⟩
   obtain⟨g1,rfl⟩:=G.call_ex _ hb
   clear hb
   (try clear g)
   revert g1
   intro g
  all_goals go_wp2_with (with_reducible refine yq _ ?_;(try generalize (G.w _).heap.size=bk);(try dsimp only[yi,yj]);(try clear g);intro g)
  all_goals go_region_held3 (G.heldN g [false,false,true,true]) (simp[G.heldN,HeldN,go_sem]) (first
   |(go_at_call 158;(with_reducible refine(CA.out _ _ _ _ _ ?_ ?_).mono ?_);(· exact G.sl _ (by simp) hx2);(· exact G.sl _ (by simp) hx1);rintro e w1 ⟨X4,x4,P4,rfl,hx4,hn4⟩;have ho4:=New.over hn4 nilF (G.chg _).size;obtain⟨g1,rfl⟩:=G.new_ex _ hn4;clear hn4;(try clear g);revert g1;intro g))
  all_goals (first|((try simp only[G.drew_eq,G.drewN_eq]);(refine yq _ ?_;(try generalize (G.w _).heap.size=bk);(try dsimp only[yi,yj]);(try clear g);intro g))|skip)
  all_goals go_wp2_with (with_reducible refine yq _ ?_;(try generalize (G.w _).heap.size=bk);(try dsimp only[yi,yj]);(try clear g);intro g)
  all_goals (try(refine cmark _ ?_;(try dsimp only[yi,yj]);(try clear g);intro g))
  all_goals (with_reducible refine(CL.out (g.fr nilF) _ _ _ _ _ _ (g.fr_sub (by simp)) (g.fr_sl (by simp) ho4 hx4) (g.fr_sl (by simp) ho3 hx3) (G.tab g HT.out)).mono ?_)
  all_goals
   rintro e w1 ⟨Y1,y1,Q1,Y2,y2,Q2,rfl,hy1,hy2,hn1,hn2⟩
   obtain⟨g1,rfl,hov1,hov2⟩:=G.new3_ex g hn1 hn2
   clear hn1 hn2
   (try clear g)
   revert g1
   intro g
  all_goals generalize frac _ (Y-X) D=x at*
  all_goals go_wp2_with (with_reducible refine yq _ ?_;(try generalize (G.w _).heap.size=bk);(try dsimp only[yi,yj]);(try clear g);intro g)
  all_goals refine bodyPost_ret (v:=.agg #[.bool (rneg x),.slice Y1 (limbs (rn x)).length y1,.slice Y2 (limbs x.den).length y2]) (by simp[results,Tryz.results130,go_sem]) rfl ?_
  all_goals exact⟨Y1,y1,Q1,Y2,y2,Q2,rfl,hy1,hy2,G.pass _ (by simp) (over_new hov1),G.pass _ (by simp) (over_new hov2)⟩
set_option maxRecDepth 20000 in
set_option maxHeartbeats 4000000 in
theorem fplus_ge (s t:Bool)(A1 B1 A2 B2:Option Addr)(c1 k1 c2 k2 n1 d1 n2 d2:Nat)(w:World)(h1:SlW w A1 c1 (limbs n1))(j1:SlW w B1 k1 (limbs d1))(h2:SlW w A2 c2 (limbs n2))(j2:SlW w B2 k2 (limbs d2))(hT:Tab w)
  (l1:(limbs n1).length≤10000000) (m1:(limbs d1).length≤10000000) (l2:(limbs n2).length≤10000000) (m2:(limbs d2).length≤10000000) (z1:d1≠0) (z2:d2≠0) (hst:s≠t) (hlt:¬ n1*d2<n2*d1):
  Calls Tryz.prog 130 #[.agg #[.bool s,.slice A1 (limbs n1).length c1,.slice B1 (limbs d1).length k1],.agg #[.bool t,.slice A2 (limbs n2).length c2,.slice B2 (limbs d2).length k2]] w (RNf (frac s n1 d1+frac t n2 d2) w):=by
 refine calls_n fun g=>?_
 have C1:=Lib.hid (fun w a b=>lmul A1 B2 c1 k2 n1 d2 w a b (by omega) (by omega))
 have C2:=Lib.hid (fun w a b=>lmul A2 B1 c2 k1 n2 d1 w a b (by omega) (by omega))
 have C3:=Lib.hid (fun w a b=>lmul B1 B2 k1 k2 d1 d2 w a b (by omega) (by omega))
 have q1:=limbs_mul_len n1 d2
 have q2:=limbs_mul_len n2 d1
 have q3:=limbs_mul_len d1 d2
 have hd:d1*d2≠0:=Nat.mul_ne_zero z1 z2
 have HT:=Lib.hid hT
 rw[frac_add_ge hst z1 z2 hlt]
 have CC:=Lib.hid (fun A1 A2 c1 c2 w a b=>lcmp_any A1 A2 c1 c2 (n1*d2) (n2*d1) w a b (by omega) (by omega))
 have CA:=Lib.hid (fun A1 A2 c1 c2 w a b=>lsub A1 A2 c1 c2 (n1*d2) (n2*d1) w a b (by omega) (by omega))
 have q4:(limbs (n1*d2-n2*d1)).length≤(limbs (n1*d2)).length:=limbs_len_mono (Nat.sub_le _ _)
 have hcv:¬ lcv (n1*d2) (n2*d1)<0:=fun h=>hlt (lcv_lt.1 h)
 generalize lcv (n1*d2) (n2*d1)=cv at*
 clear hlt
 have CL:=Lib.hid (fun F A c B k s w hF h1 h2 hT=>low_rat F s A B c k (n1*d2-n2*d1) (d1*d2) w hF h1 h2 hT (by omega) (by omega) hd)
 clear hT hd z1 z2
 generalize hX:n1*d2=X at*
 generalize hY:n2*d1=Y at*
 generalize hD:d1*d2=D at*
 clear hX hY hD
 generalize (limbs n1).length=ln1 at*
 generalize (limbs d1).length=ld1 at*
 generalize (limbs n2).length=ln2 at*
 generalize (limbs d2).length=ld2 at*
 cases s<;>cases t
 all_goals (try exact absurd rfl hst)
 all_goals clear hst
 all_goals
  go_enter Tryz.func130,Tryz.ntmps130
  go_wp2_with (with_reducible refine yq _ ?_;(try generalize (G.w _).heap.size=bk);(try dsimp only[yi,yj]);(try clear g);intro g)
  go_region_held3 (G.heldN g [false,true,true]) (simp[G.heldN,HeldN,go_sem]) (first
   |(go_at_call 115;(with_reducible refine(C1.out _ ?_ ?_).mono ?_);(· exact G.sl _ (by simp) h1);(· exact G.sl _ (by simp) j2);rintro e w1 ⟨X1,x1,P1,rfl,hx1,hn1⟩;have ho1:=New.over hn1 nilF (G.chg _).size;obtain⟨g1,rfl⟩:=G.new_ex _ hn1;clear hn1;(try clear g);revert g1;intro g)
   |(go_at_call 115;(with_reducible refine(C2.out _ ?_ ?_).mono ?_);(· exact G.sl _ (by simp) h2);(· exact G.sl _ (by simp) j1);rintro e w1 ⟨X2,x2,P2,rfl,hx2,hn2⟩;have ho2:=New.over hn2 nilF (G.chg _).size;obtain⟨g1,rfl⟩:=G.new_ex _ hn2;clear hn2;(try clear g);revert g1;intro g))
  all_goals ((try simp only[G.drew_eq,G.drewN_eq]);(refine yq _ ?_;(try clear g);intro g))
  all_goals go_wp2_with (with_reducible refine yq _ ?_;(try generalize (G.w _).heap.size=bk);(try dsimp only[yi,yj]);(try clear g);intro g)
  all_goals go_region_held3 (G.heldN g [false,true,true]) (simp[G.heldN,HeldN,go_sem]) (first
   |(go_at_call 115;(with_reducible refine(C3.out _ ?_ ?_).mono ?_);(· exact G.sl _ (by simp) j1);(· exact G.sl _ (by simp) j2);rintro e w1 ⟨X3,x3,P3,rfl,hx3,hn3⟩;have ho3:=New.over hn3 nilF (G.chg _).size;obtain⟨g1,rfl⟩:=G.new_ex _ hn3;clear hn3;(try clear g);revert g1;intro g))
  all_goals (first|((try simp only[G.drew_eq,G.drewN_eq]);(refine yq _ ?_;(try generalize (G.w _).heap.size=bk);(try dsimp only[yi,yj]);(try clear g);intro g))|skip)
  all_goals go_wp2_with (with_reducible refine yq _ ?_;(try generalize (G.w _).heap.size=bk);(try dsimp only[yi,yj]);(try clear g);intro g)
  all_goals
   (with_reducible refine(CC.out _ _ _ _ _ ?_ ?_).mono ?_)
   ·exact G.sl _ (by simp) hx1
   ·exact G.sl _ (by simp) hx2
   rintro e w1 ⟨rfl,hb⟩
   obtain⟨g1,rfl⟩:=G.call_ex _ hb
   clear hb
   (try clear g)
   revert g1
   intro g
  all_goals go_wp2_with (with_reducible refine yq _ ?_;(try generalize (G.w _).heap.size=bk);(try dsimp only[yi,yj]);(try clear g);intro g)
  all_goals
   (with_reducible refine(CA.out _ _ _ _ _ ?_ ?_).mono ?_)
   ·exact G.sl _ (by simp) hx1
   ·exact G.sl _ (by simp) hx2
   rintro e w1 ⟨X4,x4,P4,rfl,hx4,hn4⟩
   have ho4:=New.over hn4 nilF (G.chg _).size
   obtain⟨g1,rfl⟩:=G.new_ex _ hn4
   clear hn4
   (try clear g)
   revert g1
   intro g
  all_goals go_wp2_with (with_reducible refine yq _ ?_;(try generalize (G.w _).heap.size=bk);(try dsimp only[yi,yj]);(try clear g);intro g)
  all_goals (try(refine cmark _ ?_;(try dsimp only[yi,yj]);(try clear g);intro g))
  all_goals (with_reducible refine(CL.out (g.fr nilF) _ _ _ _ _ _ (g.fr_sub (by simp)) (g.fr_sl (by simp) ho4 hx4) (g.fr_sl (by simp) ho3 hx3) (G.tab g HT.out)).mono ?_)
  all_goals
   rintro e w1 ⟨Y1,y1,Q1,Y2,y2,Q2,rfl,hy1,hy2,hn1,hn2⟩
   obtain⟨g1,rfl,hov1,hov2⟩:=G.new3_ex g hn1 hn2
   clear hn1 hn2
   (try clear g)
   revert g1
   intro g
  all_goals generalize frac _ (X-Y) D=x at*
  all_goals go_wp2_with (with_reducible refine yq _ ?_;(try generalize (G.w _).heap.size=bk);(try dsimp only[yi,yj]);(try clear g);intro g)
  all_goals refine bodyPost_ret (v:=.agg #[.bool (rneg x),.slice Y1 (limbs (rn x)).length y1,.slice Y2 (limbs x.den).length y2]) (by simp[results,Tryz.results130,go_sem]) rfl ?_
  all_goals exact⟨Y1,y1,Q1,Y2,y2,Q2,rfl,hy1,hy2,G.pass _ (by simp) (over_new hov1),G.pass _ (by simp) (over_new hov2)⟩
/-- the sum of two fractions -/
theorem fplus_any (s1 s2:Bool)(A1 B1 A2 B2:Option Addr)(c1 k1 c2 k2 n1 d1 n2 d2:Nat)(w:World)(h1:SlW w A1 c1 (limbs n1))(j1:SlW w B1 k1 (limbs d1))(h2:SlW w A2 c2 (limbs n2))(j2:SlW w B2 k2 (limbs d2))(hT:Tab w)
  (l1:(limbs n1).length≤10000000) (m1:(limbs d1).length≤10000000) (l2:(limbs n2).length≤10000000) (m2:(limbs d2).length≤10000000) (z1:d1≠0) (z2:d2≠0):
  Calls Tryz.prog 130 #[.agg #[.bool s1,.slice A1 (limbs n1).length c1,.slice B1 (limbs d1).length k1],.agg #[.bool s2,.slice A2 (limbs n2).length c2,.slice B2 (limbs d2).length k2]] w (RNf (frac s1 n1 d1+frac s2 n2 d2) w):=by
 by_cases hs:s1=s2
 ·subst hs
  exact fplus_same s1 A1 B1 A2 B2 c1 k1 c2 k2 n1 d1 n2 d2 w h1 j1 h2 j2 hT l1 m1 l2 m2 z1 z2
 ·by_cases hlt:n1*d2<n2*d1
  ·exact fplus_lt s1 s2 A1 B1 A2 B2 c1 k1 c2 k2 n1 d1 n2 d2 w h1 j1 h2 j2 hT l1 m1 l2 m2 z1 z2 hs hlt
  ·exact fplus_ge s1 s2 A1 B1 A2 B2 c1 k1 c2 k2 n1 d1 n2 d2 w h1 j1 h2 j2 hT l1 m1 l2 m2 z1 z2 hs hlt
end Go.Proofs.YthhbbnfnejjpiaaGreatDoor
