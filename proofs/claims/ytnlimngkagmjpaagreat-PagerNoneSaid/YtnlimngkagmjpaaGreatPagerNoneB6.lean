/- Texts that the proof of PagerNone leans on, part 6. -/
import Derived.Test.YtnlimngkagmjpaaGreatPagerNoneB5
open List renaming getElem_toArray → zD, getElem_cons_zero → zB, setIfInBounds_toArray → zA, set_cons_zero → zF, set_cons_succ → zE, getElem_cons_succ → zC, map_toArray → zJ, map_cons → zK, map_nil → zL, replicate → zR, take_of_length_le → qA, length_append → zY, length_cons → zN, eq_nil_of_length_eq_zero → qF, nil_append → zQ, getElem_mem → qJ, getElem?_eq_getElem → zI, length_map → qD
open Nat renaming le_refl → zG, lt_of_lt_of_le → zO, zero_add → qK
set_option linter.unusedVariables false
set_option maxRecDepth 100000
set_option maxHeartbeats 8000000

namespace Go.Proofs.YtnlimngkagmjpaaGreat
open Go Go.RowKit Lou
def layD (s:DS)(L:List (Nat×List UInt8)):DS×Int:=if (wrs s L).2=0 then synD (wrs s L).1 else wrs s L
theorem DS.Ok.lay {s:DS}(h:s.Ok)(L:List (Nat×List UInt8)):(layD s L).1.Ok:=by
 unfold layD
 split
 ·exact DS.Ok.syn (DS.Ok.wrs h)
 ·exact DS.Ok.wrs h
theorem syncS_gives (w:World)(d many:Nat)(s:DS)(hD:DkS w d many s)(hO:s.Ok)(hl:s.xs.length<=1000000):Calls Tryz.prog 96 #[.pointer (some ⟨d,0,none⟩)] w fun e w'=>e = .returned (.int .i64 (synD s).2)/\DkS w' d many (synD s).1/\w.grownBy w' (some d):=by
 unfold synD
 cases hs:s.stopped
 ·exact sync_gives w d many s.g s.xs s.left s.st hD hs hl hO.lo hO.hi
 ·refine(sync_bad w d many s.g s.xs s.left s.st hD (by have:=hs;unfold DS.stopped at this;rw[relL_stopped] at this;exact of_decide_eq_true this)).mono ?_
  rintro e w' ⟨rfl,hB⟩
  exact⟨rfl,hD.grow hB,⟨hB.os,hB.tape,hB.output,hB.size,fun k hk _=>hB.block k hk⟩⟩
theorem layOut {w2 w:World}{d many l:Nat}{s:DS}{L:List (Nat×List UInt8)}{hs he sr ep:Nat}{fr pg sz:Int}{A:Option Addr}{n c:Nat}{e:Ending}{X:Prop}
  (hx:(e = .returned (.int .i64 0)/\X/\((layD s L).2=0/\DkS w2 d many (layD s L).1)/\BlkIs w2 l 104 (lgC (some ⟨d,0,none⟩) fr pg hs he sz A n c)/\GrowBut (fun k=>k=d∨k=l) w w2) ∨
   ∃x:Int,x≠0/\e = .returned (.int .i64 x)/\x=(layD s L).2/\DkS w2 d many (layD s L).1/\BlkIs w2 l 104 (lgC (some ⟨d,0,none⟩) fr pg sr ep sz A n c)/\GrowBut (fun k=>k=d∨k=l) w w2) :
  ∃x:Int,e = .returned (.int .i64 x)/\x=(layD s L).2/\DkS w2 d many (layD s L).1/\(∃sr' ep',(((layD s L).2=0/\sr'=hs/\ep'=he)∨(¬ (layD s L).2=0/\sr'=sr/\ep'=ep))/\BlkIs w2 l 104 (lgC (some ⟨d,0,none⟩) fr pg sr' ep' sz A n c))/\GrowBut (fun k=>k=d∨k=l) w w2:=by
 rcases hx with⟨rfl,_,⟨h1,h2⟩,h3,h4⟩|⟨x,hx,rfl,rfl,h2,h3,h4⟩
 ·exact⟨0,rfl,h1.symm,h2,⟨_,_,.inl ⟨h1,rfl,rfl⟩,h3⟩,h4⟩
 ·exact⟨_,rfl,rfl,h2,⟨_,_,.inr ⟨hx,rfl,rfl⟩,h3⟩,h4⟩
section
variable (w:World)(l d many lb hb:Nat)(s:DS)(hs he:Nat)(hz hc:Int)
theorem lay1S_gives (hD:DkS w d many s)(hO:s.Ok)(hl:s.xs.length<=900000)(hlb:BlkIs w lb 71 #[.pointer (some ⟨l,0,none⟩)])(hhb:BlkIs w hb 106 #[.int .u64 (hs:Int),.int .u64 (he:Int),.int .i64 hz,.int .i64 hc])
  (hcl:w.cell? ⟨l,0,none⟩=some (.pointer (some ⟨d,0,none⟩))) (hld:l≠d) (hlbd:lb≠d) (hhbd:hb≠d) (hll:l<w.heap.size) (hok:headOk hz hc=true) (hm2:2<=many) (hmax:many<=1000000) :
  Calls Tryz.prog 98 #[.pointer (some ⟨hb,0,none⟩),.pointer (some ⟨lb,0,none⟩)] w fun e w'=>e = .returned (.int .i64 (wrs s (wrL (hs % 2) (hEnc hs he hz hc) 1)).2)/\DkS w' d many (wrs s (wrL (hs % 2) (hEnc hs he hz hc) 1)).1/\w.grownBy w' (some d):=by
 have hlen:(hEnc hs he hz hc).length=64:=by
  unfold hEnc
  rw[if_pos hok]
  exact headW_length _ _ _ _
 have hE0:hErr hz hc=0:=by unfold hErr;rw[if_pos hok]
 have HE:=encodeHead_gives hs he hz hc w
 rw[hE0] at HE
 unfold GivesBE at HE
 rw[hlen] at HE
 have HLEN:=Lib.hid hlen
 have hdl:=hD.lt
 obtain⟨r,hr⟩:∃r,r=hs % 2:=⟨_,rfl⟩
 have HMOD:=Lib.hid (show Int.tmod (hs:Int) 2=(r:Int) by rw[hr];exact(Int.ofNat_tmod hs 2).symm)
 have HWR:=Lib.hid (show IntKind.i64.wrap (r:Int)=(r:Int) from wrap_i64_fr _ (by omega) (by omega))
 have hr2:r<2:=by omega
 rw[<-hr]
 clear hr
 generalize hR:wrs s (wrL r (hEnc hs he hz hc) 1)=R
 obtain⟨s6,z⟩:=R
 simp only
 clear hlen hE0
 go_enter Tryz.func98,Tryz.ntmps98
 go_wp2_with (first
  | (refine wp_loadW rfl 106 (.tmp 0) rfl hb rfl rowHead hhb rfl ?_)
  | (go_at_call 99;refine HE.mono ?_;rintro e w1 ⟨A,c,rfl,hin,hB1⟩))
 have hD1:=hD.grow hB1
 have hlb1:=hlb.below hB1 hlb.lt
 have hhb1:=hhb.below hB1 hhb.lt
 have hcl1:w1.cell? ⟨l,0,none⟩=some (.pointer (some ⟨d,0,none⟩)):=(hB1.cell (p:=⟨l,0,none⟩) hll).trans hcl
 have hs1:=hB1.size
 have c1:w1.cell? ⟨hb,0,none⟩=some (.int .u64 (hs:Int)):=by rw[hhb1.cell];rfl
 have hS0:w1.drew.cell? ⟨lb,0,none⟩=some (.pointer (some ⟨l,0,none⟩))/\w1.drew.cell? ⟨hb,0,none⟩=some (.int .u64 (hs:Int)):=⟨hlb1.boxed,c1⟩
 have HW:=wwriteS_gives w1.drew l d many s (hD1.grow (Below.refl _ _).drew) hO hl hcl1 hld (by show l<w1.heap.size;omega) r 1 A c _ hin.drew (by rw[HLEN.out]) (by omega) (by omega) hmax
 rw[HLEN.out,hR] at HW
 simp only at HW
 clear HE hD hlb hhb hcl hR
 refine RegF.start (fun W:World=>W.cell? ⟨lb,0,none⟩=some (.pointer (some ⟨l,0,none⟩))/\W.cell? ⟨hb,0,none⟩=some (.int .u64 (hs:Int))) 9 (by kernel_rfl) ?_
 refine RegF.t 0 (.pointer (some ⟨l,0,none⟩)) rfl hS0 (fun W ⟨e0,e1⟩=>by go_simp) ?_
 simp only[zD,zB,Act.put,zA,zF,zE]
 refine RegF.t 1 (.pointer (some ⟨l,0,none⟩)) rfl hS0 (fun W ⟨e0,e1⟩=>by go_simp) ?_
 simp only[zD,zC,zB,Act.put,zA,zF,zE]
 refine RegF.t 2 (.pointer (some ⟨l,0,none⟩)) rfl hS0 (fun W ⟨e0,e1⟩=>by go_simp) ?_
 simp only[zD,zC,zB,Act.put,zA,zF,zE]
 refine RegF.t 3 (.pointer (some ⟨hb,0,none⟩)) rfl hS0 (fun W ⟨e0,e1⟩=>by go_simp) ?_
 simp only[zD,zC,zB,Act.put,zA,zF,zE]
 refine RegF.t 4 (.int .u64 (hs:Int)) rfl hS0 (fun W ⟨e0,e1⟩=>by go_simp) ?_
 simp only[zD,zC,zB,Act.put,zA,zF,zE]
 refine RegF.t 5 (.int .u64 (r:Int)) rfl hS0 (fun W ⟨e0,e1⟩=>by have e9:=HMOD.out;go_simp) ?_
 simp only[zD,zC,zB,Act.put,zA,zF,zE]
 refine RegF.t 6 (.int .i64 (r:Int)) rfl hS0 (fun W ⟨e0,e1⟩=>by have e9:=HWR.out;go_simp) ?_
 simp only[zD,zC,zB,Act.put,zA,zF,zE]
 refine RegF.t 7 (.slice A 64 c) rfl hS0 (fun W ⟨e0,e1⟩=>by go_simp) ?_
 simp only[zD,zC,zB,Act.put,zA,zF,zE]
 refine RegF.one 8 (by kernel_rfl) ?_
 refine RegF.opC 100 #[.tmp 12,.tmp 16,.tmp 17] #[100,3,22] rfl rfl rfl (enters_of Tryz.func100 (by kernel_rfl) rfl) #[.pointer (some ⟨l,0,none⟩),.int .i64 (r:Int),.slice A 64 c] (by simp only[zJ,zK,zL];rfl) (HW.mono ?_)
 rintro e w2 ⟨rfl,hD2,hg2⟩
 have g12:w1.grownBy w2 (some d):=(grownBy_drew w1 (some d)).trans hg2
 have q0:=hlb1.grown g12 (fun e=>by injection e with e;omega)
 have q1:=hhb1.grown g12 (fun e=>by injection e with e;omega)
 have q1c:w2.cell? ⟨hb,0,none⟩=some (.int .u64 (hs:Int)):=by rw[q1.cell];rfl
 refine⟨_,rfl,fun _=>⟨q0.boxed,q1c⟩,?_⟩
 simp only[zD,zC,zB,Act.put,zA,zF,zE]
 refine RegF.one 9 (by kernel_rfl) (RegF.opV (w':=w2) (.int .i64 z) rfl rfl (by go_simp) ⟨fun h=>absurd rfl h,RegF.done (by kernel_rfl) ?_⟩)
 simp only[zD,zC,zB,Act.put,zA,zF,zE]
 clear HW hS0
 go_wp2
 go_ret
 exact⟨rfl,hD2,(below_grownBy hB1 d).trans g12⟩
theorem layS_gives (fr pg:Int)(sr ep:Nat)(sz:Int)(A:Option Addr)(n c:Nat)(hD:DkS w d many s)(hO:s.Ok)(hl:s.xs.length<=800000)(hlg:BlkIs w l 104 (lgC (some ⟨d,0,none⟩) fr pg sr ep sz A n c))(hld:l≠d)(hok:headOk hz hc=true)(hm2:2<=many)(hmax:many<=1000000) :
  Calls Tryz.prog 60 #[.pointer (some ⟨l,0,none⟩),.agg #[.int .u64 (hs:Int),.int .u64 (he:Int),.int .i64 hz,.int .i64 hc]] w fun e w'=>e = .returned (.int .i64 (layD s (wrL (hs % 2) (hEnc hs he hz hc) 1)).2)/\DkS w' d many (layD s (wrL (hs % 2) (hEnc hs he hz hc) 1)).1/\(∃sr' ep',(((layD s (wrL (hs % 2) (hEnc hs he hz hc) 1)).2=0/\sr'=hs/\ep'=he)∨(¬ (layD s (wrL (hs % 2) (hEnc hs he hz hc) 1)).2=0/\sr'=sr/\ep'=ep))/\BlkIs w' l 104 (lgC (some ⟨d,0,none⟩) fr pg sr' ep' sz A n c))/\GrowBut (fun k=>k=d∨k=l) w w':=by
 have hdl:=hD.lt
 have hll:=hlg.lt
 have k0:w.cell? ⟨l,0,none⟩=some (.pointer (some ⟨d,0,none⟩)):=by rw[hlg.cell];rfl
 obtain⟨W1,hW1⟩:∃W1,W1=(((w.alloc (.cells #[.pointer (some ⟨l,0,none⟩)] 71)).alloc (.cells #[.int .u64 (hs:Int),.int .u64 (he:Int),.int .i64 hz,.int .i64 hc] 106)).alloc (.cells #[.func (.func 98) #[] #[.pointer (some ⟨w.heap.size+1,0,none⟩),.pointer (some ⟨w.heap.size,0,none⟩)],.func (.func 96) #[.pointer (some ⟨d,0,none⟩)] #[],.func (.func 101) #[] #[.pointer (some ⟨w.heap.size+1,0,none⟩),.pointer (some ⟨w.heap.size,0,none⟩)]] 38)):=⟨_,rfl⟩
 have hB1:Below w.heap.size w W1:=by rw[hW1];exact(((Below.refl _ w).alloc (zG _) _).alloc (by simp) _).alloc (by simp;omega) _
 have b0:BlkIs W1 w.heap.size 71 #[.pointer (some ⟨l,0,none⟩)]:=by rw[hW1];exact((BlkIs.new w _ _).alloc _).alloc _
 have b1:BlkIs W1 (w.heap.size+1) 106 #[.int .u64 (hs:Int),.int .u64 (he:Int),.int .i64 hz,.int .i64 hc]:=by
  have:=(BlkIs.new (w.alloc (.cells #[.pointer (some ⟨l,0,none⟩)] 71)) 106 #[.int .u64 (hs:Int),.int .u64 (he:Int),.int .i64 hz,.int .i64 hc])
  rw[World.size_alloc] at this
  rw[hW1]
  exact this.alloc _
 have b2:BlkIs W1 (w.heap.size+1+1) 38 #[.func (.func 98) #[] #[.pointer (some ⟨w.heap.size+1,0,none⟩),.pointer (some ⟨w.heap.size,0,none⟩)],.func (.func 96) #[.pointer (some ⟨d,0,none⟩)] #[],.func (.func 101) #[] #[.pointer (some ⟨w.heap.size+1,0,none⟩),.pointer (some ⟨w.heap.size,0,none⟩)]]:=by
  have:=BlkIs.new ((w.alloc (.cells #[.pointer (some ⟨l,0,none⟩)] 71)).alloc (.cells #[.int .u64 (hs:Int),.int .u64 (he:Int),.int .i64 hz,.int .i64 hc] 106)) 38 #[.func (.func 98) #[] #[.pointer (some ⟨w.heap.size+1,0,none⟩),.pointer (some ⟨w.heap.size,0,none⟩)],.func (.func 96) #[.pointer (some ⟨d,0,none⟩)] #[],.func (.func 101) #[] #[.pointer (some ⟨w.heap.size+1,0,none⟩),.pointer (some ⟨w.heap.size,0,none⟩)]]
  rw[World.size_alloc,World.size_alloc] at this
  rw[hW1]
  exact this
 obtain⟨fs,hfs⟩:∃fs:List FnV,fs=[⟨98,#[],#[.pointer (some ⟨w.heap.size+1,0,none⟩),.pointer (some ⟨w.heap.size,0,none⟩)]⟩,⟨96,#[.pointer (some ⟨d,0,none⟩)],#[]⟩,⟨101,#[],#[.pointer (some ⟨w.heap.size+1,0,none⟩),.pointer (some ⟨w.heap.size,0,none⟩)]⟩]:=⟨_,rfl⟩
 have H1:∀W,DkS W d many s->BlkIs W w.heap.size 71 #[.pointer (some ⟨l,0,none⟩)]->BlkIs W (w.heap.size+1) 106 #[.int .u64 (hs:Int),.int .u64 (he:Int),.int .i64 hz,.int .i64 hc]->W.cell? ⟨l,0,none⟩=some (.pointer (some ⟨d,0,none⟩))->l<W.heap.size->Calls Tryz.prog 98 #[.pointer (some ⟨w.heap.size+1,0,none⟩),.pointer (some ⟨w.heap.size,0,none⟩)] W fun e w'=>e = .returned (.int .i64 (wrs s (wrL (hs % 2) (hEnc hs he hz hc) 1)).2)/\DkS w' d many (wrs s (wrL (hs % 2) (hEnc hs he hz hc) 1)).1/\W.grownBy w' (some d):=fun W hDw h1 h2 k0' hlw =>
  lay1S_gives W l d many w.heap.size (w.heap.size+1) s hs he hz hc hDw hO (by omega) h1 h2 k0' hld (by omega) (by omega) hlw hok hm2 hmax
 have HX:(wrs s (wrL (hs % 2) (hEnc hs he hz hc) 1)).1.xs.length<=900000:=by
  have:=wrs_len (wrL (hs % 2) (hEnc hs he hz hc) 1) s
  rw[wrL_length] at this
  omega
 have hO1:(wrs s (wrL (hs % 2) (hEnc hs he hz hc) 1)).1.Ok:=hO.wrs
 have hOS:=hO1.syn
 have herr:=wrs_err (wrL (hs % 2) (hEnc hs he hz hc) 1) s
 generalize wrL (hs % 2) (hEnc hs he hz hc) 1=L at *
 have HS:=steps_gives W1 (w.heap.size+1+1) 3 fs
  (fun k V=>(BlkIs V w.heap.size 71 #[.pointer (some ⟨l,0,none⟩)]/\BlkIs V (w.heap.size+1) 106 #[.int .u64 (hs:Int),.int .u64 (he:Int),.int .i64 hz,.int .i64 hc]/\BlkIs V (w.heap.size+1+1) 38 #[.func (.func 98) #[] #[.pointer (some ⟨w.heap.size+1,0,none⟩),.pointer (some ⟨w.heap.size,0,none⟩)],.func (.func 96) #[.pointer (some ⟨d,0,none⟩)] #[],.func (.func 101) #[] #[.pointer (some ⟨w.heap.size+1,0,none⟩),.pointer (some ⟨w.heap.size,0,none⟩)]]/\GrowBut (fun k=>k=d∨k=l) w V) /\
   (k=0->DkS V d many s/\BlkIs V l 104 (lgC (some ⟨d,0,none⟩) fr pg sr ep sz A n c)) /\
   (k=1->((wrs s L).2=0/\DkS V d many (wrs s L).1)/\BlkIs V l 104 (lgC (some ⟨d,0,none⟩) fr pg sr ep sz A n c)) /\
   (k=2->((layD s L).2=0/\DkS V d many (layD s L).1)/\BlkIs V l 104 (lgC (some ⟨d,0,none⟩) fr pg sr ep sz A n c)) /\
   (k=3->((layD s L).2=0/\DkS V d many (layD s L).1)/\BlkIs V l 104 (lgC (some ⟨d,0,none⟩) fr pg hs he sz A n c)))
  (fun x V=>x=(layD s L).2/\DkS V d many (layD s L).1/\BlkIs V l 104 (lgC (some ⟨d,0,none⟩) fr pg sr ep sz A n c)/\GrowBut (fun k=>k=d∨k=l) w V) (by rw[hfs];simp)
  (by
   rintro k hk W ⟨⟨_,_,h3,_⟩,_⟩
   rw[h3.cell]
   subst hfs
   match k,hk with
   | 0,_=>rfl
   | 1,_=>rfl
   | 2,_=>rfl
   | k+3,h=>exact absurd h (by simp))
  (by
   rintro k hk W ⟨⟨h1,h2,h3,h4⟩,q0,q1,q2,q3⟩
   have hsz:=h4.size
   subst hfs
   match k,hk with
   | 0,_ =>
    obtain⟨hDw,hlw⟩:=q0 rfl
    have k0':W.cell? ⟨l,0,none⟩=some (.pointer (some ⟨d,0,none⟩)):=by rw[hlw.cell];rfl
    refine⟨enters_of Tryz.func98 (by kernel_rfl) rfl,(H1 W hDw h1 h2 k0' (by omega)).mono ?_⟩
    rintro e w2 ⟨rfl,hD2,hg2⟩
    have n0:some w.heap.size≠some d:=fun e=>by injection e with e;omega
    have n1:some (w.heap.size+1)≠some d:=fun e=>by injection e with e;omega
    have n2:some (w.heap.size+1+1)≠some d:=fun e=>by injection e with e;omega
    have hG2:=h4.trans (GrowBut.grown hg2 (fun r e=>by cases e;exact .inl (.inl rfl)))
    have hl2:=hlw.grown hg2 (fun e=>by injection e with e;exact hld e)
    by_cases hz0:(wrs s L).2=0
    ·exact .inl ⟨by rw[hz0],⟨h1.grown hg2 n0,h2.grown hg2 n1,h3.grown hg2 n2,hG2⟩,(fun e=>by cases e),(fun _=>⟨⟨hz0,hD2⟩,hl2⟩),(fun e=>by cases e),(fun e=>by cases e)⟩
    ·have el:layD s L=wrs s L:=by unfold layD;rw[if_neg hz0]
     exact .inr ⟨_,hz0,rfl,by rw[el],by rw[el];exact hD2,hl2,hG2⟩
   | 1,_ =>
    obtain⟨⟨hz0,hDw⟩,hlw⟩:=q1 rfl
    have el:layD s L=synD (wrs s L).1:=by unfold layD;rw[if_pos hz0]
    have n0:some w.heap.size≠some d:=fun e=>by injection e with e;omega
    have n1:some (w.heap.size+1)≠some d:=fun e=>by injection e with e;omega
    have n2:some (w.heap.size+1+1)≠some d:=fun e=>by injection e with e;omega
    refine⟨enters_of Tryz.func96 (by kernel_rfl) rfl,(syncS_gives W d many _ hDw hO1 (by omega)).mono ?_⟩
    rintro e w2 ⟨rfl,hD2,hg2⟩
    have hG2:=h4.trans (GrowBut.grown hg2 (fun r e=>by cases e;exact .inl (.inl rfl)))
    have hl2:=hlw.grown hg2 (fun e=>by injection e with e;exact hld e)
    rw[<-el] at hD2 ⊢
    by_cases hz1:(layD s L).2=0
    ·exact .inl ⟨by rw[hz1],⟨h1.grown hg2 n0,h2.grown hg2 n1,h3.grown hg2 n2,hG2⟩,(fun e=>by cases e),(fun e=>by cases e),(fun _=>⟨⟨hz1,hD2⟩,hl2⟩),(fun e=>by cases e)⟩
    ·exact .inr ⟨_,hz1,rfl,rfl,hD2,hl2,hG2⟩
   | 2,_ =>
    obtain⟨⟨hz0,hDw⟩,hlw⟩:=q2 rfl
    refine⟨enters_of Tryz.func101 (by kernel_rfl) rfl,(lay2_gives W l w.heap.size (w.heap.size+1) hs he hz hc (some ⟨d,0,none⟩) fr pg sr ep sz A n c h1 h2 hlw (by omega) (by omega)).mono ?_⟩
    rintro e w2 ⟨rfl,rfl,hl2⟩
    have hld':d≠l:=fun e=>hld e.symm
    have hl1:=hlw.drew.set 3 (.int .u64 (hs:Int))
    exact .inl ⟨rfl,⟨(h1.drew.other (by show ¬ _=l;omega) _).other (by show ¬ _=l;omega) _,(h2.drew.other (by show ¬ _=l;omega) _).other (by show ¬ _=l;omega) _,(h3.drew.other (by show ¬ _=l;omega) _).other (by show ¬ _=l;omega) _,
     ((h4.trans (GrowBut.grown (grownBy_drew W none) (fun r e=>by cases e))).trans (GrowBut.setCell _ _ _ (.inr rfl))).trans (GrowBut.setCell _ _ _ (.inr rfl))⟩,(fun e=>by cases e),(fun e=>by cases e),(fun e=>by cases e),(fun _=>⟨⟨hz0,((hDw.grow (Below.refl _ _).drew).setOther hlw.drew (by show 7<=64;decide) hld' _ _ rfl).setOther hl1 (by simp;show 7<=64;decide) hld' _ _ rfl⟩,hl2⟩)⟩
   | k+3,h=>exact absurd h (by simp))
  ⟨⟨b0,b1,b2,GrowBut.below hB1⟩,(fun _=>⟨hD.grow hB1,hlg.below hB1 hll⟩),(fun e=>by cases e),(fun e=>by cases e),(fun e=>by cases e)⟩
 have hfl:fs.length=3:=by rw[hfs];rfl
 rw[hfl,hW1] at HS
 have HT:=HS.mono (R':=fun e w2=>∃x:Int,e = .returned (.int .i64 x)/\x=(layD s L).2/\DkS w2 d many (layD s L).1/\(∃sr' ep',(((layD s L).2=0/\sr'=hs/\ep'=he)∨(¬ (layD s L).2=0/\sr'=sr/\ep'=ep))/\BlkIs w2 l 104 (lgC (some ⟨d,0,none⟩) fr pg sr' ep' sz A n c))/\GrowBut (fun k=>k=d∨k=l) w w2) (fun e w2 hx=>layOut (X:=True) (by
  rcases hx with⟨h1,⟨_,_,_,h4⟩,_,_,_,q3⟩|hx
  ·obtain⟨q4,q5⟩:=q3 rfl
   exact .inl ⟨h1,trivial,q4,q5,h4⟩
  ·exact .inr hx))
 clear hW1 b0 b1 b2 hB1 hfs hD H1 HS HX hO1 hOS herr
 go_enter Tryz.func60,Tryz.ntmps60
 go_wp2_with (go_at_call 97;refine HT.mono ?_;rintro e w2 ⟨x,rfl,hx⟩)
 go_ret
 obtain⟨rfl,hx⟩:=hx
 exact⟨rfl,hx⟩
end
theorem sectB_sum (p y r:List UInt8)(hp:p.length=25):rfix (((sectB p y++r).drop 25).take 4)=sumL (p++y):=by
 have e:(sectB p y++r).drop 25=fixL 4 (sumL (p++y))++(zR 35 0++r):=by
  rw[<-hp]
  simp only[sectB,List.append_assoc,List.drop_left]
 rw[e,List.take_append_of_le_length (by rw[fixL_length];omega),qA (by rw[fixL_length];omega)]
 have:=sumL_lt (p++y)
 exact rfix_fixL_lt (by have e4:(256:Nat) ^ 4=4294967296:=by decide
                        omega)
def fSum (e:Nat)(i p:Int)(f:Bool)(z:Int)(n:Nat)(y:List UInt8):Nat:=if frOk y.length i p f z then sumL (partB e i.toNat p.toNat f z.toNat n++y) else 0

theorem fsum_gives (e:Nat)(i p:Int)(f:Bool)(z:Int)(n:Nat)(A:Option Addr)(k:Nat)(y:List UInt8)(w:World)(hin:InB w w.heap.size A k y) :
  Calls Tryz.prog 150 #[.agg (frCells e i p f z n A y.length k)] w fun x w'=>x = .returned (.tuple #[.int .u32 (fSum e i p f z n y:Int),.int .i64 (fErr i p f z y)])/\Below w.heap.size w w':=by
 have hbh:=BlkIs.new w 163 (frCells e i p f z n A y.length k)
 have hBw:Below w.heap.size w (w.alloc (.cells (frCells e i p f z n A y.length k) 163)):=(Below.refl _ w).alloc (zG _) _
 have H:=right_gives e i p f z n A y.length k (w.alloc (.cells (frCells e i p f z n A y.length k) 163))
 cases hk:frOk y.length i p f z with
 | false =>
  have h1:fSum e i p f z n y=0:=by simp[fSum,hk]
  have h2:fErr i p f z y=2:=by simp[fErr,hk]
  rw[h1,h2]
  rw[hk] at H
  clear h1 h2 hk
  unfold frCells at *
  go_enter Tryz.func150,Tryz.ntmps150
  go_wp2_with (first
   | (go_at_call 148;refine H.mono ?_;rintro x w2 ⟨rfl,hB2⟩)
   | (refine wp_loadW rfl 163 (.tmp 1) rfl w.heap.size rfl rowFrame hbh (by rfl) ?_))
  exact bodyPost_ret (results_tmp2 rfl _ _ _) rfl ⟨rfl,hBw.trans (hB2.mono hBw.size)⟩
 | true =>
  obtain⟨hy,⟨hi0,hi1⟩,⟨hp0,hp1⟩,⟨hz0,hz1⟩,_⟩:=(frOk_iff _ _ _ _ _).1 hk
  obtain⟨i,rfl⟩:∃q:Nat,i=q:=⟨i.toNat,by omega⟩
  obtain⟨p,rfl⟩:∃q:Nat,p=q:=⟨p.toNat,by omega⟩
  obtain⟨z,rfl⟩:∃q:Nat,z=q:=⟨z.toNat,by omega⟩
  rw[hk] at H
  have h1:fSum e (i:Int) (p:Int) f (z:Int) n y=sumL (partB e i p f z n++y):=by simp[fSum,hk]
  have h2:fErr (i:Int) (p:Int) f (z:Int) y=0:=by simp[fErr,hk]
  rw[h1,h2]
  have hin1:=(hin.below hBw).more hBw.size
  have HF:=fun W (h:InB W W.heap.size A k y)=>front_gives e i p z n f A k y W (by omega) (by omega) (by omega) h hy
  have hl25:=partB_length e i p f z n
  have hsl:(sectB (partB e i p f z n) y).length=64:=by rw[sectB_length,hl25]
  have hsum:=sectB_sum (partB e i p f z n) y [] hl25
  rw[List.append_nil] at hsum
  generalize sectB (partB e i p f z n) y=s at *
  generalize sumL (partB e i p f z n++y)=S at *
  have HSL:=Lib.hid hsl
  have HYL:=Lib.hid hy
  have HSUM:=Lib.hid hsum
  have hRow:RowTy Tryz.prog 203 (s.map b8).toArray.size:=by
   have:(s.map b8).toArray.size=64:=by simp[hsl]
   rw[this]
   exact rowSector
  clear h1 h2 hk hin hl25 hsl hy hsum
  unfold frCells at *
  go_enter Tryz.func150,Tryz.ntmps150
  go_wp2_with (first
   | (go_at_call 148;refine H.mono ?_;rintro x w2 ⟨rfl,hB2⟩;have hbh2:=hbh.below hB2 hbh.lt;have hB02:=hBw.trans (hB2.mono hBw.size);have hin2:=(hin1.below hB2).more hB2.size;clear H hbh hin1)
   | (go_at_call 149;refine(HF _ hin2).mono ?_;rintro x w3 ⟨rfl,hB3⟩;have hB03:=hB02.trans (hB3.mono hB02.size);clear HF hbh2 hin2)
   | (refine wp_loadW rfl 163 (.tmp 1) rfl w.heap.size rfl rowFrame (by assumption) (by rfl) ?_)
   | (refine wp_storeW rfl 203 (.tmp 4) (.tmp 10) rfl w3.heap.size rfl rfl rowSector (BlkIs.new w3 203 #[.int .u8 0,.int .u8 0,.int .u8 0,.int .u8 0,.int .u8 0,.int .u8 0,.int .u8 0,.int .u8 0,.int .u8 0,.int .u8 0,.int .u8 0,.int .u8 0,.int .u8 0,.int .u8 0,.int .u8 0,.int .u8 0,.int .u8 0,.int .u8 0,.int .u8 0,.int .u8 0,.int .u8 0,.int .u8 0,.int .u8 0,.int .u8 0,.int .u8 0,.int .u8 0,.int .u8 0,.int .u8 0,.int .u8 0,.int .u8 0,.int .u8 0,.int .u8 0,.int .u8 0,.int .u8 0,.int .u8 0,.int .u8 0,.int .u8 0,.int .u8 0,.int .u8 0,.int .u8 0,.int .u8 0,.int .u8 0,.int .u8 0,.int .u8 0,.int .u8 0,.int .u8 0,.int .u8 0,.int .u8 0,.int .u8 0,.int .u8 0,.int .u8 0,.int .u8 0,.int .u8 0,.int .u8 0,.int .u8 0,.int .u8 0,.int .u8 0,.int .u8 0,.int .u8 0,.int .u8 0,.int .u8 0,.int .u8 0,.int .u8 0,.int .u8 0]) (by rfl) (by have:=HSL.out;simp;omega) (b8_one _) ?_))
  have hb4:=(BlkIs.new w3 203 #[.int .u8 0,.int .u8 0,.int .u8 0,.int .u8 0,.int .u8 0,.int .u8 0,.int .u8 0,.int .u8 0,.int .u8 0,.int .u8 0,.int .u8 0,.int .u8 0,.int .u8 0,.int .u8 0,.int .u8 0,.int .u8 0,.int .u8 0,.int .u8 0,.int .u8 0,.int .u8 0,.int .u8 0,.int .u8 0,.int .u8 0,.int .u8 0,.int .u8 0,.int .u8 0,.int .u8 0,.int .u8 0,.int .u8 0,.int .u8 0,.int .u8 0,.int .u8 0,.int .u8 0,.int .u8 0,.int .u8 0,.int .u8 0,.int .u8 0,.int .u8 0,.int .u8 0,.int .u8 0,.int .u8 0,.int .u8 0,.int .u8 0,.int .u8 0,.int .u8 0,.int .u8 0,.int .u8 0,.int .u8 0,.int .u8 0,.int .u8 0,.int .u8 0,.int .u8 0,.int .u8 0,.int .u8 0,.int .u8 0,.int .u8 0,.int .u8 0,.int .u8 0,.int .u8 0,.int .u8 0,.int .u8 0,.int .u8 0,.int .u8 0,.int .u8 0]).setRow (s.map b8).toArray
  have hB34:Below w3.heap.size w3 ((w3.alloc (.cells #[.int .u8 0,.int .u8 0,.int .u8 0,.int .u8 0,.int .u8 0,.int .u8 0,.int .u8 0,.int .u8 0,.int .u8 0,.int .u8 0,.int .u8 0,.int .u8 0,.int .u8 0,.int .u8 0,.int .u8 0,.int .u8 0,.int .u8 0,.int .u8 0,.int .u8 0,.int .u8 0,.int .u8 0,.int .u8 0,.int .u8 0,.int .u8 0,.int .u8 0,.int .u8 0,.int .u8 0,.int .u8 0,.int .u8 0,.int .u8 0,.int .u8 0,.int .u8 0,.int .u8 0,.int .u8 0,.int .u8 0,.int .u8 0,.int .u8 0,.int .u8 0,.int .u8 0,.int .u8 0,.int .u8 0,.int .u8 0,.int .u8 0,.int .u8 0,.int .u8 0,.int .u8 0,.int .u8 0,.int .u8 0,.int .u8 0,.int .u8 0,.int .u8 0,.int .u8 0,.int .u8 0,.int .u8 0,.int .u8 0,.int .u8 0,.int .u8 0,.int .u8 0,.int .u8 0,.int .u8 0,.int .u8 0,.int .u8 0,.int .u8 0,.int .u8 0] 203)).setRow w3.heap.size (s.map b8).toArray):=below_setRow ((Below.refl _ w3).alloc (zG _) _) (zG _) _
  have hB4:Below w.heap.size w ((w3.alloc (.cells #[.int .u8 0,.int .u8 0,.int .u8 0,.int .u8 0,.int .u8 0,.int .u8 0,.int .u8 0,.int .u8 0,.int .u8 0,.int .u8 0,.int .u8 0,.int .u8 0,.int .u8 0,.int .u8 0,.int .u8 0,.int .u8 0,.int .u8 0,.int .u8 0,.int .u8 0,.int .u8 0,.int .u8 0,.int .u8 0,.int .u8 0,.int .u8 0,.int .u8 0,.int .u8 0,.int .u8 0,.int .u8 0,.int .u8 0,.int .u8 0,.int .u8 0,.int .u8 0,.int .u8 0,.int .u8 0,.int .u8 0,.int .u8 0,.int .u8 0,.int .u8 0,.int .u8 0,.int .u8 0,.int .u8 0,.int .u8 0,.int .u8 0,.int .u8 0,.int .u8 0,.int .u8 0,.int .u8 0,.int .u8 0,.int .u8 0,.int .u8 0,.int .u8 0,.int .u8 0,.int .u8 0,.int .u8 0,.int .u8 0,.int .u8 0,.int .u8 0,.int .u8 0,.int .u8 0,.int .u8 0,.int .u8 0,.int .u8 0,.int .u8 0,.int .u8 0] 203)).setRow w3.heap.size (s.map b8).toArray):=hB03.trans (hB34.mono hB03.size)
  have s4:((w3.alloc (.cells #[.int .u8 0,.int .u8 0,.int .u8 0,.int .u8 0,.int .u8 0,.int .u8 0,.int .u8 0,.int .u8 0,.int .u8 0,.int .u8 0,.int .u8 0,.int .u8 0,.int .u8 0,.int .u8 0,.int .u8 0,.int .u8 0,.int .u8 0,.int .u8 0,.int .u8 0,.int .u8 0,.int .u8 0,.int .u8 0,.int .u8 0,.int .u8 0,.int .u8 0,.int .u8 0,.int .u8 0,.int .u8 0,.int .u8 0,.int .u8 0,.int .u8 0,.int .u8 0,.int .u8 0,.int .u8 0,.int .u8 0,.int .u8 0,.int .u8 0,.int .u8 0,.int .u8 0,.int .u8 0,.int .u8 0,.int .u8 0,.int .u8 0,.int .u8 0,.int .u8 0,.int .u8 0,.int .u8 0,.int .u8 0,.int .u8 0,.int .u8 0,.int .u8 0,.int .u8 0,.int .u8 0,.int .u8 0,.int .u8 0,.int .u8 0,.int .u8 0,.int .u8 0,.int .u8 0,.int .u8 0,.int .u8 0,.int .u8 0,.int .u8 0,.int .u8 0] 203)).setRow w3.heap.size (s.map b8).toArray).heap.size=w3.heap.size+1:=by simp[World.setRow]
  have hs4:=hb4.inBT (by rw[HSL.out];omega)
  generalize (w3.alloc (.cells #[.int .u8 0,.int .u8 0,.int .u8 0,.int .u8 0,.int .u8 0,.int .u8 0,.int .u8 0,.int .u8 0,.int .u8 0,.int .u8 0,.int .u8 0,.int .u8 0,.int .u8 0,.int .u8 0,.int .u8 0,.int .u8 0,.int .u8 0,.int .u8 0,.int .u8 0,.int .u8 0,.int .u8 0,.int .u8 0,.int .u8 0,.int .u8 0,.int .u8 0,.int .u8 0,.int .u8 0,.int .u8 0,.int .u8 0,.int .u8 0,.int .u8 0,.int .u8 0,.int .u8 0,.int .u8 0,.int .u8 0,.int .u8 0,.int .u8 0,.int .u8 0,.int .u8 0,.int .u8 0,.int .u8 0,.int .u8 0,.int .u8 0,.int .u8 0,.int .u8 0,.int .u8 0,.int .u8 0,.int .u8 0,.int .u8 0,.int .u8 0,.int .u8 0,.int .u8 0,.int .u8 0,.int .u8 0,.int .u8 0,.int .u8 0,.int .u8 0,.int .u8 0,.int .u8 0,.int .u8 0,.int .u8 0,.int .u8 0,.int .u8 0,.int .u8 0] 203)).setRow w3.heap.size (s.map b8).toArray=W4 at *
  rw[HSL.out] at hs4
  generalize w3.heap.size=g3 at *
  have hr5:RdrAt (W4.alloc (.cells #[.slice (some ⟨g3,0,none⟩) 64 64] 197)) (g3+1) (some ⟨g3,0,none⟩) 64 s:=by
   refine⟨?_,?_⟩
   ·have:=BlkIs.new W4 197 #[.slice (some ⟨g3,0,none⟩) 64 64]
    rw[s4] at this
    rw[HSL.out]
    exact this
   ·have:=hs4.below ((Below.refl _ W4).alloc (zG _) (.cells #[.slice (some ⟨g3,0,none⟩) 64 64] 197))
    rw[s4] at this
    exact this
  have hB5:Below w.heap.size w (W4.alloc (.cells #[.slice (some ⟨g3,0,none⟩) 64 64] 197)):=hB4.alloc hB4.size _
  have hg3:w.heap.size<=g3+1:=by have:=hB4.size;omega
  generalize W4.alloc (.cells #[.slice (some ⟨g3,0,none⟩) 64 64] 197)=W5 at *
  have T:=ftake_gives W5 (g3+1) 0 (some ⟨g3,0,none⟩) 64 64 25 (by omega) (by omega) (by omega) (by rw[hr5.blk.cell,HSL.out];rfl) (hr5.blk.free 0)
  have hr6:=hr5.cut 25 (by rw[HSL.out];omega)
  rw[HSL.out] at hr6
  have hB6:Below w.heap.size w (W5.setCell ⟨g3+1,0,none⟩ (.slice (cutA (some ⟨g3,0,none⟩) 64 25) (64 - 25) (64 - 25))):=hB5.setCell (p:=⟨g3+1,0,none⟩) hg3 _
  refine T.mono ?_
  rintro x w' ⟨rfl,rfl⟩
  generalize W5.setCell ⟨g3+1,0,none⟩ (.slice (cutA (some ⟨g3,0,none⟩) 64 25) (64 - 25) (64 - 25))=W6 at *
  have N:=number32_gives W6 _ _ _ _ hr6 (by rw[List.length_drop,HSL.out];omega)
  rw[HSUM.out] at N
  clear T hr5 hr6 hB5
  go_wp2_with (go_at_call 136;refine N.mono ?_;rintro x W7 ⟨rfl,_,hB⟩)
  exact bodyPost_ret (results_tmp2 rfl _ _ _) rfl ⟨rfl,hB6.trans (hB.mono hg3)⟩
structure FrP where
 e:Nat
 i:Int
 p:Int
 f:Bool
 z:Int
 n:Nat
 y:List UInt8
abbrev FrV:=FrP×Option Addr×Nat
def FrV.arr (v:FrV):Array Value:=frCells v.1.e v.1.i v.1.p v.1.f v.1.z v.1.n v.2.1 v.1.y.length v.2.2
theorem FrV.arr_len (v:FrV):v.arr.toList.length=7:=rfl
theorem FrV.arr_one (v:FrV):∀x∈v.arr.toList,x.oneCell'=true:=frCells_one _ _ _ _ _ _ _ _ _
def vsC (vs:List FrV):List Value:=(vs.map fun v=>v.arr.toList).flatten
theorem vsC_cons (v:FrV)(vs:List FrV):vsC (v::vs)=v.arr.toList++vsC vs:=rfl
theorem vsC_append (xs ys:List FrV):vsC (xs++ys)=vsC xs++vsC ys:=by simp[vsC]
theorem vsC_one1 (v:FrV):vsC [v]=v.arr.toList:=by simp[vsC]
theorem vsC_length:∀vs:List FrV,(vsC vs).length=vs.length*7
 | []=>rfl
 | v::vs=>by rw[vsC_cons,zY,vsC_length vs,FrV.arr_len,zN];omega
theorem vsC_one (vs:List FrV):∀x∈vsC vs,x.oneCell'=true:=by
 intro x hx
 unfold vsC at hx
 obtain⟨l,hl,hx⟩:=List.mem_flatten.1 hx
 obtain⟨v,_,rfl⟩:=List.mem_map.1 hl
 exact v.arr_one x hx
theorem vsC_elem (vs:List FrV)(j:Nat)(hj:j<vs.length):((vsC vs).drop (j*7)).take 7=vs[j].arr.toList:=by
 have e:vsC vs=vsC (vs.take j)++(vs[j].arr.toList++vsC (vs.drop (j+1))):=by
  rw[<-vsC_cons,<-vsC_append,<-List.drop_eq_getElem_cons hj,List.take_append_drop]
 have hl:(vsC (vs.take j)).length=j*7:=by rw[vsC_length,List.length_take];congr 1;omega
 rw[e,<-hl,List.drop_left,List.take_left' (FrV.arr_len _)]
structure FrsIs (Mu:Nat->Prop)(w:World)(A:Option Addr)(c:Nat)(vs:List FrV):Prop where
 row:InG w w.heap.size 7 A vs.length c (vsC vs)
 out:∀g o,A=some ⟨g,o,none⟩->¬ Mu g/\o=0
 nil:vs=[]->A=none
 bys:∀v∈vs,InB w w.heap.size v.2.1 v.2.2 v.1.y/\∀g o,v.2.1=some ⟨g,o,none⟩->¬ Mu g
theorem FrsIs.mt (Mu:Nat->Prop)(w:World):FrsIs Mu w none 0 []:=⟨InG.mt _ _ _,(fun _ _ e=>by cases e),fun _=>rfl,fun v h=>by cases h⟩
theorem InG.keepG {Mu:Nat->Prop}{w w':World}{sz:Nat}{A:Option Addr}{n c:Nat}{cs:List Value}(h:InG w w.heap.size sz A n c cs)(hg:GrowBut Mu w w')(hn:∀g o,A=some ⟨g,o,none⟩->¬ Mu g):InG w' w'.heap.size sz A n c cs :=
 ⟨h.le,h.max,h.nil,h.len,h.one,fun h0=>by
  obtain⟨g,o,e,hgl,hr⟩:=h.lies h0
  exact⟨g,o,e,zO hgl hg.size,fun j v hj=>hg.cell (hr j v hj) hgl (hn g o e)⟩⟩
theorem FrsIs.keep {Mu Nu:Nat->Prop}{w w':World}{A:Option Addr}{c:Nat}{vs:List FrV}(h:FrsIs Mu w A c vs)(hg:GrowBut Nu w w')(hn:∀k,Nu k->k<w.heap.size->Mu k):FrsIs Mu w' A c vs :=
 have hg2:GrowBut Mu w w':=hg.more hn
 ⟨h.row.keepG hg2 (fun g o e=>(h.out g o e).1),h.out,h.nil,fun v hv=>⟨GrowBut.inB hg2 (h.bys v hv).1 (fun g o e _=>(h.bys v hv).2 g o e),(h.bys v hv).2⟩⟩
theorem FrsIs.grow {Mu:Nat->Prop}{w w':World}{A:Option Addr}{c:Nat}{vs:List FrV}(h:FrsIs Mu w A c vs)(hB:Below w.heap.size w w'):FrsIs Mu w' A c vs:=h.keep (GrowBut.below (Mu:=fun _=>False) hB) (fun _ h _=>h.elim)
theorem fclone_gives (w:World)(A:Option Addr)(c:Nat)(vs:List FrV)(hx:InG w w.heap.size 7 A vs.length c (vsC vs))(hl:vs.length<=10000) :
  Calls Tryz.prog 158 #[.slice A vs.length c] w fun e w'=>∃v,e = .returned v/\w'.ownsRow w.heap.size 163 7 v vs.length (vsC vs)/\Below w.heap.size w w':=by
 rcases A with _|ad
 ·have hc:=hx.nil rfl
  subst hc
  have hle:=hx.le
  obtain rfl:vs=[]:=qF (by omega)
  have hq:=fun W=>run_eq_nil (P:=Tryz.prog) W 102 163 none 0 0 Tryz.underlying102
  go_enter Tryz.func158,Tryz.ntmps158
  go_wp2
  go_ret
  exact⟨_,rfl,World.ownsRow_nil _ _ _ _,Below.refl _ _⟩
 ·have e0:(w.alloc (.cells #[] 163)).ownsRow w.heap.size 163 7 (.slice (some ⟨w.heap.size,0,none⟩) 0 0) 0 []:=World.ownsRow_lit w #[] 0 (zG _) (by unfold maxLen;omega) rfl
  have hB0:Below w.heap.size w (w.alloc (.cells #[] 163)):=(Below.refl _ w).alloc (zG _) _
  have h1:=hx.below hB0
  have hq:=fun W=>run_eq_nil (P:=Tryz.prog) W 102 163 (some ad) vs.length c Tryz.underlying102
  go_enter Tryz.func158,Tryz.ntmps158
  go_wp2_with (at_builtin;refine wp_appG rfl elFrame (.tmp 5) (.tmp 6) rfl w.heap.size (.slice (some ⟨w.heap.size,0,none⟩) 0 0) 0 [] rfl e0 _ (some ad) vs.length c (vsC vs) rfl h1 (by unfold maxLen;omega) (by omega) (by simp) ?_;intro v1 w1 own1 hg1)
  go_ret
  rw[zQ,qK] at own1
  exact⟨_,rfl,own1,hB0.trans (grown_below hg1 hB0.size (ownG_ge e0))⟩
def FrP.sum (x:FrP):Nat:=fSum x.e x.i x.p x.f x.z x.n x.y
def linkOf (fs:List FrP):Nat:=match fs.getLast? with|some x=>x.sum|none=>0
theorem link_gives (w:World)(A:Option Addr)(c:Nat)(vs:List FrV)(hx:InG w w.heap.size 7 A vs.length c (vsC vs))(hb:∀v∈vs,InB w w.heap.size v.2.1 v.2.2 v.1.y)(hl:vs.length<=10000) :
  Calls Tryz.prog 104 #[.slice A vs.length c] w fun e w'=>e = .returned (.int .u32 (linkOf (vs.map (·.1)):Int))/\Below w.heap.size w w':=by
 rcases Nat.eq_zero_or_pos vs.length with h0|h0
 ·obtain rfl:vs=[]:=qF h0
  have hle:=hx.le
  go_enter Tryz.func104,Tryz.ntmps104
  go_wp2
  go_ret
  exact⟨rfl,Below.refl _ _⟩
 ·obtain⟨g,o,rfl,hg,hr⟩:=hx.lies h0
  have hel:=hx.elem (vs.length - 1) (by omega)
  rw[vsC_elem vs (vs.length - 1) (by omega)] at hel
  obtain⟨v,hv⟩:∃v,v=vs[vs.length - 1]'(by omega):=⟨_,rfl⟩
  have hm:v∈vs:=by rw[hv];exact qJ _
  have hlk:linkOf (vs.map (·.1))=v.1.sum:=by
   unfold linkOf
   rw[List.getLast?_map,List.getLast?_eq_getElem?,zI (by omega),<-hv]
   rfl
  rw[hlk]
  rw[<-hv] at hel
  have hle:=hx.le
  have HS:=fsum_gives v.1.e v.1.i v.1.p v.1.f v.1.z v.1.n v.2.1 v.2.2 v.1.y w (hb v hm)
  have h7:v.arr.toList.length=7:=rfl
  have hwn:IntKind.i64.wrap ((vs.length:Int) - 1)=((vs.length - 1:Nat):Int):=by rw[wrap_i64_fr _ (by omega) (by omega)];omega
  have e1:(.agg v.arr.toList.toArray:Value) = .agg (frCells v.1.e v.1.i v.1.p v.1.f v.1.z v.1.n v.2.1 v.1.y.length v.2.2):=rfl
  have hsum:v.1.sum=fSum v.1.e v.1.i v.1.p v.1.f v.1.z v.1.n v.1.y:=rfl
  rw[<-hsum,<-e1] at HS
  generalize fErr v.1.i v.1.p v.1.f v.1.z v.1.y=er at HS
  generalize v.1.sum=S at *
  generalize v.arr.toList=C at *
  clear hsum e1 hlk hv hm hb hr hx
  generalize hn:vs.length=n at *
  have hlt:n - 1<n:=by omega
  go_enter Tryz.func104,Tryz.ntmps104
  go_wp2_with (first
   | (refine wp_exec rfl (x_loadM rowFrame hel h7 rfl rfl) ?_)
   | (go_at_call 150;refine HS.mono ?_;rintro e w2 ⟨rfl,hB2⟩))
  go_ret
  exact⟨rfl,hB2⟩
def frW (x:FrP):List (Nat×List UInt8):=wrL (2+9*x.i.toNat) (fEnc x.e x.i x.p x.f x.z x.n x.y) 9
def frsW (fs:List FrP):List (Nat×List UInt8):=(fs.map frW).flatten
theorem frW_length (x:FrP):(frW x).length=9:=wrL_length _ _ _
theorem frsW_length:∀fs:List FrP,(frsW fs).length=9*fs.length
 | []=>rfl
 | x::fs=>by
  have e:frsW (x::fs)=frW x++frsW fs:=rfl
  rw[e,zY,frW_length,frsW_length fs,zN]
  omega
theorem frsW_drop (fs:List FrP)(k:Nat)(hk:k<fs.length):frsW (fs.drop k)=frW fs[k] ++ frsW (fs.drop (k+1)):=by
 rw[List.drop_eq_getElem_cons hk]
 rfl
theorem cut_fromF {ρ:Operand->Value}{w:World}{o:Oper}{x y:Operand}{g n c m:Nat}(ho:o.op = .slice 102 x (some y) none none)(h1:ρ x = .slice (some ⟨g,0,none⟩) n c)(h2:ρ y = .int .i64 (m:Int))(hm:m<n)(hc:n<=c) :
  (execOp ρ o).run Tryz.prog w = .ok (.value (.slice (some ⟨g,m*7,none⟩) (n - m) (c - m))) w:=by
 have ht:Tryz.prog.underlying 102=some (.slice (Tryz.prog.elem 102)):=by kernel_rfl
 have hq:(Tryz.prog.info? (Tryz.prog.elem 102)).map (·.size)=some 7:=by kernel_rfl
 have h3:m<=n:=by omega
 have h4:¬ c=m:=by omega
 simp[execOp,ho,h1,h2,go_sem,run_sliceAt_slice _ _ _ _ _ _ ht,Result.andThen,h3,h4]
section
variable (w:World)(l d many lb mb:Nat)(s:DS)(fr pg:Int)(sr ep:Nat)(sz:Int)
theorem app1G_gives (A0:Option Addr)(n0 c0 fg fc:Nat)(vs:List FrV)(hD:DkS w d many s)(hO:s.Ok)(hl:s.xs.length<=700000)(hlg:BlkIs w l 104 (lgC (some ⟨d,0,none⟩) fr pg sr ep sz A0 n0 c0))(hlb:BlkIs w lb 71 #[.pointer (some ⟨l,0,none⟩)])(hmb:BlkIs w mb 102 #[.slice (some ⟨fg,0,none⟩) vs.length fc])
  (hx:InG w w.heap.size 7 (some ⟨fg,0,none⟩) vs.length fc (vsC vs)) (hb:∀v∈vs,InB w w.heap.size v.2.1 v.2.2 v.1.y/\∀g o,v.2.1=some ⟨g,o,none⟩->g≠d) (hn0:n0<vs.length) (hN:vs.length<=2000)
  (hld:l≠d) (hlbd:lb≠d) (hmbd:mb≠d) (hfgd:fg≠d) (hpl:planOk fr pg=true) (hNf:(vs.length:Int)<=fr)
  (hgood:∀j (h:j<vs.length),n0<=j->(vs[j]).1.i=(j:Int)/\frOk (vs[j]).1.y.length (vs[j]).1.i (vs[j]).1.p (vs[j]).1.f (vs[j]).1.z=true) (hmany:2+9*vs.length<=many) (hmax:many<=1000000) :
  Calls Tryz.prog 159 #[.pointer (some ⟨mb,0,none⟩),.pointer (some ⟨lb,0,none⟩)] w fun e' w'=>e' = .returned (.int .i64 (wrs s (frsW ((vs.map (·.1)).drop n0))).2)/\DkS w' d many (wrs s (frsW ((vs.map (·.1)).drop n0))).1/\w.grownBy w' (some d):=by
 obtain⟨N,hNN⟩:∃N,N=vs.length:=⟨_,rfl⟩
 obtain⟨L,hL⟩:∃L,L=frsW ((vs.map (·.1)).drop n0):=⟨_,rfl⟩
 rw[<-hL]
 have HL:=Lib.hid hL
 clear hL
 have hcle:=hx.le
 have hcmx:=hx.max
 have hElem:∀j (h:j<vs.length),w.rangeAt fg (j*7) (vs[j]).arr.toList:=fun j h=>by
  have:=hx.elem j h
  rw[vsC_elem vs j h,qK] at this
  exact this
 have hfg:fg<w.heap.size:=by
  obtain⟨g',o',e,hg,_⟩:=hx.lies (by omega)
  injection e with e
  injection e with e1 e2
  omega
 rw[<-hNN] at hmb hn0 hN hNf hmany hcle
 have HNN:=Lib.hid hNN
 clear hNN hx
 have hB0:Below w.heap.size w w.drew:=(Below.refl _ _).drew
 have T0:∀W,Below w.heap.size w W->W.cell? ⟨mb,0,none⟩=some (.slice (some ⟨fg,0,none⟩) N fc):=fun W hW=>(hmb.below hW hmb.lt).boxed
 have T1:∀W,Below w.heap.size w W->W.cell? ⟨lb,0,none⟩=some (.pointer (some ⟨l,0,none⟩)):=fun W hW=>(hlb.below hW hlb.lt).boxed
 have T6:∀W,Below w.heap.size w W->W.cell? ⟨l,6,none⟩=some (.slice A0 n0 c0):=fun W hW=>by rw[(hlg.below hW hlg.lt).cell];rfl
 have hdl:=hD.lt
 have hll:=hlg.lt
 have hlbl:=hlb.lt
 go_enter Tryz.func159,Tryz.ntmps159
 go_wp2_with fail
 refine RegF.start (fun W=>Below w.heap.size w W) 99 (by kernel_rfl) ?_
 refine RegF.t0 0 (.slice (some ⟨fg,0,none⟩) N fc) rfl hB0 (fun W hW=>by have q:=T0 W hW;go_simp) ?_
 simp only[zD,zB,Act.put,zA,zF,zE]
 refine RegF.t0 1 (.pointer (some ⟨l,0,none⟩)) rfl hB0 (fun W hW=>by have q:=T1 W hW;go_simp) ?_
 simp only[zD,zC,zB,Act.put,zA,zF,zE]
 refine RegF.t0 2 (.pointer (some ⟨l,0,none⟩)) rfl hB0 (fun W hW=>by go_simp) ?_
 simp only[zD,zC,zB,Act.put,zA,zF,zE]
 refine RegF.t0 3 (.pointer (some ⟨l,6,none⟩)) rfl hB0 (fun W hW=>by go_simp) ?_
 simp only[zD,zC,zB,Act.put,zA,zF,zE]
 refine RegF.t0 4 (.slice A0 n0 c0) rfl hB0 (fun W hW=>by have q:=T6 W hW;go_simp) ?_
 simp only[zD,zC,zB,Act.put,zA,zF,zE]
 refine RegF.t0 5 (.int .i64 (n0:Int)) rfl hB0 (fun W hW=>by go_simp) ?_
 simp only[zD,zC,zB,Act.put,zA,zF,zE]
 refine RegF.t0 6 (.slice (some ⟨fg,n0*7,none⟩) (N - n0) (fc - n0)) rfl hB0 (fun W hW=>by exact cut_fromF rfl rfl rfl hn0 hcle) ?_
 simp only[zD,zC,zB,Act.put,zA,zF,zE]
 refine RegF.t0 7 (.int .i64 ((N - n0:Nat):Int)) rfl hB0 (fun W hW=>by go_simp) ?_
 simp only[zD,zC,zB,Act.put,zA,zF,zE]
 refine RegF.one 8 (by kernel_rfl) (RegF.opV (w':=w.drew) (.int .i64 0) rfl rfl (by go_simp) ⟨fun _=>hB0,RegF.done (by kernel_rfl) ?_⟩)
 simp only[zD,zC,zB,Act.put,zA,zF,zE]
 clear T0 T6 hB0
 go_wp2
 go_loopw [18] (fun i wr=>∃k:Nat,k<=N - n0/\i = .int .i64 (k:Int)/\(∃s':DS,DkS wr d many s'/\s'.Ok/\s'.xs.length<=s.xs.length+9*k/\wrs s L=wrs s' (frsW ((vs.map (·.1)).drop (n0+k))))/\w.grownBy wr (some d)) (fun i _=>(N - n0) - (intOf i).toNat)
 case atStart=>exact⟨0,by omega,rfl,⟨s,hD.grow (Below.refl _ _).drew,hO,by omega,by rw[HL.out];rfl⟩,grownBy_drew w _⟩
 case round =>
  obtain⟨k,hk,rfl,⟨s',hDr,hOr,hlr,her⟩,hGr⟩:=hrel
  have hGb:GrowBut (fun k=>k=d) w wr:=GrowBut.grown hGr (fun r e=>by cases e;exact .inl rfl)
  by_cases hlt:k<N - n0
  ·have hj:n0+k<vs.length:=by have:=HNN.out;omega
   obtain⟨hgi,hok⟩:=hgood (n0+k) hj (by omega)
   have hel:=hElem (n0+k) hj
   obtain⟨hin,hne⟩:=hb (vs[n0+k]) (qJ hj)
   have hdr:=frsW_drop (vs.map (·.1)) (n0+k) (by rw[qD];exact hj)
   rw[List.getElem_map] at hdr
   rw[hdr,wrs_append] at her
   generalize vs[n0+k]=v at hgi hok hel hin hne her hdr
   obtain⟨⟨e,i,p,f,z,nl,y⟩,Ay,ky⟩:=v
   simp only at hgi hok hin hne
   subst hgi
   obtain⟨J,hJ⟩:∃J,J=n0+k:=⟨_,rfl⟩
   have hel2:wr.rangeAt fg (n0*7+k*7) (frCells e (J:Int) p f z nl Ay y.length ky).toList:=fun j u hj=>by
    have h1:=hel j u (by rw[<-hJ];exact hj)
    have h2:(n0+k)*7=n0*7+k*7:=by omega
    rw[h2] at h1
    exact hGb.cell h1 hfg hfgd
   rw[<-hJ] at hok her hdr
   have hyr:=hGb.inB hin (fun g o e _=>hne g o e)
   have hlgr:=hGb.blk hlg hld
   have hlbr:=hGb.blk hlb hlbd
   have hJf:((J:Nat):Int)<fr:=by omega
   have hJm:2+9*J+9<=many:=by omega
   have HJ:=Lib.hid hJ
   have HER:=Lib.hid her
   have HDR:=Lib.hid hdr
   have hwk:IntKind.i64.wrap ((k:Int)+1)=(k:Int)+1:=wrap_i64_fr _ (by omega) (by omega)
   have hwrs:=hGr.size
   clear hel hin hne her hdr hgood hElem hb hlg hlb hmb hJ
   have bz:=BlkIs.new wr 163 #[.int .u64 0,.int .i64 0,.int .i64 0,.bool false,.int .i64 0,.int .u32 0,.slice none 0 0]
   have hBa:Below wr.heap.size wr (wr.alloc (.cells #[.int .u64 0,.int .i64 0,.int .i64 0,.bool false,.int .i64 0,.int .u32 0,.slice none 0 0] 163)):=(Below.refl _ _).alloc (zG _) _
   have b3:=bz.setRow (frCells e (J:Int) p f z nl Ay y.length ky)
   have hB3:Below wr.heap.size wr ((wr.alloc (.cells #[.int .u64 0,.int .i64 0,.int .i64 0,.bool false,.int .i64 0,.int .u32 0,.slice none 0 0] 163)).setRow wr.heap.size (frCells e (J:Int) p f z nl Ay y.length ky)):=below_setRow hBa (zG _) _
   go_wp2_with (first
    | (refine wp_exec rfl (x_loadM rowFrame hel2 rfl rfl rfl) ?_)
    | (refine wp_storeW rfl 163 (.tmp 4) (.tmp 21) rfl wr.heap.size rfl rfl rowFrame bz rfl rfl (frCells_one _ _ _ _ _ _ _ _ _) ?_))
   have hD3:=hDr.grow hB3
   have hlg3:=hlgr.below hB3 hlgr.lt
   have hlb3:=hlbr.below hB3 hlbr.lt
   have hy3:=(hyr.below hB3).more hB3.size
   have hG3:w.grownBy ((wr.alloc (.cells #[.int .u64 0,.int .i64 0,.int .i64 0,.bool false,.int .i64 0,.int .u32 0,.slice none 0 0] 163)).setRow wr.heap.size (frCells e (J:Int) p f z nl Ay y.length ky)) (some d):=hGr.trans (below_grownBy hB3 d)
   clear hel2 hBa bz T1 hDr hlgr hlbr hyr hGr hGb hB3
   generalize (wr.alloc (.cells #[.int .u64 0,.int .i64 0,.int .i64 0,.bool false,.int .i64 0,.int .u32 0,.slice none 0 0] 163)).setRow wr.heap.size (frCells e (J:Int) p f z nl Ay y.length ky)=W3 at *
   generalize wr.heap.size=fb at *
   have HP:∀W,Calls Tryz.prog 102 #[.agg #[.int .i64 fr,.int .i64 pg],.int .i64 (J:Int)] W fun e w'=>e = .returned (.tuple #[.int .i64 ((2+9*J:Nat):Int),.int .i64 0])/\Below W.heap.size W w':=fun W=>by
    have:=frameAt_gives fr pg (J:Int) W
    have h0:plE (planOk fr pg) (J:Int) fr=0:=by rw[hpl];simp[plE];omega
    unfold atV at this
    rw[h0,if_pos rfl] at this
    rw[show ((2+9*J:Nat):Int)=2+9*(J:Int) by omega]
    exact this
   have T1:∀W,Below W3.heap.size W3 W->W.cell? ⟨lb,0,none⟩=some (.pointer (some ⟨l,0,none⟩)):=fun W hW=>(hlb3.below hW hlb3.lt).boxed
   have P1:∀W,Below W3.heap.size W3 W->W.cell? ⟨l,1,none⟩=some (.int .i64 fr):=fun W hW=>by rw[(hlg3.below hW hlg3.lt).cell];rfl
   have P2:∀W,Below W3.heap.size W3 W->W.cell? ⟨l,2,none⟩=some (.int .i64 pg):=fun W hW=>by rw[(hlg3.below hW hlg3.lt).cell];rfl
   have I1:∀W,Below W3.heap.size W3 W->W.cell? ⟨fb,1,none⟩=some (.int .i64 (J:Int)):=fun W hW=>by rw[(b3.below hW b3.lt).cell];rfl
   have hS0:Below W3.heap.size W3 W3.drew:=(Below.refl _ _).drew
   obtain⟨AT,hAT⟩:∃AT:Int,AT=((2+9*J:Nat):Int):=⟨_,rfl⟩
   rw[<-hAT] at HP
   have HAT:=Lib.hid hAT
   clear hAT
   refine RegF.start (fun W=>Below W3.heap.size W3 W) 99 (by kernel_rfl) ?_
   refine RegF.t0 0 (.pointer (some ⟨l,0,none⟩)) rfl hS0 (fun W hW=>by have q:=T1 W hW;go_simp) ?_
   simp only[zD,zB,Act.put,zA,zF,zE]
   refine RegF.t0 1 (.pointer (some ⟨l,0,none⟩)) rfl hS0 (fun W hW=>by go_simp) ?_
   simp only[zD,zC,zB,Act.put,zA,zF,zE]
   refine RegF.t0 2 (.pointer (some ⟨l,0,none⟩)) rfl hS0 (fun W hW=>by go_simp) ?_
   simp only[zD,zC,zB,Act.put,zA,zF,zE]
   refine RegF.t0 3 (.pointer (some ⟨l,1,none⟩)) rfl hS0 (fun W hW=>by go_simp) ?_
   simp only[zD,zC,zB,Act.put,zA,zF,zE]
   refine RegF.t0 4 (.agg #[.int .i64 fr,.int .i64 pg]) rfl hS0 (fun W hW=>by have q1:=P1 W hW;have q2:=P2 W hW;go_simp) ?_
   simp only[zD,zC,zB,Act.put,zA,zF,zE]
   refine RegF.t0 5 (.pointer (some ⟨fb,1,none⟩)) rfl hS0 (fun W hW=>by go_simp) ?_
   simp only[zD,zC,zB,Act.put,zA,zF,zE]
   refine RegF.t0 6 (.int .i64 (J:Int)) rfl hS0 (fun W hW=>by have q1:=I1 W hW;go_simp) ?_
   simp only[zD,zC,zB,Act.put,zA,zF,zE]
   refine RegF.one 7 (by kernel_rfl) ?_
   refine RegF.opC 102 #[.tmp 27,.tmp 29] #[25,3] rfl rfl rfl (enters_of Tryz.func102 (by kernel_rfl) rfl) #[.agg #[.int .i64 fr,.int .i64 pg],.int .i64 (J:Int)] (by simp only[zJ,zK,zL];rfl) ((HP W3.drew).mono ?_)
   rintro e1 w4 ⟨rfl,hB4⟩
   have hS1:Below W3.heap.size W3 w4:=hS0.trans (hB4.mono (zG _))
   refine⟨_,rfl,fun _=>hS1,?_⟩
   simp only[zD,zC,zB,Act.put,zA,zF,zE]
   refine RegF.one 8 (by kernel_rfl) (RegF.opV (w':=w4) (.tuple #[.int .i64 AT,.int .i64 0]) rfl rfl (by go_simp) ⟨fun _=>hS1,?_⟩)
   simp only[zD,zC,zB,Act.put,zA,zF,zE]
   refine RegF.t0 9 (.int .i64 AT) rfl hS1 (fun W hW=>by go_simp) ?_
   simp only[zD,zC,zB,Act.put,zA,zF,zE]
   refine RegF.t0 10 (.int .i64 0) rfl hS1 (fun W hW=>by go_simp) ?_
   simp only[zD,zC,zB,Act.put,zA,zF,zE]
   refine RegF.one 11 (by kernel_rfl) (RegF.opV (w':=w4) (.int .i64 AT) rfl rfl (by go_simp) ⟨fun _=>hS1,?_⟩)
   simp only[zD,zC,zB,Act.put,zA,zF,zE]
   refine RegF.one 12 (by kernel_rfl) (RegF.opV (w':=w4) (.int .i64 0) rfl rfl (by go_simp) ⟨fun _=>hS1,RegF.done (by kernel_rfl) ?_⟩)
   simp only[zD,zC,zB,Act.put,zA,zF,zE]
   have b4:=b3.below hS1 b3.lt
   have hy4:=(hy3.below hS1).more hS1.size
   have HE:=encode_gives e (J:Int) p f z nl Ay ky y w4 hy4
   have hlen:(fEnc e (J:Int) p f z nl y).length=576:=by
    unfold fEnc
    rw[if_pos hok]
    exact frameB_length ((frOk_iff _ _ _ _ _).1 hok).1
   have hE0:fErr (J:Int) p f z y=0:=by unfold fErr;rw[if_pos hok]
   rw[hE0] at HE
   unfold GivesBE at HE
   rw[hlen] at HE
   have HLEN:=Lib.hid hlen
   clear hlen hE0 hok HP P1 P2 I1 hS0
   go_wp2_with (first
    | (refine wp_loadW rfl 163 (.tmp 4) rfl fb rfl rowFrame b4 rfl ?_)
    | (go_at_call 160;refine HE.mono ?_;rintro e2 w5 ⟨A5,c5,rfl,hin5,hB5⟩;have hB35:=hS1.trans (hB5.mono hS1.size);have t1:=T1 w5 hB35))
   have hJ:=HJ.out
   have hc5:w5.cell? ⟨l,0,none⟩=some (.pointer (some ⟨d,0,none⟩)):=by rw[(hlg3.below hB35 hlg3.lt).cell];rfl
   have HW:=wwriteS_gives w5 l d many s' (hD3.grow hB35) hOr (by omega) hc5 hld (zO hlg3.lt hB35.size) (2+9*J) 9 A5 c5 _ hin5 (by rw[HLEN.out]) (by omega) (by omega) hmax
   rw[HLEN.out,<-HAT.out] at HW
   have hfw:frW ⟨e,(J:Int),p,f,z,nl,y⟩=wrL (2+9*J) (fEnc e (J:Int) p f z nl y) 9:=by simp only[frW,Int.toNat_natCast]
   have hR:=HER.out
   rw[hfw] at hR
   have hO6:(wrs s' (wrL (2+9*J) (fEnc e (J:Int) p f z nl y) 9)).1.Ok:=hOr.wrs
   have hl6:=wrs_len (wrL (2+9*J) (fEnc e (J:Int) p f z nl y) 9) s'
   rw[wrL_length] at hl6
   have hz6:=wrs_err (wrL (2+9*J) (fEnc e (J:Int) p f z nl y) 9) s'
   generalize wrs s' (wrL (2+9*J) (fEnc e (J:Int) p f z nl y) 9)=R at HW hR hO6 hl6 hz6
   obtain⟨s6,q6⟩:=R
   simp only at HW hR hO6 hl6 hz6
   refine HW.mono ?_
   rintro e3 w6 ⟨rfl,hD6,hg6⟩
   have hGE:w.grownBy w6 (some d):=(hG3.trans (below_grownBy hB35 d)).trans hg6
   have HLR:=Lib.hid hR
   clear HE HW T1 hR hfw HER hJ
   rcases hz6 with rfl|rfl
   ·go_wp2
    go_roundw
    case rel =>
     refine⟨k+1,by omega,by simp,⟨s6,hD6,hO6,by omega,?_⟩,hGE⟩
     have h5:wrs s L=_:=HLR.out
     rw[h5,HJ.out]
     first|rfl|(simp;rfl)|simp[Nat.add_assoc]
    case measure=>simp[intOf];omega
   ·go_wp2
    go_ret
    have h6:wrs s L=(s6,140):=by rw[HLR.out,if_neg (by decide)]
    rw[h6]
    exact⟨rfl,hD6,hGE⟩
  ·obtain rfl:k=N - n0:=by omega
   have h6:wrs s L=(s',0):=by
    rw[her,show n0+(N - n0)=(vs.map (·.1)).length by rw[qD,<-HNN.out];omega,List.drop_length]
    rfl
   clear her hgood hElem hb
   go_wp2
   go_ret
   rw[h6]
   exact⟨rfl,hDr,hGr⟩
end
def appD (s:DS)(L1 L2:List (Nat×List UInt8)):DS×Int:=if (wrs s L1).2=0 then (if (synD (wrs s L1).1).2=0 then layD (synD (wrs s L1).1).1 L2 else synD (wrs s L1).1) else wrs s L1
section
variable (w:World)(l d many lb mb:Nat)(s:DS)(fr pg:Int)(sr ep:Nat)(sz:Int)
theorem app2S_gives (A:Option Addr)(n c:Nat)(Am:Option Addr)(nm cm:Nat)(hD:DkS w d many s)(hO:s.Ok)(hl:s.xs.length<=800000)(hlg:BlkIs w l 104 (lgC (some ⟨d,0,none⟩) fr pg sr ep sz A n c))(hlb:BlkIs w lb 71 #[.pointer (some ⟨l,0,none⟩)])(hmb:BlkIs w mb 102 #[.slice Am nm cm])(hld:l≠d)(hok:headOk sz (nm:Int)=true)(hm2:2<=many)(hmax:many<=1000000)(hsr:sr+1<18446744073709551616) :
  Calls Tryz.prog 161 #[.pointer (some ⟨lb,0,none⟩),.pointer (some ⟨mb,0,none⟩)] w fun e w'=>e = .returned (.int .i64 (layD s (wrL ((sr+1) % 2) (hEnc (sr+1) ep sz (nm:Int)) 1)).2)/\DkS w' d many (layD s (wrL ((sr+1) % 2) (hEnc (sr+1) ep sz (nm:Int)) 1)).1/\(∃sr' ep',(((layD s (wrL ((sr+1) % 2) (hEnc (sr+1) ep sz (nm:Int)) 1)).2=0/\sr'=sr+1/\ep'=ep)∨(¬ (layD s (wrL ((sr+1) % 2) (hEnc (sr+1) ep sz (nm:Int)) 1)).2=0/\sr'=sr/\ep'=ep))/\BlkIs w' l 104 (lgC (some ⟨d,0,none⟩) fr pg sr' ep' sz A n c))/\GrowBut (fun k=>k=d∨k=l) w w':=by
 have HL:=layS_gives w.drew l d many s (sr+1) ep sz (nm:Int) fr pg sr ep sz A n c (hD.grow (Below.refl _ _).drew) hO hl hlg.drew hld hok hm2 hmax
 generalize layD s (wrL ((sr+1) % 2) (hEnc (sr+1) ep sz (nm:Int)) 1)=R at HL ⊢
 obtain⟨s6,z⟩:=R
 simp only at HL ⊢
 rw[show ((sr+1:Nat):Int)=(sr:Int)+1 by omega] at HL
 have hw1:IntKind.u64.wrap ((sr:Int)+1)=(sr:Int)+1:=by rw[IntKind.wrap_u64];omega
 have T3:∀W,BlkIs W l 104 (lgC (some ⟨d,0,none⟩) fr pg sr ep sz A n c)->W.cell? ⟨l,3,none⟩=some (.int .u64 (sr:Int)):=fun W hW=>by rw[hW.cell];rfl
 have T4:∀W,BlkIs W l 104 (lgC (some ⟨d,0,none⟩) fr pg sr ep sz A n c)->W.cell? ⟨l,4,none⟩=some (.int .u64 (ep:Int)):=fun W hW=>by rw[hW.cell];rfl
 have T5:∀W,BlkIs W l 104 (lgC (some ⟨d,0,none⟩) fr pg sr ep sz A n c)->W.cell? ⟨l,5,none⟩=some (.int .i64 sz):=fun W hW=>by rw[hW.cell];rfl
 have hS0:BlkIs w.drew l 104 (lgC (some ⟨d,0,none⟩) fr pg sr ep sz A n c)/\BlkIs w.drew lb 71 #[.pointer (some ⟨l,0,none⟩)]/\BlkIs w.drew mb 102 #[.slice Am nm cm]:=⟨hlg.drew,hlb.drew,hmb.drew⟩
 go_enter Tryz.func161,Tryz.ntmps161
 go_wp2_with fail
 refine RegM.start (fun W=>BlkIs W l 104 (lgC (some ⟨d,0,none⟩) fr pg sr ep sz A n c)/\BlkIs W lb 71 #[.pointer (some ⟨l,0,none⟩)]/\BlkIs W mb 102 #[.slice Am nm cm]) [17,18] (by kernel_rfl) ?_
 refine RegM.take1 0 (.pointer (some ⟨l,0,none⟩)) rfl (by kernel_rfl) (by kernel_rfl) (by kernel_rfl) (by kernel_rfl) (by kernel_rfl) rfl (fun _ _ _ h=>h) hS0 (RegF.yld rfl (fun W hW=>by obtain⟨q1,q2,q3⟩:=hW;have q:=q2.boxed;go_simp)) ?_
 simp only[zD,zB,Act.put,zA,zF,zE]
 refine RegM.take1 1 (.pointer (some ⟨l,0,none⟩)) rfl (by kernel_rfl) (by kernel_rfl) (by kernel_rfl) (by kernel_rfl) (by kernel_rfl) rfl (fun _ _ _ h=>h) hS0 (RegF.yld rfl (fun W hW=>by obtain⟨q1,q2,q3⟩:=hW;have q:=q2.boxed;go_simp)) ?_
 simp only[zD,zC,zB,Act.put,zA,zF,zE]
 refine RegM.take1 2 (.pointer (some ⟨l,0,none⟩)) rfl (by kernel_rfl) (by kernel_rfl) (by kernel_rfl) (by kernel_rfl) (by kernel_rfl) rfl (fun _ _ _ h=>h) hS0 (RegF.yld rfl (fun W hW=>by go_simp)) ?_
 simp only[zD,zC,zB,Act.put,zA,zF,zE]
 refine RegM.take1 3 (.pointer (some ⟨l,3,none⟩)) rfl (by kernel_rfl) (by kernel_rfl) (by kernel_rfl) (by kernel_rfl) (by kernel_rfl) rfl (fun _ _ _ h=>h) hS0 (RegF.yld rfl (fun W hW=>by go_simp)) ?_
 simp only[zD,zC,zB,Act.put,zA,zF,zE]
 refine RegM.take1 4 (.int .u64 (sr:Int)) rfl (by kernel_rfl) (by kernel_rfl) (by kernel_rfl) (by kernel_rfl) (by kernel_rfl) rfl (fun _ _ _ h=>h) hS0 (RegF.yld rfl (fun W hW=>by obtain⟨q1,q2,q3⟩:=hW;have q:=T3 W q1;go_simp)) ?_
 simp only[zD,zC,zB,Act.put,zA,zF,zE]
 refine RegM.take1 5 (.int .u64 ((sr:Int)+1)) rfl (by kernel_rfl) (by kernel_rfl) (by kernel_rfl) (by kernel_rfl) (by kernel_rfl) rfl (fun _ _ _ h=>h) hS0 (RegF.yld rfl (fun W hW=>by go_simp)) ?_
 simp only[zD,zC,zB,Act.put,zA,zF,zE]
 refine RegM.take1 6 (.pointer (some ⟨l,0,none⟩)) rfl (by kernel_rfl) (by kernel_rfl) (by kernel_rfl) (by kernel_rfl) (by kernel_rfl) rfl (fun _ _ _ h=>h) hS0 (RegF.yld rfl (fun W hW=>by obtain⟨q1,q2,q3⟩:=hW;have q:=q2.boxed;go_simp)) ?_
 simp only[zD,zC,zB,Act.put,zA,zF,zE]
 refine RegM.take1 7 (.pointer (some ⟨l,0,none⟩)) rfl (by kernel_rfl) (by kernel_rfl) (by kernel_rfl) (by kernel_rfl) (by kernel_rfl) rfl (fun _ _ _ h=>h) hS0 (RegF.yld rfl (fun W hW=>by go_simp)) ?_
 simp only[zD,zC,zB,Act.put,zA,zF,zE]
 refine RegM.take1 8 (.pointer (some ⟨l,4,none⟩)) rfl (by kernel_rfl) (by kernel_rfl) (by kernel_rfl) (by kernel_rfl) (by kernel_rfl) rfl (fun _ _ _ h=>h) hS0 (RegF.yld rfl (fun W hW=>by go_simp)) ?_
 simp only[zD,zC,zB,Act.put,zA,zF,zE]
 refine RegM.take1 9 (.int .u64 (ep:Int)) rfl (by kernel_rfl) (by kernel_rfl) (by kernel_rfl) (by kernel_rfl) (by kernel_rfl) rfl (fun _ _ _ h=>h) hS0 (RegF.yld rfl (fun W hW=>by obtain⟨q1,q2,q3⟩:=hW;have q:=T4 W q1;go_simp)) ?_
 simp only[zD,zC,zB,Act.put,zA,zF,zE]
 refine RegM.take1 10 (.pointer (some ⟨l,0,none⟩)) rfl (by kernel_rfl) (by kernel_rfl) (by kernel_rfl) (by kernel_rfl) (by kernel_rfl) rfl (fun _ _ _ h=>h) hS0 (RegF.yld rfl (fun W hW=>by obtain⟨q1,q2,q3⟩:=hW;have q:=q2.boxed;go_simp)) ?_
 simp only[zD,zC,zB,Act.put,zA,zF,zE]
 refine RegM.take1 11 (.pointer (some ⟨l,0,none⟩)) rfl (by kernel_rfl) (by kernel_rfl) (by kernel_rfl) (by kernel_rfl) (by kernel_rfl) rfl (fun _ _ _ h=>h) hS0 (RegF.yld rfl (fun W hW=>by go_simp)) ?_
 simp only[zD,zC,zB,Act.put,zA,zF,zE]
 refine RegM.take1 12 (.pointer (some ⟨l,5,none⟩)) rfl (by kernel_rfl) (by kernel_rfl) (by kernel_rfl) (by kernel_rfl) (by kernel_rfl) rfl (fun _ _ _ h=>h) hS0 (RegF.yld rfl (fun W hW=>by go_simp)) ?_
 simp only[zD,zC,zB,Act.put,zA,zF,zE]
 refine RegM.take1 13 (.int .i64 sz) rfl (by kernel_rfl) (by kernel_rfl) (by kernel_rfl) (by kernel_rfl) (by kernel_rfl) rfl (fun _ _ _ h=>h) hS0 (RegF.yld rfl (fun W hW=>by obtain⟨q1,q2,q3⟩:=hW;have q:=T5 W q1;go_simp)) ?_
 simp only[zD,zC,zB,Act.put,zA,zF,zE]
 refine RegM.take1 14 (.slice Am nm cm) rfl (by kernel_rfl) (by kernel_rfl) (by kernel_rfl) (by kernel_rfl) (by kernel_rfl) rfl (fun _ _ _ h=>h) hS0 (RegF.yld rfl (fun W hW=>by obtain⟨q1,q2,q3⟩:=hW;have q:=q3.boxed;go_simp)) ?_
 simp only[zD,zC,zB,Act.put,zA,zF,zE]
 refine RegM.take1 15 (.int .i64 (nm:Int)) rfl (by kernel_rfl) (by kernel_rfl) (by kernel_rfl) (by kernel_rfl) (by kernel_rfl) rfl (fun _ _ _ h=>h) hS0 (RegF.yld rfl (fun W hW=>by go_simp)) ?_
 simp only[zD,zC,zB,Act.put,zA,zF,zE]
 refine RegM.take1 16 (.agg #[.int .u64 ((sr:Int)+1),.int .u64 (ep:Int),.int .i64 sz,.int .i64 (nm:Int)]) rfl (by kernel_rfl) (by kernel_rfl) (by kernel_rfl) (by kernel_rfl) (by kernel_rfl) rfl (fun _ _ _ h=>h) hS0 (RegF.yld rfl (fun W hW=>by go_simp)) ?_
 simp only[zD,zC,zB,Act.put,zA,zF,zE]
 refine RegM.one 17 (by kernel_rfl) ?_
 refine RegF.opC 60 #[.tmp 3,.tmp 19] #[71,106] rfl rfl rfl (enters_of Tryz.func60 (by kernel_rfl) rfl) #[.pointer (some ⟨l,0,none⟩),.agg #[.int .u64 ((sr:Int)+1),.int .u64 (ep:Int),.int .i64 sz,.int .i64 (nm:Int)]] (by simp only[zJ,zK,zL];rfl) (HL.mono ?_)
 rintro e w2 ⟨rfl,hD2,⟨sr',ep',hq,hb2⟩,hG2⟩
 refine⟨_,rfl,fun h=>(by cases h),?_⟩
 simp only[zD,zC,zB,Act.put,zA,zF,zE]
 refine RegM.one 18 (by kernel_rfl) (RegF.opV (w':=w2) (.int .i64 z) rfl rfl (by go_simp) ⟨fun h=>(by cases h),RegM.done (by kernel_rfl) ?_⟩)
 simp only[zD,zC,zB,Act.put,zA,zF,zE]
 have hG3:GrowBut (fun k=>k=d∨k=l) w w2:=(GrowBut.grown (grownBy_drew w none) (fun r e=>by cases e)).trans hG2
 have HQ:=Lib.hid hq
 clear HL T3 T4 T5 hS0 hq
 go_wp2
 go_ret
 exact⟨rfl,hD2,⟨sr',ep',HQ.out,hb2⟩,hG3⟩
end
section
variable (w:World)(l d many lb mb szb:Nat)(s:DS)(fr pg:Int)(sr ep:Nat)(sz:Int)
theorem appSG_gives (A0:Option Addr)(n0 c0 fg fc:Nat)(vs:List FrV)(z:Int)(hD:DkS w d many s)(hO:s.Ok)(hl:s.xs.length<=600000)(hlg:BlkIs w l 104 (lgC (some ⟨d,0,none⟩) fr pg sr ep sz A0 n0 c0))(hlb:BlkIs w lb 71 #[.pointer (some ⟨l,0,none⟩)])(hmb:BlkIs w mb 102 #[.slice (some ⟨fg,0,none⟩) vs.length fc])(hsb:BlkIs w szb 3 #[.int .i64 z])
  (hx:InG w w.heap.size 7 (some ⟨fg,0,none⟩) vs.length fc (vsC vs)) (hb:∀v∈vs,InB w w.heap.size v.2.1 v.2.2 v.1.y/\∀g o,v.2.1=some ⟨g,o,none⟩->g≠d) (hn0:n0<vs.length) (hN:vs.length<=2000)
  (hld:l≠d) (hlbd:lb≠d) (hmbd:mb≠d) (hsbd:szb≠d) (hfgd:fg≠d) (n1:l≠lb) (n2:l≠mb) (n3:l≠szb) (hpl:planOk fr pg=true) (hNf:(vs.length:Int)<=fr)
  (hgood:∀j (h:j<vs.length),n0<=j->(vs[j]).1.i=(j:Int)/\frOk (vs[j]).1.y.length (vs[j]).1.i (vs[j]).1.p (vs[j]).1.f (vs[j]).1.z=true) (hoh:headOk sz (vs.length:Int)=true) (hmany:2+9*vs.length<=many) (hmax:many<=1000000) (hsr:sr+1<18446744073709551616) :
  Calls Tryz.prog 97 #[.slice (some ⟨w.heap.size,0,none⟩) 4 4] (w.alloc (.cells (apCs lb mb szb d) 38)) fun e w'=>∃x:Int,e = .returned (.int .i64 x)/\x=(appD s (frsW ((vs.map (·.1)).drop n0)) (wrL ((sr+1) % 2) (hEnc (sr+1) ep sz (vs.length:Int)) 1)).2/\DkS w' d many (appD s (frsW ((vs.map (·.1)).drop n0)) (wrL ((sr+1) % 2) (hEnc (sr+1) ep sz (vs.length:Int)) 1)).1 /\
   ((x=0/\BlkIs w' l 104 (lgC (some ⟨d,0,none⟩) fr pg (sr+1) ep z (some ⟨fg,0,none⟩) vs.length fc))∨(¬ x=0/\BlkIs w' l 104 (lgC (some ⟨d,0,none⟩) fr pg sr ep sz A0 n0 c0)))/\GrowBut (fun k=>k=d∨k=l) w w':=by
 have hdl:=hD.lt
 have hll:=hlg.lt
 have q1:=hlb.lt
 have q2:=hmb.lt
 have q3:=hsb.lt
 obtain⟨V,hV⟩:∃V,V=w.alloc (.cells (apCs lb mb szb d) 38):=⟨_,rfl⟩
 have hBV:Below w.heap.size w V:=by rw[hV];exact(Below.refl _ w).alloc (zG _) _
 have f0:BlkIs V w.heap.size 38 (apCs lb mb szb d):=by rw[hV];exact BlkIs.new w _ _
 rw[<-hV]
 clear hV
 have H1:=app1G_gives V l d many lb mb s fr pg sr ep sz A0 n0 c0 fg fc vs (hD.grow hBV) hO (by omega) (hlg.below hBV hll) (hlb.below hBV q1) (hmb.below hBV q2) (hx.grow hBV) (fun v hv=>⟨((hb v hv).1.below hBV).more hBV.size,(hb v hv).2⟩) hn0 hN hld hlbd hmbd hfgd hpl hNf hgood hmany hmax
 have hfl:=frsW_length ((vs.map (·.1)).drop n0)
 rw[List.length_drop,qD] at hfl
 have hwl:=wrs_len (frsW ((vs.map (·.1)).drop n0)) s
 rw[hfl] at hwl
 clear hfl
 generalize frsW ((vs.map (·.1)).drop n0)=L1 at *
 generalize hL2:wrL ((sr+1) % 2) (hEnc (sr+1) ep sz (vs.length:Int)) 1=L2
 obtain⟨r1,hr1⟩:∃r1,r1=wrs s L1:=⟨_,rfl⟩
 obtain⟨r2,hr2⟩:∃r2,r2=synD r1.1:=⟨_,rfl⟩
 obtain⟨r3,hr3⟩:∃r3,r3=layD r2.1 L2:=⟨_,rfl⟩
 have hO1:r1.1.Ok:=by rw[hr1];exact hO.wrs
 have hO2:r2.1.Ok:=by rw[hr2];exact hO1.syn
 have hl1:r1.1.xs.length<=700000:=by rw[hr1];omega
 have hl2:r2.1.xs.length<=700000:=by
  rw[hr2]
  unfold synD
  split
  ·exact hl1
  ·exact Nat.zero_le _
 have hA:appD s L1 L2=if r1.2=0 then (if r2.2=0 then r3 else r2) else r1:=by
  rw[hr3,hr2,hr1]
  rfl
 rw[<-hr1] at H1
 rw[hA]
 clear hA hr1 hwl hO hx hb hgood
 have HS:=steps_gives V w.heap.size 4 (apFs lb mb szb d)
  (fun k W=>(BlkIs W lb 71 #[.pointer (some ⟨l,0,none⟩)]/\BlkIs W mb 102 #[.slice (some ⟨fg,0,none⟩) vs.length fc]/\BlkIs W szb 3 #[.int .i64 z]/\BlkIs W w.heap.size 38 (apCs lb mb szb d)/\GrowBut (fun k=>k=d∨k=l) w W) /\
   (k=0->W=V) /\
   (k=1->r1.2=0/\DkS W d many r1.1/\BlkIs W l 104 (lgC (some ⟨d,0,none⟩) fr pg sr ep sz A0 n0 c0)) /\
   (k=2->r1.2=0/\r2.2=0/\DkS W d many r2.1/\BlkIs W l 104 (lgC (some ⟨d,0,none⟩) fr pg sr ep sz A0 n0 c0)) /\
   (k=3->r1.2=0/\r2.2=0/\r3.2=0/\DkS W d many r3.1/\BlkIs W l 104 (lgC (some ⟨d,0,none⟩) fr pg (sr+1) ep sz A0 n0 c0)) /\
   (k=4->r1.2=0/\r2.2=0/\r3.2=0/\DkS W d many r3.1/\BlkIs W l 104 (lgC (some ⟨d,0,none⟩) fr pg (sr+1) ep z (some ⟨fg,0,none⟩) vs.length fc)))
  (fun x W=>(∃r:DS×Int,r=(if r1.2=0 then (if r2.2=0 then r3 else r2) else r1)/\x=r.2/\DkS W d many r.1)/\BlkIs W l 104 (lgC (some ⟨d,0,none⟩) fr pg sr ep sz A0 n0 c0)/\GrowBut (fun k=>k=d∨k=l) w W) (by show 4<=100;omega)
  (by
   rintro k hk W ⟨⟨_,_,_,h4,_⟩,_⟩
   rw[h4.cell]
   match k,hk with
   | 0,_=>rfl
   | 1,_=>rfl
   | 2,_=>rfl
   | 3,_=>rfl
   | k+4,h=>exact absurd h (by simp[apFs]))
  (by
   rintro k hk W ⟨⟨h1,h2,h3,h4,h5⟩,t0,t1,t2,t3,_⟩
   have hsz:=h5.size
   have m0:some lb≠some d:=fun e=>by injection e with e;exact hlbd e
   have m1:some mb≠some d:=fun e=>by injection e with e;exact hmbd e
   have m2:some szb≠some d:=fun e=>by injection e with e;exact hsbd e
   have m3:some w.heap.size≠some d:=fun e=>by injection e with e;omega
   have m4:some l≠some d:=fun e=>by injection e with e;exact hld e
   have zz (q:Nat) (hq:q≠d) (hq2:l≠q):¬ (q=d∨q=l):=fun e=>by rcases e with e|e;exact hq e;exact hq2 e.symm
   match k,hk with
   | 0,_ =>
    obtain rfl:=t0 rfl
    refine⟨enters_of Tryz.func159 (by kernel_rfl) rfl,H1.mono ?_⟩
    rintro e w2 ⟨rfl,hx,hg2⟩
    have hG2:=h5.trans (GrowBut.grown hg2 (fun r e=>by cases e;exact .inl (.inl rfl)))
    have hlw:=(hlg.below hBV hll).grown hg2 m4
    by_cases hz:r1.2=0
    ·exact .inl ⟨by rw[hz],⟨h1.grown hg2 m0,h2.grown hg2 m1,h3.grown hg2 m2,h4.grown hg2 m3,hG2⟩,(fun e=>by cases e),(fun _=>⟨hz,hx,hlw⟩),(fun e=>by cases e),(fun e=>by cases e),(fun e=>by cases e)⟩
    ·exact .inr ⟨_,hz,rfl,⟨r1,by rw[if_neg hz],rfl,hx⟩,hlw,hG2⟩
   | 1,_ =>
    obtain⟨hz,hDw,hlw⟩:=t1 rfl
    refine⟨enters_of Tryz.func96 (by kernel_rfl) rfl,(syncS_gives W d many r1.1 hDw hO1 (by omega)).mono ?_⟩
    rw[<-hr2]
    rintro e w2 ⟨rfl,hD2,hg2⟩
    have hG2:=h5.trans (GrowBut.grown hg2 (fun r e=>by cases e;exact .inl (.inl rfl)))
    have hlw2:=hlw.grown hg2 m4
    by_cases hz2:r2.2=0
    ·exact .inl ⟨by rw[hz2],⟨h1.grown hg2 m0,h2.grown hg2 m1,h3.grown hg2 m2,h4.grown hg2 m3,hG2⟩,(fun e=>by cases e),(fun e=>by cases e),(fun _=>⟨hz,hz2,hD2,hlw2⟩),(fun e=>by cases e),(fun e=>by cases e)⟩
    ·exact .inr ⟨_,hz2,rfl,⟨r2,by rw[if_pos hz,if_neg hz2],rfl,hD2⟩,hlw2,hG2⟩
   | 2,_ =>
    obtain⟨hz,hz2,hDw,hlw⟩:=t2 rfl
    have H2:=app2S_gives W l d many lb mb r2.1 fr pg sr ep sz A0 n0 c0 (some ⟨fg,0,none⟩) vs.length fc hDw hO2 (by omega) hlw h1 h2 hld hoh (by omega) hmax hsr
    rw[hL2,<-hr3] at H2
    refine⟨enters_of Tryz.func161 (by kernel_rfl) rfl,H2.mono ?_⟩
    rintro e w2 ⟨rfl,hD2,⟨sr',ep',hq,hl2⟩,hG2⟩
    have hG3:=h5.trans hG2
    rcases hq with⟨hz3,rfl,rfl⟩|⟨hz3,rfl,rfl⟩
    ·exact .inl ⟨by rw[hz3],⟨hG2.blk h1 (zz _ hlbd n1),hG2.blk h2 (zz _ hmbd n2),hG2.blk h3 (zz _ hsbd n3),hG2.blk h4 (zz _ (by omega) (by omega)),hG3⟩,(fun e=>by cases e),(fun e=>by cases e),(fun e=>by cases e),(fun _=>⟨hz,hz2,hz3,hD2,hl2⟩),(fun e=>by cases e)⟩
    ·exact .inr ⟨_,hz3,rfl,⟨r3,by rw[if_pos hz,if_pos hz2],rfl,hD2⟩,hl2,hG3⟩
   | 3,_ =>
    obtain⟨hz,hz2,hz3,hDw,hlw⟩:=t3 rfl
    refine⟨enters_of Tryz.func162 (by kernel_rfl) rfl,(app3_gives W l lb mb fr pg (sr+1) ep sz szb (some ⟨d,0,none⟩) A0 n0 c0 (some ⟨fg,0,none⟩) vs.length fc z hlw h1 h2 h3 n1 n2 n3).mono ?_⟩
    rintro e w2 ⟨rfl,rfl,hl2⟩
    have hld':d≠l:=fun e=>hld e.symm
    have hl1:=hlw.drew.set 6 (.slice (some ⟨fg,0,none⟩) vs.length fc)
    have zl:w.heap.size≠l:=by omega
    exact .inl ⟨rfl,⟨(h1.drew.other (fun e=>n1 e.symm) _).other (fun e=>n1 e.symm) _,(h2.drew.other (fun e=>n2 e.symm) _).other (fun e=>n2 e.symm) _,(h3.drew.other (fun e=>n3 e.symm) _).other (fun e=>n3 e.symm) _,(h4.drew.other zl _).other zl _,
     ((h5.trans (GrowBut.grown (grownBy_drew W none) (fun r e=>by cases e))).trans (GrowBut.setCell _ _ _ (.inr rfl))).trans (GrowBut.setCell _ _ _ (.inr rfl))⟩,(fun e=>by cases e),(fun e=>by cases e),(fun e=>by cases e),(fun e=>by cases e),(fun _=>⟨hz,hz2,hz3,((hDw.grow (Below.refl _ _).drew).setOther hlw.drew (by show 7<=64;decide) hld' _ _ rfl).setOther hl1 (by simp;show 7<=64;decide) hld' _ _ rfl,hl2⟩)⟩
   | k+4,h=>exact absurd h (by simp[apFs]))
  ⟨⟨hlb.below hBV q1,hmb.below hBV q2,hsb.below hBV q3,f0,GrowBut.below hBV⟩,(fun _=>rfl),(fun e=>by cases e),(fun e=>by cases e),(fun e=>by cases e),(fun e=>by cases e)⟩
 refine HS.mono ?_
 rintro e w2 (⟨rfl,⟨_,_,_,_,h5⟩,_,_,_,_,r4⟩|⟨x,hx,rfl,⟨r,rfl,rfl,hD2⟩,hl2,h5⟩)
 ·obtain⟨hz,hz2,hz3,hD4,hl4⟩:=r4 rfl
  exact⟨0,rfl,by rw[if_pos hz,if_pos hz2,hz3],by rw[if_pos hz,if_pos hz2];exact hD4,.inl ⟨rfl,hl4⟩,h5⟩
 ·exact⟨_,rfl,rfl,hD2,.inr ⟨hx,hl2⟩,h5⟩
end
def RightC (fr pg s:Int)(n:Nat)(xs:Nat->Int×Option Addr×Nat):Prop:=1<=n/\0<=s/\s<=pg/\∀k,k<n->plE (planOk fr pg) (xs k).1 pg=0
def BoolIff (p:Prop)(e:Ending):Prop:=∃b,e = .returned (.bool b)/\(b=true↔p)
theorem right1G_gives (w:World)(lb l:Nat)(D:Option Addr)(fr pg:Int)(sr ep:Nat)(sz:Int)(A:Option Addr)(n c:Nat)(hlb:BlkIs w lb 71 #[.pointer (some ⟨l,0,none⟩)])(hlg:BlkIs w l 104 (lgC D fr pg sr ep sz A n c))(p:Int)(A2:Option Addr)(c2:Nat)(q:Int)(hp:plE (planOk fr pg) p pg=q) :
  Calls Tryz.prog 192 #[.agg #[.int .i64 p,.slice A2 512 c2],.pointer (some ⟨lb,0,none⟩)] w fun e w'=>e = .returned (.bool (!decide (q=0)))/\Below w.heap.size w w':=by
 obtain⟨W0,hW0⟩:∃W0,W0=w.alloc (.cells #[.int .i64 p,.slice A2 512 c2] 129):=⟨_,rfl⟩
 have hB0:Below w.heap.size w W0:=by rw[hW0];exact(Below.refl _ w).alloc (zG _) _
 have b0:BlkIs W0 w.heap.size 129 #[.int .i64 p,.slice A2 512 c2]:=by rw[hW0];exact BlkIs.new w _ _
 have hlb0:=hlb.below hB0 hlb.lt
 have hlg0:=hlg.below hB0 hlg.lt
 obtain⟨at_,hat⟩:∃at_,at_=if q=0 then 2+9*fr+8*p else 0:=⟨_,rfl⟩
 have HP:∀W,Calls Tryz.prog 121 #[.agg #[.int .i64 fr,.int .i64 pg],.int .i64 p] W fun e w'=>e = .returned (.tuple #[.int .i64 at_,.int .i64 q])/\Below W.heap.size W w':=fun W=>by
  have:=pageAt_gives fr pg p W
  unfold atV at this
  rw[hp,<-hat] at this
  exact this
 clear hat
 go_enter Tryz.func192,Tryz.ntmps192
 go_wp2_with fail
 rw[<-hW0]
 clear hW0
 have hS0:Below W0.heap.size W0 W0.drew:=(Below.refl _ _).drew
 refine RegF.start (fun W=>Below W0.heap.size W0 W) 99 (by kernel_rfl) ?_
 refine RegF.t0 0 (.pointer (some ⟨l,0,none⟩)) rfl hS0 (fun W hW=>by have q:=(hlb0.below hW hlb0.lt).boxed;go_simp) ?_
 simp only[zD,zB,Act.put,zA,zF,zE]
 refine RegF.t0 1 (.pointer (some ⟨l,0,none⟩)) rfl hS0 (fun W hW=>by go_simp) ?_
 simp only[zD,zC,zB,Act.put,zA,zF,zE]
 refine RegF.t0 2 (.pointer (some ⟨l,0,none⟩)) rfl hS0 (fun W hW=>by go_simp) ?_
 simp only[zD,zC,zB,Act.put,zA,zF,zE]
 refine RegF.t0 3 (.pointer (some ⟨l,1,none⟩)) rfl hS0 (fun W hW=>by go_simp) ?_
 simp only[zD,zC,zB,Act.put,zA,zF,zE]
 refine RegF.t0 4 (.agg #[.int .i64 fr,.int .i64 pg]) rfl hS0 (fun W hW=>by have h:=hlg0.below hW hlg0.lt;have q1:W.cell? ⟨l,1,none⟩=some (.int .i64 fr):=(by rw[h.cell];rfl);have q2:W.cell? ⟨l,2,none⟩=some (.int .i64 pg):=(by rw[h.cell];rfl);go_simp) ?_
 simp only[zD,zC,zB,Act.put,zA,zF,zE]
 refine RegF.t0 5 (.pointer (some ⟨w.heap.size,0,none⟩)) rfl hS0 (fun W hW=>by go_simp) ?_
 simp only[zD,zC,zB,Act.put,zA,zF,zE]
 refine RegF.t0 6 (.int .i64 p) rfl hS0 (fun W hW=>by have h:=b0.below hW b0.lt;have q1:W.cell? ⟨w.heap.size,0,none⟩=some (.int .i64 p):=(by rw[h.cell];rfl);go_simp) ?_
 simp only[zD,zC,zB,Act.put,zA,zF,zE]
 refine RegF.one 7 (by kernel_rfl) ?_
 refine RegF.opC 121 #[.tmp 11,.tmp 13] #[25,3] rfl rfl rfl (enters_of Tryz.func121 (by kernel_rfl) rfl) #[.agg #[.int .i64 fr,.int .i64 pg],.int .i64 p] (by simp only[zJ,zK,zL];rfl) ((HP W0.drew).mono ?_)
 rintro e w1 ⟨rfl,hB1⟩
 have hS1:Below W0.heap.size W0 w1:=hS0.trans (hB1.mono (zG _))
 refine⟨_,rfl,fun _=>hS1,?_⟩
 simp only[zD,zC,zB,Act.put,zA,zF,zE]
 refine RegF.one 8 (by kernel_rfl) (RegF.opV (w':=w1) (.tuple #[.int .i64 at_,.int .i64 q]) rfl rfl (by go_simp) ⟨fun _=>hS1,?_⟩)
 simp only[zD,zC,zB,Act.put,zA,zF,zE]
 refine RegF.t0 9 (.int .i64 at_) rfl hS1 (fun W hW=>by go_simp) ?_
 simp only[zD,zC,zB,Act.put,zA,zF,zE]
 refine RegF.t0 10 (.int .i64 q) rfl hS1 (fun W hW=>by go_simp) ?_
 simp only[zD,zC,zB,Act.put,zA,zF,zE]
 refine RegF.one 11 (by kernel_rfl) (RegF.opV (w':=w1) (.int .i64 at_) rfl rfl (by go_simp) ⟨fun _=>hS1,?_⟩)
 simp only[zD,zC,zB,Act.put,zA,zF,zE]
 refine RegF.one 12 (by kernel_rfl) (RegF.opV (w':=w1) (.int .i64 q) rfl rfl (by go_simp) ⟨fun _=>hS1,RegF.done (by kernel_rfl) ?_⟩)
 simp only[zD,zC,zB,Act.put,zA,zF,zE]
 have h:=b0.below hS1 b0.lt
 have q1:w1.cell? ⟨w.heap.size,1,none⟩=some (.slice A2 512 c2):=by rw[h.cell];rfl
 have hBf:=hB0.trans (hS1.mono hB0.size)
 clear HP hp
 by_cases hq:q=0
 ·subst hq
  go_wp2
  go_ret
  exact⟨rfl,hBf⟩
 ·go_wp2
  go_ret
  refine⟨?_,hBf⟩
  simp[hq]
theorem indexG_gives (w:World)(lb g o n c:Nat)(xs:Nat->Int×Option Addr×Nat)(hn:n<=1000)(hx:PwIn w g o n xs)(hg:g<w.heap.size)(bad:Nat->Bool)
  (HF:∀k W,k<n->Below w.heap.size w W->Calls Tryz.prog 192 #[.agg #[.int .i64 (xs k).1,.slice (xs k).2.1 512 (xs k).2.2],.pointer (some ⟨lb,0,none⟩)] W fun e w'=>e = .returned (.bool (bad k))/\Below W.heap.size W w') :
  Calls Tryz.prog 225 #[.slice (some ⟨g,o,none⟩) n c,.func (.func 192) #[] #[.pointer (some ⟨lb,0,none⟩)]] w fun e w'=>(∃r:Int,e = .returned (.int .i64 r)/\((r = -1/\∀k,k<n->bad k=false)∨(0<=r/\∃k,k<n/\bad k=true)))/\Below w.heap.size w w':=by
 have hent:∀args w,(callFunc 192 args).run Tryz.prog w = .ok (.enter 192 args) w:=enters_of Tryz.func192 (by kernel_rfl) rfl
 go_enter Tryz.func225,Tryz.ntmps225
 go_wp2
 go_loopw [8] (fun i wr=>∃k:Nat,k<=n/\i = .int .i64 (k:Int)/\(∀j,j<k->bad j=false)/\Below w.heap.size w wr) (fun i _=>n - (intOf i).toNat)
 case atStart=>exact⟨0,by omega,rfl,(fun j hj=>absurd hj (Nat.not_lt_zero j)),Below.refl _ _⟩
 case round =>
  obtain⟨k,hk,rfl,hno,hB⟩:=hrel
  by_cases hlt:k<n
  ·have hr:=(hx.below hB hg) k hlt
   have HK:=HF k wr hlt hB
   have hwk:IntKind.i64.wrap ((k:Int)+1)=(k:Int)+1:=wrap_i64_fr _ (by omega) (by omega)
   generalize xs k=x at *
   clear HF hx
   go_wp2_with (first
    | (refine wp_exec rfl (x_loadM rowPW hr rfl rfl rfl) ?_))
   refine HK.mono ?_
   rintro e w2 ⟨rfl,hB2⟩
   have hBf:=hB.trans (hB2.mono hB.size)
   have HNO:=Lib.hid hno
   clear hno
   cases hb:bad k
   ·go_wp2
    go_roundw
    case rel =>
     refine⟨k+1,by omega,by simp,fun j hj => ?_,hBf⟩
     by_cases hjk:j<k
     ·exact HNO.out j hjk
     ·obtain rfl:j=k:=by omega
      exact hb
    case measure=>simp[intOf];omega
   ·have HB:=Lib.hid hb
    clear hb
    go_wp2
    go_ret
    exact⟨⟨_,rfl,.inr ⟨by omega,k,hlt,HB.out⟩⟩,hBf⟩
  ·obtain rfl:k=n:=by omega
   have HNO:=Lib.hid hno
   clear HF hno
   go_wp2
   go_ret
   exact⟨⟨_,rfl,.inl ⟨rfl,HNO.out⟩⟩,hB⟩
theorem containsG_gives (w:World)(lb g o n c:Nat)(xs:Nat->Int×Option Addr×Nat)(hn:n<=1000)(hx:PwIn w g o n xs)(hg:g<w.heap.size)(bad:Nat->Bool)
  (HF:∀k W,k<n->Below w.heap.size w W->Calls Tryz.prog 192 #[.agg #[.int .i64 (xs k).1,.slice (xs k).2.1 512 (xs k).2.2],.pointer (some ⟨lb,0,none⟩)] W fun e w'=>e = .returned (.bool (bad k))/\Below W.heap.size W w') :
  Calls Tryz.prog 191 #[.slice (some ⟨g,o,none⟩) n c,.func (.func 192) #[] #[.pointer (some ⟨lb,0,none⟩)]] w fun e w'=>BoolIff (∃k,k<n/\bad k=true) e/\Below w.heap.size w w':=by
 have HI:=indexG_gives w lb g o n c xs hn hx hg bad HF
 clear HF hx
 go_enter Tryz.func191,Tryz.ntmps191
 go_wp2_with (go_at_call 225;refine HI.mono ?_;rintro e w' ⟨⟨r,rfl,hr⟩,hB⟩;have HR:=Lib.hid hr;clear hr)
 have hge:(0<=r)=(∃k,k<n/\bad k=true):=by
  refine propext ?_
  rcases HR.out with⟨rfl,h⟩|⟨h0,h⟩
  ·refine⟨fun h'=>absurd h' (by omega),?_⟩
   rintro⟨k,hk,hb⟩
   rw[h k hk] at hb
   cases hb
  ·exact⟨fun _=>h,fun _=>h0⟩
 go_ret
 refine⟨⟨decide (0<=r),rfl,?_⟩,hB⟩
 rw[decide_eq_true_iff,hge]
theorem lrightG_gives (w:World)(l:Nat)(D:Option Addr)(fr pg:Int)(sr ep:Nat)(sz:Int)(A:Option Addr)(n0 c0:Nat)(hlg:BlkIs w l 104 (lgC D fr pg sr ep sz A n0 c0))(A1:Option Addr)(n c:Nat)(xs:Nat->Int×Option Addr×Nat)(hn:n<=1000)(hA:1<=n->∃g o,A1=some ⟨g,o,none⟩/\PwIn w g o n xs/\g<w.heap.size)
  (s:Int) :
  Calls Tryz.prog 157 #[.pointer (some ⟨l,0,none⟩),.int .i64 s,.slice A1 n c] w fun e w'=>BoolIff (RightC fr pg s n xs) e/\Below w.heap.size w w':=by
 have hB0:Below w.heap.size w (w.alloc (.cells #[.pointer (some ⟨l,0,none⟩)] 71)):=(Below.refl _ w).alloc (zG _) _
 have b0:=BlkIs.new w 71 #[.pointer (some ⟨l,0,none⟩)]
 have hlg0:=hlg.below hB0 hlg.lt
 have k2:(w.alloc (.cells #[.pointer (some ⟨l,0,none⟩)] 71)).cell? ⟨l,2,none⟩=some (.int .i64 pg):=by rw[hlg0.cell];rfl
 rcases Nat.eq_zero_or_pos n with h0|h0
 ·subst h0
  go_enter Tryz.func157,Tryz.ntmps157
  go_wp2
  go_ret
  exact⟨⟨false,rfl,(fun h=>by cases h),fun h=>absurd h.1 (by omega)⟩,hB0⟩
 ·obtain⟨g,o,rfl,hx,hg⟩:=hA h0
  have h0i:(0:Int)<(n:Int):=by omega
  have hBp:∀k,(!decide (plE (planOk fr pg) (xs k).1 pg=0))=true↔¬ plE (planOk fr pg) (xs k).1 pg=0:=fun k=>by simp
  have HC:=containsG_gives (w.alloc (.cells #[.pointer (some ⟨l,0,none⟩)] 71)) w.heap.size g o n c xs hn (hx.below hB0 hg) (by simp;omega) (fun k => !decide (plE (planOk fr pg) (xs k).1 pg=0)) (fun k W hk hB=>right1G_gives W w.heap.size l D fr pg sr ep sz A n0 c0 (b0.below hB b0.lt) (hlg0.below hB hlg0.lt) (xs k).1 (xs k).2.1 (xs k).2.2 _ rfl)
  have HB:Hid (∀k,(!decide (plE (planOk fr pg) (xs k).1 pg=0))=true↔¬ plE (planOk fr pg) (xs k).1 pg=0):=Lib.hid hBp
  clear hx hBp hA
  by_cases hs:0<=s
  ·by_cases hs2:s<=pg
   ·go_enter Tryz.func157,Tryz.ntmps157
    go_wp2_with (go_at_call 191;refine HC.mono ?_;rintro e w' ⟨⟨b,rfl,hb⟩,hB⟩;have HB2:=Lib.hid hb;clear hb)
    go_ret
    refine⟨⟨_,rfl,?_⟩,hB0.trans (hB.mono hB0.size)⟩
    have hb:=HB2.out
    cases b
    ·simp only[Bool.not_false,true_iff]
     refine⟨h0,hs,hs2,fun k hk => ?_⟩
     by_cases hz:plE (planOk fr pg) (xs k).1 pg=0
     ·exact hz
     ·have:=hb.2 ⟨k,hk,(HB.out k).2 hz⟩
      cases this
    ·obtain⟨k,hk,hz⟩:=hb.1 rfl
     simp only[Bool.not_true]
     constructor
     ·intro h
      cases h
     ·rintro⟨_,_,_,h⟩
      exact absurd (h k hk) ((HB.out k).1 hz)
   ·have hs3:pg<s:=by omega
    clear HC
    go_enter Tryz.func157,Tryz.ntmps157
    go_wp2
    go_ret
    exact⟨⟨false,rfl,(fun h=>by cases h),fun h=>absurd h.2.2.1 (by omega)⟩,hB0⟩
  ·clear HC
   go_enter Tryz.func157,Tryz.ntmps157
   go_wp2
   go_ret
   exact⟨⟨false,rfl,(fun h=>by cases h),fun h=>absurd h.2.1 (by omega)⟩,hB0⟩
end Go.Proofs.YtnlimngkagmjpaaGreat
