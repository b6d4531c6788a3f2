/- Texts that the proof of PagerNone leans on, part 5. -/
import Derived.OrdersHeld
import Derived.Test.YtnlimngkagmjpaaGreatPagerNoneB4
open List renaming getElem?_eq_getElem → zI, size_toArray → zS, length_cons → zN, length_nil → qB, push_toArray → zZ, append_toArray → zX, nil_append → zQ, cons_append → zW, length_append → zY, getElem_toArray → zD, getElem_cons_zero → zB, setIfInBounds_toArray → zA, set_cons_zero → zF, set_cons_succ → zE, getElem_cons_succ → zC, map_toArray → zJ, map_cons → zK, map_nil → zL, all_eq_true → qG
open Nat renaming lt_of_lt_of_le → zO, le_trans → zP, le_refl → zG, reduceAdd → qH, reduceSub → qI
open Array renaming replicate_succ → zU, replicate_zero → zV, getElem?_eq_some_iff → zH, getD_eq_getD_getElem? → zT
set_option linter.unusedVariables false
set_option maxRecDepth 100000
set_option maxHeartbeats 8000000

namespace Go.Proofs.YtnlimngkagmjpaaGreat
open Go Go.RowKit Lou Go.Shelf
attribute [local go_sem] Oper.semAt_some
theorem DkIs.abSm {B p many:Nat}{g:Nat->List UInt8}{xs:List (Nat×List UInt8)}{left:Int}{stops:Bool}(hp:p<B){X Y:World}{row:Option Nat}(h:DkIs X p many g xs left stops)(hg:X.grownBy Y row)(hrow:∀r,row=some r->B<=r/\∃o:Obj,X.heap[r]? = some o/\Small o):DkIs Y p many g xs left stops:=by
 cases row with
 | none=>exact h.grow ⟨hg.os,hg.tape,hg.output,hg.size,fun k hk=>hg.block k hk (fun e=>by cases e)⟩
 | some q =>
  obtain⟨hq,o,ho,hs⟩:=hrow q rfl
  clear hrow
  cases o with
  | cells cs T fr =>
   obtain⟨h1,rfl⟩:=hs
   exact h.other (show BlkIs X q T cs from ho) h1 (by omega) hg
  | loop lp =>
   obtain⟨r,A,c,hb,hm,hw,hx⟩:=h.has
   have hrq:r≠q:=fun e=>by
    subst e
    obtain⟨es,ck,h1,_⟩:=hm.lies
    have h1':X.heap[r]? = some (.map es ck):=h1
    rw[h1'] at ho
    cases ho
   refine⟨r,A,c,hb.grown hg (fun e=>by injection e;omega),hm.keep (hg.block r hm.lt (fun e=>hrq (by injection e))),hw,?_⟩
   refine⟨hx.le,hx.max,hx.nil,hx.len,hx.one,fun h0 => ?_⟩
   obtain⟨b,o,e,hbl,hr⟩:=hx.lies h0
   subst e
   have hbq:b≠q:=fun e=>by
    subst e
    have h2:=hr 0 ((flC xs)[0]'(by rw[hx.len];omega)) (zI (by rw[hx.len];omega))
    simp[World.cell?,ho] at h2
   exact⟨b,o,rfl,zO hbl hg.size,fun j v hj=>(World.cell?_of_block (hg.block b hbl (fun e=>hbq (by injection e)))).trans (hr j v hj)⟩
  | deferred dd =>
   obtain⟨r,A,c,hb,hm,hw,hx⟩:=h.has
   have hrq:r≠q:=fun e=>by
    subst e
    obtain⟨es,ck,h1,_⟩:=hm.lies
    have h1':X.heap[r]? = some (.map es ck):=h1
    rw[h1'] at ho
    cases ho
   refine⟨r,A,c,hb.grown hg (fun e=>by injection e;omega),hm.keep (hg.block r hm.lt (fun e=>hrq (by injection e))),hw,?_⟩
   refine⟨hx.le,hx.max,hx.nil,hx.len,hx.one,fun h0 => ?_⟩
   obtain⟨b,o,e,hbl,hr⟩:=hx.lies h0
   subst e
   have hbq:b≠q:=fun e=>by
    subst e
    have h2:=hr 0 ((flC xs)[0]'(by rw[hx.len];omega)) (zI (by rw[hx.len];omega))
    simp[World.cell?,ho] at h2
   exact⟨b,o,rfl,zO hbl hg.size,fun j v hj=>(World.cell?_of_block (hg.block b hbl (fun e=>hbq (by injection e)))).trans (hr j v hj)⟩
  | _=>exact hs.elim
namespace RegF
theorem startR {P:Program}{ops:Array Oper}{Q:Exit->Act->World->Prop}{id l m:Nat}{a:Act}{w:World}(S:World->Prop)(fin:Nat)(hm:P.follows .mixedOrders=true)(hdf:noDefer ops=true)(h:wpAnyF P .any ops (NoOut Q) S fin ops.size (Array.replicate ops.size false) a w.drew):(Code.region id ops true).wpIn (Fence.wide.inRound l) m P Q a w :=
 wpIn_mono (Q:=NoOut Q) (wpIn_region_any hm (wpAny_inRound hdf _ _ _ _ (to_any _ _ _ _ h))) NoOut.imp
end RegF
def wrL (at_:Nat)(b:List UInt8)(m:Nat):List (Nat×List UInt8):=(List.range m).map fun i=>(at_+i,chunkB b i)
theorem wrL_next (at_:Nat)(b:List UInt8)(m:Nat):wrL at_ b (m+1)=wrL at_ b m++[(at_+m,chunkB b m)]:=by unfold wrL;rw[List.range_succ,List.map_append];rfl
theorem wrL_length (at_:Nat)(b:List UInt8)(m:Nat):(wrL at_ b m).length=m:=by unfold wrL;simp
theorem grownBy_rest {a b c:World}{row row2:Option Nat}{B:Nat}(h:a.grownBy b row)(k:b.grownBy c row2)(hB:a.heap.size<=B)(hr:∀r,row2=some r->B<=r):a.grownBy c row :=
 ⟨k.os.trans h.os,k.tape.trans h.tape,k.output.trans h.output,zP h.size k.size,fun i hi hn=>(k.block i (zO hi h.size) (fun e=>by have:=hr i e.symm;omega)).trans (h.block i hi hn)⟩
theorem cell_grown {X Y:World}{row:Option Nat}{p:Addr}{v:Value}(hc:X.cell? p=some v)(hg:X.grownBy Y row)(hl:p.block<X.heap.size)(hn:some p.block≠row):Y.cell? p=some v:=(World.cell?_of_block (hg.block _ hl hn)).trans hc
theorem wwrite_in (n:Nat)(hn:8<=n)(w:World)(l d many:Nat)(g:Nat->List UInt8)(xs:List (Nat×List UInt8))(left:Int)(hD:DkIs w d many g xs left false)(hl:xs.length<=900000)(h1l : -1000000<=left)(h2l:left<=9223372036854775807)
  (hc:w.cell? ⟨l,0,none⟩=some (.pointer (some ⟨d,0,none⟩))) (hld:l≠d) (hll:l<w.heap.size) (at_ m:Nat) (A:Option Addr) (c:Nat) (b:List UInt8) (hin:InB w w.heap.size A c b) (hbl:b.length=64*m) (hm:m<=16) (ham:at_+m<=many) (hmax:many<=1000000) :
  CallsIn Fence.wide n Tryz.prog 100 #[.pointer (some ⟨l,0,none⟩),.int .i64 (at_:Int),.slice A b.length c] w fun e w'=>e = .returned (.int .i64 0)/\DkIs w' d many g (xs++wrL at_ b m) left false/\w.grownBy w' (some d):=by
 have h1:1<=n:=by omega
 have hdl:=hD.lt
 have b0:=((BlkIs.new w 192 #[.pointer (some ⟨l,0,none⟩)]).alloc (.cells #[.int .i64 (at_:Int)] 3)).alloc (.cells #[.int .i64 0] 27)
 have b1:=(BlkIs.new (w.alloc (.cells #[.pointer (some ⟨l,0,none⟩)] 192)) 3 #[.int .i64 (at_:Int)]).alloc (.cells #[.int .i64 0] 27)
 have b2:=BlkIs.new ((w.alloc (.cells #[.pointer (some ⟨l,0,none⟩)] 192)).alloc (.cells #[.int .i64 (at_:Int)] 3)) 27 #[.int .i64 0]
 rw[World.size_alloc] at b1
 rw[World.size_alloc,World.size_alloc] at b2
 have hB0:Below w.heap.size w (((w.alloc (.cells #[.pointer (some ⟨l,0,none⟩)] 192)).alloc (.cells #[.int .i64 (at_:Int)] 3)).alloc (.cells #[.int .i64 0] 27)) :=
  (((Below.refl _ w).alloc (zG _) _).alloc (by simp) _).alloc (by simp;omega) _
 have HC:=cut_gives _ A c b ((hin.below hB0).more hB0.size) (by omega)
 have HBL:=Lib.hid hbl
 have hb9:b.length<=1024:=by omega
 clear hbl
 refine callsIn_of_wp_marks Tryz.func100 rfl trivial ?_ rfl
 simp only[Tryz.ntmps100,zS,zN,qB,qH,qI,zU,zV,zZ,zX,zQ,zW]
 gi_wp2_with (refine⟨trivial,?_⟩;gi_at_call 144;refine(callsIn_wide.2 HC).mono ?_;rintro e W4 ⟨gB,A2,c2,rfl,hgb,hin2,hB4⟩)
 obtain⟨hBw⟩:Nonempty (Below w.heap.size w W4):=⟨hB0.trans (hB4.mono hB0.size)⟩
 have hsz0:w.heap.size+3<=W4.heap.size:=by have:=hB4.size;simp at this;omega
 have hD4:=hD.grow hBw
 have c0:=b0.below hB4 b0.lt
 have c1:=b1.below hB4 b1.lt
 have c2':=b2.below hB4 b2.lt
 have hc4:W4.cell? ⟨l,0,none⟩=some (.pointer (some ⟨d,0,none⟩)):=(hBw.cell (p:=⟨l,0,none⟩) hll).trans hc
 have hG4:w.grownBy W4 (some d):=⟨hBw.os,hBw.tape,hBw.output,hBw.size,fun k hk _=>hBw.block k hk⟩
 have hMu:0<b.length->∀g o,A2=some ⟨g,o,none⟩->¬ g=d:=fun h0 g o e=>by
  subst e
  obtain⟨r,A',c',hb,_⟩:=hD4.has
  exact hin2.notDisk h0 hb
 clear b0 b1 b2 hB0 HC hD hc hin hB4
 refine wpI_stopB (fun a0 a V=>∃D,a = { a0 with defers:={ target:=.collected D,args:=#[] }::a0.defers }/\V.heap[D]? = some (.deferred (some []))/\W4.heap.size<=D/\DkIs V d many g (xs++wrL at_ b m) left false/\BlkIs V (w.heap.size+1+1) 27 #[.int .i64 0]/\w.grownBy V (some d)) ?_ ?_
 ·intro Q' hQ
  refine wpIn_rangeFunc_S rfl h1 (gf:=183) (lb:=#[.pointer (some ⟨gB,0,none⟩)]) rfl trivial (enters_of Tryz.func183 (by kernel_rfl) rfl)
   (cut1_seqS (n₀:=W4.heap.size) (n - 1) (by omega) gB A2 c2 b (by omega) (fun k=>k=d) hMu W4 hgb.lt (zG _) hgb.boxed hin2) (Below.refl _ _) (fun _=>rfl)
   (fun pre V=>DkIs V d many g (xs++wrL at_ b pre.length) left false/\BlkIs V w.heap.size 192 #[.pointer (some ⟨l,0,none⟩)]/\BlkIs V (w.heap.size+1) 3 #[.int .i64 (at_:Int)]/\BlkIs V (w.heap.size+1+1) 27 #[.int .i64 0]/\V.cell? ⟨l,0,none⟩=some (.pointer (some ⟨d,0,none⟩))/\w.grownBy V (some d)/\W4.heap.size<=V.heap.size)
   (fun _ _ _=>False)
   ?own ?own2 ?ownR ⟨by rw[show wrL at_ b ([]:List (Nat×(Option Addr×Nat))).length=[] from rfl,List.append_nil];exact hD4,c0,c1,c2',hc4,hG4,zG _⟩ ?act ?assign ?body ?done ?stop
  case own =>
   rintro pre X Y row ⟨i1,i2,i3,i4,i5,i6,i7⟩ hgr hr
   have hr1:∀r,row=some r->W4.heap.size<=r:=fun r e=>(hr r e).1
   exact⟨i1.abSm (B:=W4.heap.size) (by omega) hgr hr,i2.abN (B:=W4.heap.size) (by omega) hgr hr1,i3.abN (B:=W4.heap.size) (by omega) hgr hr1,i4.abN (B:=W4.heap.size) (by omega) hgr hr1,cell_grown i5 hgr (by simp;omega) (fun e=>by have:=hr1 _ e.symm;simp at this;omega),grownBy_rest i6 hgr (by omega) hr1,zP i7 hgr.size⟩
  case own2=>exact fun c pre X Y row h _ _=>h
  case ownR =>
   rintro pre x _ X Y row ⟨e1,e2,e3⟩ hgr hr
   exact⟨e1,e2,InB.ownFrom (B:=W4.heap.size) _ _ _ () X Y row e3 hgr hr⟩
  case assign =>
   intro l1 x V K hK
   simp only[cutEnc]
   gi_wp2
   exact hK
  case body =>
   rintro l1 pre ⟨x1,A6,c6⟩ V ⟨i1,i2,i3,i4,i5,i6,i7⟩ ⟨hx1,hx2,hx3⟩
   simp only at hx1 hx2 hx3
   subst hx1
   have hbl:=HBL.out
   have hk:pre.length<m:=by omega
   have hch:chLen b.length pre.length=64:=by unfold chLen;omega
   have hcl:(chunkB b pre.length).length=64:=by rw[chunkB_length,hch]
   have hXL:(xs++wrL at_ b pre.length).length=xs.length+pre.length:=by rw[zY,wrL_length]
   have HW:=write_ok V.drew d many g (xs++wrL at_ b pre.length) left false (i1.grow (Below.refl _ _).drew) rfl (at_+pre.length) (by omega) A6 c6 _ hcl (hx3.drew) (by rw[hXL];omega) h1l h2l
   rw[Int.natCast_add] at HW
   have h11:1<=n - 1 - 1:=by omega
   have k0:=i2.boxed
   have k1:=i3.boxed
   have k2:=i4.boxed
   have hwa:IntKind.i64.wrap ((at_:Int)+(pre.length:Int))=(at_:Int)+(pre.length:Int):=by rw[wrap_i64_fr _ (by omega) (by omega)]
   simp only[hch]
   clear hbl hch hcl hXL hx2 hMu
   have hS0:V.drew.cell? ⟨w.heap.size,0,none⟩=some (.pointer (some ⟨l,0,none⟩))/\V.drew.cell? ⟨l,0,none⟩=some (.pointer (some ⟨d,0,none⟩))/\V.drew.cell? ⟨w.heap.size+1,0,none⟩=some (.int .i64 (at_:Int)):=⟨k0,i5,k1⟩
   gi_wp2_with fail
   refine RegF.startR (fun W:World=>W.cell? ⟨w.heap.size,0,none⟩=some (.pointer (some ⟨l,0,none⟩))/\W.cell? ⟨l,0,none⟩=some (.pointer (some ⟨d,0,none⟩))/\W.cell? ⟨w.heap.size+1,0,none⟩=some (.int .i64 (at_:Int))) 9 (by kernel_rfl) (by kernel_rfl) ?_
   refine RegF.t 0 (.pointer (some ⟨l,0,none⟩)) rfl hS0 (fun W ⟨e0,e1,e2⟩=>by go_simp) ?_
   simp only[zD,zB,Act.put,zA,zF,zE]
   refine RegF.t 1 (.pointer (some ⟨l,0,none⟩)) rfl hS0 (fun W ⟨e0,e1,e2⟩=>by go_simp) ?_
   simp only[zD,zC,zB,Act.put,zA,zF,zE]
   refine RegF.t 2 (.pointer (some ⟨l,0,none⟩)) rfl hS0 (fun W ⟨e0,e1,e2⟩=>by go_simp) ?_
   simp only[zD,zC,zB,Act.put,zA,zF,zE]
   refine RegF.t 3 (.pointer (some ⟨d,0,none⟩)) rfl hS0 (fun W ⟨e0,e1,e2⟩=>by go_simp) ?_
   simp only[zD,zC,zB,Act.put,zA,zF,zE]
   refine RegF.t 4 (.int .i64 (at_:Int)) rfl hS0 (fun W ⟨e0,e1,e2⟩=>by go_simp) ?_
   simp only[zD,zC,zB,Act.put,zA,zF,zE]
   refine RegF.t 5 (.int .i64 (pre.length:Int)) rfl hS0 (fun W ⟨e0,e1,e2⟩=>by go_simp) ?_
   simp only[zD,zC,zB,Act.put,zA,zF,zE]
   refine RegF.t 6 (.int .i64 ((at_:Int)+(pre.length:Int))) rfl hS0 (fun W ⟨e0,e1,e2⟩=>by go_simp) ?_
   simp only[zD,zC,zB,Act.put,zA,zF,zE]
   refine RegF.t 7 (.slice A6 64 c6) rfl hS0 (fun W ⟨e0,e1,e2⟩=>by go_simp) ?_
   simp only[zD,zC,zB,Act.put,zA,zF,zE]
   refine RegF.one 8 (by kernel_rfl) ?_
   refine RegF.opC 145 #[.tmp 17,.tmp 20,.tmp 21] #[26,3,22] rfl rfl rfl (enters_of Tryz.func145 (by kernel_rfl) rfl) #[.pointer (some ⟨d,0,none⟩),.int .i64 ((at_:Int)+(pre.length:Int)),.slice A6 64 c6] (by simp only[zJ,zK,zL];rfl) (HW.mono ?_)
   rintro e W6 ⟨rfl,hD6,hg6,_⟩
   have gV6:V.grownBy W6 (some d):=(grownBy_drew V (some d)).trans hg6
   have q0:=i2.grown gV6 (fun e=>by injection e with e;omega)
   have q1:=i3.grown gV6 (fun e=>by injection e with e;omega)
   have q2:=i4.grown gV6 (fun e=>by injection e with e;omega)
   have q3:W6.cell? ⟨l,0,none⟩=some (.pointer (some ⟨d,0,none⟩)):=cell_grown i5 gV6 (by show l<V.heap.size;omega) (fun e=>by injection e with e;exact hld e)
   have q6:=gV6.size
   refine⟨_,rfl,fun _=>⟨q0.boxed,q3,q1.boxed⟩,?_⟩
   simp only[zD,zC,zB,Act.put,zA,zF,zE]
   refine RegF.one 9 (by kernel_rfl) (RegF.opV (w':=W6) (.int .i64 0) rfl rfl (by go_simp) ⟨fun h=>absurd rfl h,RegF.done (by kernel_rfl) ?_⟩)
   simp only[zD,zC,zB,Act.put,zA,zF,zE]
   have hIn:DkIs W6 d many g (xs++wrL at_ b (pre++[(pre.length,A6,c6)]).length) left false:=by
    rw[show (pre++[(pre.length,A6,c6)]).length=pre.length+1 by simp,wrL_next,<-List.append_assoc]
    exact hD6
   have hKO:KeepOut (fun k=>k=d) W4.heap.size V W6:=⟨q6,fun k o hk hm=>(gV6.block k (zH.1 hk).1 (fun e=>by injection e with e;exact hm (by omega) e)).trans hk⟩
   have hGW:=i6.trans gV6
   clear HW hS0 hD6 hg6 k0 k1 k2 hwa hx3
   dsimp only[NoOut]
   gi_wp2
   exact⟨hKO,hIn,q0,q1,q2,q3,hGW,by omega⟩
  case done =>
   rintro D ys V hD hS ⟨i1,i2,i3,i4,i5,i6,i7⟩ hK
   have hbl:=HBL.out
   have hm3:ys.length=m:=by rw[hS];unfold chAll;omega
   rw[hm3] at i1
   exact hQ _ _ ⟨D,rfl,hK,hD,i1,i4,i6⟩
  case stop =>
   rintro D c pre V hD hS h
   exact h.elim
 rintro a V ⟨D,rfl,hK,hD,i1,i2,i3⟩
 have k3:=i2.boxed
 have f3:=i2.free 0
 gi_wp2
 have b6:=i2.set 0 (.int .i64 0)
 have hE1:(V.setCell ⟨w.heap.size+1+1,0,none⟩ (.int .i64 0)).heap[D]? = some (.deferred (some [])):=(Below.heap_setCell V ⟨w.heap.size+1+1,0,none⟩ (.int .i64 0) D (by simp;omega)).trans hK
 have g1:V.grownBy (V.setCell ⟨w.heap.size+1+1,0,none⟩ (.int .i64 0)) (some (w.heap.size+1+1)):=⟨rfl,rfl,rfl,by simp,fun k _ hk=>Below.heap_setCell V _ _ k (fun e=>hk (by rw[e]))⟩
 have hD1:=i1.abSm (B:=w.heap.size) hdl g1 (fun r e=>by cases e;exact⟨by omega,_,i2,by decide,rfl⟩)
 have hG1:=grownBy_rest i3 g1 (zG _) (fun r e=>by cases e;omega)
 clear k3 f3 g1 i1 i2 i3 hK
 generalize V.setCell ⟨w.heap.size+1+1,0,none⟩ (.int .i64 0)=Z at *
 have g2:=grownBy_putObj' Z D (.deferred none)
 have hD2:=hD1.abSm (B:=w.heap.size) hdl g2 (fun r e=>by cases e;exact⟨by omega,_,hE1,trivial⟩)
 have hG2:=grownBy_rest hG1 g2 (zG _) (fun r e=>by cases e;omega)
 refine⟨by simp,.inl ⟨D,_,rfl,run_takeDeferred hE1,?_⟩⟩
 have b7:BlkIs (Z.putObj D (.deferred none)) (w.heap.size+1+1) 27 #[.int .i64 0]:=(putObj_oth Z D (.deferred none) (g:=w.heap.size+1+1) (by omega)).trans b6
 exact⟨.int .i64 0,results_cellQ (p:=⟨w.heap.size+1+1,0,none⟩) 6 rfl rfl (by simp[go_sem]) b7.boxed,rfl,hD2,hG2⟩
theorem wwrite_gives (w:World)(l d many:Nat)(g:Nat->List UInt8)(xs:List (Nat×List UInt8))(left:Int)(hD:DkIs w d many g xs left false)(hl:xs.length<=900000)(h1l : -1000000<=left)(h2l:left<=9223372036854775807)
  (hc:w.cell? ⟨l,0,none⟩=some (.pointer (some ⟨d,0,none⟩))) (hld:l≠d) (hll:l<w.heap.size) (at_ m:Nat) (A:Option Addr) (c:Nat) (b:List UInt8) (hin:InB w w.heap.size A c b) (hbl:b.length=64*m) (hm:m<=16) (ham:at_+m<=many) (hmax:many<=1000000) :
  Calls Tryz.prog 100 #[.pointer (some ⟨l,0,none⟩),.int .i64 (at_:Int),.slice A b.length c] w fun e w'=>e = .returned (.int .i64 0)/\DkIs w' d many g (xs++wrL at_ b m) left false/\w.grownBy w' (some d) :=
 callsIn_wide.1 (wwrite_in 8 (zG _) w l d many g xs left hD hl h1l h2l hc hld hll at_ m A c b hin hbl hm ham hmax)
end Go.Proofs.YtnlimngkagmjpaaGreat
namespace Go.Proofs.YtnlimngkagmjpaaGreat
open Go Go.RowKit Lou
structure GrowBut (Mu:Nat->Prop)(w w':World):Prop where
 os:w'.os=w.os
 tape:w'.tape=w.tape
 output:w'.output=w.output
 size:w.heap.size<=w'.heap.size
 block:∀k,k<w.heap.size->¬ Mu k->w'.heap[k]? = w.heap[k]?
namespace GrowBut
variable {Mu:Nat->Prop}{a b c:World}
theorem refl (Mu:Nat->Prop)(a:World):GrowBut Mu a a:=⟨rfl,rfl,rfl,zG _,fun _ _ _=>rfl⟩
theorem trans (h:GrowBut Mu a b)(k:GrowBut Mu b c):GrowBut Mu a c:=⟨k.os.trans h.os,k.tape.trans h.tape,k.output.trans h.output,zP h.size k.size,fun i hi hn=>(k.block i (zO hi h.size) hn).trans (h.block i hi hn)⟩
theorem below (h:Below a.heap.size a b):GrowBut Mu a b:=⟨h.os,h.tape,h.output,h.size,fun k hk _=>h.block k hk⟩
theorem grown {row:Option Nat}(h:a.grownBy b row)(hr:∀r,row=some r->Mu r∨a.heap.size<=r):GrowBut Mu a b:=⟨h.os,h.tape,h.output,h.size,fun k hk hn=>h.block k hk (fun e=>by rcases hr k e.symm with h|h;exact hn h;omega)⟩
theorem blk (h:GrowBut Mu a b){g:Nat}{t:TypeId}{cs:Array Value}(hb:BlkIs a g t cs)(hn:¬ Mu g):BlkIs b g t cs:=(h.block g hb.lt hn).trans hb
theorem cell (h:GrowBut Mu a b){p:Addr}{v:Value}(hc:a.cell? p=some v)(hl:p.block<a.heap.size)(hn:¬ Mu p.block):b.cell? p=some v:=(World.cell?_of_block (h.block _ hl hn)).trans hc
theorem toBelow (h:GrowBut Mu a b){B:Nat}(hB:B<=a.heap.size)(hm:∀k,Mu k->B<=k):Below B a b:=⟨h.os,h.tape,h.output,h.size,fun k hk=>h.block k (by omega) (fun hn=>by have:=hm k hn;omega)⟩
theorem more {Nu:Nat->Prop}(h:GrowBut Mu a b)(hm:∀k,Mu k->k<a.heap.size->Nu k):GrowBut Nu a b:=⟨h.os,h.tape,h.output,h.size,fun k hk hn=>h.block k hk (fun hx=>hn (hm k hx hk))⟩
theorem setCell (w:World)(p:Addr)(v:Value)(hm:Mu p.block):GrowBut Mu w (w.setCell p v):=⟨rfl,rfl,rfl,by simp,fun k _ hn=>Below.heap_setCell w p v k (fun e=>hn (by rw[e];exact hm))⟩
theorem inB (h:GrowBut Mu a b){A:Option Addr}{k:Nat}{x:List UInt8}(hi:InB a a.heap.size A k x)(hn:∀g o,A=some ⟨g,o,none⟩->0<x.length->¬ Mu g):InB b b.heap.size A k x:=by
 refine⟨hi.le,hi.max,hi.nil,fun h0 => ?_⟩
 obtain⟨g,o,e,hg,hc⟩:=hi.lies h0
 exact⟨g,o,e,zO hg h.size,fun j hj=>(World.cell?_of_block (h.block g hg (hn g o e h0))).trans (hc j hj)⟩
end GrowBut
theorem DkIs.setOther {w:World}{p many:Nat}{g:Nat->List UInt8}{xs:List (Nat×List UInt8)}{left:Int}{stops:Bool}{q:Nat}{t:TypeId}{cs:Array Value}(h:DkIs w p many g xs left stops)(hq:BlkIs w q t cs)(h64:cs.size<=64)(hpq:p≠q)(a:Addr)(v:Value)(ha:a.block=q):DkIs (w.setCell a v) p many g xs left stops:=by
 subst ha
 exact h.other hq h64 hpq ⟨rfl,rfl,rfl,by simp,fun k _ hk=>Below.heap_setCell w _ _ k (fun e=>hk (by rw[e]))⟩
section
variable (w:World)(l d many lb hb:Nat)(g:Nat->List UInt8)(xs:List (Nat×List UInt8))(left:Int)(hs he:Nat)(hz hc:Int)
theorem lay1_gives (hD:DkIs w d many g xs left false)(hl:xs.length<=900000)(h1l : -1000000<=left)(h2l:left<=9223372036854775807)(hlb:BlkIs w lb 71 #[.pointer (some ⟨l,0,none⟩)])(hhb:BlkIs w hb 106 #[.int .u64 (hs:Int),.int .u64 (he:Int),.int .i64 hz,.int .i64 hc])
  (hcl:w.cell? ⟨l,0,none⟩=some (.pointer (some ⟨d,0,none⟩))) (hld:l≠d) (hlbd:lb≠d) (hhbd:hb≠d) (hll:l<w.heap.size) (hok:headOk hz hc=true) (hm2:2<=many) (hmax:many<=1000000) :
  Calls Tryz.prog 98 #[.pointer (some ⟨hb,0,none⟩),.pointer (some ⟨lb,0,none⟩)] w fun e w'=>e = .returned (.int .i64 0)/\DkIs w' d many g (xs++wrL (hs % 2) (hEnc hs he hz hc) 1) left false/\w.grownBy w' (some d):=by
 have hlen:(hEnc hs he hz hc).length=64:=by
  unfold hEnc
  rw[if_pos hok]
  exact headW_length _ _ _ _
 have hE0:hErr hz hc=0:=by unfold hErr;rw[if_pos hok]
 have HE:=encodeHead_gives hs he hz hc w
 rw[hE0] at HE
 unfold GivesBE at HE
 rw[hlen] at HE
 have HLEN:=Lib.hid hlen
 have hdl:=hD.lt
 obtain⟨r,hr⟩:∃r,r=hs % 2:=⟨_,rfl⟩
 have HMOD:=Lib.hid (show Int.tmod (hs:Int) 2=(r:Int) by rw[hr];exact(Int.ofNat_tmod hs 2).symm)
 have HWR:=Lib.hid (show IntKind.i64.wrap (r:Int)=(r:Int) from wrap_i64_fr _ (by omega) (by omega))
 have hr2:r<2:=by omega
 rw[<-hr]
 clear hr
 clear hlen hE0
 go_enter Tryz.func98,Tryz.ntmps98
 go_wp2_with (first
  | (refine wp_loadW rfl 106 (.tmp 0) rfl hb rfl rowHead hhb rfl ?_)
  | (go_at_call 99;refine HE.mono ?_;rintro e w1 ⟨A,c,rfl,hin,hB1⟩))
 have hD1:=hD.grow hB1
 have hlb1:=hlb.below hB1 hlb.lt
 have hhb1:=hhb.below hB1 hhb.lt
 have hcl1:w1.cell? ⟨l,0,none⟩=some (.pointer (some ⟨d,0,none⟩)):=(hB1.cell (p:=⟨l,0,none⟩) hll).trans hcl
 have hs1:=hB1.size
 have c1:w1.cell? ⟨hb,0,none⟩=some (.int .u64 (hs:Int)):=by rw[hhb1.cell];rfl
 have hS0:w1.drew.cell? ⟨lb,0,none⟩=some (.pointer (some ⟨l,0,none⟩))/\w1.drew.cell? ⟨hb,0,none⟩=some (.int .u64 (hs:Int)):=⟨hlb1.boxed,c1⟩
 have HW:=wwrite_gives w1.drew l d many g xs left (hD1.grow (Below.refl _ _).drew) hl h1l h2l hcl1 hld (by show l<w1.heap.size;omega) r 1 A c _ hin.drew (by rw[HLEN.out]) (by omega) (by omega) hmax
 rw[HLEN.out] at HW
 clear HE hD hlb hhb hcl
 refine RegF.start (fun W:World=>W.cell? ⟨lb,0,none⟩=some (.pointer (some ⟨l,0,none⟩))/\W.cell? ⟨hb,0,none⟩=some (.int .u64 (hs:Int))) 9 (by kernel_rfl) ?_
 refine RegF.t 0 (.pointer (some ⟨l,0,none⟩)) rfl hS0 (fun W ⟨e0,e1⟩=>by go_simp) ?_
 simp only[zD,zB,Act.put,zA,zF,zE]
 refine RegF.t 1 (.pointer (some ⟨l,0,none⟩)) rfl hS0 (fun W ⟨e0,e1⟩=>by go_simp) ?_
 simp only[zD,zC,zB,Act.put,zA,zF,zE]
 refine RegF.t 2 (.pointer (some ⟨l,0,none⟩)) rfl hS0 (fun W ⟨e0,e1⟩=>by go_simp) ?_
 simp only[zD,zC,zB,Act.put,zA,zF,zE]
 refine RegF.t 3 (.pointer (some ⟨hb,0,none⟩)) rfl hS0 (fun W ⟨e0,e1⟩=>by go_simp) ?_
 simp only[zD,zC,zB,Act.put,zA,zF,zE]
 refine RegF.t 4 (.int .u64 (hs:Int)) rfl hS0 (fun W ⟨e0,e1⟩=>by go_simp) ?_
 simp only[zD,zC,zB,Act.put,zA,zF,zE]
 refine RegF.t 5 (.int .u64 (r:Int)) rfl hS0 (fun W ⟨e0,e1⟩=>by have e9:=HMOD.out;go_simp) ?_
 simp only[zD,zC,zB,Act.put,zA,zF,zE]
 refine RegF.t 6 (.int .i64 (r:Int)) rfl hS0 (fun W ⟨e0,e1⟩=>by have e9:=HWR.out;go_simp) ?_
 simp only[zD,zC,zB,Act.put,zA,zF,zE]
 refine RegF.t 7 (.slice A 64 c) rfl hS0 (fun W ⟨e0,e1⟩=>by go_simp) ?_
 simp only[zD,zC,zB,Act.put,zA,zF,zE]
 refine RegF.one 8 (by kernel_rfl) ?_
 refine RegF.opC 100 #[.tmp 12,.tmp 16,.tmp 17] #[100,3,22] rfl rfl rfl (enters_of Tryz.func100 (by kernel_rfl) rfl) #[.pointer (some ⟨l,0,none⟩),.int .i64 (r:Int),.slice A 64 c] (by simp only[zJ,zK,zL];rfl) (HW.mono ?_)
 rintro e w2 ⟨rfl,hD2,hg2⟩
 have g12:w1.grownBy w2 (some d):=(grownBy_drew w1 (some d)).trans hg2
 have q0:=hlb1.grown g12 (fun e=>by injection e with e;omega)
 have q1:=hhb1.grown g12 (fun e=>by injection e with e;omega)
 have q1c:w2.cell? ⟨hb,0,none⟩=some (.int .u64 (hs:Int)):=by rw[q1.cell];rfl
 refine⟨_,rfl,fun _=>⟨q0.boxed,q1c⟩,?_⟩
 simp only[zD,zC,zB,Act.put,zA,zF,zE]
 refine RegF.one 9 (by kernel_rfl) (RegF.opV (w':=w2) (.int .i64 0) rfl rfl (by go_simp) ⟨fun h=>absurd rfl h,RegF.done (by kernel_rfl) ?_⟩)
 simp only[zD,zC,zB,Act.put,zA,zF,zE]
 clear HW hS0
 go_wp2
 go_ret
 exact⟨rfl,hD2,(below_grownBy hB1 d).trans g12⟩
theorem lay2_gives (D:Option Addr)(fr pg:Int)(sr ep:Nat)(sz:Int)(A:Option Addr)(n c:Nat)(hlb:BlkIs w lb 71 #[.pointer (some ⟨l,0,none⟩)])(hhb:BlkIs w hb 106 #[.int .u64 (hs:Int),.int .u64 (he:Int),.int .i64 hz,.int .i64 hc])(hlg:BlkIs w l 104 (lgC D fr pg sr ep sz A n c))(hll:l≠lb)(hlh:l≠hb) :
  Calls Tryz.prog 101 #[.pointer (some ⟨hb,0,none⟩),.pointer (some ⟨lb,0,none⟩)] w fun e w'=>e = .returned (.int .i64 0)/\w'=(w.drew.setCell ⟨l,3,none⟩ (.int .u64 (hs:Int))).setCell ⟨l,4,none⟩ (.int .u64 (he:Int))/\BlkIs w' l 104 (lgC D fr pg hs he sz A n c):=by
 have c0:=hlb.boxed
 have c1:w.cell? ⟨hb,0,none⟩=some (.int .u64 (hs:Int)):=by rw[hhb.cell];rfl
 have c2:w.cell? ⟨hb,1,none⟩=some (.int .u64 (he:Int)):=by rw[hhb.cell];rfl
 have g3:w.cell? ⟨l,3,none⟩=some (.int .u64 (sr:Int)):=by rw[hlg.cell];rfl
 have g4:w.cell? ⟨l,4,none⟩=some (.int .u64 (ep:Int)):=by rw[hlg.cell];rfl
 have f1:=hlg.free 3
 have f2:=hlg.free 4
 go_enter Tryz.func101,Tryz.ntmps101
 go_wp2_with fail
 have hS0:(w.drew.cell? ⟨lb,0,none⟩=some (.pointer (some ⟨l,0,none⟩))/\w.drew.cell? ⟨hb,0,none⟩=some (.int .u64 (hs:Int))/\w.drew.cell? ⟨hb,1,none⟩=some (.int .u64 (he:Int)))/\w.drew.frozen? ⟨l,3,none⟩=false/\w.drew.frozen? ⟨l,4,none⟩=false:=⟨⟨c0,c1,c2⟩,f1,f2⟩
 refine RegF.start (fun W:World=>(W.cell? ⟨lb,0,none⟩=some (.pointer (some ⟨l,0,none⟩))/\W.cell? ⟨hb,0,none⟩=some (.int .u64 (hs:Int))/\W.cell? ⟨hb,1,none⟩=some (.int .u64 (he:Int)))/\W.frozen? ⟨l,3,none⟩=false/\W.frozen? ⟨l,4,none⟩=false) 11 (by kernel_rfl) ?_
 refine RegF.t 0 (.pointer (some ⟨l,0,none⟩)) rfl hS0 (fun W hW=>by obtain⟨⟨e0,e1,e2⟩,e3,e4⟩:=hW;go_simp) ?_
 simp only[zD,zB,Act.put,zA,zF,zE]
 refine RegF.t 1 (.pointer (some ⟨l,0,none⟩)) rfl hS0 (fun W hW=>by obtain⟨⟨e0,e1,e2⟩,e3,e4⟩:=hW;go_simp) ?_
 simp only[zD,zC,zB,Act.put,zA,zF,zE]
 refine RegF.t 2 (.pointer (some ⟨hb,0,none⟩)) rfl hS0 (fun W hW=>by obtain⟨⟨e0,e1,e2⟩,e3,e4⟩:=hW;go_simp) ?_
 simp only[zD,zC,zB,Act.put,zA,zF,zE]
 refine RegF.t 3 (.int .u64 (hs:Int)) rfl hS0 (fun W hW=>by obtain⟨⟨e0,e1,e2⟩,e3,e4⟩:=hW;go_simp) ?_
 simp only[zD,zC,zB,Act.put,zA,zF,zE]
 refine RegF.t 4 (.pointer (some ⟨hb,1,none⟩)) rfl hS0 (fun W hW=>by obtain⟨⟨e0,e1,e2⟩,e3,e4⟩:=hW;go_simp) ?_
 simp only[zD,zC,zB,Act.put,zA,zF,zE]
 refine RegF.t 5 (.int .u64 (he:Int)) rfl hS0 (fun W hW=>by obtain⟨⟨e0,e1,e2⟩,e3,e4⟩:=hW;go_simp) ?_
 simp only[zD,zC,zB,Act.put,zA,zF,zE]
 refine RegF.t 6 (.pointer (some ⟨l,0,none⟩)) rfl hS0 (fun W hW=>by obtain⟨⟨e0,e1,e2⟩,e3,e4⟩:=hW;go_simp) ?_
 simp only[zD,zC,zB,Act.put,zA,zF,zE]
 refine RegF.t 7 (.pointer (some ⟨l,3,none⟩)) rfl hS0 (fun W hW=>by obtain⟨⟨e0,e1,e2⟩,e3,e4⟩:=hW;go_simp) ?_
 simp only[zD,zC,zB,Act.put,zA,zF,zE]
 have hl1:=hlg.drew.set 3 (.int .u64 (hs:Int))
 have g4':(w.drew.setCell ⟨l,3,none⟩ (.int .u64 (hs:Int))).cell? ⟨l,4,none⟩=some (.int .u64 (ep:Int)):=by rw[hl1.cell];rfl
 have n1:¬ l=lb:=hll
 have n2:¬ l=hb:=hlh
 have hS1:((w.drew.setCell ⟨l,3,none⟩ (.int .u64 (hs:Int))).cell? ⟨lb,0,none⟩=some (.pointer (some ⟨l,0,none⟩))/\(w.drew.setCell ⟨l,3,none⟩ (.int .u64 (hs:Int))).cell? ⟨hb,0,none⟩=some (.int .u64 (hs:Int))/\(w.drew.setCell ⟨l,3,none⟩ (.int .u64 (hs:Int))).cell? ⟨hb,1,none⟩=some (.int .u64 (he:Int)))/\(w.drew.setCell ⟨l,3,none⟩ (.int .u64 (hs:Int))).frozen? ⟨l,3,none⟩=false/\(w.drew.setCell ⟨l,3,none⟩ (.int .u64 (hs:Int))).frozen? ⟨l,4,none⟩=false :=
  ⟨⟨(World.cell?_setCell_other _ _ _ _ (fun e=>n1 (congrArg Addr.block e))).trans c0,(World.cell?_setCell_other _ _ _ _ (fun e=>n2 (congrArg Addr.block e))).trans c1,(World.cell?_setCell_other _ _ _ _ (fun e=>n2 (congrArg Addr.block e))).trans c2⟩,hl1.free 3,hl1.free 4⟩
 refine RegF.one 8 (by kernel_rfl) (RegF.opS (w':=w.drew.setCell ⟨l,3,none⟩ (.int .u64 (hs:Int))) rfl rfl (by go_simp) ⟨fun _=>hS1,?_⟩)
 simp only[zD,zC,zB,Act.put]
 refine RegF.one 9 (by kernel_rfl) (RegF.opV (w':=w.drew.setCell ⟨l,3,none⟩ (.int .u64 (hs:Int))) (.pointer (some ⟨l,0,none⟩)) rfl rfl (by obtain⟨⟨e0,e1,e2⟩,e3,e4⟩:=hS1;go_simp) ⟨fun _=>hS1,?_⟩)
 simp only[zD,zC,zB,Act.put,zA,zF,zE]
 refine RegF.one 10 (by kernel_rfl) (RegF.opV (w':=w.drew.setCell ⟨l,3,none⟩ (.int .u64 (hs:Int))) (.pointer (some ⟨l,4,none⟩)) rfl rfl (by obtain⟨⟨e0,e1,e2⟩,e3,e4⟩:=hS1;go_simp) ⟨fun _=>hS1,?_⟩)
 simp only[zD,zC,zB,Act.put,zA,zF,zE]
 obtain⟨_,_,f5⟩:=hS1
 refine RegF.one 11 (by kernel_rfl) (RegF.opS (w':=(w.drew.setCell ⟨l,3,none⟩ (.int .u64 (hs:Int))).setCell ⟨l,4,none⟩ (.int .u64 (he:Int))) rfl rfl (by go_simp) ⟨fun h=>absurd rfl h,RegF.done (by kernel_rfl) ?_⟩)
 simp only[zD,zC,zB,Act.put]
 clear hS0
 go_wp2
 go_ret
 exact⟨rfl,rfl,hl1.set 4 (.int .u64 (he:Int))⟩
theorem lay_gives (fr pg:Int)(sr ep:Nat)(sz:Int)(A:Option Addr)(n c:Nat)(hD:DkIs w d many g xs left false)(hl:xs.length<=900000)(h1l : -1000000<=left)(h2l:left<=9223372036854775807)(hlg:BlkIs w l 104 (lgC (some ⟨d,0,none⟩) fr pg sr ep sz A n c))(hld:l≠d)(hok:headOk hz hc=true)(hm2:2<=many)(hmax:many<=1000000) :
  Calls Tryz.prog 60 #[.pointer (some ⟨l,0,none⟩),.agg #[.int .u64 (hs:Int),.int .u64 (he:Int),.int .i64 hz,.int .i64 hc]] w fun e w'=>e = .returned (.int .i64 0)/\DkIs w' d many (laid g (xs++wrL (hs % 2) (hEnc hs he hz hc) 1)) [] left false/\BlkIs w' l 104 (lgC (some ⟨d,0,none⟩) fr pg hs he sz A n c)/\GrowBut (fun k=>k=d∨k=l) w w':=by
 have hdl:=hD.lt
 have hll:=hlg.lt
 have k0:w.cell? ⟨l,0,none⟩=some (.pointer (some ⟨d,0,none⟩)):=by rw[hlg.cell];rfl
 obtain⟨W1,hW1⟩:∃W1,W1=(((w.alloc (.cells #[.pointer (some ⟨l,0,none⟩)] 71)).alloc (.cells #[.int .u64 (hs:Int),.int .u64 (he:Int),.int .i64 hz,.int .i64 hc] 106)).alloc (.cells #[.func (.func 98) #[] #[.pointer (some ⟨w.heap.size+1,0,none⟩),.pointer (some ⟨w.heap.size,0,none⟩)],.func (.func 96) #[.pointer (some ⟨d,0,none⟩)] #[],.func (.func 101) #[] #[.pointer (some ⟨w.heap.size+1,0,none⟩),.pointer (some ⟨w.heap.size,0,none⟩)]] 38)):=⟨_,rfl⟩
 have hB1:Below w.heap.size w W1:=by rw[hW1];exact(((Below.refl _ w).alloc (zG _) _).alloc (by simp) _).alloc (by simp;omega) _
 have b0:BlkIs W1 w.heap.size 71 #[.pointer (some ⟨l,0,none⟩)]:=by rw[hW1];exact((BlkIs.new w _ _).alloc _).alloc _
 have b1:BlkIs W1 (w.heap.size+1) 106 #[.int .u64 (hs:Int),.int .u64 (he:Int),.int .i64 hz,.int .i64 hc]:=by
  have:=(BlkIs.new (w.alloc (.cells #[.pointer (some ⟨l,0,none⟩)] 71)) 106 #[.int .u64 (hs:Int),.int .u64 (he:Int),.int .i64 hz,.int .i64 hc])
  rw[World.size_alloc] at this
  rw[hW1]
  exact this.alloc _
 have b2:BlkIs W1 (w.heap.size+1+1) 38 #[.func (.func 98) #[] #[.pointer (some ⟨w.heap.size+1,0,none⟩),.pointer (some ⟨w.heap.size,0,none⟩)],.func (.func 96) #[.pointer (some ⟨d,0,none⟩)] #[],.func (.func 101) #[] #[.pointer (some ⟨w.heap.size+1,0,none⟩),.pointer (some ⟨w.heap.size,0,none⟩)]]:=by
  have:=BlkIs.new ((w.alloc (.cells #[.pointer (some ⟨l,0,none⟩)] 71)).alloc (.cells #[.int .u64 (hs:Int),.int .u64 (he:Int),.int .i64 hz,.int .i64 hc] 106)) 38 #[.func (.func 98) #[] #[.pointer (some ⟨w.heap.size+1,0,none⟩),.pointer (some ⟨w.heap.size,0,none⟩)],.func (.func 96) #[.pointer (some ⟨d,0,none⟩)] #[],.func (.func 101) #[] #[.pointer (some ⟨w.heap.size+1,0,none⟩),.pointer (some ⟨w.heap.size,0,none⟩)]]
  rw[World.size_alloc,World.size_alloc] at this
  rw[hW1]
  exact this
 obtain⟨fs,hfs⟩:∃fs:List FnV,fs=[⟨98,#[],#[.pointer (some ⟨w.heap.size+1,0,none⟩),.pointer (some ⟨w.heap.size,0,none⟩)]⟩,⟨96,#[.pointer (some ⟨d,0,none⟩)],#[]⟩,⟨101,#[],#[.pointer (some ⟨w.heap.size+1,0,none⟩),.pointer (some ⟨w.heap.size,0,none⟩)]⟩]:=⟨_,rfl⟩
 have HX:(wrL (hs % 2) (hEnc hs he hz hc) 1).length=1:=wrL_length _ _ _
 have HS:=steps_gives W1 (w.heap.size+1+1) 3 fs
  (fun k V=>(BlkIs V w.heap.size 71 #[.pointer (some ⟨l,0,none⟩)]/\BlkIs V (w.heap.size+1) 106 #[.int .u64 (hs:Int),.int .u64 (he:Int),.int .i64 hz,.int .i64 hc]/\BlkIs V (w.heap.size+1+1) 38 #[.func (.func 98) #[] #[.pointer (some ⟨w.heap.size+1,0,none⟩),.pointer (some ⟨w.heap.size,0,none⟩)],.func (.func 96) #[.pointer (some ⟨d,0,none⟩)] #[],.func (.func 101) #[] #[.pointer (some ⟨w.heap.size+1,0,none⟩),.pointer (some ⟨w.heap.size,0,none⟩)]]/\GrowBut (fun k=>k=d∨k=l) w V) /\
   (k=0->DkIs V d many g xs left false/\BlkIs V l 104 (lgC (some ⟨d,0,none⟩) fr pg sr ep sz A n c)) /\
   (k=1->DkIs V d many g (xs++wrL (hs % 2) (hEnc hs he hz hc) 1) left false/\BlkIs V l 104 (lgC (some ⟨d,0,none⟩) fr pg sr ep sz A n c)) /\
   (k=2->DkIs V d many (laid g (xs++wrL (hs % 2) (hEnc hs he hz hc) 1)) [] left false/\BlkIs V l 104 (lgC (some ⟨d,0,none⟩) fr pg sr ep sz A n c)) /\
   (k=3->DkIs V d many (laid g (xs++wrL (hs % 2) (hEnc hs he hz hc) 1)) [] left false/\BlkIs V l 104 (lgC (some ⟨d,0,none⟩) fr pg hs he sz A n c)))
  (fun _ _=>False) (by rw[hfs];simp)
  (by
   rintro k hk W ⟨⟨_,_,h3,_⟩,_⟩
   rw[h3.cell]
   subst hfs
   match k,hk with
   | 0,_=>rfl
   | 1,_=>rfl
   | 2,_=>rfl
   | k+3,h=>exact absurd h (by simp))
  (by
   rintro k hk W ⟨⟨h1,h2,h3,h4⟩,q0,q1,q2,q3⟩
   have hsz:=h4.size
   subst hfs
   match k,hk with
   | 0,_ =>
    obtain⟨hDw,hlw⟩:=q0 rfl
    have k0':W.cell? ⟨l,0,none⟩=some (.pointer (some ⟨d,0,none⟩)):=by rw[hlw.cell];rfl
    refine⟨enters_of Tryz.func98 (by kernel_rfl) rfl,(lay1_gives W l d many w.heap.size (w.heap.size+1) g xs left hs he hz hc hDw hl h1l h2l h1 h2 k0' hld (by omega) (by omega) (by omega) hok hm2 hmax).mono ?_⟩
    rintro e w2 ⟨rfl,hD2,hg2⟩
    have n0:some w.heap.size≠some d:=fun e=>by injection e with e;omega
    have n1:some (w.heap.size+1)≠some d:=fun e=>by injection e with e;omega
    have n2:some (w.heap.size+1+1)≠some d:=fun e=>by injection e with e;omega
    exact .inl ⟨rfl,⟨h1.grown hg2 n0,h2.grown hg2 n1,h3.grown hg2 n2,h4.trans (GrowBut.grown hg2 (fun r e=>by cases e;exact .inl (.inl rfl)))⟩,(fun e=>by cases e),(fun _=>⟨hD2,hlw.grown hg2 (fun e=>by injection e with e;exact hld e)⟩),(fun e=>by cases e),(fun e=>by cases e)⟩
   | 1,_ =>
    obtain⟨hDw,hlw⟩:=q1 rfl
    refine⟨enters_of Tryz.func96 (by kernel_rfl) rfl,(sync_gives W d many g _ left false hDw rfl (by rw[zY,HX];omega) h1l h2l).mono ?_⟩
    rintro e w2 ⟨rfl,hD2,hg2⟩
    have n0:some w.heap.size≠some d:=fun e=>by injection e with e;omega
    have n1:some (w.heap.size+1)≠some d:=fun e=>by injection e with e;omega
    have n2:some (w.heap.size+1+1)≠some d:=fun e=>by injection e with e;omega
    exact .inl ⟨rfl,⟨h1.grown hg2 n0,h2.grown hg2 n1,h3.grown hg2 n2,h4.trans (GrowBut.grown hg2 (fun r e=>by cases e;exact .inl (.inl rfl)))⟩,(fun e=>by cases e),(fun e=>by cases e),(fun _=>⟨hD2,hlw.grown hg2 (fun e=>by injection e with e;exact hld e)⟩),(fun e=>by cases e)⟩
   | 2,_ =>
    obtain⟨hDw,hlw⟩:=q2 rfl
    refine⟨enters_of Tryz.func101 (by kernel_rfl) rfl,(lay2_gives W l w.heap.size (w.heap.size+1) hs he hz hc (some ⟨d,0,none⟩) fr pg sr ep sz A n c h1 h2 hlw (by omega) (by omega)).mono ?_⟩
    rintro e w2 ⟨rfl,rfl,hl2⟩
    have hld':d≠l:=fun e=>hld e.symm
    have hl1:=hlw.drew.set 3 (.int .u64 (hs:Int))
    exact .inl ⟨rfl,⟨(h1.drew.other (by show ¬ _=l;omega) _).other (by show ¬ _=l;omega) _,(h2.drew.other (by show ¬ _=l;omega) _).other (by show ¬ _=l;omega) _,(h3.drew.other (by show ¬ _=l;omega) _).other (by show ¬ _=l;omega) _,
     ((h4.trans (GrowBut.grown (grownBy_drew W none) (fun r e=>by cases e))).trans (GrowBut.setCell _ _ _ (.inr rfl))).trans (GrowBut.setCell _ _ _ (.inr rfl))⟩,(fun e=>by cases e),(fun e=>by cases e),(fun e=>by cases e),(fun _=>⟨((hDw.grow (Below.refl _ _).drew).setOther hlw.drew (by show 7<=64;decide) hld' _ _ rfl).setOther hl1 (by simp;show 7<=64;decide) hld' _ _ rfl,hl2⟩)⟩
   | k+3,h=>exact absurd h (by simp))
  ⟨⟨b0,b1,b2,GrowBut.below hB1⟩,(fun _=>⟨hD.grow hB1,hlg.below hB1 hll⟩),(fun e=>by cases e),(fun e=>by cases e),(fun e=>by cases e)⟩
 have hfl:fs.length=3:=by rw[hfs];rfl
 rw[hfl,hW1] at HS
 clear hW1 b0 b1 b2 hB1 hfs hD
 go_enter Tryz.func60,Tryz.ntmps60
 go_wp2_with (go_at_call 97;refine HS.mono ?_;rintro e w2 (⟨rfl,⟨_,_,_,h4⟩,_,_,_,q3⟩|⟨x,_,_,hx⟩))
 obtain⟨q4,q5⟩:=q3 (by first|rfl|trivial)
 go_ret
 exact⟨rfl,q4,q5,h4⟩
end
namespace RegF
section
variable {P:Program}{ops:Array Oper}{Q:Exit->Act->World->Prop}{md:Region.Mode}{S:World->Prop}{fin:Nat}
theorem first0 {i:Nat}{oi:Oper}{v:Value}(hi:ops[i]? = some oi)(hsel:∀(j:Nat) (o:Oper) cs b,ops[j]? = some o->o.op≠.select cs b)
  (hQ:∀c a w,Q (.panic c) (a.put oi.dst v) w->Q (.panic c) a w) (hfin:ops[fin]? = none) :
  ∀(fuel:Nat) (listed:Array Bool) (a:Act) (w:World),
   (∀j oj,ops[j]? = some oj->j≠i->listed.getD j true=false->(∀e∈oj.after,Region.binds md e=true->e.on≠i)->oi.apart ops oj=true) ->
   i∈Region.ready md ops listed->YieldsIf P ops S oi v a->S w ->
   wpAnyF P md ops Q S fin fuel (listed.setIfInBounds i true) (a.put oi.dst v) w->wpAnyF P md ops Q S fin (fuel+1) listed a w:=by
 intro fuel
 induction fuel with
 | zero =>
  intro listed a w _ hr hy hS H
  refine⟨fun h=>(by rw[h] at hr;cases hr),fun j hj => ?_⟩
  by_cases hji:j=i
  ·subst hji;exact hy.wpOp hi hS ⟨fun _=>hS,H⟩
  ·have:=ready_mono hj hji
   rw[H.1] at this
   cases this
 | succ fuel ih =>
  intro listed a w hfree hr hy hS H
  refine⟨fun h=>(by rw[h] at hr;cases hr),fun j hj => ?_⟩
  by_cases hji:j=i
  ·subst hji;exact hy.wpOp hi hS ⟨fun _=>hS,H⟩
  ·have h1:=H.2 j (ready_mono hj hji)
   obtain⟨hjun,oj,hoj,hall⟩:=mem_ready.1 hj
   have hnot:∀e∈oj.after,Region.binds md e=true->e.on≠i:=fun e he hb heq=>by
    have h1:=hall e he hb
    have h0:=(mem_ready.1 hr).1
    rw[heq] at h1
    rcases Nat.lt_or_ge i listed.size with h' | h'
    ·simp[h'] at h0 h1;rw[h0] at h1;cases h1
    ·simp[Array.getElem?_eq_none h'] at h1
   have hjf:j≠fin:=fun e=>by subst e;rw[hoj] at hfin;cases hfin
   have h2:=wpOp_putIf hoj (hfree j oj hoj hji hjun hnot) (fun cs b=>hsel i oi cs b hi) (fun cs b=>hsel j oj cs b hoj) hQ hy h1
   have hfree':∀k ok,ops[k]? = some ok->k≠i->(listed.setIfInBounds j true).getD k true=false ->
     (∀e∈ok.after,Region.binds md e=true->e.on≠i)->oi.apart ops ok=true:=fun k ok hk hki hun hno=>by
    refine hfree k ok hk hki ?_ hno
    by_cases hjk:j=k
    ·subst hjk;exact hjun
    ·rw[getD_set_ne true hjk] at hun;exact hun
   refine wpOp_mono (fun a' w' h3=>⟨h3.2.1,ih (listed.setIfInBounds j true) a' w' hfree' (ready_mono hr (Ne.symm hji)) h3.1 (h3.2.1 hjf) ?_⟩) h2
   rw[Array.setIfInBounds_comm _ _ hji]
   exact h3.2.2
theorem take0 {fuel:Nat}{listed:Array Bool}{a:Act}{w:World}(i:Nat){oi:Oper}(v:Value)(hi:ops[i]? = some oi)
  (hs:Region.noSelect ops=true) (hf:Region.free md ops listed i=true) (hr:(Region.ready md ops listed).contains i=true) (hfin:ops[fin]? = none)
  (hQ:∀c a w,Q (.panic c) (a.put oi.dst v) w->Q (.panic c) a w) (hS:S w) (hy:YieldsIf P ops S oi v a)
  (h:wpAnyF P md ops Q S fin fuel (listed.setIfInBounds i true) (a.put oi.dst v) w):wpAnyF P md ops Q S fin (fuel+1) listed a w :=
 first0 hi (Region.noSelect_spec hs) hQ hfin fuel listed a w (Region.free_spec hi hf) (by simpa using hr) hy hS h
theorem t0 {fuel:Nat}{listed:Array Bool}{a:Act}{w:World}(i:Nat){oi:Oper}(v:Value)(hi:ops[i]? = some oi)(hS:S w)(h1:∀W,S W->(execOp a.eval oi).run P W = .ok (.value v) W)(h:wpAnyF P md ops Q S fin fuel (listed.setIfInBounds i true) (a.put oi.dst v) w)(hs:Region.noSelect ops=true:=by kernel_rfl)(hf:Region.free md ops listed i=true:=by kernel_rfl)(hr:(Region.ready md ops listed).contains i=true:=by kernel_rfl)(hfin:ops[fin]? = none:=by rfl)(hQ:∀c a w,Q (.panic c) (a.put oi.dst v) w->Q (.panic c) a w:=by exact fun _ _ _ h=>h)(hg:oi.guard=none:=by rfl):wpAnyF P md ops Q S fin (fuel+1) listed a w :=
 take0 i v hi hs hf hr hfin hQ hS (yld hg h1) h
end
end RegF
namespace RegF
theorem opCT {P:Program}{ops:Array Oper}{Q:Exit->Act->World->Prop}{i:Nat}{o:Oper}{K:Act->World->Prop}{a:Act}{w:World}(f:FuncId)(x:Operand)(xs:Array Operand)(ts:Array TypeId)(ho:ops[i]? = some o)(hg:o.guard=none)(hc:o.op = .call { callee:=.value x,args:=xs,argTypes:=ts })
  (hx:a.eval x = .func (.func f) #[] #[]) (hent:∀args w,(callFunc f args).run P w = .ok (.enter f args) w) (args:Array Value) (ha:xs.map a.eval=args) (h:Calls P f args w fun e w'=>∃v,e = .returned v/\K (a.put o.dst v) w'):wpOp P ops Q i K a w:=by
 unfold wpOp
 simp only[ho]
 rw[if_pos (by simp[Region.wanted,hg])]
 left
 have hr:(execOp a.eval o).run P w = .ok (.enter f args) w:=by
  simp[execOp,hc,resolve,ha,hx,Deferred.ofValue,invoke,hent args w]
 unfold Oper.wp
 rw[hr,Oper.upon_enter]
 refine h.mono ?_
 rintro e w' ⟨v,rfl,hK⟩
 exact hK
end RegF
theorem isNaN64_gives (w:World)(x:Nat):Calls Tryz.prog 139 #[.int .u64 (x:Int)] w fun e w'=>e = .returned (.bool false)/\w=w':=by
 go_enter Tryz.func139,Tryz.ntmps139
 go_wp2
 go_ret
 exact⟨rfl,rfl⟩
theorem compare64_gives (w:World)(x:Nat):Calls Tryz.prog 94 #[.int .u64 (x:Int),.int .u64 (x:Int)] w fun e w'=>e = .returned (.int .i64 0)/\w=w':=by
 have h0:¬ (x:Int)<(x:Int):=by omega
 go_enter Tryz.func94,Tryz.ntmps94
 go_wp2_with (go_at_call 139;refine(isNaN64_gives w x).mono ?_;rintro e w' ⟨rfl,rfl⟩)
 go_ret
 exact⟨rfl,rfl⟩
theorem head1_gives (w:World)(x a b:Nat)(p q p' q':Int):Calls Tryz.prog 93 #[.agg #[.int .u64 (x:Int),.int .u64 (a:Int),.int .i64 p,.int .i64 q],.agg #[.int .u64 (x:Int),.int .u64 (b:Int),.int .i64 p',.int .i64 q']] w fun e w'=>e = .returned (.int .i64 0)/\Below w.heap.size w w':=by
 have hB:Below w.heap.size w ((w.alloc (.cells #[.int .u64 (x:Int),.int .u64 (a:Int),.int .i64 p,.int .i64 q] 106)).alloc (.cells #[.int .u64 (x:Int),.int .u64 (b:Int),.int .i64 p',.int .i64 q'] 106)):=((Below.refl _ w).alloc (zG _) _).alloc (by simp) _
 go_enter Tryz.func93,Tryz.ntmps93
 go_wp2_with (go_at_call 94;refine(compare64_gives _ x).mono ?_;rintro e w' ⟨rfl,rfl⟩)
 go_ret
 exact⟨rfl,hB⟩
def zhd:List Value:=[.int .u64 0,.int .u64 0,.int .i64 0,.int .i64 0]
theorem maxz_gives (w:World)(q:Nat)(T:TypeId)(hq:BlkIs w q T (zhd++zhd).toArray):Calls Tryz.prog 95 #[.slice (some ⟨q,0,none⟩) 2 2,.func (.func 93) #[] #[]] w fun e w'=>e = .returned (.agg #[.int .u64 0,.int .u64 0,.int .i64 0,.int .i64 0])/\Below w.heap.size w w':=by
 have hql:=hq.lt
 have hr:w.rangeAt q 0 (zhd++zhd):=by
  have:=hq.rangeOf 0 (n:=8)
  exact this
 have hr4:w.rangeAt q 4 zhd:=fun j v hj=>by
  have:=hr (4+j) v (by rw[List.getElem?_append_right (by simp[zhd]),show 4+j - zhd.length=j by simp[zhd]];exact hj)
  simpa using this
 have hr0:w.rangeAt q 0 zhd:=fun j v hj=>hr j v (by rw[List.getElem?_append_left (List.getElem?_eq_some_iff.1 hj).1];exact hj)
 have hz1:∀v∈(#[.int .u64 0,.int .u64 0,.int .i64 0,.int .i64 0]:Array Value).toList,v.oneCell'=true:=by
  intro v hv
  simp at hv
  rcases hv with rfl|rfl<;>rfl
 have hBa:Below w.heap.size w (w.alloc (.cells #[.int .u64 0,.int .u64 0,.int .i64 0,.int .i64 0] 106)):=(Below.refl _ w).alloc (zG _) _
 have hr0a:(w.alloc (.cells #[.int .u64 0,.int .u64 0,.int .i64 0,.int .i64 0] 106)).rangeAt q 0 zhd:=fun j v hj=>(hBa.cell (p:=⟨q,0+j,none⟩) hql).trans (hr0 j v hj)
 have b1:=BlkIs.new (w.alloc (.cells #[.int .u64 0,.int .u64 0,.int .i64 0,.int .i64 0] 106)) 106 #[.int .u64 0,.int .u64 0,.int .i64 0,.int .i64 0]
 have b0:=(BlkIs.new w 106 #[.int .u64 0,.int .u64 0,.int .i64 0,.int .i64 0]).alloc (.cells #[.int .u64 0,.int .u64 0,.int .i64 0,.int .i64 0] 106)
 rw[World.size_alloc] at b1
 have hBb:Below w.heap.size w ((w.alloc (.cells #[.int .u64 0,.int .u64 0,.int .i64 0,.int .i64 0] 106)).alloc (.cells #[.int .u64 0,.int .u64 0,.int .i64 0,.int .i64 0] 106)):=hBa.alloc (by simp) _
 go_enter Tryz.func95,Tryz.ntmps95
 go_wp2_with (first
  | (refine wp_exec rfl (x_loadM rowHead hr0a rfl rfl rfl) ?_)
  | (refine wp_storeW rfl 106 (.tmp 5) (.tmp 13) rfl (w.heap.size+1) rfl rfl rowHead b1 rfl rfl hz1 ?_))
 have bS:=b1.setRow zhd.toArray
 have bS0:=b0.setRow_ne (k:=w.heap.size+1) (by omega) zhd.toArray
 have hBs:Below w.heap.size w (((w.alloc (.cells #[.int .u64 0,.int .u64 0,.int .i64 0,.int .i64 0] 106)).alloc (.cells #[.int .u64 0,.int .u64 0,.int .i64 0,.int .i64 0] 106)).setRow (w.heap.size+1) zhd.toArray):=below_setRow hBb (by omega) _
 generalize ((w.alloc (.cells #[.int .u64 0,.int .u64 0,.int .i64 0,.int .i64 0] 106)).alloc (.cells #[.int .u64 0,.int .u64 0,.int .i64 0,.int .i64 0] 106)).setRow (w.heap.size+1) zhd.toArray=W1 at *
 clear hr0a b1 b0 hBa hBb hr0 hr hq
 go_loopw [6] (fun i wr=>(i = .int .i64 1∨i = .int .i64 2)/\BlkIs wr w.heap.size 106 zhd.toArray/\BlkIs wr (w.heap.size+1) 106 zhd.toArray/\Below w.heap.size w wr) (fun i _=>2 - (intOf i).toNat)
 case atStart=>exact⟨.inl rfl,bS0,bS,hBs⟩
 case round =>
  obtain⟨hi,c0,c1,hB⟩:=hrel
  rcases hi with rfl|rfl
  ·have hr4':∀W,Below wr.heap.size wr W->W.rangeAt q 4 zhd:=fun W hW j v hj=>((hB.trans (hW.mono hB.size)).cell (p:=⟨q,4+j,none⟩) hql).trans (hr4 j v hj)
   go_wp2_with fail
   have hS0:Below wr.heap.size wr wr.drew:=(Below.refl _ _).drew
   refine RegF.start (fun W:World=>Below wr.heap.size wr W) 99 (by kernel_rfl) ?_
   refine RegF.t0 0 (.func (.func 93) #[] #[]) rfl hS0 (fun W hW=>by go_simp) ?_
   simp only[zD,zB,Act.put,zA,zF,zE]
   refine RegF.t0 1 (.slice (some ⟨q,0,none⟩) 2 2) rfl hS0 (fun W hW=>by go_simp) ?_
   simp only[zD,zC,zB,Act.put,zA,zF,zE]
   refine RegF.t0 2 (.int .i64 1) rfl hS0 (fun W hW=>by go_simp) ?_
   simp only[zD,zC,zB,Act.put,zA,zF,zE]
   refine RegF.t0 3 (.pointer (some ⟨q,4,none⟩)) rfl hS0 (fun W hW=>by simp[execOp,go_sem,Act.eval]) ?_
   simp only[zD,zC,zB,Act.put,zA,zF,zE]
   refine RegF.t0 4 (.agg zhd.toArray) rfl hS0 (fun W hW=>by exact x_loadM rowHead (hr4' W hW) rfl rfl rfl) ?_
   simp only[zD,zC,zB,Act.put,zA,zF,zE]
   refine RegF.t0 5 (.agg zhd.toArray) rfl hS0 (fun W hW=>by exact x_loadM rowHead (c1.below hW c1.lt).range rfl rfl rfl) ?_
   simp only[zD,zC,zB,Act.put,zA,zF,zE]
   refine RegF.one 6 (by kernel_rfl) ?_
   refine RegF.opCT 93 (.tmp 20) #[.tmp 24,.tmp 25] #[106,106] rfl rfl rfl rfl (enters_of Tryz.func93 (by kernel_rfl) rfl) #[.agg zhd.toArray,.agg zhd.toArray] (by simp only[zJ,zK,zL];rfl) ((head1_gives wr.drew 0 0 0 0 0 0 0).mono ?_)
   rintro e w2 ⟨rfl,hB2⟩
   have hB02:Below wr.heap.size wr w2:=hS0.trans (hB2.mono (zG _))
   refine⟨_,rfl,fun _=>hB02,?_⟩
   simp only[zD,zC,zB,Act.put,zA,zF,zE]
   refine RegF.one 7 (by kernel_rfl) (RegF.opV (w':=w2) (.bool false) rfl rfl (by go_simp) ⟨fun _=>hB02,RegF.done (by kernel_rfl) ?_⟩)
   simp only[zD,zC,zB,Act.put,zA,zF,zE]
   clear hr4 hr4'
   have d0:=c0.below hB02 c0.lt
   have d1:=c1.below hB02 c1.lt
   go_wp2
   go_roundw
   case rel=>exact⟨.inr rfl,d0,d1,hB.trans (hB02.mono hB.size)⟩
   case measure=>simp[intOf]
  ·clear hr4
   have hz2:∀v∈zhd.toArray.toList,v.oneCell'=true:=hz1
   go_wp2_with (first
    | (refine wp_loadW rfl 106 (.tmp 5) rfl (w.heap.size+1) rfl rowHead c1 rfl ?_)
    | (refine wp_storeW rfl 106 (.tmp 4) (.tmp 32) rfl w.heap.size rfl rfl rowHead c0 rfl rfl hz2 ?_))
   refine bodyPost_ret_by (results_cellW 4 rfl rfl rowHead (c0.setRow _) (by rfl)) rfl ⟨rfl,below_setRow hB (zG _) _⟩
theorem isHead_zer:isHead zer64=false:=by decide +kernel
theorem decHV_zer:decHV zer64 = .tuple #[.agg zhd.toArray,.int .i64 150]:=decHV_no isHead_zer
theorem results_cellW_tmp2 {fn:Func}{P:Program}{a:Act}{w:World}{g:Nat}{T t:TypeId}{cs:Array Value}{v v':Value}(k m m':Tmp)(h:fn.results=#[.cell k T,.tmp m,.tmp m'])(hk:a.eval (.tmp k) = .pointer (some ⟨g,0,none⟩))(hm:a.eval (.tmp m)=v)(hm':a.eval (.tmp m')=v'){n:Nat}(hT:RowTy P T n)(hb:BlkIs w g t cs)(hn:cs.size=n) :
  (results fn a.tmps).run P w = .ok (.tuple #[.agg cs,v,v']) w:=by
 have e:a.tmps.getD k undef = .pointer (some ⟨g,0,none⟩):=hk
 have e2:a.tmps.getD m undef=v:=hm
 have e3:a.tmps.getD m' undef=v':=hm'
 unfold results
 simp only[h]
 simp[-zT,e,e2,e3,asAddr,run_loadW (hn▸hT) hb,Result.andThen]
theorem head_new (w:World)(l d many:Nat)(left:Int)(hD:DkIs w d many (fun _=>zer64) [] left false)(hc:w.cell? ⟨l,0,none⟩=some (.pointer (some ⟨d,0,none⟩)))(hll:l<w.heap.size)(hm2:2<=many)(hmax:many<=1000000) :
  Calls Tryz.prog 59 #[.pointer (some ⟨l,0,none⟩)] w fun e w'=>e = .returned (.tuple #[.agg zhd.toArray,.bool false,.int .i64 0])/\Below w.heap.size w w':=by
 have HR:∀(i:Nat) (W:World),i<2->Below w.heap.size w W->Calls Tryz.prog 91 #[.pointer (some ⟨l,0,none⟩),.int .i64 (i:Int),.int .i64 1] W fun e w'=>∃A c,e = .returned (.tuple #[.slice A 64 c,.int .i64 0])/\InB w' w'.heap.size A c zer64/\Below W.heap.size W w':=fun i W hi hB =>
  wread_gives W l d many _ [] left false (hD.grow hB) rfl (by decide) ((hB.cell (p:=⟨l,0,none⟩) hll).trans hc) (zO hll hB.size) i 1 (by omega) hmax
 have hz1:∀v∈zhd.toArray.toList,v.oneCell'=true:=by
  intro v hv
  simp[zhd] at hv
  rcases hv with rfl|rfl<;>rfl
 have b0:=(BlkIs.new w 106 #[.int .u64 0,.int .u64 0,.int .i64 0,.int .i64 0]).alloc (.cells #[.int .u64 0,.int .u64 0,.int .i64 0,.int .i64 0,.int .u64 0,.int .u64 0,.int .i64 0,.int .i64 0] 151)
 have b1:=BlkIs.new (w.alloc (.cells #[.int .u64 0,.int .u64 0,.int .i64 0,.int .i64 0] 106)) 151 #[.int .u64 0,.int .u64 0,.int .i64 0,.int .i64 0,.int .u64 0,.int .u64 0,.int .i64 0,.int .i64 0]
 rw[World.size_alloc] at b1
 have hBb:Below w.heap.size w ((w.alloc (.cells #[.int .u64 0,.int .u64 0,.int .i64 0,.int .i64 0] 106)).alloc (.cells #[.int .u64 0,.int .u64 0,.int .i64 0,.int .i64 0,.int .u64 0,.int .u64 0,.int .i64 0,.int .i64 0] 151)):=((Below.refl _ w).alloc (zG _) _).alloc (by simp) _
 clear hD
 go_enter Tryz.func59,Tryz.ntmps59
 go_wp2
 go_loopw [13,6] (fun i v wr=>∃k:Nat,k<=2/\i = .int .i64 (k:Int)/\v = .bool false/\BlkIs wr w.heap.size 106 zhd.toArray/\BlkIs wr (w.heap.size+1) 151 (zhd++zhd).toArray/\Below w.heap.size w wr) (fun i _ _=>2 - (intOf i).toNat)
 case atStart=>exact⟨0,by omega,rfl,rfl,b0,b1,hBb⟩
 case round =>
  obtain⟨k,hk,rfl,rfl,c0,c1,hB⟩:=hrel
  by_cases hlt:k<2
  ·have HRk:=HR k wr hlt hB
   have hwk:IntKind.i64.wrap ((k:Int)+1)=(k:Int)+1:=wrap_i64_fr _ (by omega) (by omega)
   clear HR b0 b1 hBb
   go_wp2_with (first
    | (go_at_call 91;refine HRk.mono ?_;rintro e w2 ⟨A,c,rfl,hin,hB2⟩)
    | (go_at_call 92;have HDD:=decodeHead_gives w2 A c zer64 hin;rw[decHV_zer] at HDD;refine HDD.mono ?_;rintro e w3 ⟨rfl,hB3⟩;have b4:=BlkIs.new w3 106 #[.int .u64 0,.int .u64 0,.int .i64 0,.int .i64 0])
    | (refine wp_storeW rfl 106 (.tmp 10) (.tmp 31) rfl w3.heap.size rfl rfl rowHead b4 rfl rfl hz1 ?_))
   have hB4:Below wr.heap.size wr ((w3.alloc (.cells #[.int .u64 0,.int .u64 0,.int .i64 0,.int .i64 0] 106)).setRow w3.heap.size zhd.toArray):=below_setRow ((hB2.trans (hB3.mono hB2.size)).alloc (zP hB2.size hB3.size) _) (zP hB2.size hB3.size) _
   go_roundw
   case rel=>exact⟨k+1,by omega,by simp,rfl,c0.below hB4 c0.lt,c1.below hB4 c1.lt,hB.trans (hB4.mono hB.size)⟩
   case measure=>simp[intOf];omega
  ·obtain rfl:k=2:=by omega
   have HM:=maxz_gives wr (w.heap.size+1) _ c1
   clear HR b0 b1 hBb
   go_wp2_with (first
    | (go_at_call 95;refine HM.mono ?_;rintro e w5 ⟨rfl,hB5⟩;have d0:=c0.below hB5 c0.lt)
    | (refine wp_storeW rfl 106 (.tmp 2) (.tmp 49) rfl w.heap.size rfl rfl rowHead d0 rfl rfl hz1 ?_))
   refine bodyPost_ret_by (results_cellW_tmp2 2 3 4 rfl rfl rfl rfl rowHead (d0.setRow _) (by rfl)) rfl ⟨rfl,below_setRow (hB.trans (hB5.mono hB.size)) (zG _) _⟩
theorem count_zero (w:World)(l:Nat)(fr:Int)(h1:0<=fr)(hc:w.cell? ⟨l,1,none⟩=some (.int .i64 fr)):Calls Tryz.prog 61 #[.pointer (some ⟨l,0,none⟩),.int .i64 0] w fun e w'=>e = .returned (.int .i64 0)/\w=w':=by
 have hmin:(if fr<0 then fr else 0)=0:=by rw[if_neg (by omega)]
 go_enter Tryz.func61,Tryz.ntmps61
 go_wp2
 go_loopw [20] (fun i wr=>i = .int .i64 0/\wr=w) (fun _ _=>0)
 case atStart=>exact⟨rfl,rfl⟩
 case round =>
  obtain⟨rfl,rfl⟩:=hrel
  go_wp2
  go_ret
  exact⟨rfl,rfl⟩
theorem setCell_grown (w:World)(p:Addr)(v:Value):w.grownBy (w.setCell p v) (some p.block):=⟨rfl,rfl,rfl,by simp,fun k _ hk=>Below.heap_setCell _ _ _ k (fun e=>hk (by rw[e]))⟩
theorem setRow_grown (w:World)(q:Nat)(cs:Array Value):w.grownBy (w.setRow q cs) (some q):=⟨by simp[World.setRow],by simp[World.setRow],by simp[World.setRow],by simp[World.setRow],fun k _ hk=>setRow_other w q k cs (fun e=>hk (by rw[e]))⟩
theorem DkIs.setRowO {w:World}{p many:Nat}{g:Nat->List UInt8}{xs:List (Nat×List UInt8)}{left:Int}{stops:Bool}{q:Nat}{t:TypeId}{cs:Array Value}(h:DkIs w p many g xs left stops)(hq:BlkIs w q t cs)(h64:cs.size<=64)(hpq:p≠q)(cs':Array Value):DkIs (w.setRow q cs') p many g xs left stops :=
 h.other hq h64 hpq (setRow_grown w q cs')
namespace RegF
section
variable {P:Program}{ops:Array Oper}{Q:Exit->Act->World->Prop}{md:Region.Mode}{S:World->Prop}{fin:Nat}
def Closed (md:Region.Mode)(ops:Array Oper)(l:Array Bool):Prop:=∀j o,ops[j]? = some o->l.getD j false=true->∀e∈o.after,Region.binds md e=true->l.getD e.on false=true
def closedB (md:Region.Mode)(ops:Array Oper)(l:Array Bool):Bool:=(List.range ops.size).all fun j=>match ops[j]? with|some o => !l.getD j false || o.after.toList.all (fun e => !Region.binds md e || l.getD e.on false)|none=>true
theorem closedB_spec {l:Array Bool}(h:closedB md ops l=true):Closed md ops l:=by
 intro j o ho hl e he hb
 unfold closedB at h
 rw[qG] at h
 have:=h j (List.mem_range.2 (zH.1 ho).1)
 simp only[ho,hl,Bool.not_true,Bool.false_or,qG] at this
 have:=this e (Array.mem_toList_iff.2 he)
 simpa[hb] using this
def reach (md:Region.Mode)(ops:Array Oper):Nat->Nat->Nat->Bool
 | 0,_,_=>false
 | n+1,j,i=>match ops[j]? with|some o=>o.after.toList.any (fun e=>Region.binds md e && (e.on == i || reach md ops n e.on i))|none=>false
theorem reach_spec {n j i:Nat}{o:Oper}(h:reach md ops (n+1) j i=true)(ho:ops[j]? = some o):∃e∈o.after,Region.binds md e=true/\(e.on=i∨reach md ops n e.on i=true):=by
 simp only[reach,ho,List.any_eq_true,Bool.and_eq_true,Bool.or_eq_true,beq_iff_eq] at h
 obtain⟨e,hm,hb,he⟩:=h
 exact⟨e,Array.mem_toList_iff.1 hm,hb,he⟩
theorem not_listed {l:Array Bool}(hc:Closed md ops l){i:Nat}(hi:l.getD i false=false):∀(n j:Nat),reach md ops n j i=true->l.getD j false=false
 | 0,_,h=>by cases h
 | n+1,j,h=>by
  cases hj:l.getD j false with
  | false=>rfl
  | true =>
   cases ho:ops[j]? with
   | none=>simp[reach,ho] at h
   | some o =>
    obtain⟨e,he,hb,h1⟩:=reach_spec h ho
    have h2:=hc j o ho hj e he hb
    rcases h1 with rfl|h1
    ·rw[hi] at h2;cases h2
    ·rw[not_listed hc hi n _ h1] at h2;cases h2
theorem not_ready {l:Array Bool}(hc:Closed md ops l){i n j:Nat}(hi:l.getD i false=false)(hr:reach md ops n j i=true):¬ j∈Region.ready md ops l:=by
 intro h
 obtain⟨_,o,ho,hall⟩:=mem_ready.1 h
 cases n with
 | zero=>cases hr
 | succ n =>
  obtain⟨e,he,hb,h1⟩:=reach_spec hr ho
  have h2:=hall e he hb
  rcases h1 with rfl|h1
  ·rw[hi] at h2;cases h2
  ·rw[not_listed hc hi n _ h1] at h2;cases h2
theorem getD_set_mono {l:Array Bool}{j k:Nat}(h:l.getD k false=true):(l.setIfInBounds j true).getD k false=true:=by
 by_cases e:j=k
 ·subst e
  rcases Nat.lt_or_ge j l.size with h' | h'
  ·simp[h']
  ·simp[Array.getElem?_eq_none h'] at h
 ·rw[getD_set_ne false e];exact h
theorem Closed.set {l:Array Bool}(hc:Closed md ops l){j:Nat}(hj:j∈Region.ready md ops l):Closed md ops (l.setIfInBounds j true):=by
 intro k o ho hk e he hb
 by_cases hkj:j=k
 ·subst hkj
  obtain⟨_,o',ho',hall⟩:=mem_ready.1 hj
  rw[ho] at ho'
  cases ho'
  exact getD_set_mono (hall e he hb)
 ·rw[getD_set_ne false hkj] at hk
  exact getD_set_mono (hc k o ho hk e he hb)
theorem unlisted {l:Array Bool}{i:Nat}(h:i∈Region.ready md ops l):l.getD i false=false:=by
 have h0:=(mem_ready.1 h).1
 rcases Nat.lt_or_ge i l.size with h' | h'
 ·simp[h'] at h0 ⊢;exact h0
 ·simp[Array.getElem?_eq_none h'] at h0
theorem first1 {i n:Nat}{oi:Oper}{v:Value}(hi:ops[i]? = some oi)(hsel:∀(j:Nat) (o:Oper) cs b,ops[j]? = some o->o.op≠.select cs b)
  (hQ:∀c a w,Q (.panic c) (a.put oi.dst v) w->Q (.panic c) a w) (hfin:reach md ops n fin i=true) :
  ∀(fuel:Nat) (listed:Array Bool) (a:Act) (w:World),Closed md ops listed ->
   (∀j oj,ops[j]? = some oj->j≠i->listed.getD j true=false->(∀e∈oj.after,Region.binds md e=true->e.on≠i)->oi.apart ops oj=true) ->
   i∈Region.ready md ops listed->YieldsIf P ops S oi v a->S w ->
   wpAnyF P md ops Q S fin fuel (listed.setIfInBounds i true) (a.put oi.dst v) w->wpAnyF P md ops Q S fin (fuel+1) listed a w:=by
 intro fuel
 induction fuel with
 | zero =>
  intro listed a w _ _ hr hy hS H
  refine⟨fun h=>(by rw[h] at hr;cases hr),fun j hj => ?_⟩
  by_cases hji:j=i
  ·subst hji;exact hy.wpOp hi hS ⟨fun _=>hS,H⟩
  ·have:=ready_mono hj hji
   rw[H.1] at this
   cases this
 | succ fuel ih =>
  intro listed a w hcl hfree hr hy hS H
  refine⟨fun h=>(by rw[h] at hr;cases hr),fun j hj => ?_⟩
  by_cases hji:j=i
  ·subst hji;exact hy.wpOp hi hS ⟨fun _=>hS,H⟩
  ·have h1:=H.2 j (ready_mono hj hji)
   obtain⟨hjun,oj,hoj,hall⟩:=mem_ready.1 hj
   have hnot:∀e∈oj.after,Region.binds md e=true->e.on≠i:=fun e he hb heq=>by
    have h1:=hall e he hb
    rw[heq,unlisted hr] at h1
    cases h1
   have hjf:j≠fin:=fun e=>by
    subst e
    exact not_ready hcl (unlisted hr) hfin hj
   have h2:=wpOp_putIf hoj (hfree j oj hoj hji hjun hnot) (fun cs b=>hsel i oi cs b hi) (fun cs b=>hsel j oj cs b hoj) hQ hy h1
   have hfree':∀k ok,ops[k]? = some ok->k≠i->(listed.setIfInBounds j true).getD k true=false ->
     (∀e∈ok.after,Region.binds md e=true->e.on≠i)->oi.apart ops ok=true:=fun k ok hk hki hun hno=>by
    refine hfree k ok hk hki ?_ hno
    by_cases hjk:j=k
    ·subst hjk;exact hjun
    ·rw[getD_set_ne true hjk] at hun;exact hun
   refine wpOp_mono (fun a' w' h3=>⟨h3.2.1,ih (listed.setIfInBounds j true) a' w' (hcl.set hj) hfree' (ready_mono hr (Ne.symm hji)) h3.1 (h3.2.1 hjf) ?_⟩) h2
   rw[Array.setIfInBounds_comm _ _ hji]
   exact h3.2.2
theorem take1 {fuel:Nat}{listed:Array Bool}{a:Act}{w:World}(i:Nat){oi:Oper}(v:Value)(hi:ops[i]? = some oi)
  (hs:Region.noSelect ops=true) (hf:Region.free md ops listed i=true) (hr:(Region.ready md ops listed).contains i=true) (hcl:closedB md ops listed=true) (hfin:reach md ops 30 fin i=true)
  (hQ:∀c a w,Q (.panic c) (a.put oi.dst v) w->Q (.panic c) a w) (hS:S w) (hy:YieldsIf P ops S oi v a)
  (h:wpAnyF P md ops Q S fin fuel (listed.setIfInBounds i true) (a.put oi.dst v) w):wpAnyF P md ops Q S fin (fuel+1) listed a w :=
 first1 hi (Region.noSelect_spec hs) hQ hfin fuel listed a w (closedB_spec hcl) (Region.free_spec hi hf) (by simpa using hr) hy hS h
theorem t1 {fuel:Nat}{listed:Array Bool}{a:Act}{w:World}(i:Nat){oi:Oper}(v:Value)(hi:ops[i]? = some oi)(hS:S w)(h1:∀W,S W->(execOp a.eval oi).run P W = .ok (.value v) W)(h:wpAnyF P md ops Q S fin fuel (listed.setIfInBounds i true) (a.put oi.dst v) w)(hs:Region.noSelect ops=true:=by kernel_rfl)(hf:Region.free md ops listed i=true:=by kernel_rfl)(hr:(Region.ready md ops listed).contains i=true:=by kernel_rfl)(hcl:closedB md ops listed=true:=by kernel_rfl)(hfin:reach md ops 30 fin i=true:=by kernel_rfl)(hQ:∀c a w,Q (.panic c) (a.put oi.dst v) w->Q (.panic c) a w:=by exact fun _ _ _ h=>h)(hg:oi.guard=none:=by rfl):wpAnyF P md ops Q S fin (fuel+1) listed a w :=
 take1 i v hi hs hf hr hcl hfin hQ hS (yld hg h1) h
end
end RegF
theorem rowPW:RowTy Tryz.prog 129 2:=⟨⟨_,Tryz.underlying129,rfl⟩,by kernel_rfl⟩
theorem right1_gives (w:World)(lb l:Nat)(D:Option Addr)(fr pg:Int)(sr ep:Nat)(sz:Int)(A:Option Addr)(n c:Nat)(hlb:BlkIs w lb 71 #[.pointer (some ⟨l,0,none⟩)])(hlg:BlkIs w l 104 (lgC D fr pg sr ep sz A n c))(p:Int)(A2:Option Addr)(c2:Nat)(hp:plE (planOk fr pg) p pg=0) :
  Calls Tryz.prog 192 #[.agg #[.int .i64 p,.slice A2 512 c2],.pointer (some ⟨lb,0,none⟩)] w fun e w'=>e = .returned (.bool false)/\Below w.heap.size w w':=by
 obtain⟨W0,hW0⟩:∃W0,W0=w.alloc (.cells #[.int .i64 p,.slice A2 512 c2] 129):=⟨_,rfl⟩
 have hB0:Below w.heap.size w W0:=by rw[hW0];exact(Below.refl _ w).alloc (zG _) _
 have b0:BlkIs W0 w.heap.size 129 #[.int .i64 p,.slice A2 512 c2]:=by rw[hW0];exact BlkIs.new w _ _
 have hlb0:=hlb.below hB0 hlb.lt
 have hlg0:=hlg.below hB0 hlg.lt
 have HP:∀W,Calls Tryz.prog 121 #[.agg #[.int .i64 fr,.int .i64 pg],.int .i64 p] W fun e w'=>e = .returned (.tuple #[.int .i64 (2+9*fr+8*p),.int .i64 0])/\Below W.heap.size W w':=fun W=>by
  have:=pageAt_gives fr pg p W
  unfold atV at this
  rw[hp,if_pos rfl] at this
  exact this
 go_enter Tryz.func192,Tryz.ntmps192
 go_wp2_with fail
 rw[<-hW0]
 clear hW0
 have hS0:Below W0.heap.size W0 W0.drew:=(Below.refl _ _).drew
 refine RegF.start (fun W=>Below W0.heap.size W0 W) 99 (by kernel_rfl) ?_
 refine RegF.t0 0 (.pointer (some ⟨l,0,none⟩)) rfl hS0 (fun W hW=>by have q:=(hlb0.below hW hlb0.lt).boxed;go_simp) ?_
 simp only[zD,zB,Act.put,zA,zF,zE]
 refine RegF.t0 1 (.pointer (some ⟨l,0,none⟩)) rfl hS0 (fun W hW=>by go_simp) ?_
 simp only[zD,zC,zB,Act.put,zA,zF,zE]
 refine RegF.t0 2 (.pointer (some ⟨l,0,none⟩)) rfl hS0 (fun W hW=>by go_simp) ?_
 simp only[zD,zC,zB,Act.put,zA,zF,zE]
 refine RegF.t0 3 (.pointer (some ⟨l,1,none⟩)) rfl hS0 (fun W hW=>by go_simp) ?_
 simp only[zD,zC,zB,Act.put,zA,zF,zE]
 refine RegF.t0 4 (.agg #[.int .i64 fr,.int .i64 pg]) rfl hS0 (fun W hW=>by have h:=hlg0.below hW hlg0.lt;have q1:W.cell? ⟨l,1,none⟩=some (.int .i64 fr):=(by rw[h.cell];rfl);have q2:W.cell? ⟨l,2,none⟩=some (.int .i64 pg):=(by rw[h.cell];rfl);go_simp) ?_
 simp only[zD,zC,zB,Act.put,zA,zF,zE]
 refine RegF.t0 5 (.pointer (some ⟨w.heap.size,0,none⟩)) rfl hS0 (fun W hW=>by go_simp) ?_
 simp only[zD,zC,zB,Act.put,zA,zF,zE]
 refine RegF.t0 6 (.int .i64 p) rfl hS0 (fun W hW=>by have h:=b0.below hW b0.lt;have q1:W.cell? ⟨w.heap.size,0,none⟩=some (.int .i64 p):=(by rw[h.cell];rfl);go_simp) ?_
 simp only[zD,zC,zB,Act.put,zA,zF,zE]
 refine RegF.one 7 (by kernel_rfl) ?_
 refine RegF.opC 121 #[.tmp 11,.tmp 13] #[25,3] rfl rfl rfl (enters_of Tryz.func121 (by kernel_rfl) rfl) #[.agg #[.int .i64 fr,.int .i64 pg],.int .i64 p] (by simp only[zJ,zK,zL];rfl) ((HP W0.drew).mono ?_)
 rintro e w1 ⟨rfl,hB1⟩
 have hS1:Below W0.heap.size W0 w1:=hS0.trans (hB1.mono (zG _))
 refine⟨_,rfl,fun _=>hS1,?_⟩
 simp only[zD,zC,zB,Act.put,zA,zF,zE]
 refine RegF.one 8 (by kernel_rfl) (RegF.opV (w':=w1) (.tuple #[.int .i64 (2+9*fr+8*p),.int .i64 0]) rfl rfl (by go_simp) ⟨fun _=>hS1,?_⟩)
 simp only[zD,zC,zB,Act.put,zA,zF,zE]
 refine RegF.t0 9 (.int .i64 (2+9*fr+8*p)) rfl hS1 (fun W hW=>by go_simp) ?_
 simp only[zD,zC,zB,Act.put,zA,zF,zE]
 refine RegF.t0 10 (.int .i64 0) rfl hS1 (fun W hW=>by go_simp) ?_
 simp only[zD,zC,zB,Act.put,zA,zF,zE]
 refine RegF.one 11 (by kernel_rfl) (RegF.opV (w':=w1) (.int .i64 (2+9*fr+8*p)) rfl rfl (by go_simp) ⟨fun _=>hS1,?_⟩)
 simp only[zD,zC,zB,Act.put,zA,zF,zE]
 refine RegF.one 12 (by kernel_rfl) (RegF.opV (w':=w1) (.int .i64 0) rfl rfl (by go_simp) ⟨fun _=>hS1,RegF.done (by kernel_rfl) ?_⟩)
 simp only[zD,zC,zB,Act.put,zA,zF,zE]
 have h:=b0.below hS1 b0.lt
 have q1:w1.cell? ⟨w.heap.size,1,none⟩=some (.slice A2 512 c2):=by rw[h.cell];rfl
 clear HP
 go_wp2
 go_ret
 exact⟨rfl,hB0.trans (hS1.mono hB0.size)⟩
def PwIn (w:World)(g o n:Nat)(xs:Nat->Int×Option Addr×Nat):Prop:=∀k,k<n->w.rangeAt g (o+k*2) [.int .i64 (xs k).1,.slice (xs k).2.1 512 (xs k).2.2]
theorem PwIn.below {w w':World}{B g o n:Nat}{xs:Nat->Int×Option Addr×Nat}(h:PwIn w g o n xs)(hB:Below B w w')(hg:g<B):PwIn w' g o n xs:=fun k hk j v hj=>(hB.cell (p:=⟨g,o+k*2+j,none⟩) hg).trans (h k hk j v hj)
theorem index_no (w:World)(lb g o n c:Nat)(xs:Nat->Int×Option Addr×Nat)(hn:n<=1000)(hx:PwIn w g o n xs)(hg:g<w.heap.size)
  (HF:∀k W,k<n->Below w.heap.size w W->Calls Tryz.prog 192 #[.agg #[.int .i64 (xs k).1,.slice (xs k).2.1 512 (xs k).2.2],.pointer (some ⟨lb,0,none⟩)] W fun e w'=>e = .returned (.bool false)/\Below W.heap.size W w') :
  Calls Tryz.prog 225 #[.slice (some ⟨g,o,none⟩) n c,.func (.func 192) #[] #[.pointer (some ⟨lb,0,none⟩)]] w fun e w'=>e = .returned (.int .i64 (-1))/\Below w.heap.size w w':=by
 have hent:∀args w,(callFunc 192 args).run Tryz.prog w = .ok (.enter 192 args) w:=enters_of Tryz.func192 (by kernel_rfl) rfl
 go_enter Tryz.func225,Tryz.ntmps225
 go_wp2
 go_loopw [8] (fun i wr=>∃k:Nat,k<=n/\i = .int .i64 (k:Int)/\Below w.heap.size w wr) (fun i _=>n - (intOf i).toNat)
 case atStart=>exact⟨0,by omega,rfl,Below.refl _ _⟩
 case round =>
  obtain⟨k,hk,rfl,hB⟩:=hrel
  by_cases hlt:k<n
  ·have hr:=(hx.below hB hg) k hlt
   have HK:=HF k wr hlt hB
   have hwk:IntKind.i64.wrap ((k:Int)+1)=(k:Int)+1:=wrap_i64_fr _ (by omega) (by omega)
   generalize xs k=x at *
   clear HF hx
   go_wp2_with (first
    | (refine wp_exec rfl (x_loadM rowPW hr rfl rfl rfl) ?_))
   refine HK.mono ?_
   rintro e w2 ⟨rfl,hB2⟩
   go_wp2
   go_roundw
   case rel=>exact⟨k+1,by omega,by simp,hB.trans (hB2.mono hB.size)⟩
   case measure=>simp[intOf];omega
  ·obtain rfl:k=n:=by omega
   clear HF
   go_wp2
   go_ret
   exact⟨rfl,hB⟩
theorem contains_no (w:World)(lb g o n c:Nat)(xs:Nat->Int×Option Addr×Nat)(hn:n<=1000)(hx:PwIn w g o n xs)(hg:g<w.heap.size)
  (HF:∀k W,k<n->Below w.heap.size w W->Calls Tryz.prog 192 #[.agg #[.int .i64 (xs k).1,.slice (xs k).2.1 512 (xs k).2.2],.pointer (some ⟨lb,0,none⟩)] W fun e w'=>e = .returned (.bool false)/\Below W.heap.size W w') :
  Calls Tryz.prog 191 #[.slice (some ⟨g,o,none⟩) n c,.func (.func 192) #[] #[.pointer (some ⟨lb,0,none⟩)]] w fun e w'=>e = .returned (.bool false)/\Below w.heap.size w w':=by
 have HI:=index_no w lb g o n c xs hn hx hg HF
 clear HF hx
 go_enter Tryz.func191,Tryz.ntmps191
 go_wp2_with (go_at_call 225;refine HI.mono ?_;rintro e w' ⟨rfl,hB⟩)
 go_ret
 exact⟨rfl,hB⟩
theorem lright_ok (w:World)(l:Nat)(D:Option Addr)(fr pg:Int)(sr ep:Nat)(sz:Int)(A:Option Addr)(n0 c0:Nat)(hlg:BlkIs w l 104 (lgC D fr pg sr ep sz A n0 c0))(g o n c:Nat)(xs:Nat->Int×Option Addr×Nat)(h1:1<=n)(hn:n<=1000)(hx:PwIn w g o n xs)(hg:g<w.heap.size)
  (hp:∀k,k<n->plE (planOk fr pg) (xs k).1 pg=0) (s:Int) (hs:0<=s) (hs2:s<=pg) :
  Calls Tryz.prog 157 #[.pointer (some ⟨l,0,none⟩),.int .i64 s,.slice (some ⟨g,o,none⟩) n c] w fun e w'=>e = .returned (.bool true)/\Below w.heap.size w w':=by
 have hB0:Below w.heap.size w (w.alloc (.cells #[.pointer (some ⟨l,0,none⟩)] 71)):=(Below.refl _ w).alloc (zG _) _
 have b0:=BlkIs.new w 71 #[.pointer (some ⟨l,0,none⟩)]
 have hlg0:=hlg.below hB0 hlg.lt
 have k2:(w.alloc (.cells #[.pointer (some ⟨l,0,none⟩)] 71)).cell? ⟨l,2,none⟩=some (.int .i64 pg):=by rw[hlg0.cell];rfl
 have HC:=contains_no (w.alloc (.cells #[.pointer (some ⟨l,0,none⟩)] 71)) w.heap.size g o n c xs hn (hx.below hB0 hg) (by simp;omega) (fun k W hk hB=>right1_gives W w.heap.size l D fr pg sr ep sz A n0 c0 (b0.below hB b0.lt) (hlg0.below hB hlg0.lt) (xs k).1 (xs k).2.1 (xs k).2.2 (hp k hk))
 have h0:(0:Int)<(n:Int):=by omega
 clear hx hp
 go_enter Tryz.func157,Tryz.ntmps157
 go_wp2_with (go_at_call 191;refine HC.mono ?_;rintro e w' ⟨rfl,hB⟩)
 go_ret
 exact⟨rfl,hB0.trans (hB.mono hB0.size)⟩
namespace RegM
section
variable {P:Program}{ops:Array Oper}{Q:Exit->Act->World->Prop}{md:Region.Mode}{S:World->Prop}{fs:List Nat}
def wpAnyM (P:Program)(md:Region.Mode)(ops:Array Oper)(Q:Exit->Act->World->Prop)(S:World->Prop)(fs:List Nat):Nat->Array Bool->Act->World->Prop
 | 0,listed,a,w=>Region.ready md ops listed=[]/\Q .normal a w
 | fuel+1,listed,a,w =>
  (Region.ready md ops listed=[]->Q .normal a w) /\
  ∀i∈Region.ready md ops listed,wpOp P ops Q i (fun a' w'=>(fs.contains i=false->S w')/\wpAnyM P md ops Q S fs fuel (listed.setIfInBounds i true) a' w') a w
theorem to_any:∀(fuel:Nat) (listed:Array Bool) (a:Act) (w:World),wpAnyM P md ops Q S fs fuel listed a w->wpAny P md ops Q fuel listed a w
 | 0,_,_,_,h=>h
 | fuel+1,_,_,_,h=>⟨h.1,fun i hi=>wpOp_mono (fun a' w' h'=>to_any fuel _ a' w' h'.2) (h.2 i hi)⟩
theorem first1 {i n:Nat}{oi:Oper}{v:Value}(hi:ops[i]? = some oi)(hsel:∀(j:Nat) (o:Oper) cs b,ops[j]? = some o->o.op≠.select cs b)
  (hQ:∀c a w,Q (.panic c) (a.put oi.dst v) w->Q (.panic c) a w) (hfin:(fs.all fun f=>RegF.reach md ops n f i)=true) (hif:fs.contains i=false) :
  ∀(fuel:Nat) (listed:Array Bool) (a:Act) (w:World),RegF.Closed md ops listed ->
   (∀j oj,ops[j]? = some oj->j≠i->listed.getD j true=false->(∀e∈oj.after,Region.binds md e=true->e.on≠i)->oi.apart ops oj=true) ->
   i∈Region.ready md ops listed->YieldsIf P ops S oi v a->S w ->
   wpAnyM P md ops Q S fs fuel (listed.setIfInBounds i true) (a.put oi.dst v) w->wpAnyM P md ops Q S fs (fuel+1) listed a w:=by
 intro fuel
 induction fuel with
 | zero =>
  intro listed a w _ _ hr hy hS H
  refine⟨fun h=>(by rw[h] at hr;cases hr),fun j hj => ?_⟩
  by_cases hji:j=i
  ·subst hji;exact hy.wpOp hi hS ⟨fun _=>hS,H⟩
  ·have:=ready_mono hj hji
   rw[H.1] at this
   cases this
 | succ fuel ih =>
  intro listed a w hcl hfree hr hy hS H
  refine⟨fun h=>(by rw[h] at hr;cases hr),fun j hj => ?_⟩
  by_cases hji:j=i
  ·subst hji;exact hy.wpOp hi hS ⟨fun _=>hS,H⟩
  ·have h1:=H.2 j (ready_mono hj hji)
   obtain⟨hjun,oj,hoj,hall⟩:=mem_ready.1 hj
   have hnot:∀e∈oj.after,Region.binds md e=true->e.on≠i:=fun e he hb heq=>by
    have h1:=hall e he hb
    rw[heq,RegF.unlisted hr] at h1
    cases h1
   have hjf:fs.contains j=false:=by
    cases h:fs.contains j with
    | false=>rfl
    | true =>
     have:=qG.1 hfin j (by simpa using h)
     exact absurd hj (RegF.not_ready hcl (RegF.unlisted hr) this)
   have h2:=wpOp_putIf hoj (hfree j oj hoj hji hjun hnot) (fun cs b=>hsel i oi cs b hi) (fun cs b=>hsel j oj cs b hoj) hQ hy h1
   have hfree':∀k ok,ops[k]? = some ok->k≠i->(listed.setIfInBounds j true).getD k true=false ->
     (∀e∈ok.after,Region.binds md e=true->e.on≠i)->oi.apart ops ok=true:=fun k ok hk hki hun hno=>by
    refine hfree k ok hk hki ?_ hno
    by_cases hjk:j=k
    ·subst hjk;exact hjun
    ·rw[getD_set_ne true hjk] at hun;exact hun
   refine wpOp_mono (fun a' w' h3=>⟨h3.2.1,ih (listed.setIfInBounds j true) a' w' (hcl.set hj) hfree' (ready_mono hr (Ne.symm hji)) h3.1 (h3.2.1 hjf) ?_⟩) h2
   rw[Array.setIfInBounds_comm _ _ hji]
   exact h3.2.2
theorem take1 {fuel:Nat}{listed:Array Bool}{a:Act}{w:World}(i:Nat){oi:Oper}(v:Value)(hi:ops[i]? = some oi)
  (hs:Region.noSelect ops=true) (hf:Region.free md ops listed i=true) (hr:(Region.ready md ops listed).contains i=true) (hcl:RegF.closedB md ops listed=true) (hfin:(fs.all fun f=>RegF.reach md ops 30 f i)=true) (hif:fs.contains i=false)
  (hQ:∀c a w,Q (.panic c) (a.put oi.dst v) w->Q (.panic c) a w) (hS:S w) (hy:YieldsIf P ops S oi v a)
  (h:wpAnyM P md ops Q S fs fuel (listed.setIfInBounds i true) (a.put oi.dst v) w):wpAnyM P md ops Q S fs (fuel+1) listed a w :=
 first1 hi (Region.noSelect_spec hs) hQ hfin hif fuel listed a w (RegF.closedB_spec hcl) (Region.free_spec hi hf) (by simpa using hr) hy hS h
theorem one {fuel:Nat}{listed:Array Bool}{a:Act}{w:World}(i:Nat)(hr:Region.ready md ops listed=[i])
  (h:wpOp P ops Q i (fun a' w'=>(fs.contains i=false->S w')/\wpAnyM P md ops Q S fs fuel (listed.setIfInBounds i true) a' w') a w):wpAnyM P md ops Q S fs (fuel+1) listed a w :=
 ⟨fun h0=>(by rw[hr] at h0;cases h0),fun j hj=>by
  rw[hr] at hj
  obtain rfl:j=i:=by simpa using hj
  exact h⟩
theorem done {fuel:Nat}{listed:Array Bool}{a:Act}{w:World}(hr:Region.ready md ops listed=[])(h:Q .normal a w):wpAnyM P md ops Q S fs fuel listed a w:=by
 cases fuel with
 | zero=>exact⟨hr,h⟩
 | succ n=>exact⟨fun _=>h,by rw[hr];simp⟩
theorem start {id:Nat}{a:Act}{w:World}(S:World->Prop)(fs:List Nat)(hm:P.follows .mixedOrders=true)(h:wpAnyM P .any ops Q S fs ops.size (Array.replicate ops.size false) a w.drew):(Code.region id ops true).wp P Q a w :=
 wp_region_any hm (to_any _ _ _ _ h)
end
end RegM
theorem append_full (w:World)(l d:Nat)(fr pg:Int)(sr ep:Nat)(sz:Int)(A:Option Addr)(n0 c0:Nat)(hlg:BlkIs w l 104 (lgC (some ⟨d,0,none⟩) fr pg sr ep sz A n0 c0))(hn0:n0<=10000)(g o n c:Nat)(xs:Nat->Int×Option Addr×Nat)(h1:1<=n)(hn:n<=1000)(hx:PwIn w g o n xs)(hg:g<w.heap.size)
  (hp:∀k,k<n->plE (planOk fr pg) (xs k).1 pg=0) (s:Int) (hs:0<=s) (hs2:s<=pg) (hfr:fr<(n0:Int)+(n:Int)) :
  Calls Tryz.prog 116 #[.pointer (some ⟨l,0,none⟩),.int .i64 s,.slice (some ⟨g,o,none⟩) n c] w fun e w'=>e = .returned (.int .i64 160)/\Below w.heap.size w w':=by
 have hB:Below w.heap.size w ((w.alloc (.cells #[.pointer (some ⟨l,0,none⟩)] 71)).alloc (.cells #[.int .i64 s] 3)):=((Below.refl _ w).alloc (zG _) _).alloc (by simp) _
 have b0:=(BlkIs.new w 71 #[.pointer (some ⟨l,0,none⟩)]).alloc (.cells #[.int .i64 s] 3)
 have hlg0:=hlg.below hB hlg.lt
 have HN:=lnone_gives hlg0
 have HR:=lright_ok _ l _ fr pg sr ep sz A n0 c0 hlg0 g o n c xs h1 hn (hx.below hB hg) (by simp;omega) hp s hs hs2
 have hwa:IntKind.i64.wrap ((n0:Int)+(n:Int))=(n0:Int)+(n:Int):=wrap_i64_fr _ (by omega) (by omega)
 clear hx hp
 go_enter Tryz.func116,Tryz.ntmps116
 go_wp2_with (first
  | (go_at_call 106;refine HN.mono ?_;rintro e w' ⟨rfl,rfl⟩)
  | (go_at_call 157;refine HR.mono ?_;rintro e w2 ⟨rfl,hB2⟩;have hlg2:=hlg0.below hB2 hlg0.lt;have b2:=b0.below hB2 b0.lt))
 have hS0:Below w2.heap.size w2 w2.drew:=(Below.refl _ _).drew
 have T0:∀W,Below w2.heap.size w2 W->W.cell? ⟨w.heap.size,0,none⟩=some (.pointer (some ⟨l,0,none⟩)):=fun W hW=>(b2.below hW b2.lt).boxed
 have T6:∀W,Below w2.heap.size w2 W->W.cell? ⟨l,6,none⟩=some (.slice A n0 c0):=fun W hW=>by rw[(hlg2.below hW hlg2.lt).cell];rfl
 have T1:∀W,Below w2.heap.size w2 W->W.cell? ⟨l,1,none⟩=some (.int .i64 fr):=fun W hW=>by rw[(hlg2.below hW hlg2.lt).cell];rfl
 clear HN HR
 refine RegF.start (fun W=>Below w2.heap.size w2 W) 99 (by kernel_rfl) ?_
 refine RegF.t0 0 (.pointer (some ⟨l,0,none⟩)) rfl hS0 (fun W hW=>by have q:=T0 W hW;go_simp) ?_
 simp only[zD,zB,Act.put,zA,zF,zE]
 refine RegF.t0 1 (.pointer (some ⟨l,0,none⟩)) rfl hS0 (fun W hW=>by go_simp) ?_
 simp only[zD,zC,zB,Act.put,zA,zF,zE]
 refine RegF.t0 2 (.pointer (some ⟨l,6,none⟩)) rfl hS0 (fun W hW=>by go_simp) ?_
 simp only[zD,zC,zB,Act.put,zA,zF,zE]
 refine RegF.t0 3 (.slice A n0 c0) rfl hS0 (fun W hW=>by have q:=T6 W hW;go_simp) ?_
 simp only[zD,zC,zB,Act.put,zA,zF,zE]
 refine RegF.t0 4 (.int .i64 (n0:Int)) rfl hS0 (fun W hW=>by go_simp) ?_
 simp only[zD,zC,zB,Act.put,zA,zF,zE]
 refine RegF.t0 5 (.slice (some ⟨g,o,none⟩) n c) rfl hS0 (fun W hW=>by go_simp) ?_
 simp only[zD,zC,zB,Act.put,zA,zF,zE]
 refine RegF.t0 6 (.int .i64 (n:Int)) rfl hS0 (fun W hW=>by go_simp) ?_
 simp only[zD,zC,zB,Act.put,zA,zF,zE]
 refine RegF.t0 7 (.int .i64 ((n0:Int)+(n:Int))) rfl hS0 (fun W hW=>by go_simp) ?_
 simp only[zD,zC,zB,Act.put,zA,zF,zE]
 refine RegF.t0 8 (.pointer (some ⟨l,0,none⟩)) rfl hS0 (fun W hW=>by have q:=T0 W hW;go_simp) ?_
 simp only[zD,zC,zB,Act.put,zA,zF,zE]
 refine RegF.t0 9 (.pointer (some ⟨l,0,none⟩)) rfl hS0 (fun W hW=>by go_simp) ?_
 simp only[zD,zC,zB,Act.put,zA,zF,zE]
 refine RegF.t0 10 (.pointer (some ⟨l,0,none⟩)) rfl hS0 (fun W hW=>by go_simp) ?_
 simp only[zD,zC,zB,Act.put,zA,zF,zE]
 refine RegF.t0 11 (.pointer (some ⟨l,1,none⟩)) rfl hS0 (fun W hW=>by go_simp) ?_
 simp only[zD,zC,zB,Act.put,zA,zF,zE]
 refine RegF.t0 12 (.pointer (some ⟨l,1,none⟩)) rfl hS0 (fun W hW=>by go_simp) ?_
 simp only[zD,zC,zB,Act.put,zA,zF,zE]
 refine RegF.t0 13 (.int .i64 fr) rfl hS0 (fun W hW=>by have q:=T1 W hW;go_simp) ?_
 simp only[zD,zC,zB,Act.put,zA,zF,zE]
 refine RegF.one 14 (by kernel_rfl) (RegF.opV (w':=w2.drew) (.bool true) rfl rfl (by go_simp) ⟨fun _=>hS0,?_⟩)
 simp only[zD,zC,zB,Act.put,zA,zF,zE]
 refine RegF.one 15 (by kernel_rfl) (RegF.opV (w':=w2.drew) (.bool true) rfl rfl (by go_simp) ⟨fun _=>hS0,RegF.done (by kernel_rfl) ?_⟩)
 simp only[zD,zC,zB,Act.put,zA,zF,zE]
 clear T0 T6 T1
 go_wp2
 go_ret
 exact⟨rfl,hB.trans ((hB2.mono hB.size).trans (hS0.mono (zP hB.size hB2.size)))⟩
section
variable (w:World)(l d many lb mb:Nat)(g:Nat->List UInt8)(xs:List (Nat×List UInt8))(left:Int)(fr pg:Int)(sr ep:Nat)(sz:Int)
theorem app3_gives (szb:Nat)(D:Option Addr)(A:Option Addr)(n c:Nat)(Am:Option Addr)(nm cm:Nat)(s:Int)(hlg:BlkIs w l 104 (lgC D fr pg sr ep sz A n c))(hlb:BlkIs w lb 71 #[.pointer (some ⟨l,0,none⟩)])(hmb:BlkIs w mb 102 #[.slice Am nm cm])(hsb:BlkIs w szb 3 #[.int .i64 s])(n1:l≠lb)(n2:l≠mb)(n3:l≠szb) :
  Calls Tryz.prog 162 #[.pointer (some ⟨mb,0,none⟩),.pointer (some ⟨szb,0,none⟩),.pointer (some ⟨lb,0,none⟩)] w fun e w'=>e = .returned (.int .i64 0)/\w'=(w.drew.setCell ⟨l,6,none⟩ (.slice Am nm cm)).setCell ⟨l,5,none⟩ (.int .i64 s)/\BlkIs w' l 104 (lgC D fr pg sr ep s Am nm cm):=by
 have g6:w.cell? ⟨l,6,none⟩=some (.slice A n c):=by rw[hlg.cell];rfl
 have g5:w.cell? ⟨l,5,none⟩=some (.int .i64 sz):=by rw[hlg.cell];rfl
 have f6:=hlg.free 6
 have f5:=hlg.free 5
 have hl1:=hlg.drew.set 6 (.slice Am nm cm)
 have hS0:BlkIs w.drew lb 71 #[.pointer (some ⟨l,0,none⟩)]/\BlkIs w.drew mb 102 #[.slice Am nm cm]/\BlkIs w.drew szb 3 #[.int .i64 s]:=⟨hlb.drew,hmb.drew,hsb.drew⟩
 have hS1:BlkIs (w.drew.setCell ⟨l,6,none⟩ (.slice Am nm cm)) lb 71 #[.pointer (some ⟨l,0,none⟩)]/\BlkIs (w.drew.setCell ⟨l,6,none⟩ (.slice Am nm cm)) mb 102 #[.slice Am nm cm]/\BlkIs (w.drew.setCell ⟨l,6,none⟩ (.slice Am nm cm)) szb 3 #[.int .i64 s] :=
  ⟨hlb.drew.other (fun e=>n1 e.symm) _,hmb.drew.other (fun e=>n2 e.symm) _,hsb.drew.other (fun e=>n3 e.symm) _⟩
 have g5':(w.drew.setCell ⟨l,6,none⟩ (.slice Am nm cm)).cell? ⟨l,5,none⟩=some (.int .i64 sz):=by rw[hl1.cell];rfl
 have f5':=hl1.free 5
 go_enter Tryz.func162,Tryz.ntmps162
 go_wp2_with fail
 refine RegF.start (fun W=>BlkIs W lb 71 #[.pointer (some ⟨l,0,none⟩)]/\BlkIs W mb 102 #[.slice Am nm cm]/\BlkIs W szb 3 #[.int .i64 s]) 9 (by kernel_rfl) ?_
 refine RegF.t 0 (.pointer (some ⟨l,0,none⟩)) rfl hS0 (fun W ⟨q1,q2,q3⟩=>by have q:=q1.boxed;go_simp) ?_
 simp only[zD,zB,Act.put,zA,zF,zE]
 refine RegF.t 1 (.pointer (some ⟨l,0,none⟩)) rfl hS0 (fun W ⟨q1,q2,q3⟩=>by have q:=q1.boxed;go_simp) ?_
 simp only[zD,zC,zB,Act.put,zA,zF,zE]
 refine RegF.t 2 (.slice Am nm cm) rfl hS0 (fun W ⟨q1,q2,q3⟩=>by have q:=q2.boxed;go_simp) ?_
 simp only[zD,zC,zB,Act.put,zA,zF,zE]
 refine RegF.t 3 (.int .i64 s) rfl hS0 (fun W ⟨q1,q2,q3⟩=>by have q:=q3.boxed;go_simp) ?_
 simp only[zD,zC,zB,Act.put,zA,zF,zE]
 refine RegF.one 4 (by kernel_rfl) (RegF.opV (w':=w.drew) (.pointer (some ⟨l,0,none⟩)) rfl rfl (by go_simp) ⟨fun _=>hS0,?_⟩)
 simp only[zD,zC,zB,Act.put,zA,zF,zE]
 refine RegF.one 5 (by kernel_rfl) (RegF.opV (w':=w.drew) (.pointer (some ⟨l,6,none⟩)) rfl rfl (by go_simp) ⟨fun _=>hS0,?_⟩)
 simp only[zD,zC,zB,Act.put,zA,zF,zE]
 refine RegF.one 6 (by kernel_rfl) (RegF.opS (w':=w.drew.setCell ⟨l,6,none⟩ (.slice Am nm cm)) rfl rfl (by go_simp) ⟨fun _=>hS1,?_⟩)
 simp only[zD,zC,zB,Act.put]
 refine RegF.one 7 (by kernel_rfl) (RegF.opV (w':=w.drew.setCell ⟨l,6,none⟩ (.slice Am nm cm)) (.pointer (some ⟨l,0,none⟩)) rfl rfl (by go_simp) ⟨fun _=>hS1,?_⟩)
 simp only[zD,zC,zB,Act.put,zA,zF,zE]
 refine RegF.one 8 (by kernel_rfl) (RegF.opV (w':=w.drew.setCell ⟨l,6,none⟩ (.slice Am nm cm)) (.pointer (some ⟨l,5,none⟩)) rfl rfl (by go_simp) ⟨fun _=>hS1,?_⟩)
 simp only[zD,zC,zB,Act.put,zA,zF,zE]
 refine RegF.one 9 (by kernel_rfl) (RegF.opS (w':=(w.drew.setCell ⟨l,6,none⟩ (.slice Am nm cm)).setCell ⟨l,5,none⟩ (.int .i64 s)) rfl rfl (by go_simp) ⟨fun h=>absurd rfl h,RegF.done (by kernel_rfl) ?_⟩)
 simp only[zD,zC,zB,Act.put]
 clear hS0 hS1
 go_wp2
 go_ret
 exact⟨rfl,rfl,hl1.set 5 (.int .i64 s)⟩
end
theorem rowPlan:RowTy Tryz.prog 25 2:=⟨⟨_,Tryz.underlying25,rfl⟩,by kernel_rfl⟩
theorem frameB_length {e i p:Nat}{f:Bool}{z n:Nat}{y:List UInt8}(hy:y.length=512):(frameB (partB e i p f z n) y).length=576:=by
 simp[frameB,sectB_length,partB_length];omega
section
variable (e:Nat)(i p:Int)(f:Bool)(z:Int)(n:Nat)(A:Option Addr)(k:Nat)(y:List UInt8)(s e':Nat)(z' c':Int)(x0 x1:Int)(w:World)
end
namespace Reg
variable {L:List (Nat×Fact)}{ops:Array Oper}{w0:World}{o:Oper}
end Reg
section
variable (e:Nat)(i p:Int)(f:Bool)(z:Int)(n:Nat)(A:Option Addr)(k:Nat)(y:List UInt8)(s e':Nat)(z' c':Int)(w:World)(X Y:List UInt8)
end

section
variable (w:World)(l d many lb mb:Nat)(g:Nat->List UInt8)(xs:List (Nat×List UInt8))(left:Int)(fr pg:Int)(sr ep:Nat)(sz:Int)
end
section
variable (w:World)(l d many lb mb szb:Nat)(g:Nat->List UInt8)(xs:List (Nat×List UInt8))(left:Int)(fr pg:Int)(sr ep:Nat)(sz:Int)
def apFs (lb mb szb d:Nat):List FnV:=[⟨159,#[],#[.pointer (some ⟨mb,0,none⟩),.pointer (some ⟨lb,0,none⟩)]⟩,⟨96,#[.pointer (some ⟨d,0,none⟩)],#[]⟩,⟨161,#[],#[.pointer (some ⟨lb,0,none⟩),.pointer (some ⟨mb,0,none⟩)]⟩,⟨162,#[],#[.pointer (some ⟨mb,0,none⟩),.pointer (some ⟨szb,0,none⟩),.pointer (some ⟨lb,0,none⟩)]⟩]
def apCs (lb mb szb d:Nat):Array Value:=#[.func (.func 159) #[] #[.pointer (some ⟨mb,0,none⟩),.pointer (some ⟨lb,0,none⟩)],.func (.func 96) #[.pointer (some ⟨d,0,none⟩)] #[],.func (.func 161) #[] #[.pointer (some ⟨lb,0,none⟩),.pointer (some ⟨mb,0,none⟩)],.func (.func 162) #[] #[.pointer (some ⟨mb,0,none⟩),.pointer (some ⟨szb,0,none⟩),.pointer (some ⟨lb,0,none⟩)]]
end
theorem pw_one (p:Int)(A:Option Addr)(n c:Nat):∀v∈(#[.int .i64 p,.slice A n c]:Array Value).toList,v.oneCell'=true:=by
 intro v hv
 simp at hv
 rcases hv with rfl|rfl<;>rfl
theorem x_storeR {P:Program}{w:World}{ρ:Operand->Value}{o:Oper}(T:TypeId)(x y:Operand)(ho:o.op = .store T x y)(g:Nat){t:TypeId}{cs cs':Array Value}(hx:ρ x = .pointer (some ⟨g,0,none⟩))(hy:ρ y = .agg cs'){n:Nat}(hT:RowTy P T n)(hb:BlkIs w g t cs)(hn:cs.size=n)
  (hs:cs'.size=cs.size) (h1:∀v∈cs'.toList,v.oneCell'=true):(execOp ρ o).run P w = .ok .skip (w.setRow g cs'):=by
 unfold execOp
 simp only[ho,hx,hy,Instr.storeAt,Instr.sureAddr,Sem.run_bind,Sem.run_pure,Result.andThen_ok,run_storeW (hn▸hT) hb hs h1]
theorem zf_no (o:Nat)(x:UInt8):(#[.int .u64 0,.int .i64 0,.int .i64 0,.bool false,.int .i64 0,.int .u32 0,.slice none 0 0]:Array Value)[o]? ≠ some (b8 x):=by
 match o with
 | 0=>simp[b8]
 | 1=>simp[b8]
 | 2=>simp[b8]
 | 3=>simp[b8]
 | 4=>simp[b8]
 | 5=>simp[b8]
 | 6=>simp[b8]
 | n+7=>simp
theorem x_sliceFr {w:World}{ρ:Operand->Value}{o:Oper}{x:Operand}(FC:Array Value)(h7:FC.size=7)(ho:o.op = .buildSlice 102 1 #[(0,x)])(h1:ρ x = .agg FC):(execOp ρ o).run Tryz.prog w = .ok (.value (.slice (some ⟨w.heap.size,0,none⟩) 1 1)) (w.alloc (.cells FC 163)):=by
 obtain⟨l,rfl⟩:∃l:List Value,FC=l.toArray:=⟨FC.toList,by simp⟩
 have hl:l.length=7:=by simpa using h7
 have key:=fun arr hs=>fold0 l arr hs
 rw[hl] at key
 simp[execOp,ho,h1,go_sem,Result.andThen,hl,key]
theorem elFrame:ElT 102 163 7 72 (.agg zeroFr):=⟨Tryz.underlying102,by kernel_rfl,by kernel_rfl,by decide⟩
def Q3 (F:Nat->Option Addr->Nat->World->Prop)(a:Nat->Option Addr->Nat->Act):Exit->Act->World->Prop
 | .normal,b,w'=>∃q A c,F q A c w'/\b=a q A c
 | _,_,_=>False
theorem wp_stop3 {P:Program}{C:Code}{Q:Exit->Act->World->Prop}{a0:Act}{w0:World}(F:Nat->Option Addr->Nat->World->Prop)(a:Nat->Option Addr->Nat->Act)(h1:C.wp P (Q3 F a) a0 w0)(h2:∀q A c w',F q A c w'->Q .normal (a q A c) w'):C.wp P Q a0 w0 :=
 wp_mono h1 fun e b w' h=>by
  cases e with
  | normal =>
   obtain⟨q,A,c,hf,rfl⟩:=h
   exact h2 q A c w' hf
  | _=>exact h.elim
section
variable (w:World)(l d many:Nat)(gD:Nat->List UInt8)(xs:List (Nat×List UInt8))(left:Int)(fr pg:Int)(sr ep:Nat)(sz:Int)
end
structure DS where
 g:Nat->List UInt8
 xs:List (Nat×List UInt8)
 left:Int
 st:Bool
abbrev DkS (w:World)(d many:Nat)(s:DS):Prop:=DkIs w d many s.g s.xs s.left s.st
def DS.stopped (s:DS):Bool:=s.st && s.left == 0
def DS.push (s:DS)(x:Nat×List UInt8):DS:=⟨s.g,s.xs++[x],lft s.st s.left,s.st⟩
def wrs:DS->List (Nat×List UInt8)->DS×Int
 | s,[]=>(s,0)
 | s,x::r=>if s.stopped then (s,140) else wrs (s.push x) r
def synD (s:DS):DS×Int:=if s.stopped then (s,140) else (⟨laid s.g s.xs,[],lft s.st s.left,s.st⟩,0)
structure DS.Ok (s:DS):Prop where
 lo : -1000000<=s.left
 hi:s.left<=9223372036854775807
 pos:s.st=true->0<=s.left
theorem DS.Ok.lft {s:DS}(h:s.Ok)(hs:s.stopped=false) : -1000000<=lft s.st s.left/\lft s.st s.left<=9223372036854775807/\(s.st=true->0<=lft s.st s.left):=by
 obtain⟨g,xs,left,st⟩:=s
 obtain⟨h1,h2,h3⟩:=h
 unfold Proofs.YtnlimngkagmjpaaGreat.lft
 simp only[DS.stopped] at *
 cases st
 ·simp;omega
 ·simp at hs h3 ⊢
  omega
theorem DS.Ok.push {s:DS}(h:s.Ok)(hs:s.stopped=false)(x:Nat×List UInt8):(s.push x).Ok:=by
 obtain⟨h1,h2,h3⟩:=h.lft hs
 exact⟨h1,h2,h3⟩
theorem DS.Ok.syn {s:DS}(h:s.Ok):(synD s).1.Ok:=by
 unfold synD
 cases hs:s.stopped
 ·obtain⟨h1,h2,h3⟩:=h.lft hs
  exact⟨h1,h2,h3⟩
 ·exact h
theorem DS.Ok.wrs:∀{l:List (Nat×List UInt8)} {s:DS},s.Ok->(wrs s l).1.Ok
 | [],s,h=>h
 | x::r,s,h=>by
  unfold Proofs.YtnlimngkagmjpaaGreat.wrs
  cases hs:s.stopped
  ·exact DS.Ok.wrs (h.push hs x)
  ·exact h
theorem wrs_cons_ok {s:DS}(hs:s.stopped=false)(x:Nat×List UInt8)(r:List (Nat×List UInt8)):wrs s (x::r)=wrs (s.push x) r:=by simp[wrs,hs]
theorem wrs_cons_bad {s:DS}(hs:s.stopped=true)(x:Nat×List UInt8)(r:List (Nat×List UInt8)):wrs s (x::r)=(s,140):=by simp[wrs,hs]
theorem wrs_append:∀(a b:List (Nat×List UInt8)) (s:DS),wrs s (a++b)=if (wrs s a).2=0 then wrs (wrs s a).1 b else wrs s a
 | [],b,s=>by simp[wrs]
 | x::r,b,s=>by
  rw[zW]
  cases hs:s.stopped
  ·rw[wrs_cons_ok hs,wrs_cons_ok hs,wrs_append r b]
  ·rw[wrs_cons_bad hs,wrs_cons_bad hs]
   simp
theorem wrs_err:∀(l:List (Nat×List UInt8)) (s:DS),(wrs s l).2=0∨(wrs s l).2=140
 | [],s => .inl rfl
 | x::r,s=>by
  cases hs:s.stopped
  ·rw[wrs_cons_ok hs];exact wrs_err r _
  ·rw[wrs_cons_bad hs];exact .inr rfl
theorem wrs_len:∀(l:List (Nat×List UInt8)) (s:DS),(wrs s l).1.xs.length<=s.xs.length+l.length
 | [],s=>by simp[wrs]
 | x::r,s=>by
  cases hs:s.stopped
  ·rw[wrs_cons_ok hs]
   have:=wrs_len r (s.push x)
   have e:(s.push x).xs.length=s.xs.length+1:=by simp[DS.push]
   rw[e] at this
   rw[zN]
   omega
  ·rw[wrs_cons_bad hs]
   simp
theorem wrs_g:∀(l:List (Nat×List UInt8)) (s:DS),(wrs s l).1.g=s.g/\(wrs s l).1.st=s.st
 | [],s=>⟨rfl,rfl⟩
 | x::r,s=>by
  cases hs:s.stopped
  ·rw[wrs_cons_ok hs];exact wrs_g r (s.push x)
  ·rw[wrs_cons_bad hs];exact⟨rfl,rfl⟩
theorem wrL_drop (at_:Nat)(b:List UInt8)(m k:Nat)(hk:k<m):(wrL at_ b m).drop k=(at_+k,chunkB b k)::(wrL at_ b m).drop (k+1):=by
 have hl:k<(wrL at_ b m).length:=by rw[wrL_length];exact hk
 rw[List.drop_eq_getElem_cons hl]
 simp[wrL]
theorem wrL_drop_all (at_:Nat)(b:List UInt8)(m:Nat):(wrL at_ b m).drop m=[]:=List.drop_eq_nil_of_le (by rw[wrL_length];exact zG _)
end Go.Proofs.YtnlimngkagmjpaaGreat
namespace Go.Proofs.YtnlimngkagmjpaaGreat
open Go Go.RowKit Lou Go.Shelf
attribute [local go_sem] Oper.semAt_some
theorem wwriteS_in (n:Nat)(hn:8<=n)(w:World)(l d many:Nat)(s:DS)(hD:DkS w d many s)(hO:s.Ok)(hl:s.xs.length<=900000)
  (hc:w.cell? ⟨l,0,none⟩=some (.pointer (some ⟨d,0,none⟩))) (hld:l≠d) (hll:l<w.heap.size) (at_ m:Nat) (A:Option Addr) (c:Nat) (b:List UInt8) (hin:InB w w.heap.size A c b) (hbl:b.length=64*m) (hm:m<=16) (ham:at_+m<=many) (hmax:many<=1000000) :
  CallsIn Fence.wide n Tryz.prog 100 #[.pointer (some ⟨l,0,none⟩),.int .i64 (at_:Int),.slice A b.length c] w fun e w'=>e = .returned (.int .i64 (wrs s (wrL at_ b m)).2)/\DkS w' d many (wrs s (wrL at_ b m)).1/\w.grownBy w' (some d):=by
 have h1:1<=n:=by omega
 have hdl:=hD.lt
 have b0:=((BlkIs.new w 192 #[.pointer (some ⟨l,0,none⟩)]).alloc (.cells #[.int .i64 (at_:Int)] 3)).alloc (.cells #[.int .i64 0] 27)
 have b1:=(BlkIs.new (w.alloc (.cells #[.pointer (some ⟨l,0,none⟩)] 192)) 3 #[.int .i64 (at_:Int)]).alloc (.cells #[.int .i64 0] 27)
 have b2:=BlkIs.new ((w.alloc (.cells #[.pointer (some ⟨l,0,none⟩)] 192)).alloc (.cells #[.int .i64 (at_:Int)] 3)) 27 #[.int .i64 0]
 rw[World.size_alloc] at b1
 rw[World.size_alloc,World.size_alloc] at b2
 have hB0:Below w.heap.size w (((w.alloc (.cells #[.pointer (some ⟨l,0,none⟩)] 192)).alloc (.cells #[.int .i64 (at_:Int)] 3)).alloc (.cells #[.int .i64 0] 27)) :=
  (((Below.refl _ w).alloc (zG _) _).alloc (by simp) _).alloc (by simp;omega) _
 have HC:=cut_gives _ A c b ((hin.below hB0).more hB0.size) (by omega)
 have HBL:=Lib.hid hbl
 have hb9:b.length<=1024:=by omega
 clear hbl
 refine callsIn_of_wp_marks Tryz.func100 rfl trivial ?_ rfl
 simp only[Tryz.ntmps100,zS,zN,qB,qH,qI,zU,zV,zZ,zX,zQ,zW]
 gi_wp2_with (refine⟨trivial,?_⟩;gi_at_call 144;refine(callsIn_wide.2 HC).mono ?_;rintro e W4 ⟨gB,A2,c2,rfl,hgb,hin2,hB4⟩)
 obtain⟨hBw⟩:Nonempty (Below w.heap.size w W4):=⟨hB0.trans (hB4.mono hB0.size)⟩
 have hsz0:w.heap.size+3<=W4.heap.size:=by have:=hB4.size;simp at this;omega
 have hD4:=hD.grow hBw
 have c0:=b0.below hB4 b0.lt
 have c1:=b1.below hB4 b1.lt
 have c2':=b2.below hB4 b2.lt
 have hc4:W4.cell? ⟨l,0,none⟩=some (.pointer (some ⟨d,0,none⟩)):=(hBw.cell (p:=⟨l,0,none⟩) hll).trans hc
 have hG4:w.grownBy W4 (some d):=⟨hBw.os,hBw.tape,hBw.output,hBw.size,fun k hk _=>hBw.block k hk⟩
 have hMu:0<b.length->∀g o,A2=some ⟨g,o,none⟩->¬ g=d:=fun h0 g o e=>by
  subst e
  obtain⟨r,A',c',hb,_⟩:=hD4.has
  exact hin2.notDisk h0 hb
 clear b0 b1 b2 hB0 HC hD hc hin hB4
 ·refine wpIn_rangeFunc_S rfl h1 (gf:=183) (lb:=#[.pointer (some ⟨gB,0,none⟩)]) rfl trivial (enters_of Tryz.func183 (by kernel_rfl) rfl)
   (cut1_seqS (n₀:=W4.heap.size) (n - 1) (by omega) gB A2 c2 b (by omega) (fun k=>k=d) hMu W4 hgb.lt (zG _) hgb.boxed hin2) (Below.refl _ _) (fun _=>rfl)
   (fun pre V=>(∃s':DS,DkS V d many s'/\s'.Ok/\s'.xs.length<=s.xs.length+pre.length/\wrs s (wrL at_ b m)=wrs s' ((wrL at_ b m).drop pre.length))/\BlkIs V w.heap.size 192 #[.pointer (some ⟨l,0,none⟩)]/\BlkIs V (w.heap.size+1) 3 #[.int .i64 (at_:Int)]/\BlkIs V (w.heap.size+1+1) 27 #[.int .i64 0]/\V.cell? ⟨l,0,none⟩=some (.pointer (some ⟨d,0,none⟩))/\w.grownBy V (some d)/\W4.heap.size<=V.heap.size)
   (fun c _ V=>c = .ret/\DkS V d many (wrs s (wrL at_ b m)).1/\(wrs s (wrL at_ b m)).2=140/\BlkIs V (w.heap.size+1+1) 27 #[.int .i64 140]/\w.grownBy V (some d)/\W4.heap.size<=V.heap.size)
   ?own ?own2 ?ownR ⟨⟨s,hD4,hO,Nat.le_add_right _ _,rfl⟩,c0,c1,c2',hc4,hG4,zG _⟩ ?act ?assign ?body ?done ?stop
  case own =>
   rintro pre X Y row ⟨⟨s',i1,io⟩,i2,i3,i4,i5,i6,i7⟩ hgr hr
   have hr1:∀r,row=some r->W4.heap.size<=r:=fun r e=>(hr r e).1
   exact⟨⟨s',i1.abSm (B:=W4.heap.size) (by omega) hgr hr,io⟩,i2.abN (B:=W4.heap.size) (by omega) hgr hr1,i3.abN (B:=W4.heap.size) (by omega) hgr hr1,i4.abN (B:=W4.heap.size) (by omega) hgr hr1,cell_grown i5 hgr (by simp;omega) (fun e=>by have:=hr1 _ e.symm;simp at this;omega),grownBy_rest i6 hgr (by omega) hr1,zP i7 hgr.size⟩
  case own2 =>
   rintro c pre X Y row ⟨e1,i1,e2,i4,i6,i7⟩ hgr hr
   have hr1:∀r,row=some r->W4.heap.size<=r:=fun r e=>(hr r e).1
   exact⟨e1,i1.abSm (B:=W4.heap.size) (by omega) hgr hr,e2,i4.abN (B:=W4.heap.size) (by omega) hgr hr1,grownBy_rest i6 hgr (by omega) hr1,zP i7 hgr.size⟩
  case ownR =>
   rintro pre x _ X Y row ⟨e1,e2,e3⟩ hgr hr
   exact⟨e1,e2,InB.ownFrom (B:=W4.heap.size) _ _ _ () X Y row e3 hgr hr⟩
  case assign =>
   intro l1 x V K hK
   simp only[cutEnc]
   gi_wp2
   exact hK
  case body =>
   rintro l1 pre ⟨x1,A6,c6⟩ V ⟨⟨s',i1,io,il,ie⟩,i2,i3,i4,i5,i6,i7⟩ ⟨hx1,hx2,hx3⟩
   simp only at hx1 hx2 hx3
   subst hx1
   have hbl:=HBL.out
   have hk:pre.length<m:=by omega
   have hch:chLen b.length pre.length=64:=by unfold chLen;omega
   have hcl:(chunkB b pre.length).length=64:=by rw[chunkB_length,hch]
   have hWR:Calls Tryz.prog 145 #[.pointer (some ⟨d,0,none⟩),.int .i64 ((at_+pre.length:Nat):Int),.slice A6 64 c6] V.drew fun e w'=>∃(x:Int) (s6:DS),e = .returned (.int .i64 x)/\((x=0/\s'.stopped=false/\s6=s'.push (at_+pre.length,chunkB b pre.length))∨(x=140/\s'.stopped=true/\s6=s'))/\DkS w' d many s6/\V.drew.grownBy w' (some d):=by
    cases hs:s'.stopped
    ·refine(write_ok V.drew d many s'.g s'.xs s'.left s'.st (i1.grow (Below.refl _ _).drew) hs (at_+pre.length) (by omega) A6 c6 _ hcl (hx3.drew) (by omega) io.lo io.hi).mono ?_
     rintro e w' ⟨rfl,hD6,hg6,_⟩
     exact⟨0,_,rfl,.inl ⟨rfl,rfl,rfl⟩,hD6,hg6⟩
    ·refine(write_stop V.drew d many s'.g s'.xs s'.left s'.st (i1.grow (Below.refl _ _).drew) hs (at_+pre.length) (by omega) A6 c6).mono ?_
     rintro e w' ⟨rfl,hB6⟩
     exact⟨140,_,rfl,.inr ⟨rfl,rfl,rfl⟩,(i1.grow (Below.refl _ _).drew).grow hB6,⟨hB6.os,hB6.tape,hB6.output,hB6.size,fun k hk _=>hB6.block k hk⟩⟩
   have HW:=hWR
   rw[Int.natCast_add] at HW
   have h11:1<=n - 1 - 1:=by omega
   have k0:=i2.boxed
   have k1:=i3.boxed
   have k2:=i4.boxed
   have hwa:IntKind.i64.wrap ((at_:Int)+(pre.length:Int))=(at_:Int)+(pre.length:Int):=by rw[wrap_i64_fr _ (by omega) (by omega)]
   simp only[hch]
   clear hbl hch hcl hx2 hMu hWR
   have hS0:V.drew.cell? ⟨w.heap.size,0,none⟩=some (.pointer (some ⟨l,0,none⟩))/\V.drew.cell? ⟨l,0,none⟩=some (.pointer (some ⟨d,0,none⟩))/\V.drew.cell? ⟨w.heap.size+1,0,none⟩=some (.int .i64 (at_:Int)):=⟨k0,i5,k1⟩
   gi_wp2_with fail
   refine RegF.startR (fun W:World=>W.cell? ⟨w.heap.size,0,none⟩=some (.pointer (some ⟨l,0,none⟩))/\W.cell? ⟨l,0,none⟩=some (.pointer (some ⟨d,0,none⟩))/\W.cell? ⟨w.heap.size+1,0,none⟩=some (.int .i64 (at_:Int))) 9 (by kernel_rfl) (by kernel_rfl) ?_
   refine RegF.t 0 (.pointer (some ⟨l,0,none⟩)) rfl hS0 (fun W ⟨e0,e1,e2⟩=>by go_simp) ?_
   simp only[zD,zB,Act.put,zA,zF,zE]
   refine RegF.t 1 (.pointer (some ⟨l,0,none⟩)) rfl hS0 (fun W ⟨e0,e1,e2⟩=>by go_simp) ?_
   simp only[zD,zC,zB,Act.put,zA,zF,zE]
   refine RegF.t 2 (.pointer (some ⟨l,0,none⟩)) rfl hS0 (fun W ⟨e0,e1,e2⟩=>by go_simp) ?_
   simp only[zD,zC,zB,Act.put,zA,zF,zE]
   refine RegF.t 3 (.pointer (some ⟨d,0,none⟩)) rfl hS0 (fun W ⟨e0,e1,e2⟩=>by go_simp) ?_
   simp only[zD,zC,zB,Act.put,zA,zF,zE]
   refine RegF.t 4 (.int .i64 (at_:Int)) rfl hS0 (fun W ⟨e0,e1,e2⟩=>by go_simp) ?_
   simp only[zD,zC,zB,Act.put,zA,zF,zE]
   refine RegF.t 5 (.int .i64 (pre.length:Int)) rfl hS0 (fun W ⟨e0,e1,e2⟩=>by go_simp) ?_
   simp only[zD,zC,zB,Act.put,zA,zF,zE]
   refine RegF.t 6 (.int .i64 ((at_:Int)+(pre.length:Int))) rfl hS0 (fun W ⟨e0,e1,e2⟩=>by go_simp) ?_
   simp only[zD,zC,zB,Act.put,zA,zF,zE]
   refine RegF.t 7 (.slice A6 64 c6) rfl hS0 (fun W ⟨e0,e1,e2⟩=>by go_simp) ?_
   simp only[zD,zC,zB,Act.put,zA,zF,zE]
   refine RegF.one 8 (by kernel_rfl) ?_
   refine RegF.opC 145 #[.tmp 17,.tmp 20,.tmp 21] #[26,3,22] rfl rfl rfl (enters_of Tryz.func145 (by kernel_rfl) rfl) #[.pointer (some ⟨d,0,none⟩),.int .i64 ((at_:Int)+(pre.length:Int)),.slice A6 64 c6] (by simp only[zJ,zK,zL];rfl) (HW.mono ?_)
   rintro e W6 ⟨z,s6,rfl,hz,hD6,hg6⟩
   have gV6:V.grownBy W6 (some d):=(grownBy_drew V (some d)).trans hg6
   have q0:=i2.grown gV6 (fun e=>by injection e with e;omega)
   have q1:=i3.grown gV6 (fun e=>by injection e with e;omega)
   have q2:=i4.grown gV6 (fun e=>by injection e with e;omega)
   have q3:W6.cell? ⟨l,0,none⟩=some (.pointer (some ⟨d,0,none⟩)):=cell_grown i5 gV6 (by show l<V.heap.size;omega) (fun e=>by injection e with e;exact hld e)
   have q6:=gV6.size
   refine⟨_,rfl,fun _=>⟨q0.boxed,q3,q1.boxed⟩,?_⟩
   simp only[zD,zC,zB,Act.put,zA,zF,zE]
   refine RegF.one 9 (by kernel_rfl) (RegF.opV (w':=W6) (.int .i64 z) rfl rfl (by go_simp) ⟨fun h=>absurd rfl h,RegF.done (by kernel_rfl) ?_⟩)
   simp only[zD,zC,zB,Act.put,zA,zF,zE]
   have hKO:KeepOut (fun k=>k=d) W4.heap.size V W6:=⟨q6,fun k o hk hm=>(gV6.block k (zH.1 hk).1 (fun e=>by injection e with e;exact hm (by omega) e)).trans hk⟩
   have hGW:=i6.trans gV6
   have hdr:=wrL_drop at_ b m pre.length hk
   have q2c:=q2.boxed
   have q2f:=q2.free 0
   clear HW hS0 hg6 k0 k1 k2 hwa hx3
   dsimp only[NoOut]
   rcases hz with⟨rfl,hs,rfl⟩|⟨rfl,hs,rfl⟩
   ·gi_wp2
    refine⟨hKO,⟨_,hD6,io.push hs _,?_,?_⟩,q0,q1,q2,q3,hGW,by omega⟩
    ·simp[DS.push]
     omega
    ·rw[ie,hdr,wrs_cons_ok hs]
     simp
   ·gi_wp2
    have q7:=q2.set 0 (.int .i64 140)
    have g7:=setCell_grown W6 ⟨w.heap.size+1+1,0,none⟩ (.int .i64 140)
    have e7:wrs s (wrL at_ b m)=(s6,140):=by rw[ie,hdr,wrs_cons_bad hs]
    refine⟨⟨zP hKO.1 g7.size,fun k o hk hm=>(Below.heap_setCell W6 _ _ k (fun e=>by subst e;exact hm (by simp;omega) trivial)).trans (hKO.2 k o hk (fun hb h=>hm hb trivial))⟩,rfl,?_,?_,q7,?_,?_⟩
    ·rw[e7]
     exact hD6.setOther q2 (by show 1<=64;decide) (by omega) ⟨w.heap.size+1+1,0,none⟩ _ rfl
    ·rw[e7]
    ·exact grownBy_rest hGW g7 (zG _) (fun r e=>by injection e with e;simp at e;omega)
    ·simp
     omega
  case done =>
   rintro D ys V hD hS ⟨⟨s',i1,io,il,ie⟩,i2,i3,i4,i5,i6,i7⟩ hK
   have hbl:=HBL.out
   have hm3:ys.length=m:=by rw[hS];unfold chAll;omega
   rw[hm3,wrL_drop_all] at ie
   have e1:(wrs s (wrL at_ b m)).1=s':=by rw[ie];rfl
   have e2:(wrs s (wrL at_ b m)).2=0:=by rw[ie];rfl
   clear ie
   have k3:=i4.boxed
   have f3:=i4.free 0
   gi_wp2
   have b6:=i4.set 0 (.int .i64 0)
   have hE1:(V.setCell ⟨w.heap.size+1+1,0,none⟩ (.int .i64 0)).heap[D]? = some (.deferred (some [])):=(Below.heap_setCell V ⟨w.heap.size+1+1,0,none⟩ (.int .i64 0) D (by simp;omega)).trans hK
   have g1:=setCell_grown V ⟨w.heap.size+1+1,0,none⟩ (.int .i64 0)
   have hD1:=i1.abSm (B:=w.heap.size) hdl g1 (fun r e=>by cases e;exact⟨by simp;omega,_,i4,by decide,rfl⟩)
   have hG1:=grownBy_rest i6 g1 (zG _) (fun r e=>by cases e;simp;omega)
   clear k3 f3 g1 i1 i2 i3 i4 i5 i6 hK
   generalize V.setCell ⟨w.heap.size+1+1,0,none⟩ (.int .i64 0)=Z at *
   have g2:=grownBy_putObj' Z D (.deferred none)
   have hD2:=hD1.abSm (B:=w.heap.size) hdl g2 (fun r e=>by cases e;exact⟨by omega,_,hE1,trivial⟩)
   have hG2:=grownBy_rest hG1 g2 (zG _) (fun r e=>by cases e;omega)
   refine⟨by simp,.inl ⟨D,_,rfl,run_takeDeferred hE1,?_⟩⟩
   have b7:BlkIs (Z.putObj D (.deferred none)) (w.heap.size+1+1) 27 #[.int .i64 0]:=(putObj_oth Z D (.deferred none) (g:=w.heap.size+1+1) (by omega)).trans b6
   exact⟨.int .i64 0,results_cellQ (p:=⟨w.heap.size+1+1,0,none⟩) 6 rfl rfl (by simp[go_sem]) b7.boxed,by rw[e2],by rw[e1];exact hD2,hG2⟩
  case stop =>
   rintro D c pre V hD hS ⟨rfl,i1,ie,i4,i6,i7⟩ hK
   gi_wp2
   have g2:=grownBy_putObj' V D (.deferred none)
   have hD2:=i1.abSm (B:=w.heap.size) hdl g2 (fun r e=>by cases e;exact⟨by omega,_,hK,trivial⟩)
   have hG2:=grownBy_rest i6 g2 (zG _) (fun r e=>by cases e;omega)
   refine⟨by simp,.inl ⟨D,_,rfl,run_takeDeferred hK,?_⟩⟩
   have b7:BlkIs (V.putObj D (.deferred none)) (w.heap.size+1+1) 27 #[.int .i64 140]:=(putObj_oth V D (.deferred none) (g:=w.heap.size+1+1) (by omega)).trans i4
   exact⟨.int .i64 140,results_cellQ (p:=⟨w.heap.size+1+1,0,none⟩) 6 rfl rfl (by simp[go_sem]) b7.boxed,by rw[ie],hD2,hG2⟩
theorem wwriteS_gives (w:World)(l d many:Nat)(s:DS)(hD:DkS w d many s)(hO:s.Ok)(hl:s.xs.length<=900000)
  (hc:w.cell? ⟨l,0,none⟩=some (.pointer (some ⟨d,0,none⟩))) (hld:l≠d) (hll:l<w.heap.size) (at_ m:Nat) (A:Option Addr) (c:Nat) (b:List UInt8) (hin:InB w w.heap.size A c b) (hbl:b.length=64*m) (hm:m<=16) (ham:at_+m<=many) (hmax:many<=1000000) :
  Calls Tryz.prog 100 #[.pointer (some ⟨l,0,none⟩),.int .i64 (at_:Int),.slice A b.length c] w fun e w'=>e = .returned (.int .i64 (wrs s (wrL at_ b m)).2)/\DkS w' d many (wrs s (wrL at_ b m)).1/\w.grownBy w' (some d) :=
 callsIn_wide.1 (wwriteS_in 8 (zG _) w l d many s hD hO hl hc hld hll at_ m A c b hin hbl hm ham hmax)
end Go.Proofs.YtnlimngkagmjpaaGreat
