/- Texts that the proof of TreeNone leans on, part 5. -/
import Derived.OrdersHeld
import Derived.Test.YtpibjkbadnffgaaGreatTreeNoneB4
open List renaming getElem?_eq_getElem → zM, size_toArray → zT, length_cons → zP, length_nil → qE, push_toArray → qD, append_toArray → qA, nil_append → zV, cons_append → qB, length_append → zJ, getElem_toArray → zE, getElem_cons_zero → zB, setIfInBounds_toArray → zA, set_cons_zero → zG, set_cons_succ → zF, getElem_cons_succ → zD, map_toArray → zK, map_cons → zL, map_nil → zN, all_eq_true → qJ
open Nat renaming lt_of_lt_of_le → zO, le_trans → zU, le_refl → zH, reduceAdd → qO, reduceSub → qP
open Array renaming replicate_succ → zX, replicate_zero → zY, getElem?_eq_some_iff → zI, getD_eq_getD_getElem? → zS
set_option linter.unusedVariables false
set_option maxRecDepth 100000
set_option maxHeartbeats 8000000

namespace Go.Proofs.YtpibjkbadnffgaaGreat
open Go Go.RowKit Lou Go.Shelf
attribute [local go_sem] Oper.semAt_some
theorem DkIs.abSm {B p many:Nat}{g:Nat->List UInt8}{xs:List (Nat×List UInt8)}{left:Int}{stops:Bool}(Z:p<B){X Y:World}{row:Option Nat}(h:DkIs X p many g xs left stops)(u:X.grownBy Y row)(V:∀r,row=some r->B<=r/\∃o:Obj,X.heap[r]? = some o/\Small o):DkIs Y p many g xs left stops:=by
 cases row with
 | none=>exact h.grow ⟨u.os,u.tape,u.output,u.size,λk W=>u.block k W (λe=>by cases e)⟩
 | some q =>
  obtain⟨hq,o,C,hs⟩:=V q rfl
  clear V
  cases o with
  | cells cs T fr =>
   obtain⟨h1,rfl⟩:=hs
   exact h.other (show BlkIs X q T cs from C) h1 (by omega) u
  | loop lp =>
   obtain⟨r,A,c,hb,x,O,m⟩:=h.has
   have H:r≠q:=λe=>by
    subst e
    obtain⟨M,K,h1,_⟩:=x.lies
    have I:X.heap[r]? = some (.map M K):=h1
    rw[I] at C
    cases C
   refine⟨r,A,c,hb.grown u (λe=>by injection e;omega),x.keep (u.block r x.lt (λe=>H (by injection e))),O,?_⟩
   refine⟨m.le,m.max,m.nil,m.len,m.one,λU => ?_⟩
   obtain⟨b,o,e,E,F⟩:=m.lies U
   subst e
   have G:b≠q:=λe=>by
    subst e
    have h2:=F 0 ((flC xs)[0]'(by rw[m.len];omega)) (zM (by rw[m.len];omega))
    simp[World.cell?,C] at h2
   exact⟨b,o,rfl,zO E u.size,λj v N=>(World.cell?_of_block (u.block b E (λe=>G (by injection e)))).trans (F j v N)⟩
  | deferred dd =>
   obtain⟨r,A,c,hb,x,O,m⟩:=h.has
   have H:r≠q:=λe=>by
    subst e
    obtain⟨M,K,h1,_⟩:=x.lies
    have I:X.heap[r]? = some (.map M K):=h1
    rw[I] at C
    cases C
   refine⟨r,A,c,hb.grown u (λe=>by injection e;omega),x.keep (u.block r x.lt (λe=>H (by injection e))),O,?_⟩
   refine⟨m.le,m.max,m.nil,m.len,m.one,λU => ?_⟩
   obtain⟨b,o,e,E,F⟩:=m.lies U
   subst e
   have G:b≠q:=λe=>by
    subst e
    have h2:=F 0 ((flC xs)[0]'(by rw[m.len];omega)) (zM (by rw[m.len];omega))
    simp[World.cell?,C] at h2
   exact⟨b,o,rfl,zO E u.size,λj v N=>(World.cell?_of_block (u.block b E (λe=>G (by injection e)))).trans (F j v N)⟩
  | _=>exact hs.elim
namespace RegF
theorem startR {P:Program}{ops:Array Oper}{Q:Exit->Act->World->Prop}{r l m:Nat}{a:Act}{w:World}(S:World->Prop)(fin:Nat)(q:P.follows .mixedOrders=true)(j:noDefer ops=true)(h:wpAnyF P .any ops (NoOut Q) S fin ops.size (Array.replicate ops.size false) a w.drew):(Code.region r ops true).wpIn (Fence.wide.inRound l) m P Q a w :=
 wpIn_mono (Q:=NoOut Q) (wpIn_region_any q (wpAny_inRound j _ _ _ _ (to_any _ _ _ _ h))) NoOut.imp
end RegF
def wrL (at_:Nat)(b:List UInt8)(m:Nat):List (Nat×List UInt8):=(List.range m).map λi=>(at_+i,chunkB b i)
theorem wrL_next (at_:Nat)(b:List UInt8)(m:Nat):wrL at_ b (m+1)=wrL at_ b m++[(at_+m,chunkB b m)]:=by unfold wrL;rw[List.range_succ,List.map_append];rfl
theorem wrL_length (at_:Nat)(b:List UInt8)(m:Nat):(wrL at_ b m).length=m:=by unfold wrL;simp
theorem grownBy_rest {a b c:World}{row j:Option Nat}{B:Nat}(h:a.grownBy b row)(k:b.grownBy c j)(hB:a.heap.size<=B)(q:∀r,j=some r->B<=r):a.grownBy c row :=
 ⟨k.os.trans h.os,k.tape.trans h.tape,k.output.trans h.output,zU h.size k.size,λi m hn=>(k.block i (zO m h.size) (λe=>by have:=q i e.symm;omega)).trans (h.block i m hn)⟩
theorem cell_grown {X Y:World}{row:Option Nat}{p:Addr}{v:Value}(hc:X.cell? p=some v)(h:X.grownBy Y row)(hl:p.block<X.heap.size)(hn:some p.block≠row):Y.cell? p=some v:=(World.cell?_of_block (h.block _ hl hn)).trans hc
theorem wwrite_in (n:Nat)(hn:8<=n)(w:World)(l d many:Nat)(g:Nat->List UInt8)(xs:List (Nat×List UInt8))(left:Int)(N:DkIs w d many g xs left false)(hl:xs.length<=900000)(h1l : -1000000<=left)(aX:left<=9223372036854775807)
  (hc:w.cell? ⟨l,0,none⟩=some (.pointer (some ⟨d,0,none⟩))) (aZ:l≠d) (aY:l<w.heap.size) (at_ m:Nat) (A:Option Addr) (c:Nat) (b:List UInt8) (aG:InB w w.heap.size A c b) (aA:b.length=64*m) (hm:m<=16) (a9:at_+m<=many) (bC:many<=1000000) :
  CallsIn Fence.wide n Tryz.prog 170 #[.pointer (some ⟨l,0,none⟩),.int .i64 (at_:Int),.slice A b.length c] w λe w'=>e = .returned (.int .i64 0)/\DkIs w' d many g (xs++wrL at_ b m) left false/\w.grownBy w' (some d):=by
 have h1:1<=n:=by omega
 have aL:=N.lt
 have b0:=((BlkIs.new w 296 #[.pointer (some ⟨l,0,none⟩)]).alloc (.cells #[.int .i64 (at_:Int)] 3)).alloc (.cells #[.int .i64 0] 27)
 have b1:=(BlkIs.new (w.alloc (.cells #[.pointer (some ⟨l,0,none⟩)] 296)) 3 #[.int .i64 (at_:Int)]).alloc (.cells #[.int .i64 0] 27)
 have b2:=BlkIs.new ((w.alloc (.cells #[.pointer (some ⟨l,0,none⟩)] 296)).alloc (.cells #[.int .i64 (at_:Int)] 3)) 27 #[.int .i64 0]
 rw[World.size_alloc] at b1
 rw[World.size_alloc,World.size_alloc] at b2
 have aB:Below w.heap.size w (((w.alloc (.cells #[.pointer (some ⟨l,0,none⟩)] 296)).alloc (.cells #[.int .i64 (at_:Int)] 3)).alloc (.cells #[.int .i64 0] 27)) :=
  (((Below.refl _ w).alloc (zH _) _).alloc (by simp) _).alloc (by simp;omega) _
 have HC:=cut_gives _ A c b ((aG.below aB).more aB.size) (by omega)
 have aN:=Lib.hid aA
 have bA:b.length<=1024:=by omega
 clear aA
 refine callsIn_of_wp_marks Tryz.func170 rfl trivial ?_ rfl
 simp only[Tryz.ntmps170,zT,zP,qE,qO,qP,zX,zY,qD,qA,zV,qB]
 gi_wp2_with (refine⟨trivial,?_⟩;gi_at_call 234;refine(callsIn_wide.2 HC).mono ?_;rintro e q ⟨gB,A2,c2,rfl,aO,aP,U⟩)
 obtain⟨M⟩:Nonempty (Below w.heap.size w q):=⟨aB.trans (U.mono aB.size)⟩
 have bB:w.heap.size+3<=q.heap.size:=by have:=U.size;simp at this;omega
 have aM:=N.grow M
 have c0:=b0.below U b0.lt
 have c1:=b1.below U b1.lt
 have a6:=b2.below U b2.lt
 have aT:q.cell? ⟨l,0,none⟩=some (.pointer (some ⟨d,0,none⟩)):=(M.cell (p:=⟨l,0,none⟩) aY).trans hc
 have a2:w.grownBy q (some d):=⟨M.os,M.tape,M.output,M.size,λk O _=>M.block k O⟩
 have aK:0<b.length->∀g o,A2=some ⟨g,o,none⟩->¬ g=d:=λh0 g o e=>by
  subst e
  obtain⟨r,A',c',hb,_⟩:=aM.has
  exact aP.notDisk h0 hb
 clear b0 b1 b2 aB HC N hc aG U
 refine wpI_stopB (λa0 a V=>∃D,a = { a0 with defers:={ target:=.collected D,args:=#[] }::a0.defers }/\V.heap[D]? = some (.deferred (some []))/\q.heap.size<=D/\DkIs V d many g (xs++wrL at_ b m) left false/\BlkIs V (w.heap.size+1+1) 27 #[.int .i64 0]/\w.grownBy V (some d)) ?_ ?_
 ·intro Q' hQ
  refine wpIn_rangeFunc_S rfl h1 (gf:=296) (lb:=#[.pointer (some ⟨gB,0,none⟩)]) rfl trivial (enters_of Tryz.func296 (by kernel_rfl) rfl)
   (cut1_seqS (n₀:=q.heap.size) (n - 1) (by omega) gB A2 c2 b (by omega) (λk=>k=d) aK q aO.lt (zH _) aO.boxed aP) (Below.refl _ _) (λ_=>rfl)
   (λj V=>DkIs V d many g (xs++wrL at_ b j.length) left false/\BlkIs V w.heap.size 296 #[.pointer (some ⟨l,0,none⟩)]/\BlkIs V (w.heap.size+1) 3 #[.int .i64 (at_:Int)]/\BlkIs V (w.heap.size+1+1) 27 #[.int .i64 0]/\V.cell? ⟨l,0,none⟩=some (.pointer (some ⟨d,0,none⟩))/\w.grownBy V (some d)/\q.heap.size<=V.heap.size)
   (λ_ _ _=>False)
   ?own ?own2 ?ownR ⟨by rw[show wrL at_ b ([]:List (Nat×(Option Addr×Nat))).length=[] from rfl,List.append_nil];exact aM,c0,c1,a6,aT,a2,zH _⟩ ?act ?assign ?body ?done ?stop
  case own =>
   rintro j X Y row ⟨F,u,H,i4,i5,i6,i7⟩ E hr
   have aC:∀r,row=some r->q.heap.size<=r:=λr e=>(hr r e).1
   exact⟨F.abSm (B:=q.heap.size) (by omega) E hr,u.abN (B:=q.heap.size) (by omega) E aC,H.abN (B:=q.heap.size) (by omega) E aC,i4.abN (B:=q.heap.size) (by omega) E aC,cell_grown i5 E (by simp;omega) (λe=>by have:=aC _ e.symm;simp at this;omega),grownBy_rest i6 E (by omega) aC,zU i7 E.size⟩
  case own2=>exact λc j X Y row h _ _=>h
  case ownR =>
   rintro j x _ X Y row ⟨C,G,e3⟩ E hr
   exact⟨C,G,InB.ownFrom (B:=q.heap.size) _ _ _ () X Y row e3 E hr⟩
  case assign =>
   intro l1 x V K hK
   simp only[cutEnc]
   gi_wp2
   exact hK
  case body =>
   rintro l1 j ⟨x1,A6,c6⟩ V ⟨F,u,H,i4,i5,i6,i7⟩ ⟨aQ,aH,aE⟩
   simp only at aQ aH aE
   subst aQ
   have aA:=aN.out
   have O:j.length<m:=by omega
   have aD:chLen b.length j.length=64:=by unfold chLen;omega
   have aS:(chunkB b j.length).length=64:=by rw[chunkB_length,aD]
   have aJ:(xs++wrL at_ b j.length).length=xs.length+j.length:=by rw[zJ,wrL_length]
   have HW:=write_ok V.drew d many g (xs++wrL at_ b j.length) left false (F.grow (Below.refl _ _).drew) rfl (at_+j.length) (by omega) A6 c6 _ aS (aE.drew) (by rw[aJ];omega) h1l aX
   rw[Int.natCast_add] at HW
   have bD:1<=n - 1 - 1:=by omega
   have k0:=u.boxed
   have k1:=H.boxed
   have k2:=i4.boxed
   have aW:IntKind.i64.wrap ((at_:Int)+(j.length:Int))=(at_:Int)+(j.length:Int):=by rw[wrap_i64_fr _ (by omega) (by omega)]
   simp only[aD]
   clear aA aD aS aJ aH aK
   have v:V.drew.cell? ⟨w.heap.size,0,none⟩=some (.pointer (some ⟨l,0,none⟩))/\V.drew.cell? ⟨l,0,none⟩=some (.pointer (some ⟨d,0,none⟩))/\V.drew.cell? ⟨w.heap.size+1,0,none⟩=some (.int .i64 (at_:Int)):=⟨k0,i5,k1⟩
   gi_wp2_with fail
   refine RegF.startR (λW:World=>W.cell? ⟨w.heap.size,0,none⟩=some (.pointer (some ⟨l,0,none⟩))/\W.cell? ⟨l,0,none⟩=some (.pointer (some ⟨d,0,none⟩))/\W.cell? ⟨w.heap.size+1,0,none⟩=some (.int .i64 (at_:Int))) 9 (by kernel_rfl) (by kernel_rfl) ?_
   refine RegF.t 0 (.pointer (some ⟨l,0,none⟩)) rfl v (λW ⟨T,C,G⟩=>by go_simp) ?_
   simp only[zE,zB,Act.put,zA,zG,zF]
   refine RegF.t 1 (.pointer (some ⟨l,0,none⟩)) rfl v (λW ⟨T,C,G⟩=>by go_simp) ?_
   simp only[zE,zD,zB,Act.put,zA,zG,zF]
   refine RegF.t 2 (.pointer (some ⟨l,0,none⟩)) rfl v (λW ⟨T,C,G⟩=>by go_simp) ?_
   simp only[zE,zD,zB,Act.put,zA,zG,zF]
   refine RegF.t 3 (.pointer (some ⟨d,0,none⟩)) rfl v (λW ⟨T,C,G⟩=>by go_simp) ?_
   simp only[zE,zD,zB,Act.put,zA,zG,zF]
   refine RegF.t 4 (.int .i64 (at_:Int)) rfl v (λW ⟨T,C,G⟩=>by go_simp) ?_
   simp only[zE,zD,zB,Act.put,zA,zG,zF]
   refine RegF.t 5 (.int .i64 (j.length:Int)) rfl v (λW ⟨T,C,G⟩=>by go_simp) ?_
   simp only[zE,zD,zB,Act.put,zA,zG,zF]
   refine RegF.t 6 (.int .i64 ((at_:Int)+(j.length:Int))) rfl v (λW ⟨T,C,G⟩=>by go_simp) ?_
   simp only[zE,zD,zB,Act.put,zA,zG,zF]
   refine RegF.t 7 (.slice A6 64 c6) rfl v (λW ⟨T,C,G⟩=>by go_simp) ?_
   simp only[zE,zD,zB,Act.put,zA,zG,zF]
   refine RegF.one 8 (by kernel_rfl) ?_
   refine RegF.opC 235 #[.tmp 17,.tmp 20,.tmp 21] #[60,3,87] rfl rfl rfl (enters_of Tryz.func235 (by kernel_rfl) rfl) #[.pointer (some ⟨d,0,none⟩),.int .i64 ((at_:Int)+(j.length:Int)),.slice A6 64 c6] (by simp only[zK,zL,zN];rfl) (HW.mono ?_)
   rintro e W6 ⟨rfl,aR,aF,_⟩
   have I:V.grownBy W6 (some d):=(grownBy_drew V (some d)).trans aF
   have q0:=u.grown I (λe=>by injection e with e;omega)
   have q1:=H.grown I (λe=>by injection e with e;omega)
   have q2:=i4.grown I (λe=>by injection e with e;omega)
   have q3:W6.cell? ⟨l,0,none⟩=some (.pointer (some ⟨d,0,none⟩)):=cell_grown i5 I (by show l<V.heap.size;omega) (λe=>by injection e with e;exact aZ e)
   have q6:=I.size
   refine⟨_,rfl,λ_=>⟨q0.boxed,q3,q1.boxed⟩,?_⟩
   simp only[zE,zD,zB,Act.put,zA,zG,zF]
   refine RegF.one 9 (by kernel_rfl) (RegF.opV (w':=W6) (.int .i64 0) rfl rfl (by go_simp) ⟨λh=>absurd rfl h,RegF.done (by kernel_rfl) ?_⟩)
   simp only[zE,zD,zB,Act.put,zA,zG,zF]
   have a4:DkIs W6 d many g (xs++wrL at_ b (j++[(j.length,A6,c6)]).length) left false:=by
    rw[show (j++[(j.length,A6,c6)]).length=j.length+1 by simp,wrL_next,<-List.append_assoc]
    exact aR
   have aU:KeepOut (λk=>k=d) q.heap.size V W6:=⟨q6,λk o O hm=>(I.block k (zI.1 O).1 (λe=>by injection e with e;exact hm (by omega) e)).trans O⟩
   have aV:=i6.trans I
   clear HW v aR aF k0 k1 k2 aW aE
   dsimp only[NoOut]
   gi_wp2
   exact⟨aU,a4,q0,q1,q2,q3,aV,by omega⟩
  case done =>
   rintro D ys V N hS ⟨F,u,H,i4,i5,i6,i7⟩ hK
   have aA:=aN.out
   have a1:ys.length=m:=by rw[hS];unfold chAll;omega
   rw[a1] at F
   exact hQ _ _ ⟨D,rfl,hK,N,F,i4,i6⟩
  case stop =>
   rintro D c j V N hS h
   exact h.elim
 rintro a V ⟨D,rfl,hK,N,F,u,H⟩
 have k3:=u.boxed
 have f3:=u.free 0
 gi_wp2
 have b6:=u.set 0 (.int .i64 0)
 have aI:(V.setCell ⟨w.heap.size+1+1,0,none⟩ (.int .i64 0)).heap[D]? = some (.deferred (some [])):=(Below.heap_setCell V ⟨w.heap.size+1+1,0,none⟩ (.int .i64 0) D (by simp;omega)).trans hK
 have g1:V.grownBy (V.setCell ⟨w.heap.size+1+1,0,none⟩ (.int .i64 0)) (some (w.heap.size+1+1)):=⟨rfl,rfl,rfl,by simp,λk _ O=>Below.heap_setCell V _ _ k (λe=>O (by rw[e]))⟩
 have a3:=F.abSm (B:=w.heap.size) aL g1 (λr e=>by cases e;exact⟨by omega,_,u,by decide,rfl⟩)
 have a7:=grownBy_rest H g1 (zH _) (λr e=>by cases e;omega)
 clear k3 f3 g1 F u H hK
 generalize V.setCell ⟨w.heap.size+1+1,0,none⟩ (.int .i64 0)=Z at *
 have g2:=grownBy_putObj' Z D (.deferred none)
 have a8:=a3.abSm (B:=w.heap.size) aL g2 (λr e=>by cases e;exact⟨by omega,_,aI,trivial⟩)
 have a5:=grownBy_rest a7 g2 (zH _) (λr e=>by cases e;omega)
 refine⟨by simp,.inl ⟨D,_,rfl,run_takeDeferred aI,?_⟩⟩
 have b7:BlkIs (Z.putObj D (.deferred none)) (w.heap.size+1+1) 27 #[.int .i64 0]:=(putObj_oth Z D (.deferred none) (g:=w.heap.size+1+1) (by omega)).trans b6
 exact⟨.int .i64 0,results_cellQ (p:=⟨w.heap.size+1+1,0,none⟩) 6 rfl rfl (by simp[go_sem]) b7.boxed,rfl,a8,a5⟩
theorem wwrite_gives (w:World)(l d many:Nat)(g:Nat->List UInt8)(xs:List (Nat×List UInt8))(left:Int)(q:DkIs w d many g xs left false)(hl:xs.length<=900000)(h1l : -1000000<=left)(v:left<=9223372036854775807)
  (hc:w.cell? ⟨l,0,none⟩=some (.pointer (some ⟨d,0,none⟩))) (C:l≠d) (u:l<w.heap.size) (at_ m:Nat) (A:Option Addr) (c:Nat) (b:List UInt8) (x:InB w w.heap.size A c b) (j:b.length=64*m) (h:m<=16) (B:at_+m<=many) (r:many<=1000000) :
  Calls Tryz.prog 170 #[.pointer (some ⟨l,0,none⟩),.int .i64 (at_:Int),.slice A b.length c] w λe w'=>e = .returned (.int .i64 0)/\DkIs w' d many g (xs++wrL at_ b m) left false/\w.grownBy w' (some d) :=
 callsIn_wide.1 (wwrite_in 8 (zH _) w l d many g xs left q hl h1l v hc C u at_ m A c b x j h B r)
end Go.Proofs.YtpibjkbadnffgaaGreat
namespace Go.Proofs.YtpibjkbadnffgaaGreat
open Go Go.RowKit Lou
structure GrowBut (Mu:Nat->Prop)(w w':World):Prop where
 os:w'.os=w.os
 tape:w'.tape=w.tape
 output:w'.output=w.output
 size:w.heap.size<=w'.heap.size
 block:∀k,k<w.heap.size->¬ Mu k->w'.heap[k]? = w.heap[k]?
namespace GrowBut
variable {Mu:Nat->Prop}{a b c:World}
theorem refl (Mu:Nat->Prop)(a:World):GrowBut Mu a a:=⟨rfl,rfl,rfl,zH _,λ_ _ _=>rfl⟩
theorem trans (h:GrowBut Mu a b)(k:GrowBut Mu b c):GrowBut Mu a c:=⟨k.os.trans h.os,k.tape.trans h.tape,k.output.trans h.output,zU h.size k.size,λi j hn=>(k.block i (zO j h.size) hn).trans (h.block i j hn)⟩
theorem below (h:Below a.heap.size a b):GrowBut Mu a b:=⟨h.os,h.tape,h.output,h.size,λk j _=>h.block k j⟩
theorem grown {row:Option Nat}(h:a.grownBy b row)(j:∀r,row=some r->Mu r∨a.heap.size<=r):GrowBut Mu a b:=⟨h.os,h.tape,h.output,h.size,λk m hn=>h.block k m (λe=>by rcases j k e.symm with h|h;exact hn h;omega)⟩
theorem blk (h:GrowBut Mu a b){g:Nat}{t:TypeId}{cs:Array Value}(hb:BlkIs a g t cs)(hn:¬ Mu g):BlkIs b g t cs:=(h.block g hb.lt hn).trans hb
theorem cell (h:GrowBut Mu a b){p:Addr}{v:Value}(hc:a.cell? p=some v)(hl:p.block<a.heap.size)(hn:¬ Mu p.block):b.cell? p=some v:=(World.cell?_of_block (h.block _ hl hn)).trans hc
theorem toBelow (h:GrowBut Mu a b){B:Nat}(hB:B<=a.heap.size)(j:∀k,Mu k->B<=k):Below B a b:=⟨h.os,h.tape,h.output,h.size,λk m=>h.block k (by omega) (λhn=>by have:=j k hn;omega)⟩
theorem more {Nu:Nat->Prop}(h:GrowBut Mu a b)(q:∀k,Mu k->k<a.heap.size->Nu k):GrowBut Nu a b:=⟨h.os,h.tape,h.output,h.size,λk j hn=>h.block k j (λm=>hn (q k m j))⟩
theorem setCell (w:World)(p:Addr)(v:Value)(h:Mu p.block):GrowBut Mu w (w.setCell p v):=⟨rfl,rfl,rfl,by simp,λk _ hn=>Below.heap_setCell w p v k (λe=>hn (by rw[e];exact h))⟩
theorem inB (h:GrowBut Mu a b){A:Option Addr}{k:Nat}{x:List UInt8}(m:InB a a.heap.size A k x)(hn:∀g o,A=some ⟨g,o,none⟩->0<x.length->¬ Mu g):InB b b.heap.size A k x:=by
 refine⟨m.le,m.max,m.nil,λr => ?_⟩
 obtain⟨g,o,e,q,hc⟩:=m.lies r
 exact⟨g,o,e,zO q h.size,λj u=>(World.cell?_of_block (h.block g q (hn g o e r))).trans (hc j u)⟩
end GrowBut
theorem DkIs.setOther {w:World}{p many:Nat}{g:Nat->List UInt8}{xs:List (Nat×List UInt8)}{left:Int}{stops:Bool}{q:Nat}{t:TypeId}{cs:Array Value}(h:DkIs w p many g xs left stops)(hq:BlkIs w q t cs)(r:cs.size<=64)(j:p≠q)(a:Addr)(v:Value)(ha:a.block=q):DkIs (w.setCell a v) p many g xs left stops:=by
 subst ha
 exact h.other hq r j ⟨rfl,rfl,rfl,by simp,λk _ m=>Below.heap_setCell w _ _ k (λe=>m (by rw[e]))⟩
section
variable (w:World)(l d many lb hb:Nat)(g:Nat->List UInt8)(xs:List (Nat×List UInt8))(left:Int)(hs he:Nat)(hz hc:Int)
theorem lay1_gives (E:DkIs w d many g xs left false)(hl:xs.length<=900000)(h1l : -1000000<=left)(aF:left<=9223372036854775807)(H:BlkIs w lb 110 #[.pointer (some ⟨l,0,none⟩)])(B:BlkIs w hb 185 #[.int .u64 (hs:Int),.int .u64 (he:Int),.int .i64 hz,.int .i64 hc])
  (T:w.cell? ⟨l,0,none⟩=some (.pointer (some ⟨d,0,none⟩))) (aI:l≠d) (aL:lb≠d) (aQ:hb≠d) (aE:l<w.heap.size) (N:headOk hz hc=true) (aP:2<=many) (aD:many<=1000000) :
  Calls Tryz.prog 168 #[.pointer (some ⟨hb,0,none⟩),.pointer (some ⟨lb,0,none⟩)] w λe w'=>e = .returned (.int .i64 0)/\DkIs w' d many g (xs++wrL (hs % 2) (hEnc hs he hz hc) 1) left false/\w.grownBy w' (some d):=by
 have F:(hEnc hs he hz hc).length=64:=by
  unfold hEnc
  rw[if_pos N]
  exact headW_length _ _ _ _
 have V:hErr hz hc=0:=by unfold hErr;rw[if_pos N]
 have x:=encodeHead_gives hs he hz hc w
 rw[V] at x
 unfold GivesBE at x
 rw[F] at x
 have O:=Lib.hid F
 have aN:=E.lt
 obtain⟨r,G⟩:∃r,r=hs % 2:=⟨_,rfl⟩
 have aG:=Lib.hid (show Int.tmod (hs:Int) 2=(r:Int) by rw[G];exact(Int.ofNat_tmod hs 2).symm)
 have aA:=Lib.hid (show IntKind.i64.wrap (r:Int)=(r:Int) from wrap_i64_fr _ (by omega) (by omega))
 have aM:r<2:=by omega
 rw[<-G]
 clear G
 clear F V
 go_enter Tryz.func168,Tryz.ntmps168
 go_wp2_with (first
  | (refine wp_loadW rfl 185 (.tmp 0) rfl hb rfl rowHead B rfl ?_)
  | (go_at_call 169;refine x.mono ?_;rintro e m ⟨A,c,rfl,aH,v⟩))
 have aC:=E.grow v
 have U:=H.below v H.lt
 have M:=B.below v B.lt
 have Z:m.cell? ⟨l,0,none⟩=some (.pointer (some ⟨d,0,none⟩)):=(v.cell (p:=⟨l,0,none⟩) aE).trans T
 have aO:=v.size
 have c1:m.cell? ⟨hb,0,none⟩=some (.int .u64 (hs:Int)):=by rw[M.cell];rfl
 have j:m.drew.cell? ⟨lb,0,none⟩=some (.pointer (some ⟨l,0,none⟩))/\m.drew.cell? ⟨hb,0,none⟩=some (.int .u64 (hs:Int)):=⟨U.boxed,c1⟩
 have K:=wwrite_gives m.drew l d many g xs left (aC.grow (Below.refl _ _).drew) hl h1l aF Z aI (by show l<m.heap.size;omega) r 1 A c _ aH.drew (by rw[O.out]) (by omega) (by omega) aD
 rw[O.out] at K
 clear x E H B T
 refine RegF.start (λW:World=>W.cell? ⟨lb,0,none⟩=some (.pointer (some ⟨l,0,none⟩))/\W.cell? ⟨hb,0,none⟩=some (.int .u64 (hs:Int))) 9 (by kernel_rfl) ?_
 refine RegF.t 0 (.pointer (some ⟨l,0,none⟩)) rfl j (λW ⟨q,u⟩=>by go_simp) ?_
 simp only[zE,zB,Act.put,zA,zG,zF]
 refine RegF.t 1 (.pointer (some ⟨l,0,none⟩)) rfl j (λW ⟨q,u⟩=>by go_simp) ?_
 simp only[zE,zD,zB,Act.put,zA,zG,zF]
 refine RegF.t 2 (.pointer (some ⟨l,0,none⟩)) rfl j (λW ⟨q,u⟩=>by go_simp) ?_
 simp only[zE,zD,zB,Act.put,zA,zG,zF]
 refine RegF.t 3 (.pointer (some ⟨hb,0,none⟩)) rfl j (λW ⟨q,u⟩=>by go_simp) ?_
 simp only[zE,zD,zB,Act.put,zA,zG,zF]
 refine RegF.t 4 (.int .u64 (hs:Int)) rfl j (λW ⟨q,u⟩=>by go_simp) ?_
 simp only[zE,zD,zB,Act.put,zA,zG,zF]
 refine RegF.t 5 (.int .u64 (r:Int)) rfl j (λW ⟨q,u⟩=>by have e9:=aG.out;go_simp) ?_
 simp only[zE,zD,zB,Act.put,zA,zG,zF]
 refine RegF.t 6 (.int .i64 (r:Int)) rfl j (λW ⟨q,u⟩=>by have e9:=aA.out;go_simp) ?_
 simp only[zE,zD,zB,Act.put,zA,zG,zF]
 refine RegF.t 7 (.slice A 64 c) rfl j (λW ⟨q,u⟩=>by go_simp) ?_
 simp only[zE,zD,zB,Act.put,zA,zG,zF]
 refine RegF.one 8 (by kernel_rfl) ?_
 refine RegF.opC 170 #[.tmp 12,.tmp 16,.tmp 17] #[179,3,87] rfl rfl rfl (enters_of Tryz.func170 (by kernel_rfl) rfl) #[.pointer (some ⟨l,0,none⟩),.int .i64 (r:Int),.slice A 64 c] (by simp only[zK,zL,zN];rfl) (K.mono ?_)
 rintro e I ⟨rfl,aK,aB⟩
 have C:m.grownBy I (some d):=(grownBy_drew m (some d)).trans aB
 have q0:=U.grown C (λe=>by injection e with e;omega)
 have q1:=M.grown C (λe=>by injection e with e;omega)
 have aJ:I.cell? ⟨hb,0,none⟩=some (.int .u64 (hs:Int)):=by rw[q1.cell];rfl
 refine⟨_,rfl,λ_=>⟨q0.boxed,aJ⟩,?_⟩
 simp only[zE,zD,zB,Act.put,zA,zG,zF]
 refine RegF.one 9 (by kernel_rfl) (RegF.opV (w':=I) (.int .i64 0) rfl rfl (by go_simp) ⟨λh=>absurd rfl h,RegF.done (by kernel_rfl) ?_⟩)
 simp only[zE,zD,zB,Act.put,zA,zG,zF]
 clear K j
 go_wp2
 go_ret
 exact⟨rfl,aK,(below_grownBy v d).trans C⟩
theorem lay2_gives (D:Option Addr)(fr pg:Int)(sr ep:Nat)(sz:Int)(A:Option Addr)(n c:Nat)(M:BlkIs w lb 110 #[.pointer (some ⟨l,0,none⟩)])(G:BlkIs w hb 185 #[.int .u64 (hs:Int),.int .u64 (he:Int),.int .i64 hz,.int .i64 hc])(C:BlkIs w l 183 (lgC D fr pg sr ep sz A n c))(N:l≠lb)(O:l≠hb) :
  Calls Tryz.prog 171 #[.pointer (some ⟨hb,0,none⟩),.pointer (some ⟨lb,0,none⟩)] w λe w'=>e = .returned (.int .i64 0)/\w'=(w.drew.setCell ⟨l,3,none⟩ (.int .u64 (hs:Int))).setCell ⟨l,4,none⟩ (.int .u64 (he:Int))/\BlkIs w' l 183 (lgC D fr pg hs he sz A n c):=by
 have c0:=M.boxed
 have c1:w.cell? ⟨hb,0,none⟩=some (.int .u64 (hs:Int)):=by rw[G.cell];rfl
 have c2:w.cell? ⟨hb,1,none⟩=some (.int .u64 (he:Int)):=by rw[G.cell];rfl
 have V:w.cell? ⟨l,3,none⟩=some (.int .u64 (sr:Int)):=by rw[C.cell];rfl
 have Z:w.cell? ⟨l,4,none⟩=some (.int .u64 (ep:Int)):=by rw[C.cell];rfl
 have I:=C.free 3
 have H:=C.free 4
 go_enter Tryz.func171,Tryz.ntmps171
 go_wp2_with fail
 have x:(w.drew.cell? ⟨lb,0,none⟩=some (.pointer (some ⟨l,0,none⟩))/\w.drew.cell? ⟨hb,0,none⟩=some (.int .u64 (hs:Int))/\w.drew.cell? ⟨hb,1,none⟩=some (.int .u64 (he:Int)))/\w.drew.frozen? ⟨l,3,none⟩=false/\w.drew.frozen? ⟨l,4,none⟩=false:=⟨⟨c0,c1,c2⟩,I,H⟩
 refine RegF.start (λW:World=>(W.cell? ⟨lb,0,none⟩=some (.pointer (some ⟨l,0,none⟩))/\W.cell? ⟨hb,0,none⟩=some (.int .u64 (hs:Int))/\W.cell? ⟨hb,1,none⟩=some (.int .u64 (he:Int)))/\W.frozen? ⟨l,3,none⟩=false/\W.frozen? ⟨l,4,none⟩=false) 11 (by kernel_rfl) ?_
 refine RegF.t 0 (.pointer (some ⟨l,0,none⟩)) rfl x (λW j=>by obtain⟨⟨m,q,v⟩,r,u⟩:=j;go_simp) ?_
 simp only[zE,zB,Act.put,zA,zG,zF]
 refine RegF.t 1 (.pointer (some ⟨l,0,none⟩)) rfl x (λW j=>by obtain⟨⟨m,q,v⟩,r,u⟩:=j;go_simp) ?_
 simp only[zE,zD,zB,Act.put,zA,zG,zF]
 refine RegF.t 2 (.pointer (some ⟨hb,0,none⟩)) rfl x (λW j=>by obtain⟨⟨m,q,v⟩,r,u⟩:=j;go_simp) ?_
 simp only[zE,zD,zB,Act.put,zA,zG,zF]
 refine RegF.t 3 (.int .u64 (hs:Int)) rfl x (λW j=>by obtain⟨⟨m,q,v⟩,r,u⟩:=j;go_simp) ?_
 simp only[zE,zD,zB,Act.put,zA,zG,zF]
 refine RegF.t 4 (.pointer (some ⟨hb,1,none⟩)) rfl x (λW j=>by obtain⟨⟨m,q,v⟩,r,u⟩:=j;go_simp) ?_
 simp only[zE,zD,zB,Act.put,zA,zG,zF]
 refine RegF.t 5 (.int .u64 (he:Int)) rfl x (λW j=>by obtain⟨⟨m,q,v⟩,r,u⟩:=j;go_simp) ?_
 simp only[zE,zD,zB,Act.put,zA,zG,zF]
 refine RegF.t 6 (.pointer (some ⟨l,0,none⟩)) rfl x (λW j=>by obtain⟨⟨m,q,v⟩,r,u⟩:=j;go_simp) ?_
 simp only[zE,zD,zB,Act.put,zA,zG,zF]
 refine RegF.t 7 (.pointer (some ⟨l,3,none⟩)) rfl x (λW j=>by obtain⟨⟨m,q,v⟩,r,u⟩:=j;go_simp) ?_
 simp only[zE,zD,zB,Act.put,zA,zG,zF]
 have E:=C.drew.set 3 (.int .u64 (hs:Int))
 have T:(w.drew.setCell ⟨l,3,none⟩ (.int .u64 (hs:Int))).cell? ⟨l,4,none⟩=some (.int .u64 (ep:Int)):=by rw[E.cell];rfl
 have K:¬ l=lb:=N
 have F:¬ l=hb:=O
 have B:((w.drew.setCell ⟨l,3,none⟩ (.int .u64 (hs:Int))).cell? ⟨lb,0,none⟩=some (.pointer (some ⟨l,0,none⟩))/\(w.drew.setCell ⟨l,3,none⟩ (.int .u64 (hs:Int))).cell? ⟨hb,0,none⟩=some (.int .u64 (hs:Int))/\(w.drew.setCell ⟨l,3,none⟩ (.int .u64 (hs:Int))).cell? ⟨hb,1,none⟩=some (.int .u64 (he:Int)))/\(w.drew.setCell ⟨l,3,none⟩ (.int .u64 (hs:Int))).frozen? ⟨l,3,none⟩=false/\(w.drew.setCell ⟨l,3,none⟩ (.int .u64 (hs:Int))).frozen? ⟨l,4,none⟩=false :=
  ⟨⟨(World.cell?_setCell_other _ _ _ _ (λe=>K (congrArg Addr.block e))).trans c0,(World.cell?_setCell_other _ _ _ _ (λe=>F (congrArg Addr.block e))).trans c1,(World.cell?_setCell_other _ _ _ _ (λe=>F (congrArg Addr.block e))).trans c2⟩,E.free 3,E.free 4⟩
 refine RegF.one 8 (by kernel_rfl) (RegF.opS (w':=w.drew.setCell ⟨l,3,none⟩ (.int .u64 (hs:Int))) rfl rfl (by go_simp) ⟨λ_=>B,?_⟩)
 simp only[zE,zD,zB,Act.put]
 refine RegF.one 9 (by kernel_rfl) (RegF.opV (w':=w.drew.setCell ⟨l,3,none⟩ (.int .u64 (hs:Int))) (.pointer (some ⟨l,0,none⟩)) rfl rfl (by obtain⟨⟨m,q,v⟩,r,u⟩:=B;go_simp) ⟨λ_=>B,?_⟩)
 simp only[zE,zD,zB,Act.put,zA,zG,zF]
 refine RegF.one 10 (by kernel_rfl) (RegF.opV (w':=w.drew.setCell ⟨l,3,none⟩ (.int .u64 (hs:Int))) (.pointer (some ⟨l,4,none⟩)) rfl rfl (by obtain⟨⟨m,q,v⟩,r,u⟩:=B;go_simp) ⟨λ_=>B,?_⟩)
 simp only[zE,zD,zB,Act.put,zA,zG,zF]
 obtain⟨_,_,U⟩:=B
 refine RegF.one 11 (by kernel_rfl) (RegF.opS (w':=(w.drew.setCell ⟨l,3,none⟩ (.int .u64 (hs:Int))).setCell ⟨l,4,none⟩ (.int .u64 (he:Int))) rfl rfl (by go_simp) ⟨λh=>absurd rfl h,RegF.done (by kernel_rfl) ?_⟩)
 simp only[zE,zD,zB,Act.put]
 clear x
 go_wp2
 go_ret
 exact⟨rfl,rfl,E.set 4 (.int .u64 (he:Int))⟩
theorem lay_gives (fr pg:Int)(sr ep:Nat)(sz:Int)(A:Option Addr)(n c:Nat)(I:DkIs w d many g xs left false)(hl:xs.length<=900000)(h1l : -1000000<=left)(aA:left<=9223372036854775807)(H:BlkIs w l 183 (lgC (some ⟨d,0,none⟩) fr pg sr ep sz A n c))(E:l≠d)(aE:headOk hz hc=true)(aJ:2<=many)(aD:many<=1000000) :
  Calls Tryz.prog 109 #[.pointer (some ⟨l,0,none⟩),.agg #[.int .u64 (hs:Int),.int .u64 (he:Int),.int .i64 hz,.int .i64 hc]] w λe w'=>e = .returned (.int .i64 0)/\DkIs w' d many (laid g (xs++wrL (hs % 2) (hEnc hs he hz hc) 1)) [] left false/\BlkIs w' l 183 (lgC (some ⟨d,0,none⟩) fr pg hs he sz A n c)/\GrowBut (λk=>k=d∨k=l) w w':=by
 have aK:=I.lt
 have aF:=H.lt
 have k0:w.cell? ⟨l,0,none⟩=some (.pointer (some ⟨d,0,none⟩)):=by rw[H.cell];rfl
 obtain⟨W1,u⟩:∃W1,W1=(((w.alloc (.cells #[.pointer (some ⟨l,0,none⟩)] 110)).alloc (.cells #[.int .u64 (hs:Int),.int .u64 (he:Int),.int .i64 hz,.int .i64 hc] 185)).alloc (.cells #[.func (.func 168) #[] #[.pointer (some ⟨w.heap.size+1,0,none⟩),.pointer (some ⟨w.heap.size,0,none⟩)],.func (.func 166) #[.pointer (some ⟨d,0,none⟩)] #[],.func (.func 171) #[] #[.pointer (some ⟨w.heap.size+1,0,none⟩),.pointer (some ⟨w.heap.size,0,none⟩)]] 54)):=⟨_,rfl⟩
 have F:Below w.heap.size w W1:=by rw[u];exact(((Below.refl _ w).alloc (zH _) _).alloc (by simp) _).alloc (by simp;omega) _
 have b0:BlkIs W1 w.heap.size 110 #[.pointer (some ⟨l,0,none⟩)]:=by rw[u];exact((BlkIs.new w _ _).alloc _).alloc _
 have b1:BlkIs W1 (w.heap.size+1) 185 #[.int .u64 (hs:Int),.int .u64 (he:Int),.int .i64 hz,.int .i64 hc]:=by
  have:=(BlkIs.new (w.alloc (.cells #[.pointer (some ⟨l,0,none⟩)] 110)) 185 #[.int .u64 (hs:Int),.int .u64 (he:Int),.int .i64 hz,.int .i64 hc])
  rw[World.size_alloc] at this
  rw[u]
  exact this.alloc _
 have U:BlkIs W1 (w.heap.size+1+1) 54 #[.func (.func 168) #[] #[.pointer (some ⟨w.heap.size+1,0,none⟩),.pointer (some ⟨w.heap.size,0,none⟩)],.func (.func 166) #[.pointer (some ⟨d,0,none⟩)] #[],.func (.func 171) #[] #[.pointer (some ⟨w.heap.size+1,0,none⟩),.pointer (some ⟨w.heap.size,0,none⟩)]]:=by
  have:=BlkIs.new ((w.alloc (.cells #[.pointer (some ⟨l,0,none⟩)] 110)).alloc (.cells #[.int .u64 (hs:Int),.int .u64 (he:Int),.int .i64 hz,.int .i64 hc] 185)) 54 #[.func (.func 168) #[] #[.pointer (some ⟨w.heap.size+1,0,none⟩),.pointer (some ⟨w.heap.size,0,none⟩)],.func (.func 166) #[.pointer (some ⟨d,0,none⟩)] #[],.func (.func 171) #[] #[.pointer (some ⟨w.heap.size+1,0,none⟩),.pointer (some ⟨w.heap.size,0,none⟩)]]
  rw[World.size_alloc,World.size_alloc] at this
  rw[u]
  exact this
 obtain⟨fs,B⟩:∃fs:List FnV,fs=[⟨168,#[],#[.pointer (some ⟨w.heap.size+1,0,none⟩),.pointer (some ⟨w.heap.size,0,none⟩)]⟩,⟨166,#[.pointer (some ⟨d,0,none⟩)],#[]⟩,⟨171,#[],#[.pointer (some ⟨w.heap.size+1,0,none⟩),.pointer (some ⟨w.heap.size,0,none⟩)]⟩]:=⟨_,rfl⟩
 have HX:(wrL (hs % 2) (hEnc hs he hz hc) 1).length=1:=wrL_length _ _ _
 have Z:=steps_gives W1 (w.heap.size+1+1) 3 fs
  (λk V=>(BlkIs V w.heap.size 110 #[.pointer (some ⟨l,0,none⟩)]/\BlkIs V (w.heap.size+1) 185 #[.int .u64 (hs:Int),.int .u64 (he:Int),.int .i64 hz,.int .i64 hc]/\BlkIs V (w.heap.size+1+1) 54 #[.func (.func 168) #[] #[.pointer (some ⟨w.heap.size+1,0,none⟩),.pointer (some ⟨w.heap.size,0,none⟩)],.func (.func 166) #[.pointer (some ⟨d,0,none⟩)] #[],.func (.func 171) #[] #[.pointer (some ⟨w.heap.size+1,0,none⟩),.pointer (some ⟨w.heap.size,0,none⟩)]]/\GrowBut (λk=>k=d∨k=l) w V) /\
   (k=0->DkIs V d many g xs left false/\BlkIs V l 183 (lgC (some ⟨d,0,none⟩) fr pg sr ep sz A n c)) /\
   (k=1->DkIs V d many g (xs++wrL (hs % 2) (hEnc hs he hz hc) 1) left false/\BlkIs V l 183 (lgC (some ⟨d,0,none⟩) fr pg sr ep sz A n c)) /\
   (k=2->DkIs V d many (laid g (xs++wrL (hs % 2) (hEnc hs he hz hc) 1)) [] left false/\BlkIs V l 183 (lgC (some ⟨d,0,none⟩) fr pg sr ep sz A n c)) /\
   (k=3->DkIs V d many (laid g (xs++wrL (hs % 2) (hEnc hs he hz hc) 1)) [] left false/\BlkIs V l 183 (lgC (some ⟨d,0,none⟩) fr pg hs he sz A n c)))
  (λ_ _=>False) (by rw[B];simp)
  (by
   rintro k M W ⟨⟨_,_,v,_⟩,_⟩
   rw[v.cell]
   subst B
   match k,M with
   | 0,_=>rfl
   | 1,_=>rfl
   | 2,_=>rfl
   | k+3,h=>exact absurd h (by simp))
  (by
   rintro k M W ⟨⟨h1,h2,v,q⟩,q0,q1,q2,q3⟩
   have aL:=q.size
   subst B
   match k,M with
   | 0,_ =>
    obtain⟨C,m⟩:=q0 rfl
    have aG:W.cell? ⟨l,0,none⟩=some (.pointer (some ⟨d,0,none⟩)):=by rw[m.cell];rfl
    refine⟨enters_of Tryz.func168 (by kernel_rfl) rfl,(lay1_gives W l d many w.heap.size (w.heap.size+1) g xs left hs he hz hc C hl h1l aA h1 h2 aG E (by omega) (by omega) (by omega) aE aJ aD).mono ?_⟩
    rintro e N ⟨rfl,T,j⟩
    have G:some w.heap.size≠some d:=λe=>by injection e with e;omega
    have K:some (w.heap.size+1)≠some d:=λe=>by injection e with e;omega
    have O:some (w.heap.size+1+1)≠some d:=λe=>by injection e with e;omega
    exact .inl ⟨rfl,⟨h1.grown j G,h2.grown j K,v.grown j O,q.trans (GrowBut.grown j (λr e=>by cases e;exact .inl (.inl rfl)))⟩,(λe=>by cases e),(λ_=>⟨T,m.grown j (λe=>by injection e with e;exact E e)⟩),(λe=>by cases e),(λe=>by cases e)⟩
   | 1,_ =>
    obtain⟨C,m⟩:=q1 rfl
    refine⟨enters_of Tryz.func166 (by kernel_rfl) rfl,(sync_gives W d many g _ left false C rfl (by rw[zJ,HX];omega) h1l aA).mono ?_⟩
    rintro e N ⟨rfl,T,j⟩
    have G:some w.heap.size≠some d:=λe=>by injection e with e;omega
    have K:some (w.heap.size+1)≠some d:=λe=>by injection e with e;omega
    have O:some (w.heap.size+1+1)≠some d:=λe=>by injection e with e;omega
    exact .inl ⟨rfl,⟨h1.grown j G,h2.grown j K,v.grown j O,q.trans (GrowBut.grown j (λr e=>by cases e;exact .inl (.inl rfl)))⟩,(λe=>by cases e),(λe=>by cases e),(λ_=>⟨T,m.grown j (λe=>by injection e with e;exact E e)⟩),(λe=>by cases e)⟩
   | 2,_ =>
    obtain⟨C,m⟩:=q2 rfl
    refine⟨enters_of Tryz.func171 (by kernel_rfl) rfl,(lay2_gives W l w.heap.size (w.heap.size+1) hs he hz hc (some ⟨d,0,none⟩) fr pg sr ep sz A n c h1 h2 m (by omega) (by omega)).mono ?_⟩
    rintro e N ⟨rfl,rfl,aH⟩
    have aB:d≠l:=λe=>E e.symm
    have aI:=m.drew.set 3 (.int .u64 (hs:Int))
    exact .inl ⟨rfl,⟨(h1.drew.other (by show ¬ _=l;omega) _).other (by show ¬ _=l;omega) _,(h2.drew.other (by show ¬ _=l;omega) _).other (by show ¬ _=l;omega) _,(v.drew.other (by show ¬ _=l;omega) _).other (by show ¬ _=l;omega) _,
     ((q.trans (GrowBut.grown (grownBy_drew W none) (λr e=>by cases e))).trans (GrowBut.setCell _ _ _ (.inr rfl))).trans (GrowBut.setCell _ _ _ (.inr rfl))⟩,(λe=>by cases e),(λe=>by cases e),(λe=>by cases e),(λ_=>⟨((C.grow (Below.refl _ _).drew).setOther m.drew (by show 7<=64;decide) aB _ _ rfl).setOther aI (by simp;show 7<=64;decide) aB _ _ rfl,aH⟩)⟩
   | k+3,h=>exact absurd h (by simp))
  ⟨⟨b0,b1,U,GrowBut.below F⟩,(λ_=>⟨I.grow F,H.below F aF⟩),(λe=>by cases e),(λe=>by cases e),(λe=>by cases e)⟩
 have aC:fs.length=3:=by rw[B];rfl
 rw[aC,u] at Z
 clear u b0 b1 U F B I
 go_enter Tryz.func109,Tryz.ntmps109
 go_wp2_with (go_at_call 167;refine Z.mono ?_;rintro e N (⟨rfl,⟨_,_,_,q⟩,_,_,_,q3⟩|⟨x,_,_,hx⟩))
 obtain⟨q4,q5⟩:=q3 (by first|rfl|trivial)
 go_ret
 exact⟨rfl,q4,q5,q⟩
end
namespace RegF
section
variable {P:Program}{ops:Array Oper}{Q:Exit->Act->World->Prop}{md:Region.Mode}{S:World->Prop}{fin:Nat}
theorem first0 {i:Nat}{u:Oper}{v:Value}(K:ops[i]? = some u)(M:∀(j:Nat) (o:Oper) cs b,ops[j]? = some o->o.op≠.select cs b)
  (hQ:∀c a w,Q (.panic c) (a.put u.dst v) w->Q (.panic c) a w) (V:ops[fin]? = none) :
  ∀(B:Nat) (listed:Array Bool) (a:Act) (w:World),
   (∀j q,ops[j]? = some q->j≠i->listed.getD j true=false->(∀e∈q.after,Region.binds md e=true->e.on≠i)->u.apart ops q=true) ->
   i∈Region.ready md ops listed->YieldsIf P ops S u v a->S w ->
   wpAnyF P md ops Q S fin B (listed.setIfInBounds i true) (a.put u.dst v) w->wpAnyF P md ops Q S fin (B+1) listed a w:=by
 intro B
 induction B with
 | zero =>
  intro listed a w _ r E x H
  refine⟨λh=>(by rw[h] at r;cases r),λj G => ?_⟩
  by_cases m:j=i
  ·subst m;exact E.wpOp K x ⟨λ_=>x,H⟩
  ·have:=ready_mono G m
   rw[H.1] at this
   cases this
 | succ B ih =>
  intro listed a w N r E x H
  refine⟨λh=>(by rw[h] at r;cases r),λj G => ?_⟩
  by_cases m:j=i
  ·subst m;exact E.wpOp K x ⟨λ_=>x,H⟩
  ·have h1:=H.2 j (ready_mono G m)
   obtain⟨U,q,F,aF⟩:=mem_ready.1 G
   have aA:∀e∈q.after,Region.binds md e=true->e.on≠i:=λe he hb aE=>by
    have h1:=aF e he hb
    have W:=(mem_ready.1 r).1
    rw[aE] at h1
    rcases Nat.lt_or_ge i listed.size with I | I
    ·simp[I] at W h1;rw[W] at h1;cases h1
    ·simp[Array.getElem?_eq_none I] at h1
   have aB:j≠fin:=λe=>by subst e;rw[F] at V;cases V
   have h2:=wpOp_putIf F (N j q F m U aA) (λcs b=>M i u cs b K) (λcs b=>M j q cs b F) hQ E h1
   have aD:∀k ok,ops[k]? = some ok->k≠i->(listed.setIfInBounds j true).getD k true=false ->
     (∀e∈ok.after,Region.binds md e=true->e.on≠i)->u.apart ops ok=true:=λk ok hk Z T aC=>by
    refine N k ok hk Z ?_ aC
    by_cases O:j=k
    ·subst O;exact U
    ·rw[getD_set_ne true O] at T;exact T
   refine wpOp_mono (λa' w' C=>⟨C.2.1,ih (listed.setIfInBounds j true) a' w' aD (ready_mono r (Ne.symm m)) C.1 (C.2.1 aB) ?_⟩) h2
   rw[Array.setIfInBounds_comm _ _ m]
   exact C.2.2
theorem take0 {m:Nat}{listed:Array Bool}{a:Act}{w:World}(i:Nat){j:Oper}(v:Value)(q:ops[i]? = some j)
  (hs:Region.noSelect ops=true) (hf:Region.free md ops listed i=true) (C:(Region.ready md ops listed).contains i=true) (r:ops[fin]? = none)
  (u:∀c a w,Q (.panic c) (a.put j.dst v) w->Q (.panic c) a w) (B:S w) (x:YieldsIf P ops S j v a)
  (h:wpAnyF P md ops Q S fin m (listed.setIfInBounds i true) (a.put j.dst v) w):wpAnyF P md ops Q S fin (m+1) listed a w :=
 first0 q (Region.noSelect_spec hs) u r m listed a w (Region.free_spec q hf) (by simpa using C) x B h
theorem t0 {m:Nat}{listed:Array Bool}{a:Act}{w:World}(i:Nat){j:Oper}(v:Value)(C:ops[i]? = some j)(r:S w)(h1:∀W,S W->(execOp a.eval j).run P W = .ok (.value v) W)(h:wpAnyF P md ops Q S fin m (listed.setIfInBounds i true) (a.put j.dst v) w)(hs:Region.noSelect ops=true:=by kernel_rfl)(hf:Region.free md ops listed i=true:=by kernel_rfl)(u:(Region.ready md ops listed).contains i=true:=by kernel_rfl)(B:ops[fin]? = none:=by rfl)(x:∀c a w,Q (.panic c) (a.put j.dst v) w->Q (.panic c) a w:=by exact λ_ _ _ h=>h)(q:j.guard=none:=by rfl):wpAnyF P md ops Q S fin (m+1) listed a w :=
 take0 i v C hs hf u B x r (yld q h1) h
end
end RegF
namespace RegF
theorem opCT {P:Program}{ops:Array Oper}{Q:Exit->Act->World->Prop}{i:Nat}{o:Oper}{K:Act->World->Prop}{a:Act}{w:World}(f:FuncId)(x:Operand)(xs:Array Operand)(C:Array TypeId)(r:ops[i]? = some o)(j:o.guard=none)(hc:o.op = .call { callee:=.value x,args:=xs,argTypes:=C })
  (u:a.eval x = .func (.func f) #[] #[]) (q:∀args w,(callFunc f args).run P w = .ok (.enter f args) w) (args:Array Value) (ha:xs.map a.eval=args) (h:Calls P f args w λe w'=>∃v,e = .returned v/\K (a.put o.dst v) w'):wpOp P ops Q i K a w:=by
 unfold wpOp
 simp only[r]
 rw[if_pos (by simp[Region.wanted,j])]
 left
 have B:(execOp a.eval o).run P w = .ok (.enter f args) w:=by
  simp[execOp,hc,resolve,ha,u,Deferred.ofValue,invoke,q args w]
 unfold Oper.wp
 rw[B,Oper.upon_enter]
 refine h.mono ?_
 rintro e w' ⟨v,rfl,m⟩
 exact m
end RegF
theorem isNaN64_gives (w:World)(x:Nat):Calls Tryz.prog 229 #[.int .u64 (x:Int)] w λe w'=>e = .returned (.bool false)/\w=w':=by
 go_enter Tryz.func229,Tryz.ntmps229
 go_wp2
 go_ret
 exact⟨rfl,rfl⟩
theorem compare64_gives (w:World)(x:Nat):Calls Tryz.prog 164 #[.int .u64 (x:Int),.int .u64 (x:Int)] w λe w'=>e = .returned (.int .i64 0)/\w=w':=by
 have h:¬ (x:Int)<(x:Int):=by omega
 go_enter Tryz.func164,Tryz.ntmps164
 go_wp2_with (go_at_call 229;refine(isNaN64_gives w x).mono ?_;rintro e w' ⟨rfl,rfl⟩)
 go_ret
 exact⟨rfl,rfl⟩
theorem head1_gives (w:World)(x a b:Nat)(p q h j:Int):Calls Tryz.prog 163 #[.agg #[.int .u64 (x:Int),.int .u64 (a:Int),.int .i64 p,.int .i64 q],.agg #[.int .u64 (x:Int),.int .u64 (b:Int),.int .i64 h,.int .i64 j]] w λe w'=>e = .returned (.int .i64 0)/\Below w.heap.size w w':=by
 have hB:Below w.heap.size w ((w.alloc (.cells #[.int .u64 (x:Int),.int .u64 (a:Int),.int .i64 p,.int .i64 q] 185)).alloc (.cells #[.int .u64 (x:Int),.int .u64 (b:Int),.int .i64 h,.int .i64 j] 185)):=((Below.refl _ w).alloc (zH _) _).alloc (by simp) _
 go_enter Tryz.func163,Tryz.ntmps163
 go_wp2_with (go_at_call 164;refine(compare64_gives _ x).mono ?_;rintro e w' ⟨rfl,rfl⟩)
 go_ret
 exact⟨rfl,hB⟩
def zhd:List Value:=[.int .u64 0,.int .u64 0,.int .i64 0,.int .i64 0]
theorem maxz_gives (w:World)(q:Nat)(T:TypeId)(hq:BlkIs w q T (zhd++zhd).toArray):Calls Tryz.prog 165 #[.slice (some ⟨q,0,none⟩) 2 2,.func (.func 163) #[] #[]] w λe w'=>e = .returned (.agg #[.int .u64 0,.int .u64 0,.int .i64 0,.int .i64 0])/\Below w.heap.size w w':=by
 have H:=hq.lt
 have B:w.rangeAt q 0 (zhd++zhd):=by
  have:=hq.rangeOf 0 (n:=8)
  exact this
 have E:w.rangeAt q 4 zhd:=λj v m=>by
  have:=B (4+j) v (by rw[List.getElem?_append_right (by simp[zhd]),show 4+j - zhd.length=j by simp[zhd]];exact m)
  simpa using this
 have K:w.rangeAt q 0 zhd:=λj v m=>B j v (by rw[List.getElem?_append_left (List.getElem?_eq_some_iff.1 m).1];exact m)
 have G:∀v∈(#[.int .u64 0,.int .u64 0,.int .i64 0,.int .i64 0]:Array Value).toList,v.oneCell'=true:=by
  intro v O
  simp at O
  rcases O with rfl|rfl<;>rfl
 have C:Below w.heap.size w (w.alloc (.cells #[.int .u64 0,.int .u64 0,.int .i64 0,.int .i64 0] 185)):=(Below.refl _ w).alloc (zH _) _
 have F:(w.alloc (.cells #[.int .u64 0,.int .u64 0,.int .i64 0,.int .i64 0] 185)).rangeAt q 0 zhd:=λj v m=>(C.cell (p:=⟨q,0+j,none⟩) H).trans (K j v m)
 have x:=BlkIs.new (w.alloc (.cells #[.int .u64 0,.int .u64 0,.int .i64 0,.int .i64 0] 185)) 185 #[.int .u64 0,.int .u64 0,.int .i64 0,.int .i64 0]
 have M:=(BlkIs.new w 185 #[.int .u64 0,.int .u64 0,.int .i64 0,.int .i64 0]).alloc (.cells #[.int .u64 0,.int .u64 0,.int .i64 0,.int .i64 0] 185)
 rw[World.size_alloc] at x
 have N:Below w.heap.size w ((w.alloc (.cells #[.int .u64 0,.int .u64 0,.int .i64 0,.int .i64 0] 185)).alloc (.cells #[.int .u64 0,.int .u64 0,.int .i64 0,.int .i64 0] 185)):=C.alloc (by simp) _
 go_enter Tryz.func165,Tryz.ntmps165
 go_wp2_with (first
  | (refine wp_exec rfl (x_loadM rowHead F rfl rfl rfl) ?_)
  | (refine wp_storeW rfl 185 (.tmp 5) (.tmp 13) rfl (w.heap.size+1) rfl rfl rowHead x rfl rfl G ?_))
 have U:=x.setRow zhd.toArray
 have Z:=M.setRow_ne (k:=w.heap.size+1) (by omega) zhd.toArray
 have aA:Below w.heap.size w (((w.alloc (.cells #[.int .u64 0,.int .u64 0,.int .i64 0,.int .i64 0] 185)).alloc (.cells #[.int .u64 0,.int .u64 0,.int .i64 0,.int .i64 0] 185)).setRow (w.heap.size+1) zhd.toArray):=below_setRow N (by omega) _
 generalize ((w.alloc (.cells #[.int .u64 0,.int .u64 0,.int .i64 0,.int .i64 0] 185)).alloc (.cells #[.int .u64 0,.int .u64 0,.int .i64 0,.int .i64 0] 185)).setRow (w.heap.size+1) zhd.toArray=W1 at *
 clear F x M C N K B hq
 go_loopw [6] (λi wr=>(i = .int .i64 1∨i = .int .i64 2)/\BlkIs wr w.heap.size 185 zhd.toArray/\BlkIs wr (w.heap.size+1) 185 zhd.toArray/\Below w.heap.size w wr) (λi _=>2 - (intOf i).toNat)
 case atStart=>exact⟨.inl rfl,Z,U,aA⟩
 case round =>
  obtain⟨hi,c0,c1,hB⟩:=hrel
  rcases hi with rfl|rfl
  ·have I:∀W,Below wr.heap.size wr W->W.rangeAt q 4 zhd:=λW h j v m=>((hB.trans (h.mono hB.size)).cell (p:=⟨q,4+j,none⟩) H).trans (E j v m)
   go_wp2_with fail
   have r:Below wr.heap.size wr wr.drew:=(Below.refl _ _).drew
   refine RegF.start (λW:World=>Below wr.heap.size wr W) 99 (by kernel_rfl) ?_
   refine RegF.t0 0 (.func (.func 163) #[] #[]) rfl r (λW h=>by go_simp) ?_
   simp only[zE,zB,Act.put,zA,zG,zF]
   refine RegF.t0 1 (.slice (some ⟨q,0,none⟩) 2 2) rfl r (λW h=>by go_simp) ?_
   simp only[zE,zD,zB,Act.put,zA,zG,zF]
   refine RegF.t0 2 (.int .i64 1) rfl r (λW h=>by go_simp) ?_
   simp only[zE,zD,zB,Act.put,zA,zG,zF]
   refine RegF.t0 3 (.pointer (some ⟨q,4,none⟩)) rfl r (λW h=>by simp[execOp,go_sem,Act.eval]) ?_
   simp only[zE,zD,zB,Act.put,zA,zG,zF]
   refine RegF.t0 4 (.agg zhd.toArray) rfl r (λW h=>by exact x_loadM rowHead (I W h) rfl rfl rfl) ?_
   simp only[zE,zD,zB,Act.put,zA,zG,zF]
   refine RegF.t0 5 (.agg zhd.toArray) rfl r (λW h=>by exact x_loadM rowHead (c1.below h c1.lt).range rfl rfl rfl) ?_
   simp only[zE,zD,zB,Act.put,zA,zG,zF]
   refine RegF.one 6 (by kernel_rfl) ?_
   refine RegF.opCT 163 (.tmp 20) #[.tmp 24,.tmp 25] #[185,185] rfl rfl rfl rfl (enters_of Tryz.func163 (by kernel_rfl) rfl) #[.agg zhd.toArray,.agg zhd.toArray] (by simp only[zK,zL,zN];rfl) ((head1_gives wr.drew 0 0 0 0 0 0 0).mono ?_)
   rintro e w2 ⟨rfl,V⟩
   have u:Below wr.heap.size wr w2:=r.trans (V.mono (zH _))
   refine⟨_,rfl,λ_=>u,?_⟩
   simp only[zE,zD,zB,Act.put,zA,zG,zF]
   refine RegF.one 7 (by kernel_rfl) (RegF.opV (w':=w2) (.bool false) rfl rfl (by go_simp) ⟨λ_=>u,RegF.done (by kernel_rfl) ?_⟩)
   simp only[zE,zD,zB,Act.put,zA,zG,zF]
   clear E I
   have d0:=c0.below u c0.lt
   have d1:=c1.below u c1.lt
   go_wp2
   go_roundw
   case rel=>exact⟨.inr rfl,d0,d1,hB.trans (u.mono hB.size)⟩
   case measure=>simp[intOf]
  ·clear E
   have aB:∀v∈zhd.toArray.toList,v.oneCell'=true:=G
   go_wp2_with (first
    | (refine wp_loadW rfl 185 (.tmp 5) rfl (w.heap.size+1) rfl rowHead c1 rfl ?_)
    | (refine wp_storeW rfl 185 (.tmp 4) (.tmp 32) rfl w.heap.size rfl rfl rowHead c0 rfl rfl aB ?_))
   refine bodyPost_ret_by (results_cellW 4 rfl rfl rowHead (c0.setRow _) (by rfl)) rfl ⟨rfl,below_setRow hB (zH _) _⟩
theorem isHead_zer:isHead zer64=false:=by decide +kernel
theorem decHV_zer:decHV zer64 = .tuple #[.agg zhd.toArray,.int .i64 150]:=decHV_no isHead_zer
theorem results_cellW_tmp2 {fn:Func}{P:Program}{a:Act}{w:World}{g:Nat}{T t:TypeId}{cs:Array Value}{v v':Value}(k m j:Tmp)(h:fn.results=#[.cell k T,.tmp m,.tmp j])(B:a.eval (.tmp k) = .pointer (some ⟨g,0,none⟩))(u:a.eval (.tmp m)=v)(q:a.eval (.tmp j)=v'){n:Nat}(C:RowTy P T n)(hb:BlkIs w g t cs)(hn:cs.size=n) :
  (results fn a.tmps).run P w = .ok (.tuple #[.agg cs,v,v']) w:=by
 have e:a.tmps.getD k undef = .pointer (some ⟨g,0,none⟩):=B
 have x:a.tmps.getD m undef=v:=u
 have r:a.tmps.getD j undef=v':=q
 unfold results
 simp only[h]
 simp[-zS,e,x,r,asAddr,run_loadW (hn▸C) hb,Result.andThen]
theorem head_new (w:World)(l d many:Nat)(left:Int)(E:DkIs w d many (λ_=>zer64) [] left false)(hc:w.cell? ⟨l,0,none⟩=some (.pointer (some ⟨d,0,none⟩)))(H:l<w.heap.size)(aA:2<=many)(M:many<=1000000) :
  Calls Tryz.prog 108 #[.pointer (some ⟨l,0,none⟩)] w λe w'=>e = .returned (.tuple #[.agg zhd.toArray,.bool false,.int .i64 0])/\Below w.heap.size w w':=by
 have x:∀(i:Nat) (W:World),i<2->Below w.heap.size w W->Calls Tryz.prog 161 #[.pointer (some ⟨l,0,none⟩),.int .i64 (i:Int),.int .i64 1] W λe w'=>∃A c,e = .returned (.tuple #[.slice A 64 c,.int .i64 0])/\InB w' w'.heap.size A c zer64/\Below W.heap.size W w':=λi W hi hB =>
  wread_gives W l d many _ [] left false (E.grow hB) rfl (by decide) ((hB.cell (p:=⟨l,0,none⟩) H).trans hc) (zO H hB.size) i 1 (by omega) M
 have C:∀v∈zhd.toArray.toList,v.oneCell'=true:=by
  intro v I
  simp[zhd] at I
  rcases I with rfl|rfl<;>rfl
 have q:=(BlkIs.new w 185 #[.int .u64 0,.int .u64 0,.int .i64 0,.int .i64 0]).alloc (.cells #[.int .u64 0,.int .u64 0,.int .i64 0,.int .i64 0,.int .u64 0,.int .u64 0,.int .i64 0,.int .i64 0] 244)
 have m:=BlkIs.new (w.alloc (.cells #[.int .u64 0,.int .u64 0,.int .i64 0,.int .i64 0] 185)) 244 #[.int .u64 0,.int .u64 0,.int .i64 0,.int .i64 0,.int .u64 0,.int .u64 0,.int .i64 0,.int .i64 0]
 rw[World.size_alloc] at m
 have r:Below w.heap.size w ((w.alloc (.cells #[.int .u64 0,.int .u64 0,.int .i64 0,.int .i64 0] 185)).alloc (.cells #[.int .u64 0,.int .u64 0,.int .i64 0,.int .i64 0,.int .u64 0,.int .u64 0,.int .i64 0,.int .i64 0] 244)):=((Below.refl _ w).alloc (zH _) _).alloc (by simp) _
 clear E
 go_enter Tryz.func108,Tryz.ntmps108
 go_wp2
 go_loopw [13,6] (λi v wr=>∃k:Nat,k<=2/\i = .int .i64 (k:Int)/\v = .bool false/\BlkIs wr w.heap.size 185 zhd.toArray/\BlkIs wr (w.heap.size+1) 244 (zhd++zhd).toArray/\Below w.heap.size w wr) (λi _ _=>2 - (intOf i).toNat)
 case atStart=>exact⟨0,by omega,rfl,rfl,q,m,r⟩
 case round =>
  obtain⟨k,Z,rfl,rfl,c0,c1,hB⟩:=hrel
  by_cases N:k<2
  ·have U:=x k wr N hB
   have aB:IntKind.i64.wrap ((k:Int)+1)=(k:Int)+1:=wrap_i64_fr _ (by omega) (by omega)
   clear x q m r
   go_wp2_with (first
    | (go_at_call 161;refine U.mono ?_;rintro e T ⟨A,c,rfl,O,j⟩)
    | (go_at_call 162;have G:=decodeHead_gives T A c zer64 O;rw[decHV_zer] at G;refine G.mono ?_;rintro e h ⟨rfl,B⟩;have b4:=BlkIs.new h 185 #[.int .u64 0,.int .u64 0,.int .i64 0,.int .i64 0])
    | (refine wp_storeW rfl 185 (.tmp 10) (.tmp 31) rfl h.heap.size rfl rfl rowHead b4 rfl rfl C ?_))
   have u:Below wr.heap.size wr ((h.alloc (.cells #[.int .u64 0,.int .u64 0,.int .i64 0,.int .i64 0] 185)).setRow h.heap.size zhd.toArray):=below_setRow ((j.trans (B.mono j.size)).alloc (zU j.size B.size) _) (zU j.size B.size) _
   go_roundw
   case rel=>exact⟨k+1,by omega,by simp,rfl,c0.below u c0.lt,c1.below u c1.lt,hB.trans (u.mono hB.size)⟩
   case measure=>simp[intOf];omega
  ·obtain rfl:k=2:=by omega
   have V:=maxz_gives wr (w.heap.size+1) _ c1
   clear x q m r
   go_wp2_with (first
    | (go_at_call 165;refine V.mono ?_;rintro e w5 ⟨rfl,F⟩;have K:=c0.below F c0.lt)
    | (refine wp_storeW rfl 185 (.tmp 2) (.tmp 49) rfl w.heap.size rfl rfl rowHead K rfl rfl C ?_))
   refine bodyPost_ret_by (results_cellW_tmp2 2 3 4 rfl rfl rfl rfl rowHead (K.setRow _) (by rfl)) rfl ⟨rfl,below_setRow (hB.trans (F.mono hB.size)) (zH _) _⟩
theorem count_zero (w:World)(l:Nat)(fr:Int)(h1:0<=fr)(hc:w.cell? ⟨l,1,none⟩=some (.int .i64 fr)):Calls Tryz.prog 110 #[.pointer (some ⟨l,0,none⟩),.int .i64 0] w λe w'=>e = .returned (.int .i64 0)/\w=w':=by
 have h:(if fr<0 then fr else 0)=0:=by rw[if_neg (by omega)]
 go_enter Tryz.func110,Tryz.ntmps110
 go_wp2
 go_loopw [20] (λi wr=>i = .int .i64 0/\wr=w) (λ_ _=>0)
 case atStart=>exact⟨rfl,rfl⟩
 case round =>
  obtain⟨rfl,rfl⟩:=hrel
  go_wp2
  go_ret
  exact⟨rfl,rfl⟩
theorem setCell_grown (w:World)(p:Addr)(v:Value):w.grownBy (w.setCell p v) (some p.block):=⟨rfl,rfl,rfl,by simp,λk _ h=>Below.heap_setCell _ _ _ k (λe=>h (by rw[e]))⟩
theorem setRow_grown (w:World)(q:Nat)(cs:Array Value):w.grownBy (w.setRow q cs) (some q):=⟨by simp[World.setRow],by simp[World.setRow],by simp[World.setRow],by simp[World.setRow],λk _ h=>setRow_other w q k cs (λe=>h (by rw[e]))⟩
theorem DkIs.setRowO {w:World}{p many:Nat}{g:Nat->List UInt8}{xs:List (Nat×List UInt8)}{left:Int}{stops:Bool}{q:Nat}{t:TypeId}{cs:Array Value}(h:DkIs w p many g xs left stops)(hq:BlkIs w q t cs)(j:cs.size<=64)(m:p≠q)(cs':Array Value):DkIs (w.setRow q cs') p many g xs left stops :=
 h.other hq j m (setRow_grown w q cs')
namespace RegF
section
variable {P:Program}{ops:Array Oper}{Q:Exit->Act->World->Prop}{md:Region.Mode}{S:World->Prop}{fin:Nat}
def Closed (md:Region.Mode)(ops:Array Oper)(l:Array Bool):Prop:=∀j o,ops[j]? = some o->l.getD j false=true->∀e∈o.after,Region.binds md e=true->l.getD e.on false=true
def closedB (md:Region.Mode)(ops:Array Oper)(l:Array Bool):Bool:=(List.range ops.size).all λj=>match ops[j]? with|some o => !l.getD j false || o.after.toList.all (λe => !Region.binds md e || l.getD e.on false)|none=>true
theorem closedB_spec {l:Array Bool}(h:closedB md ops l=true):Closed md ops l:=by
 intro j o m hl e he hb
 unfold closedB at h
 rw[qJ] at h
 have:=h j (List.mem_range.2 (zI.1 m).1)
 simp only[m,hl,Bool.not_true,Bool.false_or,qJ] at this
 have:=this e (Array.mem_toList_iff.2 he)
 simpa[hb] using this
def reach (md:Region.Mode)(ops:Array Oper):Nat->Nat->Nat->Bool
 | 0,_,_=>false
 | n+1,j,i=>match ops[j]? with|some o=>o.after.toList.any (λe=>Region.binds md e && (e.on == i || reach md ops n e.on i))|none=>false
theorem reach_spec {n j i:Nat}{o:Oper}(h:reach md ops (n+1) j i=true)(q:ops[j]? = some o):∃e∈o.after,Region.binds md e=true/\(e.on=i∨reach md ops n e.on i=true):=by
 simp only[reach,q,List.any_eq_true,Bool.and_eq_true,Bool.or_eq_true,beq_iff_eq] at h
 obtain⟨e,m,hb,he⟩:=h
 exact⟨e,Array.mem_toList_iff.1 m,hb,he⟩
theorem not_listed {l:Array Bool}(hc:Closed md ops l){i:Nat}(q:l.getD i false=false):∀(n j:Nat),reach md ops n j i=true->l.getD j false=false
 | 0,_,h=>by cases h
 | n+1,j,h=>by
  cases r:l.getD j false with
  | false=>rfl
  | true =>
   cases m:ops[j]? with
   | none=>simp[reach,m] at h
   | some o =>
    obtain⟨e,he,hb,h1⟩:=reach_spec h m
    have h2:=hc j o m r e he hb
    rcases h1 with rfl|h1
    ·rw[q] at h2;cases h2
    ·rw[not_listed hc q n _ h1] at h2;cases h2
theorem not_ready {l:Array Bool}(hc:Closed md ops l){i n j:Nat}(m:l.getD i false=false)(q:reach md ops n j i=true):¬ j∈Region.ready md ops l:=by
 intro h
 obtain⟨_,o,u,r⟩:=mem_ready.1 h
 cases n with
 | zero=>cases q
 | succ n =>
  obtain⟨e,he,hb,h1⟩:=reach_spec q u
  have h2:=r e he hb
  rcases h1 with rfl|h1
  ·rw[m] at h2;cases h2
  ·rw[not_listed hc m n _ h1] at h2;cases h2
theorem getD_set_mono {l:Array Bool}{j k:Nat}(h:l.getD k false=true):(l.setIfInBounds j true).getD k false=true:=by
 by_cases e:j=k
 ·subst e
  rcases Nat.lt_or_ge j l.size with m | m
  ·simp[m]
  ·simp[Array.getElem?_eq_none m] at h
 ·rw[getD_set_ne false e];exact h
theorem Closed.set {l:Array Bool}(hc:Closed md ops l){j:Nat}(u:j∈Region.ready md ops l):Closed md ops (l.setIfInBounds j true):=by
 intro k o m r e he hb
 by_cases q:j=k
 ·subst q
  obtain⟨_,o',h,v⟩:=mem_ready.1 u
  rw[m] at h
  cases h
  exact getD_set_mono (v e he hb)
 ·rw[getD_set_ne false q] at r
  exact getD_set_mono (hc k o m r e he hb)
theorem unlisted {l:Array Bool}{i:Nat}(h:i∈Region.ready md ops l):l.getD i false=false:=by
 have m:=(mem_ready.1 h).1
 rcases Nat.lt_or_ge i l.size with j | j
 ·simp[j] at m ⊢;exact m
 ·simp[Array.getElem?_eq_none j] at m
theorem first1 {i n:Nat}{u:Oper}{v:Value}(I:ops[i]? = some u)(K:∀(j:Nat) (o:Oper) cs b,ops[j]? = some o->o.op≠.select cs b)
  (hQ:∀c a w,Q (.panic c) (a.put u.dst v) w->Q (.panic c) a w) (aC:reach md ops n fin i=true) :
  ∀(C:Nat) (listed:Array Bool) (a:Act) (w:World),Closed md ops listed ->
   (∀j r,ops[j]? = some r->j≠i->listed.getD j true=false->(∀e∈r.after,Region.binds md e=true->e.on≠i)->u.apart ops r=true) ->
   i∈Region.ready md ops listed->YieldsIf P ops S u v a->S w ->
   wpAnyF P md ops Q S fin C (listed.setIfInBounds i true) (a.put u.dst v) w->wpAnyF P md ops Q S fin (C+1) listed a w:=by
 intro C
 induction C with
 | zero =>
  intro listed a w _ _ q F B H
  refine⟨λh=>(by rw[h] at q;cases q),λj x => ?_⟩
  by_cases m:j=i
  ·subst m;exact F.wpOp I B ⟨λ_=>B,H⟩
  ·have:=ready_mono x m
   rw[H.1] at this
   cases this
 | succ C ih =>
  intro listed a w T M q F B H
  refine⟨λh=>(by rw[h] at q;cases q),λj x => ?_⟩
  by_cases m:j=i
  ·subst m;exact F.wpOp I B ⟨λ_=>B,H⟩
  ·have h1:=H.2 j (ready_mono x m)
   obtain⟨U,r,G,aE⟩:=mem_ready.1 x
   have W:∀e∈r.after,Region.binds md e=true->e.on≠i:=λe he hb aD=>by
    have h1:=aE e he hb
    rw[aD,unlisted q] at h1
    cases h1
   have Z:j≠fin:=λe=>by
    subst e
    exact not_ready T (unlisted q) aC x
   have h2:=wpOp_putIf G (M j r G m U W) (λcs b=>K i u cs b I) (λcs b=>K j r cs b G) hQ F h1
   have aB:∀k ok,ops[k]? = some ok->k≠i->(listed.setIfInBounds j true).getD k true=false ->
     (∀e∈ok.after,Region.binds md e=true->e.on≠i)->u.apart ops ok=true:=λk ok hk V O aA=>by
    refine M k ok hk V ?_ aA
    by_cases N:j=k
    ·subst N;exact U
    ·rw[getD_set_ne true N] at O;exact O
   refine wpOp_mono (λa' w' E=>⟨E.2.1,ih (listed.setIfInBounds j true) a' w' (T.set x) aB (ready_mono q (Ne.symm m)) E.1 (E.2.1 Z) ?_⟩) h2
   rw[Array.setIfInBounds_comm _ _ m]
   exact E.2.2
theorem take1 {m:Nat}{listed:Array Bool}{a:Act}{w:World}(i:Nat){j:Oper}(v:Value)(q:ops[i]? = some j)
  (hs:Region.noSelect ops=true) (hf:Region.free md ops listed i=true) (E:(Region.ready md ops listed).contains i=true) (x:closedB md ops listed=true) (r:reach md ops 30 fin i=true)
  (u:∀c a w,Q (.panic c) (a.put j.dst v) w->Q (.panic c) a w) (C:S w) (B:YieldsIf P ops S j v a)
  (h:wpAnyF P md ops Q S fin m (listed.setIfInBounds i true) (a.put j.dst v) w):wpAnyF P md ops Q S fin (m+1) listed a w :=
 first1 q (Region.noSelect_spec hs) u r m listed a w (closedB_spec x) (Region.free_spec q hf) (by simpa using E) B C h
theorem t1 {m:Nat}{listed:Array Bool}{a:Act}{w:World}(i:Nat){j:Oper}(v:Value)(E:ops[i]? = some j)(r:S w)(h1:∀W,S W->(execOp a.eval j).run P W = .ok (.value v) W)(h:wpAnyF P md ops Q S fin m (listed.setIfInBounds i true) (a.put j.dst v) w)(hs:Region.noSelect ops=true:=by kernel_rfl)(hf:Region.free md ops listed i=true:=by kernel_rfl)(u:(Region.ready md ops listed).contains i=true:=by kernel_rfl)(B:closedB md ops listed=true:=by kernel_rfl)(C:reach md ops 30 fin i=true:=by kernel_rfl)(x:∀c a w,Q (.panic c) (a.put j.dst v) w->Q (.panic c) a w:=by exact λ_ _ _ h=>h)(q:j.guard=none:=by rfl):wpAnyF P md ops Q S fin (m+1) listed a w :=
 take1 i v E hs hf u B C x r (yld q h1) h
end
end RegF
theorem rowPW:RowTy Tryz.prog 197 2:=⟨⟨_,Tryz.underlying197,rfl⟩,by kernel_rfl⟩
theorem right1_gives (w:World)(lb l:Nat)(D:Option Addr)(fr pg:Int)(sr ep:Nat)(sz:Int)(A:Option Addr)(n c:Nat)(H:BlkIs w lb 110 #[.pointer (some ⟨l,0,none⟩)])(F:BlkIs w l 183 (lgC D fr pg sr ep sz A n c))(p:Int)(v:Option Addr)(c2:Nat)(K:plE (planOk fr pg) p pg=0) :
  Calls Tryz.prog 306 #[.agg #[.int .i64 p,.slice v 512 c2],.pointer (some ⟨lb,0,none⟩)] w λe w'=>e = .returned (.bool false)/\Below w.heap.size w w':=by
 obtain⟨W0,B⟩:∃W0,W0=w.alloc (.cells #[.int .i64 p,.slice v 512 c2] 197):=⟨_,rfl⟩
 have x:Below w.heap.size w W0:=by rw[B];exact(Below.refl _ w).alloc (zH _) _
 have u:BlkIs W0 w.heap.size 197 #[.int .i64 p,.slice v 512 c2]:=by rw[B];exact BlkIs.new w _ _
 have I:=H.below x H.lt
 have G:=F.below x F.lt
 have C:∀W,Calls Tryz.prog 191 #[.agg #[.int .i64 fr,.int .i64 pg],.int .i64 p] W λe w'=>e = .returned (.tuple #[.int .i64 (2+9*fr+8*p),.int .i64 0])/\Below W.heap.size W w':=λW=>by
  have:=pageAt_gives fr pg p W
  unfold atV at this
  rw[K,if_pos rfl] at this
  exact this
 go_enter Tryz.func306,Tryz.ntmps306
 go_wp2_with fail
 rw[<-B]
 clear B
 have r:Below W0.heap.size W0 W0.drew:=(Below.refl _ _).drew
 refine RegF.start (λW=>Below W0.heap.size W0 W) 99 (by kernel_rfl) ?_
 refine RegF.t0 0 (.pointer (some ⟨l,0,none⟩)) rfl r (λW j=>by have q:=(I.below j I.lt).boxed;go_simp) ?_
 simp only[zE,zB,Act.put,zA,zG,zF]
 refine RegF.t0 1 (.pointer (some ⟨l,0,none⟩)) rfl r (λW j=>by go_simp) ?_
 simp only[zE,zD,zB,Act.put,zA,zG,zF]
 refine RegF.t0 2 (.pointer (some ⟨l,0,none⟩)) rfl r (λW j=>by go_simp) ?_
 simp only[zE,zD,zB,Act.put,zA,zG,zF]
 refine RegF.t0 3 (.pointer (some ⟨l,1,none⟩)) rfl r (λW j=>by go_simp) ?_
 simp only[zE,zD,zB,Act.put,zA,zG,zF]
 refine RegF.t0 4 (.agg #[.int .i64 fr,.int .i64 pg]) rfl r (λW j=>by have h:=G.below j G.lt;have E:W.cell? ⟨l,1,none⟩=some (.int .i64 fr):=(by rw[h.cell];rfl);have N:W.cell? ⟨l,2,none⟩=some (.int .i64 pg):=(by rw[h.cell];rfl);go_simp) ?_
 simp only[zE,zD,zB,Act.put,zA,zG,zF]
 refine RegF.t0 5 (.pointer (some ⟨w.heap.size,0,none⟩)) rfl r (λW j=>by go_simp) ?_
 simp only[zE,zD,zB,Act.put,zA,zG,zF]
 refine RegF.t0 6 (.int .i64 p) rfl r (λW j=>by have h:=u.below j u.lt;have E:W.cell? ⟨w.heap.size,0,none⟩=some (.int .i64 p):=(by rw[h.cell];rfl);go_simp) ?_
 simp only[zE,zD,zB,Act.put,zA,zG,zF]
 refine RegF.one 7 (by kernel_rfl) ?_
 refine RegF.opC 191 #[.tmp 11,.tmp 13] #[59,3] rfl rfl rfl (enters_of Tryz.func191 (by kernel_rfl) rfl) #[.agg #[.int .i64 fr,.int .i64 pg],.int .i64 p] (by simp only[zK,zL,zN];rfl) ((C W0.drew).mono ?_)
 rintro e w1 ⟨rfl,M⟩
 have m:Below W0.heap.size W0 w1:=r.trans (M.mono (zH _))
 refine⟨_,rfl,λ_=>m,?_⟩
 simp only[zE,zD,zB,Act.put,zA,zG,zF]
 refine RegF.one 8 (by kernel_rfl) (RegF.opV (w':=w1) (.tuple #[.int .i64 (2+9*fr+8*p),.int .i64 0]) rfl rfl (by go_simp) ⟨λ_=>m,?_⟩)
 simp only[zE,zD,zB,Act.put,zA,zG,zF]
 refine RegF.t0 9 (.int .i64 (2+9*fr+8*p)) rfl m (λW j=>by go_simp) ?_
 simp only[zE,zD,zB,Act.put,zA,zG,zF]
 refine RegF.t0 10 (.int .i64 0) rfl m (λW j=>by go_simp) ?_
 simp only[zE,zD,zB,Act.put,zA,zG,zF]
 refine RegF.one 11 (by kernel_rfl) (RegF.opV (w':=w1) (.int .i64 (2+9*fr+8*p)) rfl rfl (by go_simp) ⟨λ_=>m,?_⟩)
 simp only[zE,zD,zB,Act.put,zA,zG,zF]
 refine RegF.one 12 (by kernel_rfl) (RegF.opV (w':=w1) (.int .i64 0) rfl rfl (by go_simp) ⟨λ_=>m,RegF.done (by kernel_rfl) ?_⟩)
 simp only[zE,zD,zB,Act.put,zA,zG,zF]
 have h:=u.below m u.lt
 have E:w1.cell? ⟨w.heap.size,1,none⟩=some (.slice v 512 c2):=by rw[h.cell];rfl
 clear C
 go_wp2
 go_ret
 exact⟨rfl,x.trans (m.mono x.size)⟩
def PwIn (w:World)(g o n:Nat)(xs:Nat->Int×Option Addr×Nat):Prop:=∀k,k<n->w.rangeAt g (o+k*2) [.int .i64 (xs k).1,.slice (xs k).2.1 512 (xs k).2.2]
theorem PwIn.below {w w':World}{B g o n:Nat}{xs:Nat->Int×Option Addr×Nat}(h:PwIn w g o n xs)(hB:Below B w w')(m:g<B):PwIn w' g o n xs:=λk r j v q=>(hB.cell (p:=⟨g,o+k*2+j,none⟩) m).trans (h k r j v q)
theorem index_no (w:World)(lb g o n c:Nat)(xs:Nat->Int×Option Addr×Nat)(hn:n<=1000)(j:PwIn w g o n xs)(q:g<w.heap.size)
  (h:∀k W,k<n->Below w.heap.size w W->Calls Tryz.prog 306 #[.agg #[.int .i64 (xs k).1,.slice (xs k).2.1 512 (xs k).2.2],.pointer (some ⟨lb,0,none⟩)] W λe w'=>e = .returned (.bool false)/\Below W.heap.size W w') :
  Calls Tryz.prog 339 #[.slice (some ⟨g,o,none⟩) n c,.func (.func 306) #[] #[.pointer (some ⟨lb,0,none⟩)]] w λe w'=>e = .returned (.int .i64 (-1))/\Below w.heap.size w w':=by
 have B:∀args w,(callFunc 306 args).run Tryz.prog w = .ok (.enter 306 args) w:=enters_of Tryz.func306 (by kernel_rfl) rfl
 go_enter Tryz.func339,Tryz.ntmps339
 go_wp2
 go_loopw [8] (λi wr=>∃k:Nat,k<=n/\i = .int .i64 (k:Int)/\Below w.heap.size w wr) (λi _=>n - (intOf i).toNat)
 case atStart=>exact⟨0,by omega,rfl,Below.refl _ _⟩
 case round =>
  obtain⟨k,C,rfl,hB⟩:=hrel
  by_cases m:k<n
  ·have u:=(j.below hB q) k m
   have v:=h k wr m hB
   have F:IntKind.i64.wrap ((k:Int)+1)=(k:Int)+1:=wrap_i64_fr _ (by omega) (by omega)
   generalize xs k=x at *
   clear h j
   go_wp2_with (first
    | (refine wp_exec rfl (x_loadM rowPW u rfl rfl rfl) ?_))
   refine v.mono ?_
   rintro e E ⟨rfl,r⟩
   go_wp2
   go_roundw
   case rel=>exact⟨k+1,by omega,by simp,hB.trans (r.mono hB.size)⟩
   case measure=>simp[intOf];omega
  ·obtain rfl:k=n:=by omega
   clear h
   go_wp2
   go_ret
   exact⟨rfl,hB⟩
theorem contains_no (w:World)(lb g o n c:Nat)(xs:Nat->Int×Option Addr×Nat)(hn:n<=1000)(h:PwIn w g o n xs)(m:g<w.heap.size)
  (j:∀k W,k<n->Below w.heap.size w W->Calls Tryz.prog 306 #[.agg #[.int .i64 (xs k).1,.slice (xs k).2.1 512 (xs k).2.2],.pointer (some ⟨lb,0,none⟩)] W λe w'=>e = .returned (.bool false)/\Below W.heap.size W w') :
  Calls Tryz.prog 305 #[.slice (some ⟨g,o,none⟩) n c,.func (.func 306) #[] #[.pointer (some ⟨lb,0,none⟩)]] w λe w'=>e = .returned (.bool false)/\Below w.heap.size w w':=by
 have q:=index_no w lb g o n c xs hn h m j
 clear j h
 go_enter Tryz.func305,Tryz.ntmps305
 go_wp2_with (go_at_call 339;refine q.mono ?_;rintro e w' ⟨rfl,hB⟩)
 go_ret
 exact⟨rfl,hB⟩
theorem lright_ok (w:World)(l:Nat)(D:Option Addr)(fr pg:Int)(sr ep:Nat)(sz:Int)(A:Option Addr)(m c0:Nat)(q:BlkIs w l 183 (lgC D fr pg sr ep sz A m c0))(g o n c:Nat)(xs:Nat->Int×Option Addr×Nat)(h1:1<=n)(hn:n<=1000)(v:PwIn w g o n xs)(x:g<w.heap.size)
  (r:∀k,k<n->plE (planOk fr pg) (xs k).1 pg=0) (s:Int) (hs:0<=s) (F:s<=pg) :
  Calls Tryz.prog 248 #[.pointer (some ⟨l,0,none⟩),.int .i64 s,.slice (some ⟨g,o,none⟩) n c] w λe w'=>e = .returned (.bool true)/\Below w.heap.size w w':=by
 have h:Below w.heap.size w (w.alloc (.cells #[.pointer (some ⟨l,0,none⟩)] 110)):=(Below.refl _ w).alloc (zH _) _
 have u:=BlkIs.new w 110 #[.pointer (some ⟨l,0,none⟩)]
 have j:=q.below h q.lt
 have k2:(w.alloc (.cells #[.pointer (some ⟨l,0,none⟩)] 110)).cell? ⟨l,2,none⟩=some (.int .i64 pg):=by rw[j.cell];rfl
 have C:=contains_no (w.alloc (.cells #[.pointer (some ⟨l,0,none⟩)] 110)) w.heap.size g o n c xs hn (v.below h x) (by simp;omega) (λk W B hB=>right1_gives W w.heap.size l D fr pg sr ep sz A m c0 (u.below hB u.lt) (j.below hB j.lt) (xs k).1 (xs k).2.1 (xs k).2.2 (r k B))
 have E:(0:Int)<(n:Int):=by omega
 clear v r
 go_enter Tryz.func248,Tryz.ntmps248
 go_wp2_with (go_at_call 305;refine C.mono ?_;rintro e w' ⟨rfl,hB⟩)
 go_ret
 exact⟨rfl,h.trans (hB.mono h.size)⟩
namespace RegM
section
variable {P:Program}{ops:Array Oper}{Q:Exit->Act->World->Prop}{md:Region.Mode}{S:World->Prop}{fs:List Nat}
def wpAnyM (P:Program)(md:Region.Mode)(ops:Array Oper)(Q:Exit->Act->World->Prop)(S:World->Prop)(fs:List Nat):Nat->Array Bool->Act->World->Prop
 | 0,listed,a,w=>Region.ready md ops listed=[]/\Q .normal a w
 | fuel+1,listed,a,w =>
  (Region.ready md ops listed=[]->Q .normal a w) /\
  ∀i∈Region.ready md ops listed,wpOp P ops Q i (λa' w'=>(fs.contains i=false->S w')/\wpAnyM P md ops Q S fs fuel (listed.setIfInBounds i true) a' w') a w
theorem to_any:∀(j:Nat) (listed:Array Bool) (a:Act) (w:World),wpAnyM P md ops Q S fs j listed a w->wpAny P md ops Q j listed a w
 | 0,_,_,_,h=>h
 | j+1,_,_,_,h=>⟨h.1,λi q=>wpOp_mono (λr w' m=>to_any j _ r w' m.2) (h.2 i q)⟩
theorem first1 {i n:Nat}{u:Oper}{v:Value}(I:ops[i]? = some u)(K:∀(j:Nat) (o:Oper) cs b,ops[j]? = some o->o.op≠.select cs b)
  (hQ:∀c a w,Q (.panic c) (a.put u.dst v) w->Q (.panic c) a w) (aC:(fs.all λf=>RegF.reach md ops n f i)=true) (aF:fs.contains i=false) :
  ∀(C:Nat) (listed:Array Bool) (a:Act) (w:World),RegF.Closed md ops listed ->
   (∀j r,ops[j]? = some r->j≠i->listed.getD j true=false->(∀e∈r.after,Region.binds md e=true->e.on≠i)->u.apart ops r=true) ->
   i∈Region.ready md ops listed->YieldsIf P ops S u v a->S w ->
   wpAnyM P md ops Q S fs C (listed.setIfInBounds i true) (a.put u.dst v) w->wpAnyM P md ops Q S fs (C+1) listed a w:=by
 intro C
 induction C with
 | zero =>
  intro listed a w _ _ q F B H
  refine⟨λh=>(by rw[h] at q;cases q),λj x => ?_⟩
  by_cases m:j=i
  ·subst m;exact F.wpOp I B ⟨λ_=>B,H⟩
  ·have:=ready_mono x m
   rw[H.1] at this
   cases this
 | succ C ih =>
  intro listed a w T M q F B H
  refine⟨λh=>(by rw[h] at q;cases q),λj x => ?_⟩
  by_cases m:j=i
  ·subst m;exact F.wpOp I B ⟨λ_=>B,H⟩
  ·have h1:=H.2 j (ready_mono x m)
   obtain⟨U,r,G,aE⟩:=mem_ready.1 x
   have W:∀e∈r.after,Region.binds md e=true->e.on≠i:=λe he hb aD=>by
    have h1:=aE e he hb
    rw[aD,RegF.unlisted q] at h1
    cases h1
   have Z:fs.contains j=false:=by
    cases h:fs.contains j with
    | false=>rfl
    | true =>
     have:=qJ.1 aC j (by simpa using h)
     exact absurd x (RegF.not_ready T (RegF.unlisted q) this)
   have h2:=wpOp_putIf G (M j r G m U W) (λcs b=>K i u cs b I) (λcs b=>K j r cs b G) hQ F h1
   have aB:∀k ok,ops[k]? = some ok->k≠i->(listed.setIfInBounds j true).getD k true=false ->
     (∀e∈ok.after,Region.binds md e=true->e.on≠i)->u.apart ops ok=true:=λk ok hk V O aA=>by
    refine M k ok hk V ?_ aA
    by_cases N:j=k
    ·subst N;exact U
    ·rw[getD_set_ne true N] at O;exact O
   refine wpOp_mono (λa' w' E=>⟨E.2.1,ih (listed.setIfInBounds j true) a' w' (T.set x) aB (ready_mono q (Ne.symm m)) E.1 (E.2.1 Z) ?_⟩) h2
   rw[Array.setIfInBounds_comm _ _ m]
   exact E.2.2
theorem take1 {m:Nat}{listed:Array Bool}{a:Act}{w:World}(i:Nat){j:Oper}(v:Value)(q:ops[i]? = some j)
  (hs:Region.noSelect ops=true) (hf:Region.free md ops listed i=true) (B:(Region.ready md ops listed).contains i=true) (E:RegF.closedB md ops listed=true) (F:(fs.all λf=>RegF.reach md ops 30 f i)=true) (x:fs.contains i=false)
  (C:∀c a w,Q (.panic c) (a.put j.dst v) w->Q (.panic c) a w) (r:S w) (u:YieldsIf P ops S j v a)
  (h:wpAnyM P md ops Q S fs m (listed.setIfInBounds i true) (a.put j.dst v) w):wpAnyM P md ops Q S fs (m+1) listed a w :=
 first1 q (Region.noSelect_spec hs) C F x m listed a w (RegF.closedB_spec E) (Region.free_spec q hf) (by simpa using B) u r h
theorem one {q:Nat}{listed:Array Bool}{a:Act}{w:World}(i:Nat)(u:Region.ready md ops listed=[i])
  (h:wpOp P ops Q i (λv w'=>(fs.contains i=false->S w')/\wpAnyM P md ops Q S fs q (listed.setIfInBounds i true) v w') a w):wpAnyM P md ops Q S fs (q+1) listed a w :=
 ⟨λr=>(by rw[u] at r;cases r),λj m=>by
  rw[u] at m
  obtain rfl:j=i:=by simpa using m
  exact h⟩
theorem done {j:Nat}{listed:Array Bool}{a:Act}{w:World}(m:Region.ready md ops listed=[])(h:Q .normal a w):wpAnyM P md ops Q S fs j listed a w:=by
 cases j with
 | zero=>exact⟨m,h⟩
 | succ n=>exact⟨λ_=>h,by rw[m];simp⟩
theorem start {m:Nat}{a:Act}{w:World}(S:World->Prop)(fs:List Nat)(j:P.follows .mixedOrders=true)(h:wpAnyM P .any ops Q S fs ops.size (Array.replicate ops.size false) a w.drew):(Code.region m ops true).wp P Q a w :=
 wp_region_any j (to_any _ _ _ _ h)
end
end RegM

theorem link_nil (w:World):Calls Tryz.prog 174 #[.slice none 0 0] w λe w'=>e = .returned (.int .u32 0)/\w=w':=by
 go_enter Tryz.func174,Tryz.ntmps174
 go_wp2
 go_ret
 exact⟨rfl,rfl⟩
theorem fclone_nil (w:World):Calls Tryz.prog 249 #[.slice none 0 0] w λe w'=>e = .returned (.slice none 0 0)/\w=w':=by
 have hq:=λW=>run_eq_nil (P:=Tryz.prog) W 181 256 none 0 0 Tryz.underlying181
 go_enter Tryz.func249,Tryz.ntmps249
 go_wp2
 go_ret
 exact⟨rfl,rfl⟩
section
variable (w:World)(l d many lb mb:Nat)(g:Nat->List UInt8)(xs:List (Nat×List UInt8))(left:Int)(fr pg:Int)(sr ep:Nat)(sz:Int)
theorem app2_gives (A:Option Addr)(n c:Nat)(C:Option Addr)(nm B:Nat)(N:DkIs w d many g xs left false)(hl:xs.length<=900000)(h1l : -1000000<=left)(V:left<=9223372036854775807)(G:BlkIs w l 183 (lgC (some ⟨d,0,none⟩) fr pg sr ep sz A n c))(T:BlkIs w lb 110 #[.pointer (some ⟨l,0,none⟩)])(K:BlkIs w mb 181 #[.slice C nm B])(aB:l≠d)(U:headOk sz (nm:Int)=true)(aC:2<=many)(O:many<=1000000)(aG:sr+1<18446744073709551616) :
  Calls Tryz.prog 252 #[.pointer (some ⟨lb,0,none⟩),.pointer (some ⟨mb,0,none⟩)] w λe w'=>e = .returned (.int .i64 0)/\(∃M,DkIs w' d many M [] left false)/\BlkIs w' l 183 (lgC (some ⟨d,0,none⟩) fr pg (sr+1) ep sz A n c)/\GrowBut (λk=>k=d∨k=l) w w':=by
 have E:=lay_gives w.drew l d many g xs left (sr+1) ep sz (nm:Int) fr pg sr ep sz A n c (N.grow (Below.refl _ _).drew) hl h1l V G.drew aB U aC O
 rw[show ((sr+1:Nat):Int)=(sr:Int)+1 by omega] at E
 have aF:IntKind.u64.wrap ((sr:Int)+1)=(sr:Int)+1:=by rw[IntKind.wrap_u64];omega
 have I:∀W,BlkIs W l 183 (lgC (some ⟨d,0,none⟩) fr pg sr ep sz A n c)->W.cell? ⟨l,3,none⟩=some (.int .u64 (sr:Int)):=λW j=>by rw[j.cell];rfl
 have F:∀W,BlkIs W l 183 (lgC (some ⟨d,0,none⟩) fr pg sr ep sz A n c)->W.cell? ⟨l,4,none⟩=some (.int .u64 (ep:Int)):=λW j=>by rw[j.cell];rfl
 have H:∀W,BlkIs W l 183 (lgC (some ⟨d,0,none⟩) fr pg sr ep sz A n c)->W.cell? ⟨l,5,none⟩=some (.int .i64 sz):=λW j=>by rw[j.cell];rfl
 have m:BlkIs w.drew l 183 (lgC (some ⟨d,0,none⟩) fr pg sr ep sz A n c)/\BlkIs w.drew lb 110 #[.pointer (some ⟨l,0,none⟩)]/\BlkIs w.drew mb 181 #[.slice C nm B]:=⟨G.drew,T.drew,K.drew⟩
 go_enter Tryz.func252,Tryz.ntmps252
 go_wp2_with fail
 refine RegM.start (λW=>BlkIs W l 183 (lgC (some ⟨d,0,none⟩) fr pg sr ep sz A n c)/\BlkIs W lb 110 #[.pointer (some ⟨l,0,none⟩)]/\BlkIs W mb 181 #[.slice C nm B]) [17,18] (by kernel_rfl) ?_
 refine RegM.take1 0 (.pointer (some ⟨l,0,none⟩)) rfl (by kernel_rfl) (by kernel_rfl) (by kernel_rfl) (by kernel_rfl) (by kernel_rfl) rfl (λ_ _ _ h=>h) m (RegF.yld rfl (λW j=>by obtain⟨v,u,x⟩:=j;have q:=u.boxed;go_simp)) ?_
 simp only[zE,zB,Act.put,zA,zG,zF]
 refine RegM.take1 1 (.pointer (some ⟨l,0,none⟩)) rfl (by kernel_rfl) (by kernel_rfl) (by kernel_rfl) (by kernel_rfl) (by kernel_rfl) rfl (λ_ _ _ h=>h) m (RegF.yld rfl (λW j=>by obtain⟨v,u,x⟩:=j;have q:=u.boxed;go_simp)) ?_
 simp only[zE,zD,zB,Act.put,zA,zG,zF]
 refine RegM.take1 2 (.pointer (some ⟨l,0,none⟩)) rfl (by kernel_rfl) (by kernel_rfl) (by kernel_rfl) (by kernel_rfl) (by kernel_rfl) rfl (λ_ _ _ h=>h) m (RegF.yld rfl (λW j=>by go_simp)) ?_
 simp only[zE,zD,zB,Act.put,zA,zG,zF]
 refine RegM.take1 3 (.pointer (some ⟨l,3,none⟩)) rfl (by kernel_rfl) (by kernel_rfl) (by kernel_rfl) (by kernel_rfl) (by kernel_rfl) rfl (λ_ _ _ h=>h) m (RegF.yld rfl (λW j=>by go_simp)) ?_
 simp only[zE,zD,zB,Act.put,zA,zG,zF]
 refine RegM.take1 4 (.int .u64 (sr:Int)) rfl (by kernel_rfl) (by kernel_rfl) (by kernel_rfl) (by kernel_rfl) (by kernel_rfl) rfl (λ_ _ _ h=>h) m (RegF.yld rfl (λW j=>by obtain⟨v,u,x⟩:=j;have q:=I W v;go_simp)) ?_
 simp only[zE,zD,zB,Act.put,zA,zG,zF]
 refine RegM.take1 5 (.int .u64 ((sr:Int)+1)) rfl (by kernel_rfl) (by kernel_rfl) (by kernel_rfl) (by kernel_rfl) (by kernel_rfl) rfl (λ_ _ _ h=>h) m (RegF.yld rfl (λW j=>by go_simp)) ?_
 simp only[zE,zD,zB,Act.put,zA,zG,zF]
 refine RegM.take1 6 (.pointer (some ⟨l,0,none⟩)) rfl (by kernel_rfl) (by kernel_rfl) (by kernel_rfl) (by kernel_rfl) (by kernel_rfl) rfl (λ_ _ _ h=>h) m (RegF.yld rfl (λW j=>by obtain⟨v,u,x⟩:=j;have q:=u.boxed;go_simp)) ?_
 simp only[zE,zD,zB,Act.put,zA,zG,zF]
 refine RegM.take1 7 (.pointer (some ⟨l,0,none⟩)) rfl (by kernel_rfl) (by kernel_rfl) (by kernel_rfl) (by kernel_rfl) (by kernel_rfl) rfl (λ_ _ _ h=>h) m (RegF.yld rfl (λW j=>by go_simp)) ?_
 simp only[zE,zD,zB,Act.put,zA,zG,zF]
 refine RegM.take1 8 (.pointer (some ⟨l,4,none⟩)) rfl (by kernel_rfl) (by kernel_rfl) (by kernel_rfl) (by kernel_rfl) (by kernel_rfl) rfl (λ_ _ _ h=>h) m (RegF.yld rfl (λW j=>by go_simp)) ?_
 simp only[zE,zD,zB,Act.put,zA,zG,zF]
 refine RegM.take1 9 (.int .u64 (ep:Int)) rfl (by kernel_rfl) (by kernel_rfl) (by kernel_rfl) (by kernel_rfl) (by kernel_rfl) rfl (λ_ _ _ h=>h) m (RegF.yld rfl (λW j=>by obtain⟨v,u,x⟩:=j;have q:=F W v;go_simp)) ?_
 simp only[zE,zD,zB,Act.put,zA,zG,zF]
 refine RegM.take1 10 (.pointer (some ⟨l,0,none⟩)) rfl (by kernel_rfl) (by kernel_rfl) (by kernel_rfl) (by kernel_rfl) (by kernel_rfl) rfl (λ_ _ _ h=>h) m (RegF.yld rfl (λW j=>by obtain⟨v,u,x⟩:=j;have q:=u.boxed;go_simp)) ?_
 simp only[zE,zD,zB,Act.put,zA,zG,zF]
 refine RegM.take1 11 (.pointer (some ⟨l,0,none⟩)) rfl (by kernel_rfl) (by kernel_rfl) (by kernel_rfl) (by kernel_rfl) (by kernel_rfl) rfl (λ_ _ _ h=>h) m (RegF.yld rfl (λW j=>by go_simp)) ?_
 simp only[zE,zD,zB,Act.put,zA,zG,zF]
 refine RegM.take1 12 (.pointer (some ⟨l,5,none⟩)) rfl (by kernel_rfl) (by kernel_rfl) (by kernel_rfl) (by kernel_rfl) (by kernel_rfl) rfl (λ_ _ _ h=>h) m (RegF.yld rfl (λW j=>by go_simp)) ?_
 simp only[zE,zD,zB,Act.put,zA,zG,zF]
 refine RegM.take1 13 (.int .i64 sz) rfl (by kernel_rfl) (by kernel_rfl) (by kernel_rfl) (by kernel_rfl) (by kernel_rfl) rfl (λ_ _ _ h=>h) m (RegF.yld rfl (λW j=>by obtain⟨v,u,x⟩:=j;have q:=H W v;go_simp)) ?_
 simp only[zE,zD,zB,Act.put,zA,zG,zF]
 refine RegM.take1 14 (.slice C nm B) rfl (by kernel_rfl) (by kernel_rfl) (by kernel_rfl) (by kernel_rfl) (by kernel_rfl) rfl (λ_ _ _ h=>h) m (RegF.yld rfl (λW j=>by obtain⟨v,u,x⟩:=j;have q:=x.boxed;go_simp)) ?_
 simp only[zE,zD,zB,Act.put,zA,zG,zF]
 refine RegM.take1 15 (.int .i64 (nm:Int)) rfl (by kernel_rfl) (by kernel_rfl) (by kernel_rfl) (by kernel_rfl) (by kernel_rfl) rfl (λ_ _ _ h=>h) m (RegF.yld rfl (λW j=>by go_simp)) ?_
 simp only[zE,zD,zB,Act.put,zA,zG,zF]
 refine RegM.take1 16 (.agg #[.int .u64 ((sr:Int)+1),.int .u64 (ep:Int),.int .i64 sz,.int .i64 (nm:Int)]) rfl (by kernel_rfl) (by kernel_rfl) (by kernel_rfl) (by kernel_rfl) (by kernel_rfl) rfl (λ_ _ _ h=>h) m (RegF.yld rfl (λW j=>by go_simp)) ?_
 simp only[zE,zD,zB,Act.put,zA,zG,zF]
 refine RegM.one 17 (by kernel_rfl) ?_
 refine RegF.opC 109 #[.tmp 3,.tmp 19] #[110,185] rfl rfl rfl (enters_of Tryz.func109 (by kernel_rfl) rfl) #[.pointer (some ⟨l,0,none⟩),.agg #[.int .u64 ((sr:Int)+1),.int .u64 (ep:Int),.int .i64 sz,.int .i64 (nm:Int)]] (by simp only[zK,zL,zN];rfl) (E.mono ?_)
 rintro e w2 ⟨rfl,aD,aE,aA⟩
 refine⟨_,rfl,λh=>(by cases h),?_⟩
 simp only[zE,zD,zB,Act.put,zA,zG,zF]
 refine RegM.one 18 (by kernel_rfl) (RegF.opV (w':=w2) (.int .i64 0) rfl rfl (by go_simp) ⟨λh=>(by cases h),RegM.done (by kernel_rfl) ?_⟩)
 simp only[zE,zD,zB,Act.put,zA,zG,zF]
 have Z:GrowBut (λk=>k=d∨k=l) w w2:=(GrowBut.grown (grownBy_drew w none) (λr e=>by cases e)).trans aA
 clear E I F H m
 go_wp2
 go_ret
 exact⟨rfl,⟨_,aD⟩,aE,Z⟩
theorem app3_gives (szb:Nat)(D:Option Addr)(A:Option Addr)(n c:Nat)(m:Option Addr)(nm j:Nat)(s:Int)(v:BlkIs w l 183 (lgC D fr pg sr ep sz A n c))(G:BlkIs w lb 110 #[.pointer (some ⟨l,0,none⟩)])(F:BlkIs w mb 181 #[.slice m nm j])(H:BlkIs w szb 3 #[.int .i64 s])(I:l≠lb)(M:l≠mb)(K:l≠szb) :
  Calls Tryz.prog 253 #[.pointer (some ⟨mb,0,none⟩),.pointer (some ⟨szb,0,none⟩),.pointer (some ⟨lb,0,none⟩)] w λe w'=>e = .returned (.int .i64 0)/\w'=(w.drew.setCell ⟨l,6,none⟩ (.slice m nm j)).setCell ⟨l,5,none⟩ (.int .i64 s)/\BlkIs w' l 183 (lgC D fr pg sr ep s m nm j):=by
 have N:w.cell? ⟨l,6,none⟩=some (.slice A n c):=by rw[v.cell];rfl
 have V:w.cell? ⟨l,5,none⟩=some (.int .i64 sz):=by rw[v.cell];rfl
 have f6:=v.free 6
 have O:=v.free 5
 have E:=v.drew.set 6 (.slice m nm j)
 have r:BlkIs w.drew lb 110 #[.pointer (some ⟨l,0,none⟩)]/\BlkIs w.drew mb 181 #[.slice m nm j]/\BlkIs w.drew szb 3 #[.int .i64 s]:=⟨G.drew,F.drew,H.drew⟩
 have x:BlkIs (w.drew.setCell ⟨l,6,none⟩ (.slice m nm j)) lb 110 #[.pointer (some ⟨l,0,none⟩)]/\BlkIs (w.drew.setCell ⟨l,6,none⟩ (.slice m nm j)) mb 181 #[.slice m nm j]/\BlkIs (w.drew.setCell ⟨l,6,none⟩ (.slice m nm j)) szb 3 #[.int .i64 s] :=
  ⟨G.drew.other (λe=>I e.symm) _,F.drew.other (λe=>M e.symm) _,H.drew.other (λe=>K e.symm) _⟩
 have U:(w.drew.setCell ⟨l,6,none⟩ (.slice m nm j)).cell? ⟨l,5,none⟩=some (.int .i64 sz):=by rw[E.cell];rfl
 have T:=E.free 5
 go_enter Tryz.func253,Tryz.ntmps253
 go_wp2_with fail
 refine RegF.start (λW=>BlkIs W lb 110 #[.pointer (some ⟨l,0,none⟩)]/\BlkIs W mb 181 #[.slice m nm j]/\BlkIs W szb 3 #[.int .i64 s]) 9 (by kernel_rfl) ?_
 refine RegF.t 0 (.pointer (some ⟨l,0,none⟩)) rfl r (λW ⟨u,B,C⟩=>by have q:=u.boxed;go_simp) ?_
 simp only[zE,zB,Act.put,zA,zG,zF]
 refine RegF.t 1 (.pointer (some ⟨l,0,none⟩)) rfl r (λW ⟨u,B,C⟩=>by have q:=u.boxed;go_simp) ?_
 simp only[zE,zD,zB,Act.put,zA,zG,zF]
 refine RegF.t 2 (.slice m nm j) rfl r (λW ⟨u,B,C⟩=>by have q:=B.boxed;go_simp) ?_
 simp only[zE,zD,zB,Act.put,zA,zG,zF]
 refine RegF.t 3 (.int .i64 s) rfl r (λW ⟨u,B,C⟩=>by have q:=C.boxed;go_simp) ?_
 simp only[zE,zD,zB,Act.put,zA,zG,zF]
 refine RegF.one 4 (by kernel_rfl) (RegF.opV (w':=w.drew) (.pointer (some ⟨l,0,none⟩)) rfl rfl (by go_simp) ⟨λ_=>r,?_⟩)
 simp only[zE,zD,zB,Act.put,zA,zG,zF]
 refine RegF.one 5 (by kernel_rfl) (RegF.opV (w':=w.drew) (.pointer (some ⟨l,6,none⟩)) rfl rfl (by go_simp) ⟨λ_=>r,?_⟩)
 simp only[zE,zD,zB,Act.put,zA,zG,zF]
 refine RegF.one 6 (by kernel_rfl) (RegF.opS (w':=w.drew.setCell ⟨l,6,none⟩ (.slice m nm j)) rfl rfl (by go_simp) ⟨λ_=>x,?_⟩)
 simp only[zE,zD,zB,Act.put]
 refine RegF.one 7 (by kernel_rfl) (RegF.opV (w':=w.drew.setCell ⟨l,6,none⟩ (.slice m nm j)) (.pointer (some ⟨l,0,none⟩)) rfl rfl (by go_simp) ⟨λ_=>x,?_⟩)
 simp only[zE,zD,zB,Act.put,zA,zG,zF]
 refine RegF.one 8 (by kernel_rfl) (RegF.opV (w':=w.drew.setCell ⟨l,6,none⟩ (.slice m nm j)) (.pointer (some ⟨l,5,none⟩)) rfl rfl (by go_simp) ⟨λ_=>x,?_⟩)
 simp only[zE,zD,zB,Act.put,zA,zG,zF]
 refine RegF.one 9 (by kernel_rfl) (RegF.opS (w':=(w.drew.setCell ⟨l,6,none⟩ (.slice m nm j)).setCell ⟨l,5,none⟩ (.int .i64 s)) rfl rfl (by go_simp) ⟨λh=>absurd rfl h,RegF.done (by kernel_rfl) ?_⟩)
 simp only[zE,zD,zB,Act.put]
 clear r x
 go_wp2
 go_ret
 exact⟨rfl,rfl,E.set 5 (.int .i64 s)⟩
end
theorem rowPlan:RowTy Tryz.prog 59 2:=⟨⟨_,Tryz.underlying59,rfl⟩,by kernel_rfl⟩
theorem frameB_length {e i p:Nat}{f:Bool}{z n:Nat}{y:List UInt8}(h:y.length=512):(frameB (partB e i p f z n) y).length=576:=by
 simp[frameB,sectB_length,partB_length];omega
section
variable (e:Nat)(i p:Int)(f:Bool)(z:Int)(n:Nat)(A:Option Addr)(k:Nat)(y:List UInt8)(s e':Nat)(z' c':Int)(x0 x1:Int)(w:World)
end
namespace Reg
variable {L:List (Nat×Fact)}{ops:Array Oper}{w0:World}{o:Oper}
end Reg
section
variable (e:Nat)(i p:Int)(f:Bool)(z:Int)(n:Nat)(A:Option Addr)(k:Nat)(y:List UInt8)(s e':Nat)(z' c':Int)(w:World)(X Y:List UInt8)
end

section
variable (w:World)(l d many lb mb:Nat)(g:Nat->List UInt8)(xs:List (Nat×List UInt8))(left:Int)(fr pg:Int)(sr ep:Nat)(sz:Int)
theorem app1_gives (c:Nat)(x K:Nat)(e:Nat)(p:Int)(f:Bool)(z:Int)(E:Nat)(C:Option Addr)(H:Nat)(y:List UInt8)(hD:DkIs w d many g xs left false)(hl:xs.length<=900000)(h1l : -1000000<=left)(aO:left<=9223372036854775807)(O:BlkIs w l 183 (lgC (some ⟨d,0,none⟩) fr pg sr ep sz none 0 0))(U:BlkIs w lb 110 #[.pointer (some ⟨l,0,none⟩)])(aB:BlkIs w mb 181 #[.slice (some ⟨x,0,none⟩) 1 K])
  (a3:1<=K) (aY:K<=9223372036854775807) (aG:w.rangeAt x 0 (frCells e 0 p f z E C y.length H).toList) (aL:x<w.heap.size) (hy:InB w w.heap.size C H y) (a1:∀g o,C=some ⟨g,o,none⟩->0<y.length->g≠d)
  (aS:l≠d) (aX:lb≠d) (a5:mb≠d) (aZ:x≠d) (aN:plE (planOk fr pg) 0 fr=0) (V:frOk y.length 0 p f z=true) (a4:11<=many) (aM:many<=1000000) :
  Calls Tryz.prog 250 #[.pointer (some ⟨mb,0,none⟩),.pointer (some ⟨lb,0,none⟩)] w λe' w'=>e' = .returned (.int .i64 0)/\(∃T,T.length<=xs.length+9/\DkIs w' d many g T left false)/\w.grownBy w' (some d):=by
 have m:Below w.heap.size w w.drew:=(Below.refl _ _).drew
 have T0:∀W,Below w.heap.size w W->W.cell? ⟨mb,0,none⟩=some (.slice (some ⟨x,0,none⟩) 1 K):=λW h=>(aB.below h aB.lt).boxed
 have I:∀W,Below w.heap.size w W->W.cell? ⟨lb,0,none⟩=some (.pointer (some ⟨l,0,none⟩)):=λW h=>(U.below h U.lt).boxed
 have T6:∀W,Below w.heap.size w W->W.cell? ⟨l,6,none⟩=some (.slice none 0 0):=λW h=>by rw[(O.below h O.lt).cell];rfl
 have a2:=hD.lt
 go_enter Tryz.func250,Tryz.ntmps250
 go_wp2_with fail
 refine RegF.start (λW=>Below w.heap.size w W) 99 (by kernel_rfl) ?_
 refine RegF.t0 0 (.slice (some ⟨x,0,none⟩) 1 K) rfl m (λW h=>by have q:=T0 W h;go_simp) ?_
 simp only[zE,zB,Act.put,zA,zG,zF]
 refine RegF.t0 1 (.pointer (some ⟨l,0,none⟩)) rfl m (λW h=>by have q:=I W h;go_simp) ?_
 simp only[zE,zD,zB,Act.put,zA,zG,zF]
 refine RegF.t0 2 (.pointer (some ⟨l,0,none⟩)) rfl m (λW h=>by go_simp) ?_
 simp only[zE,zD,zB,Act.put,zA,zG,zF]
 refine RegF.t0 3 (.pointer (some ⟨l,6,none⟩)) rfl m (λW h=>by go_simp) ?_
 simp only[zE,zD,zB,Act.put,zA,zG,zF]
 refine RegF.t0 4 (.slice none 0 0) rfl m (λW h=>by have q:=T6 W h;go_simp) ?_
 simp only[zE,zD,zB,Act.put,zA,zG,zF]
 refine RegF.t0 5 (.int .i64 0) rfl m (λW h=>by go_simp) ?_
 simp only[zE,zD,zB,Act.put,zA,zG,zF]
 refine RegF.t0 6 (.slice (some ⟨x,0,none⟩) 1 K) rfl m (λW h=>by go_simp) ?_
 simp only[zE,zD,zB,Act.put,zA,zG,zF]
 refine RegF.t0 7 (.int .i64 1) rfl m (λW h=>by go_simp) ?_
 simp only[zE,zD,zB,Act.put,zA,zG,zF]
 refine RegF.one 8 (by kernel_rfl) (RegF.opV (w':=w.drew) (.int .i64 0) rfl rfl (by go_simp) ⟨λ_=>m,RegF.done (by kernel_rfl) ?_⟩)
 simp only[zE,zD,zB,Act.put,zA,zG,zF]
 clear T0 T6
 go_wp2
 go_loopw [18] (λi wr=>(i = .int .i64 0/\Below w.heap.size w wr)∨(i = .int .i64 1/\(∃T,T.length<=xs.length+9/\DkIs wr d many g T left false)/\w.grownBy wr (some d))) (λi _=>2 - (intOf i).toNat)
 case atStart=>exact .inl ⟨rfl,m⟩
 case round =>
  clear m
  rcases hrel with⟨rfl,m⟩|⟨rfl,hDx,hGx⟩
  ·have aC:wr.rangeAt x 0 (frCells e 0 p f z E C y.length H).toList:=λj v hj=>(m.cell (p:=⟨x,0+j,none⟩) aL).trans (aG j v hj)
   have aD:Below w.heap.size w (wr.alloc (.cells #[.int .u64 0,.int .i64 0,.int .i64 0,.bool false,.int .i64 0,.int .u32 0,.slice none 0 0] 256)):=m.alloc m.size _
   have bz:=BlkIs.new wr 256 #[.int .u64 0,.int .i64 0,.int .i64 0,.bool false,.int .i64 0,.int .u32 0,.slice none 0 0]
   have Z:=bz.setRow (frCells e 0 p f z E C y.length H)
   have G:Below w.heap.size w ((wr.alloc (.cells #[.int .u64 0,.int .i64 0,.int .i64 0,.bool false,.int .i64 0,.int .u32 0,.slice none 0 0] 256)).setRow wr.heap.size (frCells e 0 p f z E C y.length H)):=below_setRow aD m.size _
   have a0:=m.size
   go_wp2_with (first
    | (refine wp_exec rfl (x_loadM rowFrame aC rfl rfl rfl) ?_)
    | (refine wp_storeW rfl 256 (.tmp 4) (.tmp 21) rfl wr.heap.size rfl rfl rowFrame bz rfl rfl (frCells_one _ _ _ _ _ _ _ _ _) ?_))
   have aU:=hD.grow G
   have F:=O.below G O.lt
   have aF:=U.below G U.lt
   have aJ:=(hy.below G).more G.size
   clear aC aD bz I hD O U aB aG hy m
   generalize (wr.alloc (.cells #[.int .u64 0,.int .i64 0,.int .i64 0,.bool false,.int .i64 0,.int .u32 0,.slice none 0 0] 256)).setRow wr.heap.size (frCells e 0 p f z E C y.length H)=r at *
   generalize wr.heap.size=fb at *
   have HP:∀W,Calls Tryz.prog 172 #[.agg #[.int .i64 fr,.int .i64 pg],.int .i64 0] W λe w'=>e = .returned (.tuple #[.int .i64 2,.int .i64 0])/\Below W.heap.size W w':=λW=>by
    have:=frameAt_gives fr pg 0 W
    unfold atV at this
    rw[aN,if_pos rfl] at this
    exact this
   have I:∀W,Below r.heap.size r W->W.cell? ⟨lb,0,none⟩=some (.pointer (some ⟨l,0,none⟩)):=λW h=>(aF.below h aF.lt).boxed
   have P1:∀W,Below r.heap.size r W->W.cell? ⟨l,1,none⟩=some (.int .i64 fr):=λW h=>by rw[(F.below h F.lt).cell];rfl
   have P2:∀W,Below r.heap.size r W->W.cell? ⟨l,2,none⟩=some (.int .i64 pg):=λW h=>by rw[(F.below h F.lt).cell];rfl
   have I1:∀W,Below r.heap.size r W->W.cell? ⟨fb,1,none⟩=some (.int .i64 0):=λW h=>by rw[(Z.below h Z.lt).cell];rfl
   have B:Below r.heap.size r r.drew:=(Below.refl _ _).drew
   refine RegF.start (λW=>Below r.heap.size r W) 99 (by kernel_rfl) ?_
   refine RegF.t0 0 (.pointer (some ⟨l,0,none⟩)) rfl B (λW h=>by have q:=I W h;go_simp) ?_
   simp only[zE,zB,Act.put,zA,zG,zF]
   refine RegF.t0 1 (.pointer (some ⟨l,0,none⟩)) rfl B (λW h=>by go_simp) ?_
   simp only[zE,zD,zB,Act.put,zA,zG,zF]
   refine RegF.t0 2 (.pointer (some ⟨l,0,none⟩)) rfl B (λW h=>by go_simp) ?_
   simp only[zE,zD,zB,Act.put,zA,zG,zF]
   refine RegF.t0 3 (.pointer (some ⟨l,1,none⟩)) rfl B (λW h=>by go_simp) ?_
   simp only[zE,zD,zB,Act.put,zA,zG,zF]
   refine RegF.t0 4 (.agg #[.int .i64 fr,.int .i64 pg]) rfl B (λW h=>by have q1:=P1 W h;have q2:=P2 W h;go_simp) ?_
   simp only[zE,zD,zB,Act.put,zA,zG,zF]
   refine RegF.t0 5 (.pointer (some ⟨fb,1,none⟩)) rfl B (λW h=>by go_simp) ?_
   simp only[zE,zD,zB,Act.put,zA,zG,zF]
   refine RegF.t0 6 (.int .i64 0) rfl B (λW h=>by have q1:=I1 W h;go_simp) ?_
   simp only[zE,zD,zB,Act.put,zA,zG,zF]
   refine RegF.one 7 (by kernel_rfl) ?_
   refine RegF.opC 172 #[.tmp 27,.tmp 29] #[59,3] rfl rfl rfl (enters_of Tryz.func172 (by kernel_rfl) rfl) #[.agg #[.int .i64 fr,.int .i64 pg],.int .i64 0] (by simp only[zK,zL,zN];rfl) ((HP r.drew).mono ?_)
   rintro e1 w4 ⟨rfl,aK⟩
   have u:Below r.heap.size r w4:=B.trans (aK.mono (zH _))
   refine⟨_,rfl,λ_=>u,?_⟩
   simp only[zE,zD,zB,Act.put,zA,zG,zF]
   refine RegF.one 8 (by kernel_rfl) (RegF.opV (w':=w4) (.tuple #[.int .i64 2,.int .i64 0]) rfl rfl (by go_simp) ⟨λ_=>u,?_⟩)
   simp only[zE,zD,zB,Act.put,zA,zG,zF]
   refine RegF.t0 9 (.int .i64 2) rfl u (λW h=>by go_simp) ?_
   simp only[zE,zD,zB,Act.put,zA,zG,zF]
   refine RegF.t0 10 (.int .i64 0) rfl u (λW h=>by go_simp) ?_
   simp only[zE,zD,zB,Act.put,zA,zG,zF]
   refine RegF.one 11 (by kernel_rfl) (RegF.opV (w':=w4) (.int .i64 2) rfl rfl (by go_simp) ⟨λ_=>u,?_⟩)
   simp only[zE,zD,zB,Act.put,zA,zG,zF]
   refine RegF.one 12 (by kernel_rfl) (RegF.opV (w':=w4) (.int .i64 0) rfl rfl (by go_simp) ⟨λ_=>u,RegF.done (by kernel_rfl) ?_⟩)
   simp only[zE,zD,zB,Act.put,zA,zG,zF]
   have b4:=Z.below u Z.lt
   have aP:=(aJ.below u).more u.size
   have a6:=V
   have N:=encode_gives e 0 p f z E C H y w4 aP
   have aA:(fEnc e 0 p f z E y).length=576:=by
    unfold fEnc
    rw[if_pos V]
    exact frameB_length ((frOk_iff _ _ _ _ _).1 V).1
   have aE:fErr 0 p f z y=0:=by unfold fErr;rw[if_pos V]
   rw[aE] at N
   unfold GivesBE at N
   rw[aA] at N
   have aH:=Lib.hid aA
   clear aA aE V HP P1 P2 I1 B
   go_wp2_with (first
    | (refine wp_loadW rfl 256 (.tmp 4) rfl fb rfl rowFrame b4 rfl ?_)
    | (go_at_call 251;refine N.mono ?_;rintro e2 w5 ⟨A5,c5,rfl,aT,aR⟩;have M:=u.trans (aR.mono u.size);have t1:=I w5 M))
   have aQ:w5.cell? ⟨l,0,none⟩=some (.pointer (some ⟨d,0,none⟩)):=by rw[(F.below M F.lt).cell];rfl
   have HW:=wwrite_gives w5 l d many g xs left (aU.grow M) hl h1l aO aQ aS (zO F.lt M.size) 2 9 A5 c5 _ aT (by rw[aH.out]) (by omega) (by omega) aM
   rw[aH.out,show ((2:Nat):Int)=2 from rfl] at HW
   refine HW.mono ?_
   rintro e3 w6 ⟨rfl,aV,aI⟩
   have aW:w.grownBy w6 (some d):=(below_grownBy (G.trans (M.mono G.size)) d).trans aI
   clear N HW I
   go_wp2
   go_roundw
   case rel=>exact .inr ⟨rfl,⟨_,by rw[zJ,wrL_length];omega,aV⟩,aW⟩
   case measure=>simp[intOf]
  ·go_wp2
   go_ret
   exact⟨rfl,hDx,hGx⟩
end
section
variable (w:World)(l d many lb mb szb:Nat)(g:Nat->List UInt8)(xs:List (Nat×List UInt8))(left:Int)(fr pg:Int)(sr ep:Nat)(sz:Int)
def apFs (lb mb szb d:Nat):List FnV:=[⟨250,#[],#[.pointer (some ⟨mb,0,none⟩),.pointer (some ⟨lb,0,none⟩)]⟩,⟨166,#[.pointer (some ⟨d,0,none⟩)],#[]⟩,⟨252,#[],#[.pointer (some ⟨lb,0,none⟩),.pointer (some ⟨mb,0,none⟩)]⟩,⟨253,#[],#[.pointer (some ⟨mb,0,none⟩),.pointer (some ⟨szb,0,none⟩),.pointer (some ⟨lb,0,none⟩)]⟩]
def apCs (lb mb szb d:Nat):Array Value:=#[.func (.func 250) #[] #[.pointer (some ⟨mb,0,none⟩),.pointer (some ⟨lb,0,none⟩)],.func (.func 166) #[.pointer (some ⟨d,0,none⟩)] #[],.func (.func 252) #[] #[.pointer (some ⟨lb,0,none⟩),.pointer (some ⟨mb,0,none⟩)],.func (.func 253) #[] #[.pointer (some ⟨mb,0,none⟩),.pointer (some ⟨szb,0,none⟩),.pointer (some ⟨lb,0,none⟩)]]
theorem appS_gives (u E:Nat)(p:Int)(s:Int)(Ay:Option Addr)(ky:Nat)(y:List UInt8)(hD:DkIs w d many g xs left false)(hl:xs.length<=800000)(h1l : -1000000<=left)(aC:left<=9223372036854775807)(aD:BlkIs w l 183 (lgC (some ⟨d,0,none⟩) fr pg sr ep sz none 0 0))(aO:BlkIs w lb 110 #[.pointer (some ⟨l,0,none⟩)])(aM:BlkIs w mb 181 #[.slice (some ⟨u,0,none⟩) 1 E])(aI:BlkIs w szb 3 #[.int .i64 s])
  (aX:1<=E) (aR:E<=9223372036854775807) (aV:w.rangeAt u 0 (frCells ep 0 p true s 0 Ay y.length ky).toList) (aJ:u<w.heap.size) (hy:InB w w.heap.size Ay ky y) (aW:∀g o,Ay=some ⟨g,o,none⟩->0<y.length->g≠d)
  (aA:l≠d) (aB:lb≠d) (aF:mb≠d) (aP:szb≠d) (aT:u≠d) (T:l≠lb) (O:l≠mb) (N:l≠szb) (aU:plE (planOk fr pg) 0 fr=0) (a0:frOk y.length 0 p true s=true) (aS:headOk sz 1=true) (aZ:11<=many) (aK:many<=1000000) (a1:sr+1<18446744073709551616) :
  Calls Tryz.prog 167 #[.slice (some ⟨w.heap.size,0,none⟩) 4 4] (w.alloc (.cells (apCs lb mb szb d) 54)) λe w'=>e = .returned (.int .i64 0)/\(∃B,DkIs w' d many B [] left false)/\BlkIs w' l 183 (lgC (some ⟨d,0,none⟩) fr pg (sr+1) ep s (some ⟨u,0,none⟩) 1 E)/\GrowBut (λk=>k=d∨k=l) w w':=by
 have a3:=hD.lt
 have aN:=aD.lt
 have q1:=aO.lt
 have q2:=aM.lt
 have q3:=aI.lt
 obtain⟨V,Z⟩:∃V,V=w.alloc (.cells (apCs lb mb szb d) 54):=⟨_,rfl⟩
 have C:Below w.heap.size w V:=by rw[Z];exact(Below.refl _ w).alloc (zH _) _
 have f0:BlkIs V w.heap.size 54 (apCs lb mb szb d):=by rw[Z];exact BlkIs.new w _ _
 rw[<-Z]
 clear Z
 have HS:=steps_gives V w.heap.size 4 (apFs lb mb szb d)
  (λk W=>(BlkIs W lb 110 #[.pointer (some ⟨l,0,none⟩)]/\BlkIs W mb 181 #[.slice (some ⟨u,0,none⟩) 1 E]/\BlkIs W szb 3 #[.int .i64 s]/\BlkIs W w.heap.size 54 (apCs lb mb szb d)/\GrowBut (λk=>k=d∨k=l) w W) /\
   (k=0->W=V) /\
   (k=1->(∃aG,aG.length<=xs.length+9/\DkIs W d many g aG left false)/\BlkIs W l 183 (lgC (some ⟨d,0,none⟩) fr pg sr ep sz none 0 0)) /\
   (k=2->(∃B,DkIs W d many B [] left false)/\BlkIs W l 183 (lgC (some ⟨d,0,none⟩) fr pg sr ep sz none 0 0)) /\
   (k=3->(∃B,DkIs W d many B [] left false)/\BlkIs W l 183 (lgC (some ⟨d,0,none⟩) fr pg (sr+1) ep sz none 0 0)) /\
   (k=4->(∃B,DkIs W d many B [] left false)/\BlkIs W l 183 (lgC (some ⟨d,0,none⟩) fr pg (sr+1) ep s (some ⟨u,0,none⟩) 1 E)))
  (λ_ _=>False) (by show 4<=100;omega)
  (by
   rintro k hk W ⟨⟨_,_,_,H,_⟩,_⟩
   rw[H.cell]
   match k,hk with
   | 0,_=>rfl
   | 1,_=>rfl
   | 2,_=>rfl
   | 3,_=>rfl
   | k+4,h=>exact absurd h (by simp[apFs]))
  (by
   rintro k hk W ⟨⟨h1,h2,K,H,G⟩,r0,r1,r2,r3,_⟩
   have a4:=G.size
   have m0:some lb≠some d:=λe=>by injection e with e;exact aB e
   have m1:some mb≠some d:=λe=>by injection e with e;exact aF e
   have m2:some szb≠some d:=λe=>by injection e with e;exact aP e
   have m3:some w.heap.size≠some d:=λe=>by injection e with e;omega
   have m4:some l≠some d:=λe=>by injection e with e;exact aA e
   match k,hk with
   | 0,_ =>
    obtain rfl:=r0 rfl
    refine⟨enters_of Tryz.func250 (by kernel_rfl) rfl,(app1_gives W l d many lb mb g xs left fr pg sr ep sz 0 u E ep p true s 0 Ay ky y (hD.grow C) (by omega) h1l aC (aD.below C aN) h1 h2 aX aR (λj v hj=>(C.cell (p:=⟨u,0+j,none⟩) aJ).trans (aV j v hj)) (zO aJ C.size) ((hy.below C).more C.size) aW aA aB aF aT aU a0 aZ aK).mono ?_⟩
    rintro e U ⟨rfl,hx,m⟩
    exact .inl ⟨rfl,⟨h1.grown m m0,h2.grown m m1,K.grown m m2,H.grown m m3,G.trans (GrowBut.grown m (λr e=>by cases e;exact .inl (.inl rfl)))⟩,(λe=>by cases e),(λ_=>⟨hx,(aD.below C aN).grown m m4⟩),(λe=>by cases e),(λe=>by cases e),(λe=>by cases e)⟩
   | 1,_ =>
    obtain⟨⟨aG,a2,I⟩,F⟩:=r1 rfl
    refine⟨enters_of Tryz.func166 (by kernel_rfl) rfl,(sync_gives W d many g _ left false I rfl (by omega) h1l aC).mono ?_⟩
    rintro e U ⟨rfl,aH,m⟩
    exact .inl ⟨rfl,⟨h1.grown m m0,h2.grown m m1,K.grown m m2,H.grown m m3,G.trans (GrowBut.grown m (λr e=>by cases e;exact .inl (.inl rfl)))⟩,(λe=>by cases e),(λe=>by cases e),(λ_=>⟨⟨_,aH⟩,F.grown m m4⟩),(λe=>by cases e),(λe=>by cases e)⟩
   | 2,_ =>
    obtain⟨⟨B,I⟩,F⟩:=r2 rfl
    refine⟨enters_of Tryz.func252 (by kernel_rfl) rfl,(app2_gives W l d many lb mb B [] left fr pg sr ep sz none 0 0 (some ⟨u,0,none⟩) 1 E I (by decide) h1l aC F h1 h2 aA aS (by omega) aK a1).mono ?_⟩
    rintro e U ⟨rfl,aH,aE,M⟩
    have z (q:Nat) (hq:q≠d) (aQ:l≠q):¬ (q=d∨q=l):=λe=>by rcases e with e|e;exact hq e;exact aQ e.symm
    exact .inl ⟨rfl,⟨M.blk h1 (z _ aB T),M.blk h2 (z _ aF O),M.blk K (z _ aP N),M.blk H (z _ (by omega) (by omega)),G.trans M⟩,(λe=>by cases e),(λe=>by cases e),(λe=>by cases e),(λ_=>⟨aH,aE⟩),(λe=>by cases e)⟩
   | 3,_ =>
    obtain⟨⟨B,I⟩,F⟩:=r3 rfl
    refine⟨enters_of Tryz.func253 (by kernel_rfl) rfl,(app3_gives W l lb mb fr pg (sr+1) ep sz szb (some ⟨d,0,none⟩) none 0 0 (some ⟨u,0,none⟩) 1 E s F h1 h2 K T O N).mono ?_⟩
    rintro e U ⟨rfl,rfl,aE⟩
    have aL:d≠l:=λe=>aA e.symm
    have aY:=F.drew.set 6 (.slice (some ⟨u,0,none⟩) 1 E)
    have z:w.heap.size≠l:=by omega
    exact .inl ⟨rfl,⟨(h1.drew.other (λe=>T e.symm) _).other (λe=>T e.symm) _,(h2.drew.other (λe=>O e.symm) _).other (λe=>O e.symm) _,(K.drew.other (λe=>N e.symm) _).other (λe=>N e.symm) _,(H.drew.other z _).other z _,
     ((G.trans (GrowBut.grown (grownBy_drew W none) (λr e=>by cases e))).trans (GrowBut.setCell _ _ _ (.inr rfl))).trans (GrowBut.setCell _ _ _ (.inr rfl))⟩,(λe=>by cases e),(λe=>by cases e),(λe=>by cases e),(λe=>by cases e),(λ_=>⟨⟨B,((I.grow (Below.refl _ _).drew).setOther F.drew (by show 7<=64;decide) aL _ _ rfl).setOther aY (by simp;show 7<=64;decide) aL _ _ rfl⟩,aE⟩)⟩
   | k+4,h=>exact absurd h (by simp[apFs]))
  ⟨⟨aO.below C q1,aM.below C q2,aI.below C q3,f0,GrowBut.below C⟩,(λ_=>rfl),(λe=>by cases e),(λe=>by cases e),(λe=>by cases e),(λe=>by cases e)⟩
 refine HS.mono ?_
 rintro e U (⟨rfl,⟨_,_,_,_,G⟩,_,_,_,_,r4⟩|⟨x,_,_,hx⟩)
 ·obtain⟨r5,r6⟩:=r4 rfl
  exact⟨rfl,r5,r6,G⟩
 ·exact hx.elim
end
end Go.Proofs.YtpibjkbadnffgaaGreat
