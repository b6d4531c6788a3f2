/- Texts that the proof of WalkRanges leans on, part 4. -/
import Derived.BigQuiet
import Derived.Maps.RangeRun
import Derived.Test.YtohmkffoojdahaaGreatWalkRangesB3
open Nat renaming reduceAdd->yB,reduceSub->yC
open Array renaming getD_eq_getD_getElem?->zX
set_option linter.unusedVariables false
set_option linter.unusedSimpArgs false
set_option maxRecDepth 100000
set_option maxHeartbeats 8000000

open Array renaming replicate->mI,setIfInBounds_comm->fP
open Go renaming Calls->nK,Addr->nN,Operand->nO,execOp->nQ,TypeId->nS,Oper->nh,Program->gF,Act->gh,Exit->mh,YieldsIf->eF
open Go.Act renaming put->nJ
open Go.ChangeMaps renaming setBlock->my
open Go.Code renaming region->lV
open Go.Deferred renaming ofValue->lP
open Go.Region renaming ready->nw,binds->gI,noSelect->lN,Mode->fK,free->fe,noSelect_spec->eD
open Go.Result renaming andThen->nM
open Go.RowKit renaming Below->nH
open Go.World renaming setRow->gM,cell?->mv
open List renaming range->mi
open Go.Proofs.Tryz renaming prog->Y3
open Go.Proofs.Tryz
open Go.Value renaming int->Y1,pointer->Y9,slice->X1,bool->X3,agg->Q0,tuple->Q2,map->Q1
open Go.IntKind renaming i64->Q4,u64->Q6,u32->Q7
open Go.Obj renaming cells->Q9
open Option renaming none->K3,some->K4
namespace Go.Proofs.YtohmkffoojdahaaGreat
section
open Go Go.RowKit xq Go.Shelf
attribute [local go_sem] Oper.semAt_some
theorem yN.oL {B p many:Nat}{g:Nat->Y4}{xs:List (Nat×Y4)}{left:Int}{stops:Bool}(hp:p<B){X Y:World}{row:Option Nat}(h:yN X p many g xs left stops)(C:X.grownBy Y row)(Z:∀r,row=some r->B<=r/\∃o:Obj,X.heap[r]?=some o/\wU o):yN Y p many g xs left stops:=by
 cases row with
 | none=>exact h.grow ⟨C.os,C.tape,C.output,C.size,λk hk=>C.block k hk (λe=>by cases e)⟩
 | some q =>
  obtain⟨hq,o,F,hs⟩:=Z q rfl;clear Z;cases o with
  | cells cs T fr =>
   obtain⟨h1,rfl⟩:=hs;exact h.other (show za X q T cs from F) h1 K5 C
  | loop lp =>
   obtain⟨r,A,c,hb,E,W,u⟩:=h.has;have V:r≠q:=λe=>by subst e;obtain⟨es,K,h1,_⟩:=E.pO;have N:X.heap[r]?=some (.map es K):=h1;rw[N] at F;cases F
   refine⟨r,A,c,hb.grown C (λe=>by injection e;omega),E.pR (C.block r E.lt (λe=>V (by injection e))),W,?_⟩;refine⟨u.le,u.max,u.nil,u.len,u.one,λM => ?_⟩;obtain⟨b,o,e,H,I⟩:=u.pO M;subst e;have O:b≠q:=λe=>by subst e;have h2:=I 0 ((VN xs)[0]'(by rw[u.len];omega)) (zM (by rw[u.len];omega));simp[mv,F] at h2
   exact⟨b,o,rfl,zO H C.size,λj v U=>(nW (C.block b H (λe=>O (by injection e)))).trans (I j v U)⟩
  | deferred dd =>
   obtain⟨r,A,c,hb,E,W,u⟩:=h.has;have V:r≠q:=λe=>by subst e;obtain⟨es,K,h1,_⟩:=E.pO;have N:X.heap[r]?=some (.map es K):=h1;rw[N] at F;cases F
   refine⟨r,A,c,hb.grown C (λe=>by injection e;omega),E.pR (C.block r E.lt (λe=>V (by injection e))),W,?_⟩;refine⟨u.le,u.max,u.nil,u.len,u.one,λM => ?_⟩;obtain⟨b,o,e,H,I⟩:=u.pO M;subst e;have O:b≠q:=λe=>by subst e;have h2:=I 0 ((VN xs)[0]'(by rw[u.len];omega)) (zM (by rw[u.len];omega));simp[mv,F] at h2
   exact⟨b,o,rfl,zO H C.size,λj v U=>(nW (C.block b H (λe=>O (by injection e)))).trans (I j v U)⟩
  | _=>exact hs.elim
namespace zb
theorem startR {P:gF}{ops:Array nh}{Q:mh->gh->World->Prop}{u l m:Nat}{a:gh}{w:World}(S:World->Prop)(fin:Nat)(q:P.follows .mixedOrders=true)(j:GM ops=true)(h:wpAnyF P .any ops (XW Q) S fin ops.size (mI ops.size false) a w.drew):(lV u ops true).wpIn (Fence.wide.inRound l) m P Q a w :=
 wpIn_mono (Q:=XW Q) (wpIn_region_any q (Di j _ _ _ _ (to_any _ _ _ _ h))) XW.imp
end zb
def JP (at_:Nat)(b:Y4)(m:Nat):List (Nat×Y4):=(mi m).map λi=>(at_+i,YJ b i)
theorem BB (at_:Nat)(b:Y4)(m:Nat):JP at_ b (m+1)=JP at_ b m++[(at_+m,YJ b m)]:=by unfold JP;rw[List.range_succ,qX];rfl
theorem Jg (at_:Nat)(b:Y4)(m:Nat):(JP at_ b m).length=m:=by unfold JP;simp
theorem xV {a b c:World}{row j:Option Nat}{B:Nat}(h:a.grownBy b row)(k:b.grownBy c j)(hB:a.heap.size<=B)(q:∀r,j=some r->B<=r):a.grownBy c row :=
 ⟨k.os.trans h.os,k.tape.trans h.tape,k.output.trans h.output,zT h.size k.size,λi hi hn=>(k.block i (zO hi h.size) (λe=>by have:=q i e.symm;omega)).trans (h.block i hi hn)⟩
theorem DR {X Y:World}{row:Option Nat}{p:nN}{v:Value}(hc:X.cell? p=some v)(h:X.grownBy Y row)(hl:p.block<X.heap.size)(hn:some p.block≠row):Y.cell? p=some v:=(nW (h.block _ hl hn)).trans hc
theorem IU (n:Nat)(hn:8<=n)(w:World)(l d many:Nat)(g:Nat->Y4)(xs:List (Nat×Y4))(left:Int)(T:yN w d many g xs left false)(hl:xs.length<=900000)(h1l : -1000000<=left)(aV:left<=9223372036854775807)
  (hc:w.cell? l=K4 (Y9 d)) (a6:l≠d) (a7:l<w.heap.size) (at_ m:Nat) (A:Y5) (c:Nat) (b:Y4) (aQ:qv w w.heap.size A c b) (aC:b.length=64*m) (hm:m<=16) (bA:at_+m<=many) (bC:many<=1000000) :
  CallsIn Fence.wide n Y3 173 #[Y9 l,Y1 Q4 (at_:Int),X1 A b.length c] w λe w'=>e=Y0 (Y1 Q4 0)/\yN w' d many g (xs++JP at_ b m) left false/\w.grownBy w' (some d):=by
 have h1:1<=n:=K5
 have aN:=T.lt;have b0:=((za.new w 306 #[Y9 l]).alloc (Q9 #[Y1 Q4 (at_:Int)] 3)).alloc (Q9 #[Y1 Q4 0] 27);have b1:=(za.new (w.alloc (Q9 #[Y9 l] 306)) 3 #[Y1 Q4 (at_:Int)]).alloc (Q9 #[Y1 Q4 0] 27);have b2:=za.new ((w.alloc (Q9 #[Y9 l] 306)).alloc (Q9 #[Y1 Q4 (at_:Int)] 3)) 27 #[Y1 Q4 0];rw[nG] at b1;rw[nG,nG] at b2;have aB:nH w.heap.size w (((w.alloc (Q9 #[Y9 l] 306)).alloc (Q9 #[Y1 Q4 (at_:Int)] 3)).alloc (Q9 #[Y1 Q4 0] 27)) :=
  (((nF _ w).alloc (zG _) _).alloc K9 _).alloc (by simp;omega) _
 have HC:=CR _ A c b ((aQ.below aB).more aB.size) K5;have aG:=nI aC;have bB:b.length<=1024:=K5
 clear aC;refine callsIn_of_wp_marks func173 rfl trivial ?_ rfl;simp only[ntmps173,zR,zK,zY,yB,yC,qC,qD,qO,qG,zQ,zW]
 gi_wp2_with (refine⟨trivial,?_⟩;gi_at_call 234;refine(callsIn_wide.2 HC).mono ?_;rintro e q ⟨gB,A2,c2,rfl,aP,aR,aA⟩)
 obtain⟨O⟩:Nonempty (nH w.heap.size w q):=⟨aB.trans (aA.mono aB.size)⟩;have bD:w.heap.size+3<=q.heap.size:=by have:=aA.size;simp at this;omega
 have aH:=T.grow O;have c0:=b0.below aA b0.lt;have c1:=b1.below aA b1.lt;have aU:=b2.below aA b2.lt;have a5:q.cell? l=K4 (Y9 d):=(O.cell (p:=⟨l,0,K3⟩) a7).trans hc;have a1:w.grownBy q (some d):=⟨O.os,O.tape,O.output,O.size,λk U _=>O.block k U⟩;have aK:0<b.length->∀g o,A2=some ⟨g,o,K3⟩->¬ g=d:=λh0 g o e=>by subst e;obtain⟨r,A',c',hb,_⟩:=aH.has;exact aR.pr h0 hb
 clear b0 b1 b2 aB HC T hc aQ aA;refine MZ (λa0 a V=>∃D,a={a0 with defers:={target:=.collected D,args:=#[]}::a0.defers}/\V.heap[D]?=some (.deferred (some []))/\q.heap.size<=D/\yN V d many g (xs++JP at_ b m) left false/\za V (w.heap.size+1+1) 27 #[Y1 Q4 0]/\w.grownBy V (some d)) ?_ ?_
 .intro Q' hQ;refine XK rfl h1 (gf:=296) (lb:=#[Y9 gB]) rfl trivial (zb.eo func296)
   (CS (n₀:=q.heap.size) (n-1) K5 gB A2 c2 b K5 (λk=>k=d) aK q aP.lt (zG _) aP.boxed aR) (nF _ _) (λ_=>rfl)
   (λj V=>yN V d many g (xs++JP at_ b j.length) left false/\za V w.heap.size 306 #[Y9 l]/\za V (w.heap.size+1) 3 #[Y1 Q4 (at_:Int)]/\za V (w.heap.size+1+1) 27 #[Y1 Q4 0]/\V.cell? l=K4 (Y9 d)/\w.grownBy V (some d)/\q.heap.size<=V.heap.size)
   (λ_ _ _=>False)
   ?own ?own2 ?ownR ⟨by rw[show JP at_ b ([]:List (Nat×(Y5×Nat))).length=[] from rfl,qW];exact aH,c0,c1,aU,a5,a1,zG _⟩ ?act ?assign ?body ?done ?stop
  case own =>
   rintro j X Y row ⟨H,u,I,i4,i5,i6,i7⟩ F hr;have aD:∀r,row=some r->q.heap.size<=r:=λr e=>(hr r e).1
   exact⟨H.oL (B:=q.heap.size) K5 F hr,u.dt (B:=q.heap.size) K5 F aD,I.dt (B:=q.heap.size) K5 F aD,i4.dt (B:=q.heap.size) K5 F aD,DR i5 F (by simp;omega) (λe=>by have:=aD _ e.symm;simp at this;omega),xV i6 F K5 aD,zT i7 F.size⟩
  case own2=>exact λc j X Y row h _ _=>h
  case ownR =>
   rintro j x _ X Y row ⟨v,C,e3⟩ F hr;exact⟨v,C,qv.pX (B:=q.heap.size) _ _ _ () X Y row e3 F hr⟩
  case assign =>
   intro l1 x V K hK;simp only[Ax]
   gi_wp2
   exact hK
  case body =>
   rintro l1 j ⟨x1,A6,c6⟩ V ⟨H,u,I,i4,i5,i6,i7⟩ ⟨aS,aT,aF⟩;simp only at aS aT aF;subst aS;have aC:=aG.out;have U:j.length<m:=K5
   have aE:kS b.length j.length=64:=by unfold kS;omega
   have aM:(YJ b j.length).length=64:=by rw[jZ,aE]
   have aL:(xs++JP at_ b j.length).length=xs.length+j.length:=by rw[zH,Jg]
   have HW:=Cz V.drew d many g (xs++JP at_ b j.length) left false (H.grow (nF _ _).drew) rfl (at_+j.length) K5 A6 c6 _ aM (aF.drew) (by rw[aL];omega) h1l aV;rw[Int.natCast_add] at HW;have k0:=u.boxed;have k1:=I.boxed;have a9:IntKind.i64.wrap ((at_:Int)+(j.length:Int))=(at_:Int)+(j.length:Int):=by rw[zg _]
   simp only[aE];clear aC aE aM aL aT aK;have E:V.drew.cell? w.heap.size=K4 (Y9 l)/\V.drew.cell? l=K4 (Y9 d)/\V.drew.cell? (w.heap.size+1:Nat)=K4 (Y1 Q4 (at_:Int)):=⟨k0,i5,k1⟩
   gi_wp2_with fail
   refine zb.startR (λW:World=>W.cell? w.heap.size=K4 (Y9 l)/\W.cell? l=K4 (Y9 d)/\W.cell? (w.heap.size+1:Nat)=K4 (Y1 Q4 (at_:Int))) 9 K6 K6 ?_;refine zb.q 0 (Y9 l) E ?_;refine zb.q 1 (Y9 l) E ?_;refine zb.q 2 (Y9 l) E ?_;refine zb.q 3 (Y9 d) E ?_;refine zb.q 4 (Y1 Q4 (at_:Int)) E ?_;refine zb.q 5 (Y1 Q4 (j.length:Int)) E ?_;refine zb.q 6 (Y1 Q4 ((at_:Int)+(j.length:Int))) E ?_;refine zb.q 7 (X1 A6 64 c6) E ?_;simp only[Z8];refine zb.n 8 ?_;refine zb.oC 235 #[.tmp 17,.tmp 20,.tmp 21] #[75,3,129] #[Y9 d,Y1 Q4 ((at_:Int)+(j.length:Int)),X1 A6 64 c6] (HW.mono ?_) (zb.eo func235);rintro e W6 ⟨rfl,aI,aO,_⟩;have N:V.grownBy W6 (some d):=(yM V (some d)).trans aO;have q0:=u.grown N (λe=>by injection e with e;omega);have q1:=I.grown N (λe=>by injection e with e;omega);have q2:=i4.grown N (λe=>by injection e with e;omega);have q3:W6.cell? l=K4 (Y9 d):=DR i5 N (by show l<V.heap.size;omega) (λe=>by injection e with e;exact a6 e);have q6:=N.size;refine⟨_,rfl,λ_=>⟨q0.boxed,q3,q1.boxed⟩,?_⟩;simp only[Z8];refine zb.n 9 (zb.opV (w':=W6) (Y1 Q4 0) rfl rfl K8 ⟨λh=>absurd rfl h,zb.dn ?_⟩);simp only[Z8];have a3:yN W6 d many g (xs++JP at_ b (j++[(j.length,A6,c6)]).length) left false:=by rw[show (j++[(j.length,A6,c6)]).length=j.length+1 by simp,BB,<-qQ];exact aI
   have a4:qf (λk=>k=d) q.heap.size V W6:=⟨q6,λk o U hm=>(N.block k (zI.1 U).1 (λe=>by injection e with e;exact hm K5 e)).trans U⟩;have a2:=i6.trans N;clear HW E aI aO k0 k1 a9 aF;dsimp only[XW]
   gi_wp2
   exact⟨a4,a3,q0,q1,q2,q3,a2,by omega⟩
  case done =>
   rintro D ys V T hS ⟨H,u,I,i4,i5,i6,i7⟩ hK;have aC:=aG.out;have a8:ys.length=m:=by rw[hS];unfold XV;omega
   rw[a8] at H;exact hQ _ _ ⟨D,rfl,hK,T,H,i4,i6⟩
  case stop =>
   rintro D c j V T hS h;exact h.elim
 rintro a V ⟨D,rfl,hK,T,H,u,I⟩;have k3:=u.boxed;have f3:=u.free 0
 gi_wp2
 have b6:=u.set 0 (Y1 Q4 0);have aJ:(V.setCell (w.heap.size+1+1:Nat) (Y1 Q4 0)).heap[D]?=some (.deferred (some [])):=(nU V ⟨w.heap.size+1+1,0,K3⟩ (Y1 Q4 0) D (by simp;omega)).trans hK;have g1:V.grownBy (V.setCell (w.heap.size+1+1:Nat) (Y1 Q4 0)) (some (w.heap.size+1+1)):=⟨rfl,rfl,rfl,by simp,λk _ U=>nU V _ _ k (λe=>U (by rw[e]))⟩;have aW:=H.oL (B:=w.heap.size) aN g1 (λr e=>by cases e;exact⟨by omega,_,u,by decide,rfl⟩);have aY:=xV I g1 (zG _) (λr e=>by cases e;omega);clear k3 f3 g1 H u I hK;generalize V.setCell (w.heap.size+1+1:Nat) (Y1 Q4 0)=Z at *;have g2:=grownBy_putObj' Z D (.deferred none);have aX:=aW.oL (B:=w.heap.size) aN g2 (λr e=>by cases e;exact⟨by omega,_,aJ,trivial⟩);have aZ:=xV aY g2 (zG _) (λr e=>by cases e;omega);refine⟨by simp,.inl ⟨D,_,rfl,run_takeDeferred aJ,?_⟩⟩;have b7:za (Z.putObj D (.deferred none)) (w.heap.size+1+1) 27 #[Y1 Q4 0]:=(Jr Z D (.deferred none) (g:=w.heap.size+1+1) K5).trans b6;exact⟨Y1 Q4 0,Yu (p:=⟨w.heap.size+1+1,0,K3⟩) 6 rfl rfl (by simp[go_sem]) b7.boxed,rfl,aX,aZ⟩
theorem KS (w:World)(l d many:Nat)(g:Nat->Y4)(xs:List (Nat×Y4))(left:Int)(j:yN w d many g xs left false)(hl:xs.length<=900000)(h1l : -1000000<=left)(h:left<=9223372036854775807)
  (hc:w.cell? l=K4 (Y9 d)) (B:l≠d) (C:l<w.heap.size) (at_ m:Nat) (A:Y5) (c:Nat) (b:Y4) (v:qv w w.heap.size A c b) (u:b.length=64*m) (E:m<=16) (q:at_+m<=many) (F:many<=1000000) :
  nK Y3 173 #[Y9 l,Y1 Q4 (at_:Int),X1 A b.length c] w λe w'=>e=Y0 (Y1 Q4 0)/\yN w' d many g (xs++JP at_ b m) left false/\w.grownBy w' (some d) :=
 callsIn_wide.1 (IU 8 (zG _) w l d many g xs left j hl h1l h hc B C at_ m A c b v u E q F)
end
section
open Go Go.RowKit xq
structure ze (Mu:Nat->Prop)(w w':World):Prop where
 os:w'.os=w.os
 tape:w'.tape=w.tape
 output:w'.output=w.output
 size:w.heap.size<=w'.heap.size
 block:∀k,k<w.heap.size->¬ Mu k->w'.heap[k]?=w.heap[k]?
namespace ze
variable {Mu:Nat->Prop}{a b c:World}
theorem refl (Mu:Nat->Prop)(a:World):ze Mu a a:=⟨rfl,rfl,rfl,zG _,λ_ _ _=>rfl⟩
theorem trans (h:ze Mu a b)(k:ze Mu b c):ze Mu a c:=⟨k.os.trans h.os,k.tape.trans h.tape,k.output.trans h.output,zT h.size k.size,λi hi hn=>(k.block i (zO hi h.size) hn).trans (h.block i hi hn)⟩
theorem below (h:nH a.heap.size a b):ze Mu a b:=⟨h.os,h.tape,h.output,h.size,λk j _=>h.block k j⟩
theorem grown {row:Option Nat}(h:a.grownBy b row)(q:∀r,row=some r->Mu r\/a.heap.size<=r):ze Mu a b:=⟨h.os,h.tape,h.output,h.size,λk j hn=>h.block k j (λe=>by rcases q k e.symm with h|h;exact hn h;omega)⟩
theorem blk (h:ze Mu a b){g:Nat}{t:nS}{cs:Y7}(hb:za a g t cs)(hn:¬ Mu g):za b g t cs:=(h.block g hb.lt hn).trans hb
theorem cell (h:ze Mu a b){p:nN}{v:Value}(hc:a.cell? p=some v)(hl:p.block<a.heap.size)(hn:¬ Mu p.block):b.cell? p=some v:=(nW (h.block _ hl hn)).trans hc
theorem toBelow (h:ze Mu a b){B:Nat}(hB:B<=a.heap.size)(j:∀k,Mu k->B<=k):nH B a b:=⟨h.os,h.tape,h.output,h.size,λk q=>h.block k K5 (λhn=>by have:=j k hn;omega)⟩
theorem more {Nu:Nat->Prop}(h:ze Mu a b)(q:∀k,Mu k->k<a.heap.size->Nu k):ze Nu a b:=⟨h.os,h.tape,h.output,h.size,λk j hn=>h.block k j (λu=>hn (q k u j))⟩
theorem setCell (w:World)(p:nN)(v:Value)(h:Mu p.block):ze Mu w (w.setCell p v):=⟨rfl,rfl,rfl,by simp,λk _ hn=>nU w p v k (λe=>hn (by rw[e];exact h))⟩
theorem inB (h:ze Mu a b){A:Y5}{k:Nat}{x:Y4}(hi:qv a a.heap.size A k x)(hn:∀g o,A=some ⟨g,o,K3⟩->0<x.length->¬ Mu g):qv b b.heap.size A k x:=by
 refine⟨hi.le,hi.max,hi.nil,λq => ?_⟩;obtain⟨g,o,e,u,hc⟩:=hi.pO q;exact⟨g,o,e,zO u h.size,λj v=>(nW (h.block g u (hn g o e q))).trans (hc j v)⟩
end ze
theorem yN.setOther {w:World}{p many:Nat}{g:Nat->Y4}{xs:List (Nat×Y4)}{left:Int}{stops:Bool}{q:Nat}{t:nS}{cs:Y7}(h:yN w p many g xs left stops)(hq:za w q t cs)(j:cs.size<=64)(B:p≠q)(a:nN)(v:Value)(ha:a.block=q):yN (w.setCell a v) p many g xs left stops:=by
 subst ha;exact h.other hq j B ⟨rfl,rfl,rfl,by simp,λk _ u=>nU w _ _ k (λe=>u (by rw[e]))⟩
section
variable (w:World)(l d many lb hb:Nat)(g:Nat->Y4)(xs:List (Nat×Y4))(left:Int)(hs he:Nat)(hz hc:Int)
theorem OZ (T:yN w d many g xs left false)(hl:xs.length<=900000)(h1l : -1000000<=left)(aE:left<=9223372036854775807)(I:za w lb 115 #[Y9 l])(E:za w hb 173 #[Y1 Q6 (hs:Int),Y1 Q6 (he:Int),Y1 Q4 hz,Y1 Q4 hc])
  (V:w.cell? l=K4 (Y9 d)) (aK:l≠d) (aP:lb≠d) (aO:hb≠d) (aL:l<w.heap.size) (aB:vl hz hc=true) (aQ:2<=many) (aM:many<=1000000) :
  nK Y3 171 #[Y9 hb,Y9 lb] w λe w'=>e=Y0 (Y1 Q4 0)/\yN w' d many g (xs++JP (hs%2) (ko hs he hz hc) 1) left false/\w.grownBy w' (some d):=by
 have K:(ko hs he hz hc).length=64:=by unfold ko;rw[if_pos aB];exact jK _ _ _ _
 have U:Om hz hc=0:=by unfold Om;rw[if_pos aB]
 have C:=Vl hs he hz hc w;rw[U] at C;unfold GW at C;rw[K] at C;have O:=nI K;obtain⟨r,M⟩:=Z9 (hs%2);have aC:=nI (show Int.tmod (hs:Int) 2=(r:Int) by rw[M];exact(Int.ofNat_tmod hs 2).symm);have aD:=nI (show IntKind.i64.wrap (r:Int)=(r:Int) from zg _);have aR:r<2:=K5
 rw[<-M];clear M;clear K U
 go_enter func171,ntmps171
 go_wp2_with (first
  |(refine yp yv E ?_)
  |(go_at_call 172;refine C.mono ?_;rintro e q ⟨A,c,rfl,aJ,B⟩))
 have aF:=T.grow B;have aA:=I.below B I.lt;have Z:=E.below B E.lt;have aH:q.cell? l=K4 (Y9 d):=(B.cell (p:=⟨l,0,K3⟩) aL).trans V;have aS:=B.size;have c1:q.cell? hb=K4 (Y1 Q6 (hs:Int)):=by rw[Z.cell];rfl
 have j:q.drew.cell? lb=K4 (Y9 l)/\q.drew.cell? hb=K4 (Y1 Q6 (hs:Int)):=⟨aA.boxed,c1⟩;have F:=KS q.drew l d many g xs left (aF.grow (nF _ _).drew) hl h1l aE aH aK (by show l<q.heap.size;omega) r 1 A c _ aJ.drew (by rw[O.out]) K5 K5 aM;rw[O.out] at F;clear C T I E V;refine zb.st (λW:World=>W.cell? lb=K4 (Y9 l)/\W.cell? hb=K4 (Y1 Q6 (hs:Int))) 9 ?_;refine zb.q 0 (Y9 l) j ?_;refine zb.q 1 (Y9 l) j ?_;refine zb.q 2 (Y9 l) j ?_;refine zb.q 3 (Y9 hb) j ?_;refine zb.q 4 (Y1 Q6 (hs:Int)) j ?_;refine zb.t 5 (Y1 Q6 (r:Int)) rfl j (λW ⟨u,v⟩=>by have e9:=aC.out;go_simp) ?_;refine zb.t 6 (Y1 Q4 (r:Int)) rfl j (λW ⟨u,v⟩=>by have e9:=aD.out;go_simp) ?_;refine zb.q 7 (X1 A 64 c) j ?_;simp only[Z8];refine zb.n 8 ?_;refine zb.oC 173 #[.tmp 12,.tmp 16,.tmp 17] #[167,3,129] #[Y9 l,Y1 Q4 (r:Int),X1 A 64 c] (F.mono ?_) (zb.eo func173);rintro e N ⟨rfl,aG,aI⟩;have H:q.grownBy N (some d):=(yM q (some d)).trans aI;have q0:=aA.grown H (λe=>by injection e with e;omega);have q1:=Z.grown H (λe=>by injection e with e;omega);have aN:N.cell? hb=K4 (Y1 Q6 (hs:Int)):=by rw[q1.cell];rfl
 refine⟨_,rfl,λ_=>⟨q0.boxed,aN⟩,?_⟩;simp only[Z8];refine zb.n 9 (zb.opV (w':=N) (Y1 Q4 0) rfl rfl K8 ⟨λh=>absurd rfl h,zb.dn ?_⟩);simp only[Z8];clear F j;go_wp2;go_ret;exact⟨rfl,aG,(ja B d).trans H⟩
theorem OY (D:Y5)(fr pg:Int)(sr ep:Nat)(sz:Int)(A:Y5)(n c:Nat)(T:za w lb 115 #[Y9 l])(K:za w hb 173 #[Y1 Q6 (hs:Int),Y1 Q6 (he:Int),Y1 Q4 hz,Y1 Q4 hc])(H:za w l 171 (ZC D fr pg sr ep sz A n c))(V:l≠lb)(U:l≠hb):nK Y3 174 #[Y9 hb,Y9 lb] w λe w'=>e=Y0 (Y1 Q4 0)/\w'=(w.drew.setCell ⟨l,3,K3⟩ (Y1 Q6 (hs:Int))).setCell ⟨l,4,K3⟩ (Y1 Q6 (he:Int))/\za w' l 171 (ZC D fr pg hs he sz A n c):=by
 have c0:=T.boxed;have c1:w.cell? hb=K4 (Y1 Q6 (hs:Int)):=by rw[K.cell];rfl
 have c2:w.cell? ⟨hb,1,K3⟩=K4 (Y1 Q6 (he:Int)):=by rw[K.cell];rfl
 have g3:w.cell? ⟨l,3,K3⟩=K4 (Y1 Q6 (sr:Int)):=by rw[H.cell];rfl
 have g4:w.cell? ⟨l,4,K3⟩=K4 (Y1 Q6 (ep:Int)):=by rw[H.cell];rfl
 have N:=H.free 3;have O:=H.free 4
 go_enter func174,ntmps174
 go_wp2_with fail
 have E:(w.drew.cell? lb=K4 (Y9 l)/\w.drew.cell? hb=K4 (Y1 Q6 (hs:Int))/\w.drew.cell? ⟨hb,1,K3⟩=K4 (Y1 Q6 (he:Int)))/\w.drew.frozen? ⟨l,3,K3⟩=false/\w.drew.frozen? ⟨l,4,K3⟩=false:=⟨⟨c0,c1,c2⟩,N,O⟩;refine zb.st (λW:World=>(W.cell? lb=K4 (Y9 l)/\W.cell? hb=K4 (Y1 Q6 (hs:Int))/\W.cell? ⟨hb,1,K3⟩=K4 (Y1 Q6 (he:Int)))/\W.frozen? ⟨l,3,K3⟩=false/\W.frozen? ⟨l,4,K3⟩=false) 11 ?_;refine zb.t 0 (Y9 l) rfl E (λW j=>by obtain⟨⟨q,u,v⟩,B,C⟩:=j;go_simp) ?_;refine zb.t 1 (Y9 l) rfl E (λW j=>by obtain⟨⟨q,u,v⟩,B,C⟩:=j;go_simp) ?_;refine zb.t 2 (Y9 hb) rfl E (λW j=>by obtain⟨⟨q,u,v⟩,B,C⟩:=j;go_simp) ?_;refine zb.t 3 (Y1 Q6 (hs:Int)) rfl E (λW j=>by obtain⟨⟨q,u,v⟩,B,C⟩:=j;go_simp) ?_;refine zb.t 4 (Y9 (K4 ⟨hb,1,K3⟩)) rfl E (λW j=>by obtain⟨⟨q,u,v⟩,B,C⟩:=j;go_simp) ?_;refine zb.t 5 (Y1 Q6 (he:Int)) rfl E (λW j=>by obtain⟨⟨q,u,v⟩,B,C⟩:=j;go_simp) ?_;refine zb.t 6 (Y9 l) rfl E (λW j=>by obtain⟨⟨q,u,v⟩,B,C⟩:=j;go_simp) ?_;refine zb.t 7 (Y9 (K4 ⟨l,3,K3⟩)) rfl E (λW j=>by obtain⟨⟨q,u,v⟩,B,C⟩:=j;go_simp) ?_;simp only[Z8];have I:=H.drew.set 3 (Y1 Q6 (hs:Int));have Z:¬ l=lb:=V;have M:¬ l=hb:=U;have F:((w.drew.setCell ⟨l,3,K3⟩ (Y1 Q6 (hs:Int))).cell? lb=K4 (Y9 l)/\(w.drew.setCell ⟨l,3,K3⟩ (Y1 Q6 (hs:Int))).cell? hb=K4 (Y1 Q6 (hs:Int))/\(w.drew.setCell ⟨l,3,K3⟩ (Y1 Q6 (hs:Int))).cell? ⟨hb,1,K3⟩=K4 (Y1 Q6 (he:Int)))/\(w.drew.setCell ⟨l,3,K3⟩ (Y1 Q6 (hs:Int))).frozen? ⟨l,3,K3⟩=false/\(w.drew.setCell ⟨l,3,K3⟩ (Y1 Q6 (hs:Int))).frozen? ⟨l,4,K3⟩=false :=
  ⟨⟨(mZ _ _ _ _ (λe=>Z (congrArg Addr.block e))).trans c0,(mZ _ _ _ _ (λe=>M (congrArg Addr.block e))).trans c1,(mZ _ _ _ _ (λe=>M (congrArg Addr.block e))).trans c2⟩,I.free 3,I.free 4⟩
 refine zb.n 8 (zb.opS (w':=w.drew.setCell ⟨l,3,K3⟩ (Y1 Q6 (hs:Int))) rfl rfl K8 ⟨λ_=>F,?_⟩);simp only[zD,zC,zB,nJ];refine zb.n 9 (zb.opV (w':=w.drew.setCell ⟨l,3,K3⟩ (Y1 Q6 (hs:Int))) (Y9 l) rfl rfl (by obtain⟨⟨q,u,v⟩,B,C⟩:=F;go_simp) ⟨λ_=>F,?_⟩);simp only[Z8];refine zb.n 10 (zb.opV (w':=w.drew.setCell ⟨l,3,K3⟩ (Y1 Q6 (hs:Int))) (Y9 (K4 ⟨l,4,K3⟩)) rfl rfl (by obtain⟨⟨q,u,v⟩,B,C⟩:=F;go_simp) ⟨λ_=>F,?_⟩);simp only[Z8];obtain⟨_,_,f5⟩:=F;refine zb.n 11 (zb.opS (w':=(w.drew.setCell ⟨l,3,K3⟩ (Y1 Q6 (hs:Int))).setCell ⟨l,4,K3⟩ (Y1 Q6 (he:Int))) rfl rfl K8 ⟨λh=>absurd rfl h,zb.dn ?_⟩);simp only[zD,zC,zB,nJ];clear E;go_wp2;go_ret;exact⟨rfl,rfl,I.set 4 (Y1 Q6 (he:Int))⟩
theorem Ms (fr pg:Int)(sr ep:Nat)(sz:Int)(A:Y5)(n c:Nat)(I:yN w d many g xs left false)(hl:xs.length<=900000)(h1l : -1000000<=left)(aA:left<=9223372036854775807)(N:za w l 171 (ZC (K4 ⟨d,0,K3⟩) fr pg sr ep sz A n c))(H:l≠d)(aI:vl hz hc=true)(aG:2<=many)(aH:many<=1000000):nK Y3 104 #[Y9 l,Q0 #[Y1 Q6 (hs:Int),Y1 Q6 (he:Int),Y1 Q4 hz,Y1 Q4 hc]] w λe w'=>e=Y0 (Y1 Q4 0)/\yN w' d many (laid g (xs++JP (hs%2) (ko hs he hz hc) 1)) [] left false/\za w' l 171 (ZC (K4 ⟨d,0,K3⟩) fr pg hs he sz A n c)/\ze (λk=>k=d\/k=l) w w':=by
 have aK:=I.lt;have aF:=N.lt;have k0:w.cell? l=K4 (Y9 (K4 ⟨d,0,K3⟩)):=by rw[N.cell];rfl
 obtain⟨W1,v⟩:=Z9 ((((w.alloc (Q9 #[Y9 l] 115)).alloc (Q9 #[Y1 Q6 (hs:Int),Y1 Q6 (he:Int),Y1 Q4 hz,Y1 Q4 hc] 173)).alloc (Q9 #[.func (.func 171) #[] #[Y9 (w.heap.size+1:Nat),Y9 w.heap.size],.func (.func 169) #[Y9 (K4 ⟨d,0,K3⟩)] #[],.func (.func 174) #[] #[Y9 (w.heap.size+1:Nat),Y9 w.heap.size]] 84)));have F:nH w.heap.size w W1:=by rw[v];exact(((nF _ w).alloc (zG _) _).alloc K9 _).alloc (by simp;omega) _
 have b0:za W1 w.heap.size 115 #[Y9 l]:=by rw[v];exact((za.new w _ _).alloc _).alloc _
 have b1:za W1 (w.heap.size+1) 173 #[Y1 Q6 (hs:Int),Y1 Q6 (he:Int),Y1 Q4 hz,Y1 Q4 hc]:=by have:=(za.new (w.alloc (Q9 #[Y9 l] 115)) 173 #[Y1 Q6 (hs:Int),Y1 Q6 (he:Int),Y1 Q4 hz,Y1 Q4 hc]);rw[nG] at this;rw[v];exact this.alloc _
 have b2:za W1 (w.heap.size+1+1) 84 #[.func (.func 171) #[] #[Y9 (w.heap.size+1:Nat),Y9 w.heap.size],.func (.func 169) #[Y9 (K4 ⟨d,0,K3⟩)] #[],.func (.func 174) #[] #[Y9 (w.heap.size+1:Nat),Y9 w.heap.size]]:=by have:=za.new ((w.alloc (Q9 #[Y9 l] 115)).alloc (Q9 #[Y1 Q6 (hs:Int),Y1 Q6 (he:Int),Y1 Q4 hz,Y1 Q4 hc] 173)) 84 #[.func (.func 171) #[] #[Y9 (w.heap.size+1:Nat),Y9 w.heap.size],.func (.func 169) #[Y9 (K4 ⟨d,0,K3⟩)] #[],.func (.func 174) #[] #[Y9 (w.heap.size+1:Nat),Y9 w.heap.size]];rw[nG,nG] at this;rw[v];exact this
 obtain⟨fs,E⟩:∃fs:List re,fs=[⟨171,#[],#[Y9 (w.heap.size+1:Nat),Y9 w.heap.size]⟩,⟨169,#[Y9 (K4 ⟨d,0,K3⟩)],#[]⟩,⟨174,#[],#[Y9 (w.heap.size+1:Nat),Y9 w.heap.size]⟩]:=⟨_,rfl⟩;have HX:(JP (hs%2) (ko hs he hz hc) 1).length=1:=Jg _ _ _;have HS:=UJ W1 (w.heap.size+1+1) 3 fs
  (λk V=>(za V w.heap.size 115 #[Y9 l]/\za V (w.heap.size+1) 173 #[Y1 Q6 (hs:Int),Y1 Q6 (he:Int),Y1 Q4 hz,Y1 Q4 hc]/\za V (w.heap.size+1+1) 84 #[.func (.func 171) #[] #[Y9 (w.heap.size+1:Nat),Y9 w.heap.size],.func (.func 169) #[Y9 (K4 ⟨d,0,K3⟩)] #[],.func (.func 174) #[] #[Y9 (w.heap.size+1:Nat),Y9 w.heap.size]]/\ze (λk=>k=d\/k=l) w V) /\
   (k=0->yN V d many g xs left false/\za V l 171 (ZC (K4 ⟨d,0,K3⟩) fr pg sr ep sz A n c)) /\
   (k=1->yN V d many g (xs++JP (hs%2) (ko hs he hz hc) 1) left false/\za V l 171 (ZC (K4 ⟨d,0,K3⟩) fr pg sr ep sz A n c)) /\
   (k=2->yN V d many (laid g (xs++JP (hs%2) (ko hs he hz hc) 1)) [] left false/\za V l 171 (ZC (K4 ⟨d,0,K3⟩) fr pg sr ep sz A n c)) /\
   (k=3->yN V d many (laid g (xs++JP (hs%2) (ko hs he hz hc) 1)) [] left false/\za V l 171 (ZC (K4 ⟨d,0,K3⟩) fr pg hs he sz A n c)))
  (λ_ _=>False) (by rw[E];simp)
  (by
   rintro k M W ⟨⟨_,_,B,_⟩,_⟩;rw[B.cell];subst E
   match k,M with
   | 0,_=>rfl
   | 1,_=>rfl
   | 2,_=>rfl
   | k+3,h=>exact absurd h K9)
  (by
   rintro k M W ⟨⟨h1,h2,B,u⟩,q0,q1,q2,q3⟩;have aL:=u.size;subst E
   match k,M with
   | 0,_ =>
    obtain⟨C,q⟩:=q0 rfl;have aJ:W.cell? l=K4 (Y9 (K4 ⟨d,0,K3⟩)):=by rw[q.cell];rfl
    refine⟨zb.eo func171,(OZ W l d many w.heap.size (w.heap.size+1) g xs left hs he hz hc C hl h1l aA h1 h2 aJ H K5 K5 K5 aI aG aH).mono ?_⟩;rintro e Z ⟨rfl,K,j⟩;have O:some w.heap.size≠some d:=λe=>by injection e with e;omega
    have T:some (w.heap.size+1)≠some d:=λe=>by injection e with e;omega
    have U:some (w.heap.size+1+1)≠some d:=λe=>by injection e with e;omega
    exact .inl ⟨rfl,⟨h1.grown j O,h2.grown j T,B.grown j U,u.trans (ze.grown j (λr e=>by cases e;exact .inl (.inl rfl)))⟩,(λe=>by cases e),(λ_=>⟨K,q.grown j (λe=>by injection e with e;exact H e)⟩),(λe=>by cases e),(λe=>by cases e)⟩
   | 1,_ =>
    obtain⟨C,q⟩:=q1 rfl;refine⟨zb.eo func169,(Gi W d many g _ left false C rfl (by rw[zH,HX];omega) h1l aA).mono ?_⟩;rintro e Z ⟨rfl,K,j⟩;have O:some w.heap.size≠some d:=λe=>by injection e with e;omega
    have T:some (w.heap.size+1)≠some d:=λe=>by injection e with e;omega
    have U:some (w.heap.size+1+1)≠some d:=λe=>by injection e with e;omega
    exact .inl ⟨rfl,⟨h1.grown j O,h2.grown j T,B.grown j U,u.trans (ze.grown j (λr e=>by cases e;exact .inl (.inl rfl)))⟩,(λe=>by cases e),(λe=>by cases e),(λ_=>⟨K,q.grown j (λe=>by injection e with e;exact H e)⟩),(λe=>by cases e)⟩
   | 2,_ =>
    obtain⟨C,q⟩:=q2 rfl;refine⟨zb.eo func174,(OY W l w.heap.size (w.heap.size+1) hs he hz hc (K4 ⟨d,0,K3⟩) fr pg sr ep sz A n c h1 h2 q K5 K5).mono ?_⟩;rintro e Z ⟨rfl,rfl,aE⟩;have aB:d≠l:=λe=>H e.symm
    have aD:=q.drew.set 3 (Y1 Q6 (hs:Int))
    exact .inl ⟨rfl,⟨(h1.drew.other (by show ¬ _=l;omega) _).other (by show ¬ _=l;omega) _,(h2.drew.other (by show ¬ _=l;omega) _).other (by show ¬ _=l;omega) _,(B.drew.other (by show ¬ _=l;omega) _).other (by show ¬ _=l;omega) _,
     ((u.trans (ze.grown (yM W none) (λr e=>by cases e))).trans (ze.setCell _ _ _ (.inr rfl))).trans (ze.setCell _ _ _ (.inr rfl))⟩,(λe=>by cases e),(λe=>by cases e),(λe=>by cases e),(λ_=>⟨((C.grow (nF _ _).drew).setOther q.drew (by show 7<=64;decide) aB _ _ rfl).setOther aD (by simp;show 7<=64;decide) aB _ _ rfl,aE⟩)⟩
   | k+3,h=>exact absurd h K9)
  ⟨⟨b0,b1,b2,ze.below F⟩,(λ_=>⟨I.grow F,N.below F aF⟩),(λe=>by cases e),(λe=>by cases e),(λe=>by cases e)⟩
 have aC:fs.length=3:=by rw[E];rfl
 rw[aC,v] at HS;clear v b0 b1 b2 F E I
 go_enter func104,ntmps104
 go_wp2_with (go_at_call 170;refine HS.mono ?_;rintro e Z (⟨rfl,⟨_,_,_,u⟩,_,_,_,q3⟩|⟨x,_,_,hx⟩))
 obtain⟨q4,q5⟩:=q3 (by first|rfl|trivial);go_ret;exact⟨rfl,q4,q5,u⟩
end
namespace zb
section
variable {P:gF}{ops:Array nh}{Q:mh->gh->World->Prop}{md:fK}{S:World->Prop}{fin:Nat}
theorem first0 {i:Nat}{B:nh}{v:Value}(hi:ops[i]?=some B)(aA:∀(j:Nat) (o:nh) cs b,ops[j]?=some o->o.op≠.select cs b)
  (hQ:∀c a w,Q (.panic c) (a.put B.dst v) w->Q (.panic c) a w) (U:ops[fin]?=none) :
  ∀(E:Nat) (listed:Array Bool) (a:gh) (w:World),
   (∀j C,ops[j]?=some C->j≠i->listed.getD j true=false->(∀e∈C.after,gI md e=true->e.on≠i)->B.apart ops C=true) ->
   i∈nw md ops listed->eF P ops S B v a->S w ->
   wpAnyF P md ops Q S fin E (listed.setIfInBounds i true) (a.put B.dst v) w->wpAnyF P md ops Q S fin (E+1) listed a w:=by
 intro E
 induction E with
 | zero =>
  intro listed a w _ u N F H;refine⟨λh=>(by rw[h] at u;cases u),λj K => ?_⟩
  by_cases q:j=i
  .subst q;exact N.wpOp hi F ⟨λ_=>F,H⟩
  .have:=fG K q;rw[H.1] at this;cases this
 | succ E ih =>
  intro listed a w V u N F H;refine⟨λh=>(by rw[h] at u;cases u),λj K => ?_⟩
  by_cases q:j=i
  .subst q;exact N.wpOp hi F ⟨λ_=>F,H⟩
  .have h1:=H.2 j (fG K q);obtain⟨Z,C,M,aC⟩:=mem_ready.1 K;have aI:∀e∈C.after,gI md e=true->e.on≠i:=λe he hb aD=>by
    have h1:=aC e he hb;have T:=(mem_ready.1 u).1;rw[aD] at h1;rcases mw i listed.size with O | O
    .simp[O] at T h1;rw[T] at h1;cases h1
    .simp[gg O] at h1
   have aF:j≠fin:=λe=>by subst e;rw[M] at U;cases U
   have h2:=wpOp_putIf M (V j C M q Z aI) (λcs b=>aA i B cs b hi) (λcs b=>aA j C cs b M) hQ N h1;have aE:∀k ok,ops[k]?=some ok->k≠i->(listed.setIfInBounds j true).getD k true=false ->
     (∀e∈ok.after,gI md e=true->e.on≠i)->B.apart ops ok=true:=λk ok hk aG aB aH=>by
    refine V k ok hk aG ?_ aH
    by_cases W:j=k
    .subst W;exact Z
    .rw[getD_set_ne true W] at aB;exact aB
   refine wpOp_mono (λa' w' I=>⟨I.2.1,ih (listed.setIfInBounds j true) a' w' aE (fG u (Ne.symm q)) I.1 (I.2.1 aF) ?_⟩) h2;rw[fP _ _ q];exact I.2.2
theorem take0 {q:Nat}{listed:Array Bool}{a:gh}{w:World}(i:Nat){j:nh}(v:Value)(hi:ops[i]?=some j)
  (hs:lN ops=true) (hf:fe md ops listed i=true) (E:(nw md ops listed).contains i=true) (C:ops[fin]?=none)
  (u:∀c a w,Q (.panic c) (a.put j.dst v) w->Q (.panic c) a w) (B:S w) (F:eF P ops S j v a)
  (h:wpAnyF P md ops Q S fin q (listed.setIfInBounds i true) (a.put j.dst v) w):wpAnyF P md ops Q S fin (q+1) listed a w :=
 first0 hi (eD hs) u C q listed a w (Region.free_spec hi hf) (by simpa using E) F B h
theorem join {q:Nat}{listed:Array Bool}{a:gh}{w:World}(R:gh->World->Prop)(m:Nat)(L:Array Bool)(h2:∀a w,R a w->wpAnyF P md ops Q S fin m L a w)(h1:(∀j h a w,j=m->h=L->R a w->wpAnyF P md ops Q S fin j h a w)->wpAnyF P md ops Q S fin q listed a w):wpAnyF P md ops Q S fin q listed a w :=
 h1 λj h a w u v B=>by subst u v;exact h2 a w B
theorem k0 {q:Nat}{listed:Array Bool}{a:gh}{w:World}(i:Nat){j:nh}(v:Value)(hi:ops[i]?=some j)(B:S w)(F:eF P ops S j v a)(h:wpAnyF P md ops Q S fin q (listed.setIfInBounds i true) (a.put j.dst v) w)(hs:lN ops=true:=by kernel_rfl)(hf:fe md ops listed i=true:=by kernel_rfl)(E:(nw md ops listed).contains i=true:=by kernel_rfl)(C:ops[fin]?=none:=by rfl)(u:∀c a w,Q (.panic c) (a.put j.dst v) w->Q (.panic c) a w:=by exact λ_ _ _ h=>h):wpAnyF P md ops Q S fin (q+1) listed a w :=
 take0 i v hi hs hf E C u B F h
theorem t0 {q:Nat}{listed:Array Bool}{a:gh}{w:World}(i:Nat){j:nh}(v:Value)(hi:ops[i]?=some j)(B:S w)(h1:∀W,S W->(nQ a.eval j).run P W=.ok (.value v) W)(h:wpAnyF P md ops Q S fin q (listed.setIfInBounds i true) (a.put j.dst v) w)(hs:lN ops=true:=by kernel_rfl)(hf:fe md ops listed i=true:=by kernel_rfl)(F:(nw md ops listed).contains i=true:=by kernel_rfl)(C:ops[fin]?=none:=by rfl)(u:∀c a w,Q (.panic c) (a.put j.dst v) w->Q (.panic c) a w:=by exact λ_ _ _ h=>h)(E:j.guard=none:=by rfl):wpAnyF P md ops Q S fin (q+1) listed a w :=
 take0 i v hi hs hf F C u B (yld E h1) h
theorem q0 {q:Nat}{listed:Array Bool}{a:gh}{w:World}(i:Nat){j:nh}(v:Value)(B:S w)(h:wpAnyF P md ops Q S fin q (listed.setIfInBounds i true) (a.put j.dst v) w)(hi:ops[i]?=some j:=by rfl)(h1:∀W,S W->(nQ a.eval j).run P W=.ok (.value v) W:=by intro _ hW;(try dsimp only at hW);go_simp)(hs:lN ops=true:=by kernel_rfl)(hf:fe md ops listed i=true:=by kernel_rfl)(F:(nw md ops listed).contains i=true:=by kernel_rfl)(C:ops[fin]?=none:=by rfl)(u:∀c a w,Q (.panic c) (a.put j.dst v) w->Q (.panic c) a w:=by exact λ_ _ _ h=>h)(E:j.guard=none:=by rfl):wpAnyF P md ops Q S fin (q+1) listed a w :=t0 i v hi B h1 h hs hf F C u E
end
end zb
namespace zb
theorem opCT {P:gF}{ops:Array nh}{Q:mh->gh->World->Prop}{i:Nat}{o:nh}{K:gh->World->Prop}{a:gh}{w:World}(f:FuncId)(x:nO)(xs:Array nO)(F:Array nS)(B:ops[i]?=some o)(u:o.guard=none)(hc:o.op=.call {callee:=.value x,args:=xs,argTypes:=F})
  (E:a.eval x=.func (.func f) #[] #[]) (q:∀args w,(callFunc f args).run P w=.ok (.enter f args) w) (args:Y7) (ha:xs.map a.eval=args) (h:nK P f args w λe w'=>∃v,e=Y0 v/\K (a.put o.dst v) w'):wpOp P ops Q i K a w:=by
 unfold wpOp;simp only[B];rw[if_pos (by simp[Region.wanted,u])];left;have C:(nQ a.eval o).run P w=.ok (.enter f args) w:=by simp[nQ,hc,resolve,ha,E,lP,invoke,q args w]
 unfold Oper.wp;rw[C,Oper.upon_enter];refine h.mono ?_;rintro e w' ⟨v,rfl,j⟩;exact j
end zb
theorem MJ (w:World)(x:Nat):nK Y3 229 #[Y1 Q6 (x:Int)] w λe w'=>e=Y0 (X3 false)/\w=w':=by
 go_enter func229,ntmps229
 go_wp2;go_ret;exact⟨rfl,rfl⟩
theorem GA (w:World)(x:Nat):nK Y3 167 #[Y1 Q6 (x:Int),Y1 Q6 (x:Int)] w λe w'=>e=Y0 (Y1 Q4 0)/\w=w':=by
 go_enter func167,ntmps167
 go_wp2_with (go_at_call 229;refine(MJ w x).mono ?_;rintro e w' ⟨rfl,rfl⟩)
 go_ret;exact⟨rfl,rfl⟩
theorem PQ (w:World)(x a b:Nat)(p q h j:Int):nK Y3 166 #[Q0 #[Y1 Q6 (x:Int),Y1 Q6 (a:Int),Y1 Q4 p,Y1 Q4 q],Q0 #[Y1 Q6 (x:Int),Y1 Q6 (b:Int),Y1 Q4 h,Y1 Q4 j]] w λe w'=>e=Y0 (Y1 Q4 0)/\nH w.heap.size w w':=by
 have hB:nH w.heap.size w ((w.alloc (Q9 #[Y1 Q6 (x:Int),Y1 Q6 (a:Int),Y1 Q4 p,Y1 Q4 q] 173)).alloc (Q9 #[Y1 Q6 (x:Int),Y1 Q6 (b:Int),Y1 Q4 h,Y1 Q4 j] 173)):=((nF _ w).alloc (zG _) _).alloc K9 _
 go_enter func166,ntmps166
 go_wp2_with (go_at_call 167;refine(GA _ x).mono ?_;rintro e w' ⟨rfl,rfl⟩)
 go_ret;exact⟨rfl,hB⟩
def ZP:Y8:=[Y1 Q6 0,Y1 Q6 0,Y1 Q4 0,Y1 Q4 0]
theorem OP (w:World)(q:Nat)(T:nS)(hq:za w q T (ZP++ZP).toArray):nK Y3 168 #[X1 (K4 ⟨q,0,K3⟩) 2 2,.func (.func 166) #[] #[]] w λe w'=>e=Y0 (Q0 #[Y1 Q6 0,Y1 Q6 0,Y1 Q4 0,Y1 Q4 0])/\nH w.heap.size w w':=by
 have M:=hq.lt;have F:w.rangeAt q 0 (ZP++ZP):=by have:=hq.dH 0 (n:=8);exact this
 have H:w.rangeAt q 4 ZP:=λj v u=>by have:=F (4+j) v (by rw[qU (by simp[ZP]),show 4+j-ZP.length=j by simp[ZP]];exact u);simpa using this
 have N:w.rangeAt q 0 ZP:=λj v u=>F j v (by rw[gj (qM.1 u).1];exact u)
 have Z:∀v∈(#[Y1 Q6 0,Y1 Q6 0,Y1 Q4 0,Y1 Q4 0]:Y7).toList,v.oneCell'=true:=by intro v V;simp at V;rcases V with rfl|rfl<;>rfl
 have E:nH w.heap.size w (w.alloc (Q9 #[Y1 Q6 0,Y1 Q6 0,Y1 Q4 0,Y1 Q4 0] 173)):=(nF _ w).alloc (zG _) _;have O:(w.alloc (Q9 #[Y1 Q6 0,Y1 Q6 0,Y1 Q4 0,Y1 Q4 0] 173)).rangeAt q 0 ZP:=λj v u=>(E.cell (p:=⟨q,0+j,K3⟩) M).trans (N j v u)
 have b1:=za.new (w.alloc (Q9 #[Y1 Q6 0,Y1 Q6 0,Y1 Q4 0,Y1 Q4 0] 173)) 173 #[Y1 Q6 0,Y1 Q6 0,Y1 Q4 0,Y1 Q4 0];have I:=(za.new w 173 #[Y1 Q6 0,Y1 Q6 0,Y1 Q4 0,Y1 Q4 0]).alloc (Q9 #[Y1 Q6 0,Y1 Q6 0,Y1 Q4 0,Y1 Q4 0] 173);rw[nG] at b1;have K:nH w.heap.size w ((w.alloc (Q9 #[Y1 Q6 0,Y1 Q6 0,Y1 Q4 0,Y1 Q4 0] 173)).alloc (Q9 #[Y1 Q6 0,Y1 Q6 0,Y1 Q4 0,Y1 Q4 0] 173)):=E.alloc K9 _
 go_enter func168,ntmps168
 go_wp2_with (first
  |(refine zp rfl (yQ yv O rfl rfl rfl) ?_)
  |(refine zt rfl 173 (.tmp 5) (.tmp 13) rfl (w.heap.size+1) rfl rfl yv b1 rfl rfl Z ?_))
 have bS:=b1.setRow ZP.toArray;have aA:=I.pN (k:=w.heap.size+1) K5 ZP.toArray;have aC:nH w.heap.size w (((w.alloc (Q9 #[Y1 Q6 0,Y1 Q6 0,Y1 Q4 0,Y1 Q4 0] 173)).alloc (Q9 #[Y1 Q6 0,Y1 Q6 0,Y1 Q4 0,Y1 Q4 0] 173)).setRow (w.heap.size+1) ZP.toArray):=zf K K5 _;generalize ((w.alloc (Q9 #[Y1 Q6 0,Y1 Q6 0,Y1 Q4 0,Y1 Q4 0] 173)).alloc (Q9 #[Y1 Q6 0,Y1 Q6 0,Y1 Q4 0,Y1 Q4 0] 173)).setRow (w.heap.size+1) ZP.toArray=W1 at *;clear O b1 I E K N F hq
 go_loopw [6] (λi wr=>(i=Y1 Q4 1\/i=Y1 Q4 2)/\za wr w.heap.size 173 ZP.toArray/\za wr (w.heap.size+1) 173 ZP.toArray/\nH w.heap.size w wr) (λi _=>2-(intOf i).toNat)
 case atStart=>exact⟨.inl rfl,aA,bS,aC⟩
 case round =>
  obtain⟨hi,c0,c1,hB⟩:=hrel;rcases hi with rfl|rfl
  .have U:∀W,nH wr.heap.size wr W->W.rangeAt q 4 ZP:=λW h j v u=>((hB.trans (h.mono hB.size)).cell (p:=⟨q,4+j,K3⟩) M).trans (H j v u)
   go_wp2_with fail
   have B:nH wr.heap.size wr wr.drew:=(nF _ _).drew;refine zb.st (λW:World=>nH wr.heap.size wr W) 99 ?_;refine zb.q0 0 (.func (.func 166) #[] #[]) B ?_;refine zb.q0 1 (X1 (K4 ⟨q,0,K3⟩) 2 2) B ?_;refine zb.q0 2 (Y1 Q4 1) B ?_;simp only[Z8];refine zb.t0 3 (Y9 (K4 ⟨q,4,K3⟩)) rfl B (λW h=>by simp[nQ,go_sem,Act.eval]) ?_;simp only[Z8];refine zb.t0 4 (Q0 ZP.toArray) rfl B (λW h=>by exact yQ yv (U W h) rfl rfl rfl) ?_;simp only[Z8];refine zb.t0 5 (Q0 ZP.toArray) rfl B (λW h=>by exact yQ yv (c1.below h c1.lt).range rfl rfl rfl) ?_;simp only[Z8];refine zb.n 6 ?_;refine zb.opCT 166 (.tmp 20) #[.tmp 24,.tmp 25] #[173,173] rfl rfl rfl rfl (zb.eo func166) #[Q0 ZP.toArray,Q0 ZP.toArray] (by simp only[zJ,zL,zN];rfl) ((PQ wr.drew 0 0 0 0 0 0 0).mono ?_);rintro e w2 ⟨rfl,aB⟩;have C:nH wr.heap.size wr w2:=B.trans (aB.mono (zG _));refine⟨_,rfl,λ_=>C,?_⟩;simp only[Z8];refine zb.n 7 (zb.opV (w':=w2) (X3 false) rfl rfl K8 ⟨λ_=>C,zb.dn ?_⟩);simp only[Z8];clear H U;have d0:=c0.below C c0.lt;have d1:=c1.below C c1.lt;go_wp2
   go_roundw
   case rel=>exact⟨.inr rfl,d0,d1,hB.trans (C.mono hB.size)⟩
   case measure=>simp[intOf]
  .clear H;have aD:∀v∈ZP.toArray.toList,v.oneCell'=true:=Z
   go_wp2_with (first
    |(refine yp yv c1 ?_)
    |(refine zt rfl 173 (.tmp 4) (.tmp 32) rfl w.heap.size rfl rfl yv c0 rfl rfl aD ?_))
   refine nu (yL 4 rfl rfl yv (c0.setRow _) J0) rfl ⟨rfl,zf hB (zG _) _⟩
theorem Hw:kn qy=false:=by decide +kernel
theorem CQ:DN qy=Q2 #[Q0 ZP.toArray,Y1 Q4 150]:=Pg Hw
theorem Jo {fn:Func}{P:gF}{a:gh}{w:World}{g:Nat}{T t:nS}{cs:Y7}{v v':Value}(k m j:Tmp)(h:fn.results=#[.cell k T,.tmp m,.tmp j])(C:a.eval (.tmp k)=Y9 g)(E:a.eval (.tmp m)=v)(F:a.eval (.tmp j)=v'){n:Nat}(B:yw P T n)(hb:za w g t cs)(hn:cs.size=n):(results fn a.tmps).run P w=.ok (Q2 #[Q0 cs,v,v']) w:=by
 have e:a.tmps.getD k undef=Y9 g:=C;have q:a.tmps.getD m undef=v:=E;have u:a.tmps.getD j undef=v':=F;unfold results;simp only[h];simp[-zX,e,q,u,asAddr,Qo (hn▸B) hb,nM]
theorem AZ (w:World)(l d many:Nat)(left:Int)(I:yN w d many (λ_=>qy) [] left false)(hc:w.cell? l=K4 (Y9 d))(K:l<w.heap.size)(aA:2<=many)(Z:many<=1000000):nK Y3 103 #[Y9 l] w λe w'=>e=Y0 (Q2 #[Q0 ZP.toArray,X3 false,Y1 Q4 0])/\nH w.heap.size w w':=by
 have q:∀(i:Nat) (W:World),i<2->nH w.heap.size w W->nK Y3 164 #[Y9 l,Y1 Q4 (i:Int),Y1 Q4 1] W λe w'=>∃A c,e=Y0 (Q2 #[X1 A 64 c,Y1 Q4 0])/\qv w' w'.heap.size A c qy/\nH W.heap.size W w':=λi W hi hB =>
  SX W l d many _ [] left false (I.grow hB) rfl K7 ((hB.cell (p:=⟨l,0,K3⟩) K).trans hc) (zO K hB.size) i 1 K5 Z
 have N:∀v∈ZP.toArray.toList,v.oneCell'=true:=by intro v M;simp[ZP] at M;rcases M with rfl|rfl<;>rfl
 have u:=(za.new w 173 #[Y1 Q6 0,Y1 Q6 0,Y1 Q4 0,Y1 Q4 0]).alloc (Q9 #[Y1 Q6 0,Y1 Q6 0,Y1 Q4 0,Y1 Q4 0,Y1 Q6 0,Y1 Q6 0,Y1 Q4 0,Y1 Q4 0] 249);have b1:=za.new (w.alloc (Q9 #[Y1 Q6 0,Y1 Q6 0,Y1 Q4 0,Y1 Q4 0] 173)) 249 #[Y1 Q6 0,Y1 Q6 0,Y1 Q4 0,Y1 Q4 0,Y1 Q6 0,Y1 Q6 0,Y1 Q4 0,Y1 Q4 0];rw[nG] at b1;have E:nH w.heap.size w ((w.alloc (Q9 #[Y1 Q6 0,Y1 Q6 0,Y1 Q4 0,Y1 Q4 0] 173)).alloc (Q9 #[Y1 Q6 0,Y1 Q6 0,Y1 Q4 0,Y1 Q4 0,Y1 Q6 0,Y1 Q6 0,Y1 Q4 0,Y1 Q4 0] 249)):=((nF _ w).alloc (zG _) _).alloc K9 _;clear I
 go_enter func103,ntmps103
 go_wp2
 go_loopw [13,6] (λi v wr=>∃k:Nat,k<=2/\i=Y1 Q4 (k:Int)/\v=X3 false/\za wr w.heap.size 173 ZP.toArray/\za wr (w.heap.size+1) 249 (ZP++ZP).toArray/\nH w.heap.size w wr) (λi _ _=>2-(intOf i).toNat)
 case atStart=>exact⟨0,by omega,rfl,rfl,u,b1,E⟩
 case round =>
  obtain⟨k,hk,rfl,rfl,c0,c1,hB⟩:=hrel
  by_cases V:k<2
  .have T:=q k wr V hB;have aB:IntKind.i64.wrap ((k:Int)+1)=(k:Int)+1:=zg _;clear q u b1 E
   go_wp2_with (first
    |(go_at_call 164;refine T.mono ?_;rintro e w2 ⟨A,c,rfl,U,h⟩)
    |(go_at_call 165;have F:=Vn w2 A c qy U;rw[CQ] at F;refine F.mono ?_;rintro e j ⟨rfl,B⟩;have b4:=za.new j 173 #[Y1 Q6 0,Y1 Q6 0,Y1 Q4 0,Y1 Q4 0])
    |(refine zt rfl 173 (.tmp 10) (.tmp 31) rfl j.heap.size rfl rfl yv b4 rfl rfl N ?_))
   have C:nH wr.heap.size wr ((j.alloc (Q9 #[Y1 Q6 0,Y1 Q6 0,Y1 Q4 0,Y1 Q4 0] 173)).setRow j.heap.size ZP.toArray):=zf ((h.trans (B.mono h.size)).alloc (zT h.size B.size) _) (zT h.size B.size) _
   go_roundw
   case rel=>exact⟨k+1,by omega,by simp,rfl,c0.below C c0.lt,c1.below C c1.lt,hB.trans (C.mono hB.size)⟩
   case measure=>simp[intOf];omega
  .obtain rfl:k=2:=K5
   have O:=OP wr (w.heap.size+1) _ c1;clear q u b1 E
   go_wp2_with (first
    |(go_at_call 168;refine O.mono ?_;rintro e w5 ⟨rfl,H⟩;have d0:=c0.below H c0.lt)
    |(refine zt rfl 173 (.tmp 2) (.tmp 49) rfl w.heap.size rfl rfl yv d0 rfl rfl N ?_))
   refine nu (Jo 2 3 4 rfl rfl rfl rfl yv (d0.setRow _) J0) rfl ⟨rfl,zf (hB.trans (H.mono hB.size)) (zG _) _⟩
theorem EC (w:World)(l:Nat)(fr:Int)(h1:0<=fr)(hc:w.cell? ⟨l,1,K3⟩=K4 (Y1 Q4 fr)):nK Y3 105 #[Y9 l,Y1 Q4 0] w λe w'=>e=Y0 (Y1 Q4 0)/\w=w':=by
 go_enter func105,ntmps105
 go_wp2
 go_loopw [20] (λi wr=>i=Y1 Q4 0/\wr=w) (λ_ _=>0)
 case atStart=>exact⟨rfl,rfl⟩
 case round =>
  obtain⟨rfl,rfl⟩:=hrel;go_wp2;go_ret;exact⟨rfl,rfl⟩
theorem jV (w:World)(p:nN)(v:Value):w.grownBy (w.setCell p v) (some p.block):=⟨rfl,rfl,rfl,by simp,λk _ h=>nU _ _ _ k (λe=>h (by rw[e]))⟩
theorem kE (w:World)(q:Nat)(cs:Y7):w.grownBy (w.setRow q cs) (some q):=⟨by simp[gM],by simp[gM],by simp[gM],by simp[gM],λk _ h=>setRow_other w q k cs (λe=>h (by rw[e]))⟩
theorem yN.oO {w:World}{p many:Nat}{g:Nat->Y4}{xs:List (Nat×Y4)}{left:Int}{stops:Bool}{q:Nat}{t:nS}{cs:Y7}(h:yN w p many g xs left stops)(hq:za w q t cs)(j:cs.size<=64)(u:p≠q)(cs':Y7):yN (w.setRow q cs') p many g xs left stops :=
 h.other hq j u (kE w q cs')
namespace zb
section
variable {P:gF}{ops:Array nh}{Q:mh->gh->World->Prop}{md:fK}{S:World->Prop}{fin:Nat}
def Closed (md:fK)(ops:Array nh)(l:Array Bool):Prop:=∀j o,ops[j]?=some o->l.getD j false=true->∀e∈o.after,gI md e=true->l.getD e.on false=true
def closedB (md:fK)(ops:Array nh)(l:Array Bool):Bool:=(mi ops.size).all λj=>match ops[j]? with|some o => !l.getD j false||o.after.toList.all (λe => !gI md e||l.getD e.on false)|none=>true
theorem closedB_spec {l:Array Bool}(h:closedB md ops l=true):Closed md ops l:=by
 intro j o q hl e he hb;unfold closedB at h;rw[yF] at h;have:=h j (List.mem_range.2 (zI.1 q).1);simp only[q,hl,Bool.not_true,Bool.false_or,yF] at this;have:=this e (Array.mem_toList_iff.2 he);simpa[hb] using this
def reach (md:fK)(ops:Array nh):Nat->Nat->Nat->Bool
 | 0,_,_=>false
 | n+1,j,i=>match ops[j]? with|some o=>o.after.toList.any (λe=>gI md e&&(e.on==i||reach md ops n e.on i))|none=>false
theorem reach_spec {n j i:Nat}{o:nh}(h:reach md ops (n+1) j i=true)(u:ops[j]?=some o):∃e∈o.after,gI md e=true/\(e.on=i\/reach md ops n e.on i=true):=by
 simp only[reach,u,List.any_eq_true,Bool.and_eq_true,Bool.or_eq_true,beq_iff_eq] at h;obtain⟨e,q,hb,he⟩:=h;exact⟨e,Array.mem_toList_iff.1 q,hb,he⟩
theorem not_listed {l:Array Bool}(hc:Closed md ops l){i:Nat}(hi:l.getD i false=false):∀(n j:Nat),reach md ops n j i=true->l.getD j false=false
 | 0,_,h=>by cases h
 | n+1,j,h=>by
  cases u:l.getD j false with
  | false=>rfl
  | true =>
   cases q:ops[j]? with
   | none=>simp[reach,q] at h
   | some o =>
    obtain⟨e,he,hb,h1⟩:=reach_spec h q;have h2:=hc j o q u e he hb;rcases h1 with rfl|h1
    .rw[hi] at h2;cases h2
    .rw[not_listed hc hi n _ h1] at h2;cases h2
theorem not_ready {l:Array Bool}(hc:Closed md ops l){i n j:Nat}(hi:l.getD i false=false)(q:reach md ops n j i=true):¬ j∈nw md ops l:=by
 intro h;obtain⟨_,o,v,u⟩:=mem_ready.1 h;cases n with
 | zero=>cases q
 | succ n =>
  obtain⟨e,he,hb,h1⟩:=reach_spec q v;have h2:=u e he hb;rcases h1 with rfl|h1
  .rw[hi] at h2;cases h2
  .rw[not_listed hc hi n _ h1] at h2;cases h2
theorem getD_set_mono {l:Array Bool}{j k:Nat}(h:l.getD k false=true):(l.setIfInBounds j true).getD k false=true:=by
 by_cases e:j=k
 .subst e;rcases mw j l.size with q | q
  .simp[q]
  .simp[gg q] at h
 .rw[getD_set_ne false e];exact h
theorem Closed.set {l:Array Bool}(hc:Closed md ops l){j:Nat}(C:j∈nw md ops l):Closed md ops (l.setIfInBounds j true):=by
 intro k o u h e he hb
 by_cases q:j=k
 .subst q;obtain⟨_,o',v,B⟩:=mem_ready.1 C;rw[u] at v;cases v;exact getD_set_mono (B e he hb)
 .rw[getD_set_ne false q] at h;exact getD_set_mono (hc k o u h e he hb)
theorem unlisted {l:Array Bool}{i:Nat}(h:i∈nw md ops l):l.getD i false=false:=by
 have q:=(mem_ready.1 h).1;rcases mw i l.size with j | j
 .simp[j] at q ⊢;exact q
 .simp[gg j] at q
theorem first1 {i n:Nat}{B:nh}{v:Value}(hi:ops[i]?=some B)(W:∀(j:Nat) (o:nh) cs b,ops[j]?=some o->o.op≠.select cs b)
  (hQ:∀c a w,Q (.panic c) (a.put B.dst v) w->Q (.panic c) a w) (aC:reach md ops n fin i=true) :
  ∀(F:Nat) (listed:Array Bool) (a:gh) (w:World),Closed md ops listed ->
   (∀j C,ops[j]?=some C->j≠i->listed.getD j true=false->(∀e∈C.after,gI md e=true->e.on≠i)->B.apart ops C=true) ->
   i∈nw md ops listed->eF P ops S B v a->S w ->
   wpAnyF P md ops Q S fin F (listed.setIfInBounds i true) (a.put B.dst v) w->wpAnyF P md ops Q S fin (F+1) listed a w:=by
 intro F
 induction F with
 | zero =>
  intro listed a w _ _ u M I H;refine⟨λh=>(by rw[h] at u;cases u),λj E => ?_⟩
  by_cases q:j=i
  .subst q;exact M.wpOp hi I ⟨λ_=>I,H⟩
  .have:=fG E q;rw[H.1] at this;cases this
 | succ F ih =>
  intro listed a w O T u M I H;refine⟨λh=>(by rw[h] at u;cases u),λj E => ?_⟩
  by_cases q:j=i
  .subst q;exact M.wpOp hi I ⟨λ_=>I,H⟩
  .have h1:=H.2 j (fG E q);obtain⟨V,C,N,aA⟩:=mem_ready.1 E;have aH:∀e∈C.after,gI md e=true->e.on≠i:=λe he hb aB=>by have h1:=aA e he hb;rw[aB,unlisted u] at h1;cases h1
   have aE:j≠fin:=λe=>by subst e;exact not_ready O (unlisted u) aC E
   have h2:=wpOp_putIf N (T j C N q V aH) (λcs b=>W i B cs b hi) (λcs b=>W j C cs b N) hQ M h1;have aD:∀k ok,ops[k]?=some ok->k≠i->(listed.setIfInBounds j true).getD k true=false ->
     (∀e∈ok.after,gI md e=true->e.on≠i)->B.apart ops ok=true:=λk ok hk aF Z aG=>by
    refine T k ok hk aF ?_ aG
    by_cases U:j=k
    .subst U;exact V
    .rw[getD_set_ne true U] at Z;exact Z
   refine wpOp_mono (λa' w' K=>⟨K.2.1,ih (listed.setIfInBounds j true) a' w' (O.set E) aD (fG u (Ne.symm q)) K.1 (K.2.1 aE) ?_⟩) h2;rw[fP _ _ q];exact K.2.2
theorem take1 {q:Nat}{listed:Array Bool}{a:gh}{w:World}(i:Nat){j:nh}(v:Value)(hi:ops[i]?=some j)
  (hs:lN ops=true) (hf:fe md ops listed i=true) (F:(nw md ops listed).contains i=true) (C:closedB md ops listed=true) (E:reach md ops 30 fin i=true)
  (u:∀c a w,Q (.panic c) (a.put j.dst v) w->Q (.panic c) a w) (B:S w) (H:eF P ops S j v a)
  (h:wpAnyF P md ops Q S fin q (listed.setIfInBounds i true) (a.put j.dst v) w):wpAnyF P md ops Q S fin (q+1) listed a w :=
 first1 hi (eD hs) u E q listed a w (closedB_spec C) (Region.free_spec hi hf) (by simpa using F) H B h
theorem t1 {q:Nat}{listed:Array Bool}{a:gh}{w:World}(i:Nat){j:nh}(v:Value)(hi:ops[i]?=some j)(B:S w)(h1:∀W,S W->(nQ a.eval j).run P W=.ok (.value v) W)(h:wpAnyF P md ops Q S fin q (listed.setIfInBounds i true) (a.put j.dst v) w)(hs:lN ops=true:=by kernel_rfl)(hf:fe md ops listed i=true:=by kernel_rfl)(H:(nw md ops listed).contains i=true:=by kernel_rfl)(C:closedB md ops listed=true:=by kernel_rfl)(E:reach md ops 30 fin i=true:=by kernel_rfl)(u:∀c a w,Q (.panic c) (a.put j.dst v) w->Q (.panic c) a w:=by exact λ_ _ _ h=>h)(F:j.guard=none:=by rfl):wpAnyF P md ops Q S fin (q+1) listed a w :=
 take1 i v hi hs hf H C E u B (yld F h1) h
theorem q1 {q:Nat}{listed:Array Bool}{a:gh}{w:World}(i:Nat){j:nh}(v:Value)(B:S w)(h:wpAnyF P md ops Q S fin q (listed.setIfInBounds i true) (a.put j.dst v) w)(hi:ops[i]?=some j:=by rfl)(h1:∀W,S W->(nQ a.eval j).run P W=.ok (.value v) W:=by intro _ hW;(try dsimp only at hW);go_simp)(hs:lN ops=true:=by kernel_rfl)(hf:fe md ops listed i=true:=by kernel_rfl)(H:(nw md ops listed).contains i=true:=by kernel_rfl)(C:closedB md ops listed=true:=by kernel_rfl)(E:reach md ops 30 fin i=true:=by kernel_rfl)(u:∀c a w,Q (.panic c) (a.put j.dst v) w->Q (.panic c) a w:=by exact λ_ _ _ h=>h)(F:j.guard=none:=by rfl):wpAnyF P md ops Q S fin (q+1) listed a w :=t1 i v hi B h1 h hs hf H C E u F
end
end zb
theorem BY:yw Y3 200 2:=⟨⟨_,underlying200,rfl⟩,by kernel_rfl⟩
theorem Rs (w:World)(lb l:Nat)(D:Y5)(fr pg:Int)(sr ep:Nat)(sz:Int)(A:Y5)(n c:Nat)(K:za w lb 115 #[Y9 l])(N:za w l 171 (ZC D fr pg sr ep sz A n c))(p:Int)(F:Y5)(c2:Nat)(U:Mk (yz fr pg) p pg=0):nK Y3 306 #[Q0 #[Y1 Q4 p,X1 F 512 c2],Y9 lb] w λe w'=>e=Y0 (X3 false)/\nH w.heap.size w w':=by
 obtain⟨u,I,E,C⟩:=Qp w 200 #[Y1 Q4 p,X1 F 512 c2];have M:=K.below E K.lt;have O:=N.below E N.lt;have H:∀W,nK Y3 195 #[Q0 #[Y1 Q4 fr,Y1 Q4 pg],Y1 Q4 p] W λe w'=>e=Y0 (Q2 #[Y1 Q4 (2+9*fr+8*p),Y1 Q4 0])/\nH W.heap.size W w':=λW=>by have:=FG fr pg p W;unfold ur at this;rw[U,if_pos rfl] at this;exact this
 go_enter func306,ntmps306
 go_wp2_with fail
 rw[<-I];clear I;have v:nH u.heap.size u u.drew:=(nF _ _).drew;refine zb.st (λW=>nH u.heap.size u W) 99 ?_;refine zb.t0 0 (Y9 l) rfl v (λW j=>by have q:=(M.below j M.lt).boxed;go_simp) ?_;refine zb.q0 1 (Y9 l) v ?_;refine zb.q0 2 (Y9 l) v ?_;refine zb.q0 3 (Y9 (K4 ⟨l,1,K3⟩)) v ?_;refine zb.t0 4 (Q0 #[Y1 Q4 fr,Y1 Q4 pg]) rfl v (λW j=>by have h:=O.below j O.lt;have q1:W.cell? ⟨l,1,K3⟩=K4 (Y1 Q4 fr):=(by rw[h.cell];rfl);have q2:W.cell? ⟨l,2,K3⟩=K4 (Y1 Q4 pg):=(by rw[h.cell];rfl);go_simp) ?_;refine zb.q0 5 (Y9 w.heap.size) v ?_;refine zb.t0 6 (Y1 Q4 p) rfl v (λW j=>by have h:=C.below j C.lt;have q1:W.cell? w.heap.size=K4 (Y1 Q4 p):=(by rw[h.cell];rfl);go_simp) ?_;simp only[Z8];refine zb.n 7 ?_;refine zb.oC 195 #[.tmp 11,.tmp 13] #[74,3] #[Q0 #[Y1 Q4 fr,Y1 Q4 pg],Y1 Q4 p] ((H u.drew).mono ?_) (zb.eo func195);rintro e w1 ⟨rfl,T⟩;have B:nH u.heap.size u w1:=v.trans (T.mono (zG _));refine⟨_,rfl,λ_=>B,?_⟩;simp only[Z8];refine zb.n 8 (zb.opV (w':=w1) (Q2 #[Y1 Q4 (2+9*fr+8*p),Y1 Q4 0]) rfl rfl K8 ⟨λ_=>B,?_⟩);refine zb.q0 9 (Y1 Q4 (2+9*fr+8*p)) B ?_;refine zb.q0 10 (Y1 Q4 0) B ?_;simp only[Z8];refine zb.n 11 (zb.opV (w':=w1) (Y1 Q4 (2+9*fr+8*p)) rfl rfl K8 ⟨λ_=>B,?_⟩);simp only[Z8];refine zb.n 12 (zb.opV (w':=w1) (Y1 Q4 0) rfl rfl K8 ⟨λ_=>B,zb.dn ?_⟩);simp only[Z8];have h:=C.below B C.lt;have q1:w1.cell? ⟨w.heap.size,1,K3⟩=some (X1 F 512 c2):=by rw[h.cell];rfl
 clear H;go_wp2;go_ret;exact⟨rfl,E.trans (B.mono E.size)⟩
def Pz (w:World)(g o n:Nat)(xs:Nat->Int×Y5×Nat):Prop:=∀k,k<n->w.rangeAt g (o+k*2) [Y1 Q4 (xs k).1,.slice (xs k).2.1 512 (xs k).2.2]
theorem Pz.below {w w':World}{B g o n:Nat}{xs:Nat->Int×Y5×Nat}(h:Pz w g o n xs)(hB:nH B w w')(q:g<B):Pz w' g o n xs:=λk C j v u=>(hB.cell (p:=⟨g,o+k*2+j,K3⟩) q).trans (h k C j v u)
theorem AU (w:World)(lb g o n c:Nat)(xs:Nat->Int×Y5×Nat)(hn:n<=1000)(q:Pz w g o n xs)(B:g<w.heap.size)
  (h:∀k W,k<n->nH w.heap.size w W->nK Y3 306 #[Q0 #[Y1 Q4 (xs k).1,.slice (xs k).2.1 512 (xs k).2.2],Y9 (K4 ⟨lb,0,K3⟩)] W λe w'=>e=Y0 (X3 false)/\nH W.heap.size W w') :
  nK Y3 342 #[X1 (K4 ⟨g,o,K3⟩) n c,.func (.func 306) #[] #[Y9 (K4 ⟨lb,0,K3⟩)]] w λe w'=>e=Y0 (Y1 Q4 (-1))/\nH w.heap.size w w':=by
 have E:∀args w,(callFunc 306 args).run Y3 w=.ok (.enter 306 args) w:=zb.eo func306
 go_enter func342,ntmps342
 go_wp2
 go_loopw [8] (λi wr=>∃k:Nat,k<=n/\i=Y1 Q4 (k:Int)/\nH w.heap.size w wr) (λi _=>n-(intOf i).toNat)
 case atStart=>exact⟨0,by omega,rfl,nF _ _⟩
 case round =>
  obtain⟨k,F,rfl,hB⟩:=hrel
  by_cases j:k<n
  .have C:=(q.below hB B) k j;have u:=h k wr j hB;have H:IntKind.i64.wrap ((k:Int)+1)=(k:Int)+1:=zg _;generalize xs k=x at *;clear h q
   go_wp2_with (first
    |(refine zp rfl (yQ BY C rfl rfl rfl) ?_))
   refine u.mono ?_;rintro e I ⟨rfl,v⟩;go_wp2
   go_roundw
   case rel=>exact⟨k+1,by omega,by simp,hB.trans (v.mono hB.size)⟩
   case measure=>simp[intOf];omega
  .obtain rfl:k=n:=K5
   clear h;go_wp2;go_ret;exact⟨rfl,hB⟩
theorem Ph (w:World)(lb g o n c:Nat)(xs:Nat->Int×Y5×Nat)(hn:n<=1000)(j:Pz w g o n xs)(u:g<w.heap.size)
  (h:∀k W,k<n->nH w.heap.size w W->nK Y3 306 #[Q0 #[Y1 Q4 (xs k).1,.slice (xs k).2.1 512 (xs k).2.2],Y9 (K4 ⟨lb,0,K3⟩)] W λe w'=>e=Y0 (X3 false)/\nH W.heap.size W w') :
  nK Y3 305 #[X1 (K4 ⟨g,o,K3⟩) n c,.func (.func 306) #[] #[Y9 (K4 ⟨lb,0,K3⟩)]] w λe w'=>e=Y0 (X3 false)/\nH w.heap.size w w':=by
 have q:=AU w lb g o n c xs hn j u h;clear h j
 go_enter func305,ntmps305
 go_wp2_with (go_at_call 342;refine q.mono ?_;rintro e w' ⟨rfl,hB⟩)
 go_ret;exact⟨rfl,hB⟩
theorem Nl (w:World)(l:Nat)(D:Y5)(fr pg:Int)(sr ep:Nat)(sz:Int)(A:Y5)(C c0:Nat)(u:za w l 171 (ZC D fr pg sr ep sz A C c0))(g o n c:Nat)(xs:Nat->Int×Y5×Nat)(h1:1<=n)(hn:n<=1000)(B:Pz w g o n xs)(F:g<w.heap.size)
  (v:∀k,k<n->Mk (yz fr pg) (xs k).1 pg=0) (s:Int) (hs:0<=s) (I:s<=pg) :
  nK Y3 249 #[Y9 l,Y1 Q4 s,X1 (K4 ⟨g,o,K3⟩) n c] w λe w'=>e=Y0 (X3 true)/\nH w.heap.size w w':=by
 have h:nH w.heap.size w (w.alloc (Q9 #[Y9 l] 115)):=(nF _ w).alloc (zG _) _;have q:=za.new w 115 #[Y9 l];have j:=u.below h u.lt;have k2:(w.alloc (Q9 #[Y9 l] 115)).cell? ⟨l,2,K3⟩=K4 (Y1 Q4 pg):=by rw[j.cell];rfl
 have E:=Ph (w.alloc (Q9 #[Y9 l] 115)) w.heap.size g o n c xs hn (B.below h F) (by simp;omega) (λk W H hB=>Rs W w.heap.size l D fr pg sr ep sz A C c0 (q.below hB q.lt) (j.below hB j.lt) (xs k).1 (xs k).2.1 (xs k).2.2 (v k H));clear B v
 go_enter func249,ntmps249
 go_wp2_with (go_at_call 305;refine E.mono ?_;rintro e w' ⟨rfl,hB⟩)
 go_ret;exact⟨rfl,h.trans (hB.mono h.size)⟩
namespace jb
section
variable {P:gF}{ops:Array nh}{Q:mh->gh->World->Prop}{md:fK}{S:World->Prop}{fs:List Nat}
def wpAnyM (P:gF)(md:fK)(ops:Array nh)(Q:mh->gh->World->Prop)(S:World->Prop)(fs:List Nat):Nat->Array Bool->gh->World->Prop
 | 0,listed,a,w=>nw md ops listed=[]/\Q .normal a w
 | fuel+1,listed,a,w =>
  (nw md ops listed=[]->Q .normal a w) /\
  ∀i∈nw md ops listed,wpOp P ops Q i (λa' w'=>(fs.contains i=false->S w')/\wpAnyM P md ops Q S fs fuel (listed.setIfInBounds i true) a' w') a w
theorem to_any:∀(j:Nat) (listed:Array Bool) (a:gh) (w:World),wpAnyM P md ops Q S fs j listed a w->wpAny P md ops Q j listed a w
 | 0,_,_,_,h=>h
 | j+1,_,_,_,h=>⟨h.1,λi hi=>wpOp_mono (λq w' u=>to_any j _ q w' u.2) (h.2 i hi)⟩
theorem first1 {i n:Nat}{B:nh}{v:Value}(hi:ops[i]?=some B)(W:∀(j:Nat) (o:nh) cs b,ops[j]?=some o->o.op≠.select cs b)
  (hQ:∀c a w,Q (.panic c) (a.put B.dst v) w->Q (.panic c) a w) (aC:(fs.all λf=>zb.reach md ops n f i)=true) (aI:fs.contains i=false) :
  ∀(F:Nat) (listed:Array Bool) (a:gh) (w:World),zb.Closed md ops listed ->
   (∀j C,ops[j]?=some C->j≠i->listed.getD j true=false->(∀e∈C.after,gI md e=true->e.on≠i)->B.apart ops C=true) ->
   i∈nw md ops listed->eF P ops S B v a->S w ->
   wpAnyM P md ops Q S fs F (listed.setIfInBounds i true) (a.put B.dst v) w->wpAnyM P md ops Q S fs (F+1) listed a w:=by
 intro F
 induction F with
 | zero =>
  intro listed a w _ _ u M I H;refine⟨λh=>(by rw[h] at u;cases u),λj E => ?_⟩
  by_cases q:j=i
  .subst q;exact M.wpOp hi I ⟨λ_=>I,H⟩
  .have:=fG E q;rw[H.1] at this;cases this
 | succ F ih =>
  intro listed a w O T u M I H;refine⟨λh=>(by rw[h] at u;cases u),λj E => ?_⟩
  by_cases q:j=i
  .subst q;exact M.wpOp hi I ⟨λ_=>I,H⟩
  .have h1:=H.2 j (fG E q);obtain⟨V,C,N,aA⟩:=mem_ready.1 E;have aH:∀e∈C.after,gI md e=true->e.on≠i:=λe he hb aB=>by have h1:=aA e he hb;rw[aB,zb.unlisted u] at h1;cases h1
   have aE:fs.contains j=false:=by
    cases h:fs.contains j with
    | false=>rfl
    | true =>
     have:=yF.1 aC j (by simpa using h);exact absurd E (zb.not_ready O (zb.unlisted u) this)
   have h2:=wpOp_putIf N (T j C N q V aH) (λcs b=>W i B cs b hi) (λcs b=>W j C cs b N) hQ M h1;have aD:∀k ok,ops[k]?=some ok->k≠i->(listed.setIfInBounds j true).getD k true=false ->
     (∀e∈ok.after,gI md e=true->e.on≠i)->B.apart ops ok=true:=λk ok hk aF Z aG=>by
    refine T k ok hk aF ?_ aG
    by_cases U:j=k
    .subst U;exact V
    .rw[getD_set_ne true U] at Z;exact Z
   refine wpOp_mono (λa' w' K=>⟨K.2.1,ih (listed.setIfInBounds j true) a' w' (O.set E) aD (fG u (Ne.symm q)) K.1 (K.2.1 aE) ?_⟩) h2;rw[fP _ _ q];exact K.2.2
theorem take1 {q:Nat}{listed:Array Bool}{a:gh}{w:World}(i:Nat){j:nh}(v:Value)(hi:ops[i]?=some j)
  (hs:lN ops=true) (hf:fe md ops listed i=true) (H:(nw md ops listed).contains i=true) (C:zb.closedB md ops listed=true) (E:(fs.all λf=>zb.reach md ops 30 f i)=true) (F:fs.contains i=false)
  (u:∀c a w,Q (.panic c) (a.put j.dst v) w->Q (.panic c) a w) (B:S w) (I:eF P ops S j v a)
  (h:wpAnyM P md ops Q S fs q (listed.setIfInBounds i true) (a.put j.dst v) w):wpAnyM P md ops Q S fs (q+1) listed a w :=
 first1 hi (eD hs) u E F q listed a w (zb.closedB_spec C) (Region.free_spec hi hf) (by simpa using H) I B h
theorem one {q:Nat}{listed:Array Bool}{a:gh}{w:World}(i:Nat)(B:nw md ops listed=[i])
  (h:wpOp P ops Q i (λC w'=>(fs.contains i=false->S w')/\wpAnyM P md ops Q S fs q (listed.setIfInBounds i true) C w') a w):wpAnyM P md ops Q S fs (q+1) listed a w :=
 ⟨λu=>(by rw[B] at u;cases u),λj v=>by
  rw[B] at v;obtain rfl:j=i:=by simpa using v
  exact h⟩
theorem done {j:Nat}{listed:Array Bool}{a:gh}{w:World}(q:nw md ops listed=[])(h:Q .normal a w):wpAnyM P md ops Q S fs j listed a w:=by
 cases j with
 | zero=>exact⟨q,h⟩
 | succ n=>exact⟨λ_=>h,by rw[q];simp⟩
theorem start {q:Nat}{a:gh}{w:World}(S:World->Prop)(fs:List Nat)(j:P.follows .mixedOrders=true)(h:wpAnyM P .any ops Q S fs ops.size (mI ops.size false) a w.drew):(lV q ops true).wp P Q a w :=
 wp_region_any j (to_any _ _ _ _ h)
theorem k1 {q:Nat}{listed:Array Bool}{a:gh}{w:World}(i:Nat){j:nh}(v:Value)(hi:ops[i]?=some j)(B:S w)(I:eF P ops S j v a)(h:wpAnyM P md ops Q S fs q (listed.setIfInBounds i true) (a.put j.dst v) w)(hs:lN ops=true:=by kernel_rfl)(hf:fe md ops listed i=true:=by kernel_rfl)(H:(nw md ops listed).contains i=true:=by kernel_rfl)(C:zb.closedB md ops listed=true:=by kernel_rfl)(E:(fs.all λf=>zb.reach md ops 30 f i)=true:=by kernel_rfl)(F:fs.contains i=false:=by rfl)(u:∀c a w,Q (.panic c) (a.put j.dst v) w->Q (.panic c) a w:=by exact λ_ _ _ h=>h):wpAnyM P md ops Q S fs (q+1) listed a w :=
 take1 i v hi hs hf H C E F u B I h
end
end jb

theorem PE (w:World):nK Y3 177 #[X1 none 0 0] w λe w'=>e=Y0 (Y1 Q7 0)/\w=w':=by
 go_enter func177,ntmps177
 go_wp2;go_ret;exact⟨rfl,rfl⟩
theorem Ou (w:World):nK Y3 250 #[X1 none 0 0] w λe w'=>e=Y0 (X1 none 0 0)/\w=w':=by
 have hq:=λW=>Qz (P:=Y3) W 169 261 none 0 0 underlying169
 go_enter func250,ntmps250
 go_wp2;go_ret;exact⟨rfl,rfl⟩
section
variable (w:World)(l d many lb mb:Nat)(g:Nat->Y4)(xs:List (Nat×Y4))(left:Int)(fr pg:Int)(sr ep:Nat)(sz:Int)
theorem EN (A:Y5)(n c:Nat)(B:Y5)(nm C:Nat)(O:yN w d many g xs left false)(hl:xs.length<=900000)(h1l : -1000000<=left)(N:left<=9223372036854775807)(K:za w l 171 (ZC (K4 ⟨d,0,K3⟩) fr pg sr ep sz A n c))(aA:za w lb 115 #[Y9 l])(aE:za w mb 169 #[X1 B nm C])(aB:l≠d)(aF:vl sz (nm:Int)=true)(aC:2<=many)(aD:many<=1000000)(aG:sr+1<18446744073709551616):nK Y3 253 #[Y9 lb,Y9 mb] w λe w'=>e=Y0 (Y1 Q4 0)/\(∃M,yN w' d many M [] left false)/\za w' l 171 (ZC (K4 ⟨d,0,K3⟩) fr pg (sr+1) ep sz A n c)/\ze (λk=>k=d\/k=l) w w':=by
 have E:=Ms w.drew l d many g xs left (sr+1) ep sz (nm:Int) fr pg sr ep sz A n c (O.grow (nF _ _).drew) hl h1l N K.drew aB aF aC aD;rw[show ((sr+1:Nat):Int)=(sr:Int)+1 by omega] at E;have aH:IntKind.u64.wrap ((sr:Int)+1)=(sr:Int)+1:=by rw[IntKind.wrap_u64];omega
 have F:∀W,za W l 171 (ZC (K4 ⟨d,0,K3⟩) fr pg sr ep sz A n c)->W.cell? ⟨l,3,K3⟩=K4 (Y1 Q6 (sr:Int)):=λW j=>by rw[j.cell];rfl
 have H:∀W,za W l 171 (ZC (K4 ⟨d,0,K3⟩) fr pg sr ep sz A n c)->W.cell? ⟨l,4,K3⟩=K4 (Y1 Q6 (ep:Int)):=λW j=>by rw[j.cell];rfl
 have I:∀W,za W l 171 (ZC (K4 ⟨d,0,K3⟩) fr pg sr ep sz A n c)->W.cell? ⟨l,5,K3⟩=K4 (Y1 Q4 sz):=λW j=>by rw[j.cell];rfl
 have u:za w.drew l 171 (ZC (K4 ⟨d,0,K3⟩) fr pg sr ep sz A n c)/\za w.drew lb 115 #[Y9 l]/\za w.drew mb 169 #[X1 B nm C]:=⟨K.drew,aA.drew,aE.drew⟩
 go_enter func253,ntmps253
 go_wp2_with fail
 refine jb.start (λW=>za W l 171 (ZC (K4 ⟨d,0,K3⟩) fr pg sr ep sz A n c)/\za W lb 115 #[Y9 l]/\za W mb 169 #[X1 B nm C]) [17,18] K6 ?_;refine jb.k1 0 (Y9 l) rfl u (zb.yld rfl (λW j=>by obtain⟨q1,q2,v⟩:=j;have q:=q2.boxed;go_simp)) ?_;simp only[zD,zB,nJ,zA,zF,zE];refine jb.k1 1 (Y9 l) rfl u (zb.yld rfl (λW j=>by obtain⟨q1,q2,v⟩:=j;have q:=q2.boxed;go_simp)) ?_;simp only[Z8];refine jb.k1 2 (Y9 l) rfl u (zb.yld rfl (λW j=>by go_simp)) ?_;simp only[Z8];refine jb.k1 3 (Y9 (K4 ⟨l,3,K3⟩)) rfl u (zb.yld rfl (λW j=>by go_simp)) ?_;simp only[Z8];refine jb.k1 4 (Y1 Q6 (sr:Int)) rfl u (zb.yld rfl (λW j=>by obtain⟨q1,q2,v⟩:=j;have q:=F W q1;go_simp)) ?_;simp only[Z8];refine jb.k1 5 (Y1 Q6 ((sr:Int)+1)) rfl u (zb.yld rfl (λW j=>by go_simp)) ?_;simp only[Z8];refine jb.k1 6 (Y9 l) rfl u (zb.yld rfl (λW j=>by obtain⟨q1,q2,v⟩:=j;have q:=q2.boxed;go_simp)) ?_;simp only[Z8];refine jb.k1 7 (Y9 l) rfl u (zb.yld rfl (λW j=>by go_simp)) ?_;simp only[Z8];refine jb.k1 8 (Y9 (K4 ⟨l,4,K3⟩)) rfl u (zb.yld rfl (λW j=>by go_simp)) ?_;simp only[Z8];refine jb.k1 9 (Y1 Q6 (ep:Int)) rfl u (zb.yld rfl (λW j=>by obtain⟨q1,q2,v⟩:=j;have q:=H W q1;go_simp)) ?_;simp only[Z8];refine jb.k1 10 (Y9 l) rfl u (zb.yld rfl (λW j=>by obtain⟨q1,q2,v⟩:=j;have q:=q2.boxed;go_simp)) ?_;simp only[Z8];refine jb.k1 11 (Y9 l) rfl u (zb.yld rfl (λW j=>by go_simp)) ?_;simp only[Z8];refine jb.k1 12 (Y9 (K4 ⟨l,5,K3⟩)) rfl u (zb.yld rfl (λW j=>by go_simp)) ?_;simp only[Z8];refine jb.k1 13 (Y1 Q4 sz) rfl u (zb.yld rfl (λW j=>by obtain⟨q1,q2,v⟩:=j;have q:=I W q1;go_simp)) ?_;simp only[Z8];refine jb.k1 14 (X1 B nm C) rfl u (zb.yld rfl (λW j=>by obtain⟨q1,q2,v⟩:=j;have q:=v.boxed;go_simp)) ?_;simp only[Z8];refine jb.k1 15 (Y1 Q4 (nm:Int)) rfl u (zb.yld rfl (λW j=>by go_simp)) ?_;simp only[Z8];refine jb.k1 16 (Q0 #[Y1 Q6 ((sr:Int)+1),Y1 Q6 (ep:Int),Y1 Q4 sz,Y1 Q4 (nm:Int)]) rfl u (zb.yld rfl (λW j=>by go_simp)) ?_;simp only[Z8];refine jb.one 17 K6 ?_;refine zb.oC 104 #[.tmp 3,.tmp 19] #[115,173] #[Y9 l,Q0 #[Y1 Q6 ((sr:Int)+1),Y1 Q6 (ep:Int),Y1 Q4 sz,Y1 Q4 (nm:Int)]] (E.mono ?_) (zb.eo func104);rintro e w2 ⟨rfl,T,Z,U⟩;refine⟨_,rfl,λh=>(by cases h),?_⟩;simp only[Z8];refine jb.one 18 K6 (zb.opV (w':=w2) (Y1 Q4 0) rfl rfl K8 ⟨λh=>(by cases h),jb.done K6 ?_⟩);simp only[Z8];have V:ze (λk=>k=d\/k=l) w w2:=(ze.grown (yM w none) (λr e=>by cases e)).trans U;clear E F H I u;go_wp2;go_ret;exact⟨rfl,⟨_,T⟩,Z,V⟩
theorem EM (szb:Nat)(D:Y5)(A:Y5)(n c:Nat)(j:Y5)(nm u:Nat)(s:Int)(B:za w l 171 (ZC D fr pg sr ep sz A n c))(F:za w lb 115 #[Y9 l])(H:za w mb 169 #[X1 j nm u])(I:za w szb 3 #[Y1 Q4 s])(M:l≠lb)(N:l≠mb)(O:l≠szb):nK Y3 254 #[Y9 mb,Y9 szb,Y9 lb] w λe w'=>e=Y0 (Y1 Q4 0)/\w'=(w.drew.setCell ⟨l,6,K3⟩ (X1 j nm u)).setCell ⟨l,5,K3⟩ (Y1 Q4 s)/\za w' l 171 (ZC D fr pg sr ep s j nm u):=by
 have V:w.cell? ⟨l,6,K3⟩=some (X1 A n c):=by rw[B.cell];rfl
 have U:w.cell? ⟨l,5,K3⟩=K4 (Y1 Q4 sz):=by rw[B.cell];rfl
 have f6:=B.free 6;have T:=B.free 5;have K:=B.drew.set 6 (X1 j nm u);have v:za w.drew lb 115 #[Y9 l]/\za w.drew mb 169 #[X1 j nm u]/\za w.drew szb 3 #[Y1 Q4 s]:=⟨F.drew,H.drew,I.drew⟩;have C:za (w.drew.setCell ⟨l,6,K3⟩ (X1 j nm u)) lb 115 #[Y9 l]/\za (w.drew.setCell ⟨l,6,K3⟩ (X1 j nm u)) mb 169 #[X1 j nm u]/\za (w.drew.setCell ⟨l,6,K3⟩ (X1 j nm u)) szb 3 #[Y1 Q4 s] :=
  ⟨F.drew.other (λe=>M e.symm) _,H.drew.other (λe=>N e.symm) _,I.drew.other (λe=>O e.symm) _⟩
 go_enter func254,ntmps254
 go_wp2_with fail
 refine zb.st (λW=>za W lb 115 #[Y9 l]/\za W mb 169 #[X1 j nm u]/\za W szb 3 #[Y1 Q4 s]) 9 ?_;refine zb.t 0 (Y9 l) rfl v (λW ⟨q1,q2,E⟩=>by have q:=q1.boxed;go_simp) ?_;refine zb.t 1 (Y9 l) rfl v (λW ⟨q1,q2,E⟩=>by have q:=q1.boxed;go_simp) ?_;refine zb.t 2 (X1 j nm u) rfl v (λW ⟨q1,q2,E⟩=>by have q:=q2.boxed;go_simp) ?_;refine zb.t 3 (Y1 Q4 s) rfl v (λW ⟨q1,q2,E⟩=>by have q:=E.boxed;go_simp) ?_;simp only[Z8];refine zb.n 4 (zb.opV (w':=w.drew) (Y9 l) rfl rfl K8 ⟨λ_=>v,?_⟩);simp only[Z8];refine zb.n 5 (zb.opV (w':=w.drew) (Y9 (K4 ⟨l,6,K3⟩)) rfl rfl K8 ⟨λ_=>v,?_⟩);simp only[Z8];refine zb.n 6 (zb.opS (w':=w.drew.setCell ⟨l,6,K3⟩ (X1 j nm u)) rfl rfl K8 ⟨λ_=>C,?_⟩);simp only[zD,zC,zB,nJ];refine zb.n 7 (zb.opV (w':=w.drew.setCell ⟨l,6,K3⟩ (X1 j nm u)) (Y9 l) rfl rfl K8 ⟨λ_=>C,?_⟩);simp only[Z8];refine zb.n 8 (zb.opV (w':=w.drew.setCell ⟨l,6,K3⟩ (X1 j nm u)) (Y9 (K4 ⟨l,5,K3⟩)) rfl rfl K8 ⟨λ_=>C,?_⟩);simp only[Z8];refine zb.n 9 (zb.opS (w':=(w.drew.setCell ⟨l,6,K3⟩ (X1 j nm u)).setCell ⟨l,5,K3⟩ (Y1 Q4 s)) rfl rfl K8 ⟨λh=>absurd rfl h,zb.dn ?_⟩);simp only[zD,zC,zB,nJ];clear v C;go_wp2;go_ret;exact⟨rfl,rfl,K.set 5 (Y1 Q4 s)⟩
end
theorem JF:yw Y3 74 2:=⟨⟨_,underlying74,rfl⟩,by kernel_rfl⟩
theorem MK {e i p:Nat}{f:Bool}{z n:Nat}{y:Y4}(h:y.length=512):(Vg (YC e i p f z n) y).length=576:=by
 simp[Vg,Qe,Qg];omega
section
variable (e:Nat)(i p:Int)(f:Bool)(z:Int)(n:Nat)(A:Y5)(k:Nat)(y:Y4)(s e':Nat)(z' c':Int)(x0 x1:Int)(w:World)
end
namespace Qu
variable {L:List (Nat×vh)}{ops:Array nh}{w0:World}{o:nh}
end Qu
section
variable (e:Nat)(i p:Int)(f:Bool)(z:Int)(n:Nat)(A:Y5)(k:Nat)(y:Y4)(s e':Nat)(z' c':Int)(w:World)(X Y:Y4)
end

section
variable (w:World)(l d many lb mb:Nat)(g:Nat->Y4)(xs:List (Nat×Y4))(left:Int)(fr pg:Int)(sr ep:Nat)(sz:Int)
theorem EO (c:Nat)(E fc:Nat)(e:Nat)(p:Int)(f:Bool)(z:Int)(N:Nat)(H:Y5)(M:Nat)(y:Y4)(hD:yN w d many g xs left false)(hl:xs.length<=900000)(h1l : -1000000<=left)(aK:left<=9223372036854775807)(Z:za w l 171 (ZC (K4 ⟨d,0,K3⟩) fr pg sr ep sz none 0 0))(V:za w lb 115 #[Y9 l])(aD:za w mb 169 #[X1 E 1 fc])
  (aZ:1<=fc) (a1:fc<=9223372036854775807) (aH:w.rangeAt E 0 (zr e 0 p f z N H y.length M).toList) (aR:E<w.heap.size) (hy:qv w w.heap.size H M y) (a3:∀g o,H=some ⟨g,o,K3⟩->0<y.length->g≠d)
  (aU:l≠d) (a2:lb≠d) (a5:mb≠d) (a0:E≠d) (aW:Mk (yz fr pg) 0 fr=0) (aB:KG y.length 0 p f z=true) (a4:11<=many) (aV:many<=1000000) :
  nK Y3 251 #[Y9 mb,Y9 lb] w λe' w'=>e'=.returned (Y1 Q4 0)/\(∃aA,aA.length<=xs.length+9/\yN w' d many g aA left false)/\w.grownBy w' (some d):=by
 have u:nH w.heap.size w w.drew:=(nF _ _).drew;have T0:∀W,nH w.heap.size w W->W.cell? mb=some (X1 E 1 fc):=λW h=>(aD.below h aD.lt).boxed
 have O:∀W,nH w.heap.size w W->W.cell? lb=K4 (Y9 l):=λW h=>(V.below h V.lt).boxed
 have T6:∀W,nH w.heap.size w W->W.cell? ⟨l,6,K3⟩=some (X1 none 0 0):=λW h=>by rw[(Z.below h Z.lt).cell];rfl
 go_enter func251,ntmps251
 go_wp2_with fail
 refine zb.st (λW=>nH w.heap.size w W) 99 ?_;refine zb.t0 0 (X1 E 1 fc) rfl u (λW h=>by have q:=T0 W h;go_simp) ?_;refine zb.t0 1 (Y9 l) rfl u (λW h=>by have q:=O W h;go_simp) ?_;refine zb.q0 2 (Y9 l) u ?_;refine zb.q0 3 (Y9 (K4 ⟨l,6,K3⟩)) u ?_;refine zb.t0 4 (X1 none 0 0) rfl u (λW h=>by have q:=T6 W h;go_simp) ?_;refine zb.q0 5 (Y1 Q4 0) u ?_;refine zb.q0 6 (X1 E 1 fc) u ?_;refine zb.q0 7 (Y1 Q4 1) u ?_;simp only[Z8];refine zb.n 8 (zb.opV (w':=w.drew) (Y1 Q4 0) rfl rfl K8 ⟨λ_=>u,zb.dn ?_⟩);simp only[Z8];clear T0 T6;go_wp2
 go_loopw [18] (λi wr=>(i=Y1 Q4 0/\nH w.heap.size w wr)\/(i=Y1 Q4 1/\(∃aA,aA.length<=xs.length+9/\yN wr d many g aA left false)/\w.grownBy wr (some d))) (λi _=>2-(intOf i).toNat)
 case atStart=>exact .inl ⟨rfl,u⟩
 case round =>
  clear u;rcases hrel with⟨rfl,u⟩|⟨rfl,hDx,hGx⟩
  .have aJ:wr.rangeAt E 0 (zr e 0 p f z N H y.length M).toList:=λj v hj=>(u.cell (p:=⟨E,0+j,K3⟩) aR).trans (aH j v hj)
   have aF:nH w.heap.size w (wr.alloc (Q9 #[Y1 Q6 0,Y1 Q4 0,Y1 Q4 0,X3 false,Y1 Q4 0,Y1 Q7 0,X1 none 0 0] 261)):=u.alloc u.size _;have bz:=za.new wr 261 #[Y1 Q6 0,Y1 Q4 0,Y1 Q4 0,X3 false,Y1 Q4 0,Y1 Q7 0,X1 none 0 0];have b3:=bz.setRow (zr e 0 p f z N H y.length M);have I:nH w.heap.size w ((wr.alloc (Q9 #[Y1 Q6 0,Y1 Q4 0,Y1 Q4 0,X3 false,Y1 Q4 0,Y1 Q7 0,X1 none 0 0] 261)).setRow wr.heap.size (zr e 0 p f z N H y.length M)):=zf aF u.size _
   go_wp2_with (first
    |(refine zp rfl (yQ kH aJ rfl rfl rfl) ?_)
    |(refine zt rfl 261 (.tmp 4) (.tmp 21) rfl wr.heap.size rfl rfl kH bz rfl rfl (QK _ _ _ _ _ _ _ _ _) ?_))
   have aN:=hD.grow I;have K:=Z.below I Z.lt;have aI:=V.below I V.lt;have aX:=(hy.below I).more I.size;clear aJ aF bz O hD Z V aD aH hy u;generalize (wr.alloc (Q9 #[Y1 Q6 0,Y1 Q4 0,Y1 Q4 0,X3 false,Y1 Q4 0,Y1 Q7 0,X1 none 0 0] 261)).setRow wr.heap.size (zr e 0 p f z N H y.length M)=B at *;generalize wr.heap.size=fb at *;have HP:∀W,nK Y3 175 #[Q0 #[Y1 Q4 fr,Y1 Q4 pg],Y1 Q4 0] W λe w'=>e=Y0 (Q2 #[Y1 Q4 2,Y1 Q4 0])/\nH W.heap.size W w':=λW=>by have:=ML fr pg 0 W;unfold ur at this;rw[aW,if_pos rfl] at this;exact this
   have O:∀W,nH B.heap.size B W->W.cell? lb=K4 (Y9 l):=λW h=>(aI.below h aI.lt).boxed
   have P1:∀W,nH B.heap.size B W->W.cell? ⟨l,1,K3⟩=K4 (Y1 Q4 fr):=λW h=>by rw[(K.below h K.lt).cell];rfl
   have P2:∀W,nH B.heap.size B W->W.cell? ⟨l,2,K3⟩=K4 (Y1 Q4 pg):=λW h=>by rw[(K.below h K.lt).cell];rfl
   have I1:∀W,nH B.heap.size B W->W.cell? ⟨fb,1,K3⟩=K4 (Y1 Q4 0):=λW h=>by rw[(b3.below h b3.lt).cell];rfl
   have F:nH B.heap.size B B.drew:=(nF _ _).drew;refine zb.st (λW=>nH B.heap.size B W) 99 ?_;refine zb.t0 0 (Y9 l) rfl F (λW h=>by have q:=O W h;go_simp) ?_;refine zb.q0 1 (Y9 l) F ?_;refine zb.q0 2 (Y9 l) F ?_;refine zb.q0 3 (Y9 (K4 ⟨l,1,K3⟩)) F ?_;refine zb.t0 4 (Q0 #[Y1 Q4 fr,Y1 Q4 pg]) rfl F (λW h=>by have q1:=P1 W h;have q2:=P2 W h;go_simp) ?_;refine zb.q0 5 (Y9 (K4 ⟨fb,1,K3⟩)) F ?_;refine zb.t0 6 (Y1 Q4 0) rfl F (λW h=>by have q1:=I1 W h;go_simp) ?_;simp only[Z8];refine zb.n 7 ?_;refine zb.oC 175 #[.tmp 27,.tmp 29] #[74,3] #[Q0 #[Y1 Q4 fr,Y1 Q4 pg],Y1 Q4 0] ((HP B.drew).mono ?_) (zb.eo func175);rintro e1 w4 ⟨rfl,aL⟩;have C:nH B.heap.size B w4:=F.trans (aL.mono (zG _));refine⟨_,rfl,λ_=>C,?_⟩;simp only[Z8];refine zb.n 8 (zb.opV (w':=w4) (Q2 #[Y1 Q4 2,Y1 Q4 0]) rfl rfl K8 ⟨λ_=>C,?_⟩);refine zb.q0 9 (Y1 Q4 2) C ?_;refine zb.q0 10 (Y1 Q4 0) C ?_;simp only[Z8];refine zb.n 11 (zb.opV (w':=w4) (Y1 Q4 2) rfl rfl K8 ⟨λ_=>C,?_⟩);simp only[Z8];refine zb.n 12 (zb.opV (w':=w4) (Y1 Q4 0) rfl rfl K8 ⟨λ_=>C,zb.dn ?_⟩);simp only[Z8];have b4:=b3.below C b3.lt;have aY:=(aX.below C).more C.size;have T:=Fb e 0 p f z N H M y w4 aY;have aC:(Ow e 0 p f z N y).length=576:=by unfold Ow;rw[if_pos aB];exact MK ((Kw _ _ _ _ _).1 aB).1
   have aG:Ov 0 p f z y=0:=by unfold Ov;rw[if_pos aB]
   rw[aG] at T;unfold GW at T;rw[aC] at T;have aE:=nI aC;clear aC aG aB HP P1 P2 I1 F
   go_wp2_with (first
    |(refine yp kH b4 ?_)
    |(go_at_call 252;refine T.mono ?_;rintro e2 w5 ⟨A5,c5,rfl,aT,aM⟩;have U:=C.trans (aM.mono C.size);have t1:=O w5 U))
   have aQ:w5.cell? l=K4 (Y9 d):=by rw[(K.below U K.lt).cell];rfl
   have HW:=KS w5 l d many g xs left (aN.grow U) hl h1l aK aQ aU (zO K.lt U.size) 2 9 A5 c5 _ aT (by rw[aE.out]) K5 K5 aV;rw[aE.out,show ((2:Nat):Int)=2 from rfl] at HW;refine HW.mono ?_;rintro e3 w6 ⟨rfl,aO,aS⟩;have aP:w.grownBy w6 (some d):=(ja (I.trans (U.mono I.size)) d).trans aS;clear T HW O;go_wp2
   go_roundw
   case rel=>exact .inr ⟨rfl,⟨_,by rw[zH,Jg];omega,aO⟩,aP⟩
   case measure=>simp[intOf]
  .go_wp2;go_ret;exact⟨rfl,hDx,hGx⟩
end
section
variable (w:World)(l d many lb mb szb:Nat)(g:Nat->Y4)(xs:List (Nat×Y4))(left:Int)(fr pg:Int)(sr ep:Nat)(sz:Int)
def rM (lb mb szb d:Nat):List re:=[⟨251,#[],#[Y9 mb,Y9 lb]⟩,⟨169,#[Y9 d],#[]⟩,⟨253,#[],#[Y9 lb,Y9 mb]⟩,⟨254,#[],#[Y9 mb,Y9 szb,Y9 lb]⟩]
def rN (lb mb szb d:Nat):Y7:=#[.func (.func 251) #[] #[Y9 mb,Y9 lb],.func (.func 169) #[Y9 d] #[],.func (.func 253) #[] #[Y9 lb,Y9 mb],.func (.func 254) #[] #[Y9 mb,Y9 szb,Y9 lb]]
theorem EL (B fc:Nat)(p:Int)(s:Int)(O:Y5)(ky:Nat)(y:Y4)(hD:yN w d many g xs left false)(hl:xs.length<=800000)(h1l : -1000000<=left)(aA:left<=9223372036854775807)(aE:za w l 171 (ZC (K4 ⟨d,0,K3⟩) fr pg sr ep sz none 0 0))(aI:za w lb 115 #[Y9 (K4 ⟨l,0,K3⟩)])(aM:za w mb 169 #[X1 (K4 ⟨B,0,K3⟩) 1 fc])(aN:za w szb 3 #[Y1 Q4 s])
  (aP:1<=fc) (aR:fc<=9223372036854775807) (aS:w.rangeAt B 0 (zr ep 0 p true s 0 O y.length ky).toList) (aH:B<w.heap.size) (hy:qv w w.heap.size O ky y) (aU:∀g o,O=some ⟨g,o,K3⟩->0<y.length->g≠d)
  (T:l≠d) (aD:lb≠d) (aF:mb≠d) (aO:szb≠d) (aQ:B≠d) (U:l≠lb) (Z:l≠mb) (n3:l≠szb) (aY:Mk (yz fr pg) 0 fr=0) (aX:KG y.length 0 p true s=true) (aW:vl sz 1=true) (aV:11<=many) (aL:many<=1000000) (a0:sr+1<18446744073709551616) :
  nK Y3 170 #[X1 w.heap.size 4 4] (w.alloc (Q9 (rN lb mb szb d) 84)) λe w'=>e=Y0 (Y1 Q4 0)/\(∃C,yN w' d many C [] left false)/\za w' l 171 (ZC (K4 ⟨d,0,K3⟩) fr pg (sr+1) ep s (K4 ⟨B,0,K3⟩) 1 fc)/\ze (λk=>k=d\/k=l) w w':=by
 have a1:=hD.lt;have aK:=aE.lt;have q1:=aI.lt;have q2:=aM.lt;have q3:=aN.lt;obtain⟨V,hV,E,f0⟩:=Qp w 84 (rN lb mb szb d);rw[<-hV];clear hV;have HS:=UJ V w.heap.size 4 (rM lb mb szb d)
  (λk W=>(za W lb 115 #[Y9 (K4 ⟨l,0,K3⟩)]/\za W mb 169 #[X1 (K4 ⟨B,0,K3⟩) 1 fc]/\za W szb 3 #[Y1 Q4 s]/\za W w.heap.size 84 (rN lb mb szb d)/\ze (λk=>k=d\/k=l) w W) /\
   (k=0->W=V) /\
   (k=1->(∃aG,aG.length<=xs.length+9/\yN W d many g aG left false)/\za W l 171 (ZC (K4 ⟨d,0,K3⟩) fr pg sr ep sz none 0 0)) /\
   (k=2->(∃C,yN W d many C [] left false)/\za W l 171 (ZC (K4 ⟨d,0,K3⟩) fr pg sr ep sz none 0 0)) /\
   (k=3->(∃C,yN W d many C [] left false)/\za W l 171 (ZC (K4 ⟨d,0,K3⟩) fr pg (sr+1) ep sz none 0 0)) /\
   (k=4->(∃C,yN W d many C [] left false)/\za W l 171 (ZC (K4 ⟨d,0,K3⟩) fr pg (sr+1) ep s (K4 ⟨B,0,K3⟩) 1 fc)))
  (λ_ _=>False) (by show 4<=100;omega)
  (by
   rintro k hk W ⟨⟨_,_,_,H,_⟩,_⟩;rw[H.cell]
   match k,hk with
   | 0,_=>rfl
   | 1,_=>rfl
   | 2,_=>rfl
   | 3,_=>rfl
   | k+4,h=>exact absurd h (by simp[rM]))
  (by
   rintro k hk W ⟨⟨h1,h2,K,H,I⟩,r0,r1,r2,r3,_⟩;have m0:some lb≠some d:=λe=>by injection e with e;exact aD e
   have m1:some mb≠some d:=λe=>by injection e with e;exact aF e
   have m2:some szb≠some d:=λe=>by injection e with e;exact aO e
   have m3:some w.heap.size≠some d:=λe=>by injection e with e;omega
   have m4:some l≠some d:=λe=>by injection e with e;exact T e
   match k,hk with
   | 0,_ =>
    obtain rfl:=r0 rfl;refine⟨zb.eo func251,(EO W l d many lb mb g xs left fr pg sr ep sz 0 B fc ep p true s 0 O ky y (hD.grow E) K5 h1l aA (aE.below E aK) h1 h2 aP aR (λj v hj=>(E.cell (p:=⟨B,0+j,K3⟩) aH).trans (aS j v hj)) (zO aH E.size) ((hy.below E).more E.size) aU T aD aF aQ aY aX aV aL).mono ?_⟩;rintro e w2 ⟨rfl,hx,u⟩;exact .inl ⟨rfl,⟨h1.grown u m0,h2.grown u m1,K.grown u m2,H.grown u m3,I.trans (ze.grown u (λr e=>by cases e;exact .inl (.inl rfl)))⟩,(λe=>by cases e),(λ_=>⟨hx,(aE.below E aK).grown u m4⟩),(λe=>by cases e),(λe=>by cases e),(λe=>by cases e)⟩
   | 1,_ =>
    obtain⟨⟨aG,a2,M⟩,F⟩:=r1 rfl;refine⟨zb.eo func169,(Gi W d many g _ left false M rfl K5 h1l aA).mono ?_⟩;rintro e w2 ⟨rfl,aB,u⟩;exact .inl ⟨rfl,⟨h1.grown u m0,h2.grown u m1,K.grown u m2,H.grown u m3,I.trans (ze.grown u (λr e=>by cases e;exact .inl (.inl rfl)))⟩,(λe=>by cases e),(λe=>by cases e),(λ_=>⟨⟨_,aB⟩,F.grown u m4⟩),(λe=>by cases e),(λe=>by cases e)⟩
   | 2,_ =>
    obtain⟨⟨C,M⟩,F⟩:=r2 rfl;refine⟨zb.eo func253,(EN W l d many lb mb C [] left fr pg sr ep sz none 0 0 (K4 ⟨B,0,K3⟩) 1 fc M K7 h1l aA F h1 h2 T aW K5 aL a0).mono ?_⟩;rintro e w2 ⟨rfl,aB,aC,N⟩;have z (q:Nat) (hq:q≠d) (aZ:l≠q):¬ (q=d\/q=l):=λe=>by rcases e with e|e;exact hq e;exact aZ e.symm
    exact .inl ⟨rfl,⟨N.blk h1 (z _ aD U),N.blk h2 (z _ aF Z),N.blk K (z _ aO n3),N.blk H (z _ K5 K5),I.trans N⟩,(λe=>by cases e),(λe=>by cases e),(λe=>by cases e),(λ_=>⟨aB,aC⟩),(λe=>by cases e)⟩
   | 3,_ =>
    obtain⟨⟨C,M⟩,F⟩:=r3 rfl;refine⟨zb.eo func254,(EM W l lb mb fr pg (sr+1) ep sz szb (K4 ⟨d,0,K3⟩) none 0 0 (K4 ⟨B,0,K3⟩) 1 fc s F h1 h2 K U Z n3).mono ?_⟩;rintro e w2 ⟨rfl,rfl,aC⟩;have aJ:d≠l:=λe=>T e.symm
    have aT:=F.drew.set 6 (X1 (K4 ⟨B,0,K3⟩) 1 fc);have z:w.heap.size≠l:=K5
    exact .inl ⟨rfl,⟨(h1.drew.other (λe=>U e.symm) _).other (λe=>U e.symm) _,(h2.drew.other (λe=>Z e.symm) _).other (λe=>Z e.symm) _,(K.drew.other (λe=>n3 e.symm) _).other (λe=>n3 e.symm) _,(H.drew.other z _).other z _,
     ((I.trans (ze.grown (yM W none) (λr e=>by cases e))).trans (ze.setCell _ _ _ (.inr rfl))).trans (ze.setCell _ _ _ (.inr rfl))⟩,(λe=>by cases e),(λe=>by cases e),(λe=>by cases e),(λe=>by cases e),(λ_=>⟨⟨C,((M.grow (nF _ _).drew).setOther F.drew (by show 7<=64;decide) aJ _ _ rfl).setOther aT (by simp;show 7<=64;decide) aJ _ _ rfl⟩,aC⟩)⟩
   | k+4,h=>exact absurd h (by simp[rM]))
  ⟨⟨aI.below E q1,aM.below E q2,aN.below E q3,f0,ze.below E⟩,(λ_=>rfl),(λe=>by cases e),(λe=>by cases e),(λe=>by cases e),(λe=>by cases e)⟩
 refine HS.mono ?_;rintro e w2 (⟨rfl,⟨_,_,_,_,I⟩,_,_,_,_,r4⟩|⟨x,_,_,hx⟩)
 .obtain⟨r5,r6⟩:=r4 rfl;exact⟨rfl,r5,r6,I⟩
 .exact hx.elim
end
theorem tz (p:Int)(A:Y5)(n c:Nat):∀v∈(#[Y1 Q4 p,X1 A n c]:Y7).toList,v.oneCell'=true:=by
 intro v h;simp at h;rcases h with rfl|rfl<;>rfl
theorem Ga {P:gF}{w:World}{ρ:nO->Value}{o:nh}(T:nS)(x y:nO)(j:o.op=.store T x y)(g:Nat){t:nS}{cs cs':Y7}(q:ρ x=Y9 g)(u:ρ y=Q0 cs'){n:Nat}(h:yw P T n)(hb:za w g t cs)(hn:cs.size=n)
  (hs:cs'.size=cs.size) (h1:∀v∈cs'.toList,v.oneCell'=true):(nQ ρ o).run P w=.ok .skip (w.setRow g cs'):=by
 unfold nQ;simp only[j,q,u,Instr.storeAt,Instr.sureAddr,gJ,ny,nc,Qy (hn▸h) hb hs h1]
theorem tI (o:Nat)(x:UInt8):(#[Y1 Q6 0,Y1 Q4 0,Y1 Q4 0,X3 false,Y1 Q4 0,Y1 Q7 0,X1 none 0 0]:Y7)[o]? ≠ some (b8 x):=by
 match o with
 | 0=>simp[b8]
 | 1=>simp[b8]
 | 2=>simp[b8]
 | 3=>simp[b8]
 | 4=>simp[b8]
 | 5=>simp[b8]
 | 6=>simp[b8]
 | n+7=>simp
theorem sM (e:Nat)(i p:Int)(f:Bool)(z:Int)(n:Nat)(A:Y5)(len k:Nat)(o:Nat)(x:UInt8):(zr e i p f z n A len k)[o]? ≠ some (b8 x):=by
 unfold zr
 match o with
 | 0=>simp[b8]
 | 1=>simp[b8]
 | 2=>simp[b8]
 | 3=>simp[b8]
 | 4=>simp[b8]
 | 5=>simp[b8]
 | 6=>simp[b8]
 | n+7=>simp
theorem IN {w:World}{ρ:nO->Value}{o:nh}{x:nO}(h:Y7)(j:h.size=7)(q:o.op=.buildSlice 169 1 #[(0,x)])(h1:ρ x=Q0 h):(nQ ρ o).run Y3 w=.ok (.value (X1 w.heap.size 1 1)) (w.alloc (Q9 h 261)):=by
 obtain⟨l,rfl⟩:∃l:Y8,h=l.toArray:=⟨h.toList,by simp⟩;have hl:l.length=7:=by simpa using j
 have key:=λarr hs=>Ah l arr hs
 rw[hl] at key;simp[nQ,q,h1,go_sem,nM,hl,key]
theorem ug:ZQ 169 261 7 72 (Q0 ta):=⟨underlying169,by kernel_rfl,by kernel_rfl,by decide⟩
def Q3 (F:Nat->Y5->Nat->World->Prop)(a:Nat->Y5->Nat->gh):mh->gh->World->Prop
 | .normal,b,w'=>∃q A c,F q A c w'/\b=a q A c
 | _,_,_=>False
theorem BC {P:gF}{C:Code}{Q:mh->gh->World->Prop}{a0:gh}{w0:World}(F:Nat->Y5->Nat->World->Prop)(a:Nat->Y5->Nat->gh)(h1:C.wp P (Q3 F a) a0 w0)(h2:∀q A c w',F q A c w'->Q .normal (a q A c) w'):C.wp P Q a0 w0 :=
 wp_mono h1 λe b w' h=>by
  cases e with
  | normal =>
   obtain⟨q,A,c,hf,rfl⟩:=h;exact h2 q A c w' hf
  | _=>exact h.elim
section
variable (w:World)(l d many:Nat)(gD:Nat->Y4)(xs:List (Nat×Y4))(left:Int)(fr pg:Int)(sr ep:Nat)(sz:Int)
theorem EK (hD:yN w d many gD xs left false)(hl:xs.length<=800000)(h1l : -1000000<=left)(bU:left<=9223372036854775807)(aX:za w l 171 (ZC (K4 ⟨d,0,K3⟩) fr pg sr ep sz none 0 0))(b9:l≠d)
  (g o c:Nat) (p:Int) (I:Y5) (M:Nat) (y:Y4) (hg:g<w.heap.size) (hx:w.rangeAt g o [Y1 Q4 p,X1 I 512 M]) (hy:qv w w.heap.size I M y) (aZ:y.length=512)
  (a7:yz fr pg=true) (bJ:0<=p) (cF:p<pg) (s:Int) (hs:0<=s) (cJ:s<=pg) (cM:vl sz 1=true) (cA:11<=many) (cC:many<=1000000) (cK:sr+1<18446744073709551616) :
  nK Y3 190 #[Y9 l,Y1 Q4 s,X1 (K4 ⟨g,o,K3⟩) 1 c] w λe w'=>e=Y0 (Y1 Q4 0)/\(∃g',yN w' d many g' [] left false)/\(∃A c',za w' l 171 (ZC (K4 ⟨d,0,K3⟩) fr pg (sr+1) ep s A 1 c'))/\ze (λk=>k=d\/k=l) w w':=by
 have cV:=(vQ fr pg).1 a7;have cG:Mk (yz fr pg) p pg=0:=by rw[a7];simp[Mk,bJ,cF]
 have cH:Mk (yz fr pg) 0 fr=0:=by rw[a7];simp[Mk];omega
 have hB:nH w.heap.size w ((w.alloc (Q9 #[Y9 l] 115)).alloc (Q9 #[Y1 Q4 s] 3)):=((nF _ w).alloc (zG _) _).alloc K9 _;have b0:=(za.new w 115 #[Y9 l]).alloc (Q9 #[Y1 Q4 s] 3);have b1:=za.new (w.alloc (Q9 #[Y9 l] 115)) 3 #[Y1 Q4 s];rw[nG] at b1;have aO:=aX.below hB aX.lt;have HN:=Zn aO;have bP:Pz w g o 1 (λ_=>(p,I,M)):=λk hk=>by
  obtain rfl:k=0:=K5
  exact hx
 have HR:=Nl _ l _ fr pg sr ep sz none 0 0 aO g o 1 c (λ_=>(p,I,M)) K5 K5 (bP.below hB hg) (by simp;omega) (λ_ _=>cG) s hs cJ;have cZ:IntKind.i64.wrap 1=1:=K7
 have cS:=hD.lt;have cU:=aX.lt;have b3:KG 512 0 p true s=true:=(Kw _ _ _ _ _).2 ⟨rfl,⟨by omega,by omega⟩,⟨bJ,by omega⟩,⟨hs,by omega⟩,.inl rfl⟩;clear bP
 go_enter func190,ntmps190
 go_wp2_with (first
  |(go_at_call 179;refine HN.mono ?_;rintro e w' ⟨rfl,rfl⟩)
  |(go_at_call 249;refine HR.mono ?_;rintro e H ⟨rfl,aF⟩;have aJ:=aO.below aF aO.lt;have aR:=b0.below aF b0.lt;have a9:=b1.below aF b1.lt))
 have aG:=hB.trans (aF.mono hB.size);have bK:w.heap.size+2<=H.heap.size:=by have:=aF.size;simp at this;omega
 have E:nH H.heap.size H H.drew:=(nF _ _).drew;have T0:∀W,nH H.heap.size H W->W.cell? w.heap.size=K4 (Y9 l):=λW C=>(aR.below C aR.lt).boxed
 have T6:∀W,nH H.heap.size H W->W.cell? ⟨l,6,K3⟩=some (X1 none 0 0):=λW C=>by rw[(aJ.below C aJ.lt).cell];rfl
 have T1:∀W,nH H.heap.size H W->W.cell? ⟨l,1,K3⟩=K4 (Y1 Q4 fr):=λW C=>by rw[(aJ.below C aJ.lt).cell];rfl
 have bC:=hD.grow aG;have bQ:=(hy.below aG).more aG.size;have bM:H.rangeAt g o [Y1 Q4 p,X1 I 512 M]:=λj v hj=>(aG.cell (p:=⟨g,o+j,K3⟩) hg).trans (hx j v hj)
 clear HN HR hD aX aO b0 b1 hB aF hx hy;refine zb.st (λW=>nH H.heap.size H W) 99 ?_;refine zb.t0 0 (Y9 l) rfl E (λW C=>by have q:=T0 W C;go_simp) ?_;refine zb.q0 1 (Y9 l) E ?_;refine zb.q0 2 (Y9 (K4 ⟨l,6,K3⟩)) E ?_;refine zb.t0 3 (X1 none 0 0) rfl E (λW C=>by have q:=T6 W C;go_simp) ?_;refine zb.q0 4 (Y1 Q4 0) E ?_;refine zb.q0 5 (X1 (K4 ⟨g,o,K3⟩) 1 c) E ?_;refine zb.q0 6 (Y1 Q4 1) E ?_;refine zb.q0 7 (Y1 Q4 1) E ?_;refine zb.t0 8 (Y9 l) rfl E (λW C=>by have q:=T0 W C;go_simp) ?_;refine zb.q0 9 (Y9 l) E ?_;refine zb.q0 10 (Y9 l) E ?_;refine zb.q0 11 (Y9 (K4 ⟨l,1,K3⟩)) E ?_;refine zb.q0 12 (Y9 (K4 ⟨l,1,K3⟩)) E ?_;refine zb.t0 13 (Y1 Q4 fr) rfl E (λW C=>by have q:=T1 W C;go_simp) ?_;simp only[Z8];refine zb.n 14 (zb.opV (w':=H.drew) (X3 false) rfl rfl K8 ⟨λ_=>E,?_⟩);simp only[Z8];refine zb.n 15 (zb.opV (w':=H.drew) (X3 false) rfl rfl K8 ⟨λ_=>E,zb.dn ?_⟩);simp only[Z8];have t0:=T0 _ E;have t6:=T6 _ E;have a1:=bC.grow E;have aC:=aJ.drew;have aD:=aR.drew;have aK:=a9.drew;have bR:qv H.drew H.drew.heap.size I M y:=bQ.drew;have bN:H.drew.rangeAt g o [Y1 Q4 p,X1 I 512 M]:=bM;have bA:nH w.heap.size w H.drew:=aG.drew;have c0:w.heap.size+2<=H.drew.heap.size:=bK;clear T0 T6 T1 bC aJ aR a9 bQ bM aG bK E;generalize H.drew=F at *
 go_wp2_with (go_at_call 250;refine(Ou _).mono ?_;rintro e w' ⟨rfl,rfl⟩)
 obtain⟨W4,bD,K,m4⟩:=Qp F 169 #[X1 none 0 0];rw[<-bD];clear bD
 go_loopw [43] (λi wr=>(i=Y1 Q4 0/\nH F.heap.size F wr/\za wr F.heap.size 169 #[X1 none 0 0]) \/
  (i=Y1 Q4 1/\nH F.heap.size F wr/\∃fg fc B c6,1<=fc/\fc<=9223372036854775807/\za wr F.heap.size 169 #[X1 (K4 ⟨fg,0,K3⟩) 1 fc]/\wr.rangeAt fg 0 (zr ep 0 p true s 0 B 512 c6).toList/\fg<wr.heap.size/\F.heap.size<=fg/\qv wr wr.heap.size B c6 y/\(∀g o,B=some ⟨g,o,K3⟩->F.heap.size<=g))) (λi _=>2-(intOf i).toNat)
 case atStart=>exact .inl ⟨rfl,K,m4⟩
 case round =>
  clear K m4;rcases hrel with⟨rfl,K,m4⟩|⟨rfl,K,fg,fc,B,c6,hfc1,hfc2,m4,hr4,hfg,hfg3,aY,aA⟩
  .have bO:wr.rangeAt g o [Y1 Q4 p,X1 I 512 M]:=λj v hj=>(K.cell (p:=⟨g,o+j,K3⟩) (by show g<F.heap.size;omega)).trans (bN j v hj)
   have aY:=(bR.below K).more K.size;have b4:=za.new wr 200 #[Y1 Q4 0,X1 none 0 0];have b5:=b4.setRow #[Y1 Q4 p,X1 I 512 M];have aE:nH F.heap.size F ((wr.alloc (Q9 #[Y1 Q4 0,X1 none 0 0] 200)).setRow wr.heap.size #[Y1 Q4 p,X1 I 512 M]):=zf (K.alloc K.size _) K.size _;have aU:nH wr.heap.size wr ((wr.alloc (Q9 #[Y1 Q4 0,X1 none 0 0] 200)).setRow wr.heap.size #[Y1 Q4 p,X1 I 512 M]):=zf ((nF _ wr).alloc (zG _) _) (zG _) _;have m5:=m4.below aU m4.lt;have cP:=(aY.below aU).more aU.size
   go_wp2_with (first
    |(refine zp rfl (yQ BY bO rfl rfl rfl) ?_)
    |(refine zt rfl 200 (.tmp 9) (.tmp 47) rfl wr.heap.size rfl rfl BY b4 rfl rfl (tz _ _ _ _) ?_))
   clear bO aY b4 aU m4 K;generalize (wr.alloc (Q9 #[Y1 Q4 0,X1 none 0 0] 200)).setRow wr.heap.size #[Y1 Q4 p,X1 I 512 M]=u at *;have T0:∀W,nH u.heap.size u W->W.cell? w.heap.size=K4 (Y9 l):=λW C=>((aD.below aE aD.lt).below C (zO aD.lt aE.size)).boxed
   have T4:∀W,nH u.heap.size u W->W.cell? ⟨l,4,K3⟩=K4 (Y1 Q6 (ep:Int)):=λW C=>by rw[((aC.below aE aC.lt).below C (zO aC.lt aE.size)).cell];rfl
   have TM:∀W,nH u.heap.size u W->W.cell? F.heap.size=some (X1 none 0 0):=λW C=>(m5.below C m5.lt).boxed
   have TP:∀W,nH u.heap.size u W->W.cell? wr.heap.size=K4 (Y1 Q4 p):=λW C=>by rw[(b5.below C b5.lt).cell];rfl
   have TB:∀W,nH u.heap.size u W->W.cell? ⟨wr.heap.size,1,K3⟩=some (X1 I 512 M):=λW C=>by rw[(b5.below C b5.lt).cell];rfl
   have aQ:∀W,nH u.heap.size u W->nK Y3 112 #[X1 I 512 M] W λe w'=>∃A c,e=Y0 (X1 A 512 c)/\qv w' w'.heap.size A c y/\(∀g o,A=some ⟨g,o,K3⟩->u.heap.size<=g)/\nH W.heap.size W w':=λW C=>by have h:=Yl W I M y ((cP.below C).more C.size) K5;rw[aZ] at h;refine h.mono ?_;rintro e w' ⟨v,rfl,own,aB⟩;have b6:=zj own;obtain⟨A,c,rfl,aI⟩:=own.inB;exact⟨A,c,by rw[aZ],aI,λg o e=>by subst e;exact zT C.size (b6 g rfl),aB⟩
   have E:nH u.heap.size u u.drew:=(nF _ _).drew
   go_wp2_with fail
   apply BC (λq B c6 w'=>za w' q 261 (zr ep 0 p false 0 0 B 512 c6)/\u.heap.size<=q/\qv w' w'.heap.size B c6 y/\(∀g o,B=some ⟨g,o,K3⟩->u.heap.size<=g)/\nH u.heap.size u w')
   case h1 =>
    refine zb.st (λW=>nH u.heap.size u W) 99 ?_;refine zb.t0 0 (Y9 l) rfl E (λW C=>by have q:=T0 W C;go_simp) ?_;refine zb.q0 1 (Y9 l) E ?_;refine zb.q0 2 (Y9 (K4 ⟨l,4,K3⟩)) E ?_;refine zb.t0 3 (Y1 Q6 (ep:Int)) rfl E (λW C=>by have q:=T4 W C;go_simp) ?_;refine zb.t0 4 (X1 none 0 0) rfl E (λW C=>by have q:=TM W C;go_simp) ?_;refine zb.q0 5 (Y1 Q4 0) E ?_;refine zb.q0 6 (Y9 wr.heap.size) E ?_;refine zb.t0 7 (Y1 Q4 p) rfl E (λW C=>by have q:=TP W C;go_simp) ?_;refine zb.t0 8 (X1 none 0 0) rfl E (λW C=>by have q:=TM W C;go_simp) ?_;refine zb.q0 10 (Y9 (K4 ⟨wr.heap.size,1,K3⟩)) E ?_;refine zb.t0 11 (X1 I 512 M) rfl E (λW C=>by have q:=TB W C;go_simp) ?_;simp only[Z8];refine zb.two 9 14 K6 ?_ ?_
    case' refine_1 =>
     refine zb.oC 177 #[.tmp 56] #[169] #[X1 none 0 0] ((PE u.drew).mono ?_) (zb.eo func177);rintro e w' ⟨rfl,rfl⟩;refine⟨_,rfl,λ_=>E,?_⟩;simp only[Z8];refine zb.two 12 14 K6 ?_ ?_
     case' refine_1 =>
      refine zb.oC 112 #[.tmp 59] #[129] #[X1 I 512 M] ((aQ u.drew E).mono ?_) (zb.eo func112);rintro e Wc ⟨B,c6,rfl,U,aA,aB⟩;have O:nH u.heap.size u Wc:=E.trans (aB.mono E.size);refine⟨_,rfl,λ_=>O,?_⟩;simp only[Z8];refine zb.t0 13 (Q0 (zr ep 0 p false 0 0 B 512 c6)) rfl O (λW C=>by go_simp;rfl) ?_;simp only[Z8];have Z:=za.new Wc 261 #[Y1 Q6 0,Y1 Q4 0,Y1 Q4 0,X3 false,Y1 Q4 0,Y1 Q7 0,X1 none 0 0];have a4:nH u.heap.size u (Wc.alloc (Q9 #[Y1 Q6 0,Y1 Q4 0,Y1 Q4 0,X3 false,Y1 Q4 0,Y1 Q7 0,X1 none 0 0] 261)):=O.alloc O.size _;have bB:nH Wc.heap.size Wc (Wc.alloc (Q9 #[Y1 Q6 0,Y1 Q4 0,Y1 Q4 0,X3 false,Y1 Q4 0,Y1 Q7 0,X1 none 0 0] 261)):=(nF _ _).alloc (zG _) _;refine zb.n 14 ?_;refine zb.opV (w':=Wc.alloc (Q9 #[Y1 Q6 0,Y1 Q4 0,Y1 Q4 0,X3 false,Y1 Q4 0,Y1 Q7 0,X1 none 0 0] 261)) (Y9 Wc.heap.size) rfl rfl K8 ⟨λ_=>a4,?_⟩;simp only[Z8];refine zb.n 15 (zb.opS (w':=(Wc.alloc (Q9 #[Y1 Q6 0,Y1 Q4 0,Y1 Q4 0,X3 false,Y1 Q4 0,Y1 Q7 0,X1 none 0 0] 261)).setRow Wc.heap.size (zr ep 0 p false 0 0 B 512 c6)) rfl rfl (Ga 261 (.tmp 10) (.tmp 61) rfl Wc.heap.size rfl rfl kH Z rfl rfl (QK _ _ _ _ _ _ _ _ _)) ⟨λ_=>zf a4 O.size _,zb.dn ?_⟩);simp only[zD,zC,zB,nJ];have hF:za ((Wc.alloc (Q9 #[Y1 Q6 0,Y1 Q4 0,Y1 Q4 0,X3 false,Y1 Q4 0,Y1 Q7 0,X1 none 0 0] 261)).setRow Wc.heap.size (zr ep 0 p false 0 0 B 512 c6)) Wc.heap.size 261 (zr ep 0 p false 0 0 B 512 c6)/\u.heap.size<=Wc.heap.size/\qv ((Wc.alloc (Q9 #[Y1 Q6 0,Y1 Q4 0,Y1 Q4 0,X3 false,Y1 Q4 0,Y1 Q7 0,X1 none 0 0] 261)).setRow Wc.heap.size (zr ep 0 p false 0 0 B 512 c6)) ((Wc.alloc (Q9 #[Y1 Q6 0,Y1 Q4 0,Y1 Q4 0,X3 false,Y1 Q4 0,Y1 Q7 0,X1 none 0 0] 261)).setRow Wc.heap.size (zr ep 0 p false 0 0 B 512 c6)).heap.size B c6 y/\(∀g o,B=some ⟨g,o,K3⟩->u.heap.size<=g)/\nH u.heap.size u ((Wc.alloc (Q9 #[Y1 Q6 0,Y1 Q4 0,Y1 Q4 0,X3 false,Y1 Q4 0,Y1 Q7 0,X1 none 0 0] 261)).setRow Wc.heap.size (zr ep 0 p false 0 0 B 512 c6)):=⟨Z.setRow _,O.size,(U.below (zf bB (zG _) (zr ep 0 p false 0 0 B 512 c6))).more (zf bB (zG _) (zr ep 0 p false 0 0 B 512 c6)).size,aA,zf a4 O.size _⟩;generalize (Wc.alloc (Q9 #[Y1 Q6 0,Y1 Q4 0,Y1 Q4 0,X3 false,Y1 Q4 0,Y1 Q7 0,X1 none 0 0] 261)).setRow Wc.heap.size (zr ep 0 p false 0 0 B 512 c6)=W7 at hF ⊢;generalize Wc.heap.size=q at hF ⊢;exact⟨q,B,c6,hF,rfl⟩
     case' refine_2 =>
      have Z:=za.new u.drew 261 #[Y1 Q6 0,Y1 Q4 0,Y1 Q4 0,X3 false,Y1 Q4 0,Y1 Q7 0,X1 none 0 0];have T:nH u.heap.size u (u.drew.alloc (Q9 #[Y1 Q6 0,Y1 Q4 0,Y1 Q4 0,X3 false,Y1 Q4 0,Y1 Q7 0,X1 none 0 0] 261)):=E.alloc E.size _;refine zb.opV (w':=u.drew.alloc (Q9 #[Y1 Q6 0,Y1 Q4 0,Y1 Q4 0,X3 false,Y1 Q4 0,Y1 Q7 0,X1 none 0 0] 261)) (Y9 u.drew.heap.size) rfl rfl K8 ⟨λ_=>T,?_⟩;simp only[Z8];generalize u.drew.alloc (Q9 #[Y1 Q6 0,Y1 Q4 0,Y1 Q4 0,X3 false,Y1 Q4 0,Y1 Q7 0,X1 none 0 0] 261)=Wa at Z T ⊢;refine zb.n 12 ?_;refine zb.oC 112 #[.tmp 59] #[129] #[X1 I 512 M] ((aQ Wa T).mono ?_) (zb.eo func112);rintro e Wc ⟨B,c6,rfl,U,aA,aB⟩;have bc:=Z.below aB Z.lt;have O:nH u.heap.size u Wc:=T.trans (aB.mono T.size);refine⟨_,rfl,λ_=>O,?_⟩;simp only[Z8];refine zb.n 13 (zb.opV (w':=Wc) (Q0 (zr ep 0 p false 0 0 B 512 c6)) rfl rfl (by go_simp;rfl) ⟨λ_=>O,?_⟩);simp only[Z8];have aM:nH u.heap.size u (Wc.setRow u.drew.heap.size (zr ep 0 p false 0 0 B 512 c6)):=zf O E.size _;refine zb.n 15 (zb.opS (w':=Wc.setRow u.drew.heap.size (zr ep 0 p false 0 0 B 512 c6)) rfl rfl (Ga 261 (.tmp 10) (.tmp 61) rfl u.drew.heap.size rfl rfl kH bc rfl rfl (QK _ _ _ _ _ _ _ _ _)) ⟨λ_=>aM,zb.dn ?_⟩);simp only[zD,zC,zB,nJ];have aP:∀g o,B=some ⟨g,o,K3⟩->g≠u.drew.heap.size:=λg o e=>by
       subst e;intro e2;subst e2;obtain⟨g',o',N,bI,aN⟩:=U.pO K5;injection N with N
       injection N with N e4
       subst N e4;have h0:=aN 0 K5;rw[bc.cell] at h0;exact tI _ _ h0
      have hF:za (Wc.setRow u.drew.heap.size (zr ep 0 p false 0 0 B 512 c6)) u.drew.heap.size 261 (zr ep 0 p false 0 0 B 512 c6)/\u.heap.size<=u.drew.heap.size/\qv (Wc.setRow u.drew.heap.size (zr ep 0 p false 0 0 B 512 c6)) (Wc.setRow u.drew.heap.size (zr ep 0 p false 0 0 B 512 c6)).heap.size B c6 y/\(∀g o,B=some ⟨g,o,K3⟩->u.heap.size<=g)/\nH u.heap.size u (Wc.setRow u.drew.heap.size (zr ep 0 p false 0 0 B 512 c6)):=⟨bc.setRow _,E.size,ze.inB (Mu:=λk=>k=u.drew.heap.size) (ze.grown (kE Wc u.drew.heap.size (zr ep 0 p false 0 0 B 512 c6)) (λr e=>by injection e with e;exact .inl e.symm)) U (λg o e _=>aP g o e),aA,aM⟩;generalize Wc.setRow u.drew.heap.size (zr ep 0 p false 0 0 B 512 c6)=W7 at hF ⊢;generalize u.drew.heap.size=q at hF ⊢;exact⟨q,B,c6,hF,rfl⟩
    case' refine_2 =>
     have Z:=za.new u.drew 261 #[Y1 Q6 0,Y1 Q4 0,Y1 Q4 0,X3 false,Y1 Q4 0,Y1 Q7 0,X1 none 0 0];have T:nH u.heap.size u (u.drew.alloc (Q9 #[Y1 Q6 0,Y1 Q4 0,Y1 Q4 0,X3 false,Y1 Q4 0,Y1 Q7 0,X1 none 0 0] 261)):=E.alloc E.size _;refine zb.opV (w':=u.drew.alloc (Q9 #[Y1 Q6 0,Y1 Q4 0,Y1 Q4 0,X3 false,Y1 Q4 0,Y1 Q7 0,X1 none 0 0] 261)) (Y9 u.drew.heap.size) rfl rfl K8 ⟨λ_=>T,?_⟩;simp only[Z8];generalize u.drew.alloc (Q9 #[Y1 Q6 0,Y1 Q4 0,Y1 Q4 0,X3 false,Y1 Q4 0,Y1 Q7 0,X1 none 0 0] 261)=Wa at Z T ⊢;refine zb.n 9 ?_;refine zb.oC 177 #[.tmp 56] #[169] #[X1 none 0 0] ((PE _).mono ?_) (zb.eo func177);rintro e w' ⟨rfl,rfl⟩;refine⟨_,rfl,λ_=>T,?_⟩;simp only[Z8];refine zb.n 12 ?_;refine zb.oC 112 #[.tmp 59] #[129] #[X1 I 512 M] ((aQ Wa T).mono ?_) (zb.eo func112);rintro e Wc ⟨B,c6,rfl,U,aA,aB⟩;have bc:=Z.below aB Z.lt;have O:nH u.heap.size u Wc:=T.trans (aB.mono T.size);refine⟨_,rfl,λ_=>O,?_⟩;simp only[Z8];refine zb.n 13 (zb.opV (w':=Wc) (Q0 (zr ep 0 p false 0 0 B 512 c6)) rfl rfl (by go_simp;rfl) ⟨λ_=>O,?_⟩);simp only[Z8];have aM:nH u.heap.size u (Wc.setRow u.drew.heap.size (zr ep 0 p false 0 0 B 512 c6)):=zf O E.size _;refine zb.n 15 (zb.opS (w':=Wc.setRow u.drew.heap.size (zr ep 0 p false 0 0 B 512 c6)) rfl rfl (Ga 261 (.tmp 10) (.tmp 61) rfl u.drew.heap.size rfl rfl kH bc rfl rfl (QK _ _ _ _ _ _ _ _ _)) ⟨λ_=>aM,zb.dn ?_⟩);simp only[zD,zC,zB,nJ];have aP:∀g o,B=some ⟨g,o,K3⟩->g≠u.drew.heap.size:=λg o e=>by
      subst e;intro e2;subst e2;obtain⟨g',o',N,bI,aN⟩:=U.pO K5;injection N with N
      injection N with N e4
      subst N e4;have h0:=aN 0 K5;rw[bc.cell] at h0;exact tI _ _ h0
     have hF:za (Wc.setRow u.drew.heap.size (zr ep 0 p false 0 0 B 512 c6)) u.drew.heap.size 261 (zr ep 0 p false 0 0 B 512 c6)/\u.heap.size<=u.drew.heap.size/\qv (Wc.setRow u.drew.heap.size (zr ep 0 p false 0 0 B 512 c6)) (Wc.setRow u.drew.heap.size (zr ep 0 p false 0 0 B 512 c6)).heap.size B c6 y/\(∀g o,B=some ⟨g,o,K3⟩->u.heap.size<=g)/\nH u.heap.size u (Wc.setRow u.drew.heap.size (zr ep 0 p false 0 0 B 512 c6)):=⟨bc.setRow _,E.size,ze.inB (Mu:=λk=>k=u.drew.heap.size) (ze.grown (kE Wc u.drew.heap.size (zr ep 0 p false 0 0 B 512 c6)) (λr e=>by injection e with e;exact .inl e.symm)) U (λg o e _=>aP g o e),aA,aM⟩;generalize Wc.setRow u.drew.heap.size (zr ep 0 p false 0 0 B 512 c6)=W7 at hF ⊢;generalize u.drew.heap.size=q at hF ⊢;exact⟨q,B,c6,hF,rfl⟩
   case h2 =>
    rintro q B c6 V ⟨aH,cW,U,aA,a0⟩;have aS:=aE.trans (a0.mono aE.size);have m6:=m5.below a0 m5.lt;have s6:=aK.below aS aK.lt;have cO:IntKind.i64.wrap 0=0:=K7
    have bE:=aH.drew.set 3 (X3 true);have bF:za ((V.drew.setCell ⟨q,3,K3⟩ (X3 true)).setCell ⟨q,4,K3⟩ (Y1 Q4 s)) q 261 (zr ep 0 p true s 0 B 512 c6):=bE.set 4 (Y1 Q4 s);have cI:∀g o,B=some ⟨g,o,K3⟩->¬ g=q:=λg o e=>by
     subst e;intro e2;subst e2;obtain⟨g',o',N,bI,aN⟩:=U.pO K5;injection N with N
     injection N with N e4
     subst N e4;have h0:=aN 0 K5;rw[aH.cell] at h0;exact sM _ _ _ _ _ _ _ _ _ _ _ h0
    have z3:V.cell? ⟨q,3,K3⟩=some (X3 false):=by rw[aH.cell];rfl
    have z4:V.cell? ⟨q,4,K3⟩=K4 (Y1 Q4 0):=by rw[aH.cell];rfl
    have y3:=aH.free 3;have y4:=aH.free 4;have c2:=aE.size;have cQ:¬ w.heap.size+1=q:=K5
    have bS:¬ F.heap.size=q:=by have:=m5.lt;omega
    have aW:=s6.drew;have a5:=aW.other (p:=⟨q,3,K3⟩) cQ (X3 true);have a3:=(m6.drew.other (p:=⟨q,3,K3⟩) bS (X3 true)).other (p:=⟨q,4,K3⟩) bS (Y1 Q4 s);have a2:ze (λk=>k=q) V ((V.drew.setCell ⟨q,3,K3⟩ (X3 true)).setCell ⟨q,4,K3⟩ (Y1 Q4 s)):=((ze.grown (yM V none) (λr e=>by cases e)).trans (ze.grown (jV _ ⟨q,3,K3⟩ _) (λr e=>by injection e with e;exact .inl e.symm))).trans (ze.grown (jV _ ⟨q,4,K3⟩ _) (λr e=>by injection e with e;exact .inl e.symm));clear T0 T4 TM TP TB aQ
    go_wp2_with fail
    refine zb.st (λW=>za W (w.heap.size+1) 3 #[Y1 Q4 s]) 4 ?_;refine zb.t 0 (Y1 Q4 s) rfl aW (λW C=>by have q:=C.boxed;go_simp) ?_;simp only[zD,zB,nJ,zA,zF,zE];refine zb.n 1 (zb.opV (w':=V.drew) (Y9 (K4 ⟨q,3,K3⟩)) rfl rfl K8 ⟨λ_=>aW,?_⟩);simp only[Z8];refine zb.n 2 (zb.opS (w':=V.drew.setCell ⟨q,3,K3⟩ (X3 true)) rfl rfl K8 ⟨λ_=>a5,?_⟩);simp only[zD,zC,zB,nJ];refine zb.n 3 (zb.opV (w':=V.drew.setCell ⟨q,3,K3⟩ (X3 true)) (Y9 (K4 ⟨q,4,K3⟩)) rfl rfl K8 ⟨λ_=>a5,?_⟩);simp only[Z8];refine zb.n 4 (zb.opS (w':=(V.drew.setCell ⟨q,3,K3⟩ (X3 true)).setCell ⟨q,4,K3⟩ (Y1 Q4 s)) rfl rfl K8 ⟨λh=>absurd rfl h,zb.dn ?_⟩);simp only[zD,zC,zB,nJ];clear z3 z4 y3 y4 aW a5 bE cO;generalize (V.drew.setCell ⟨q,3,K3⟩ (X3 true)).setCell ⟨q,4,K3⟩ (Y1 Q4 s)=w7 at *;have aT:nH F.heap.size F w7:=aS.trans (a2.toBelow aS.size (λk e=>by subst e;omega));have km:=a3.boxed;have bL:=za.new w7 261 (zr ep 0 p true s 0 B 512 c6);have aL:nH w7.heap.size w7 (w7.alloc (Q9 (zr ep 0 p true s 0 B 512 c6) 261)):=(nF _ _).alloc (zG _) _;have aI:=(qq (World.ownsRow_lit (base:=w7.heap.size) (size:=7) (e:=261) w7 (zr ep 0 p true s 0 B 512 c6) 1 (zG _) K7 rfl) (QK _ _ _ _ _ _ _ _ _));obtain⟨AL,cL,eL,aI⟩:=aI;injection eL with eL1 _ eL2
    subst eL1 eL2;have b7:qv w7 w7.heap.size B c6 y:=ze.inB a2 U (λg o e _=>cI g o e);obtain⟨FC,aV⟩:=Z9 (zr ep 0 p true s 0 B 512 c6);rw[<-aV] at bF bL aL aI;have bH:FC.size=7:=by rw[aV];rfl
    have bT:=nI aV;clear aV U a0 aS m6 s6 a2
    go_wp2_with (first
     |(refine yO rfl 261 (.tmp 10) rfl q rfl kH bF bH ?_)
     |(refine zp rfl (IN FC bH rfl rfl) ?_)
     |(at_builtin;refine xg rfl ug (.tmp 70) (.tmp 72) rfl w7.heap.size (X1 none 0 0) 0 [] rfl (World.ownsRow_nil _ _ _ _) _ (K4 ⟨w7.heap.size,0,K3⟩) 1 1 FC.toList rfl aI K7 K7 aL.size ?_;intro v8 w8 a8 a6;replace a8:w8.ownsRow w7.heap.size 261 7 v8 1 FC.toList:=a8;obtain⟨g8,c8,cur8,rfl,cT,bG,cD,cB,cX,cN⟩:=a8.2.resolve_left (λh=>absurd h.2 K7);have m8:=(a3.alloc (Q9 FC 261)).grown a6 (λe=>by cases e);have c1:=m8.boxed;have cR:=m8.free 0))
    have bV:nH F.heap.size F w8:=aT.trans (((aL.mono aT.size).trans (zo a6 (zT aT.size aL.size) (λr e=>by cases e))));refine⟨.inr ⟨rfl,bV.setCell (p:=⟨F.heap.size,0,K3⟩) (zG _) _,g8,c8,B,c6,cD,cB,m8.set 0 _,?_,?_,?_,?_,?_⟩,by decide⟩
    .intro j v hj;rw[<-bT.out] at hj;have aP:¬ g8=F.heap.size:=by have:=a3.lt;omega
     have bY:za w8 g8 261 cur8:=bG;refine(nW (nU w8 ⟨F.heap.size,0,K3⟩ _ g8 aP)).trans ?_;rw[bY.cell,<-cN] at *;rw[yI] at hj;split at hj
     .simpa using hj
     .cases hj
    .show g8<_
     have:=(zI.1 bG).1;simpa using this
    .have:=aT.size;omega
    .exact ze.inB (Mu:=λk=>k=F.heap.size) (((ze.below aL).trans (ze.grown a6 (λr e=>by cases e))).trans (ze.setCell _ _ _ rfl)) b7 (λg o e _=>by have:=aA g o e;have:=m5.lt;omega)
    .intro g o e;have:=aA g o e;omega
  .have cY:=K.size;have d0:=a1.lt;have d1:=aC.lt;rw[<-aZ] at hr4;have bZ:d≠w.heap.size:=K5
   have b2:d≠w.heap.size+1:=K5
   have cE:KG y.length 0 p true s=true:=by rw[aZ];exact b3
   have HS:=EL wr l d many w.heap.size F.heap.size (w.heap.size+1) gD xs left fr pg sr ep sz fg fc p s B c6 y (a1.grow K) hl h1l bU (aC.below K aC.lt) (aD.below K aD.lt) m4 (aK.below K aK.lt) hfc1 hfc2 hr4 hfg aY (λg o e _=>by have:=aA g o e;omega) b9 bZ.symm K5 b2.symm K5 K5 K5 K5 cH cE cM cA cC cK;have k0:=(aD.below K aD.lt).boxed;have kl:wr.cell? l=K4 (Y9 d):=by rw[(aC.below K aC.lt).cell];rfl
   clear a1 aC aD aK bR bN t0 t6
   go_wp2_with (go_at_call 170;refine HS.mono ?_;rintro e w9 ⟨rfl,bW,b8,bX⟩)
   go_ret;exact⟨rfl,bW,⟨_,_,b8⟩,(ze.below (bA.trans (K.mono bA.size))).trans bX⟩
end
structure DS where
 g:Nat->Y4
 xs:List (Nat×Y4)
 left:Int
 st:Bool
abbrev DkS (w:World)(d many:Nat)(s:DS):Prop:=yN w d many s.g s.xs s.left s.st
end
section
open Go Go.RowKit xq Go.Shelf
attribute [local go_sem] Oper.semAt_some
end
section
open Go Go.RowKit xq
section
variable (w:World)(l d many lb hb:Nat)(s:DS)(hs he:Nat)(hz hc:Int)
end
def sy (e:Nat)(i p:Int)(f:Bool)(z:Int)(n:Nat)(y:Y4):Nat:=if KG y.length i p f z then Ro (YC e i.toNat p.toNat f z.toNat n++y) else 0


structure tF where
 e:Nat
 i:Int
 p:Int
 f:Bool
 z:Int
 n:Nat
 y:Y4
abbrev EY:=tF×Y5×Nat
def EY.arr (v:EY):Y7:=zr v.1.e v.1.i v.1.p v.1.f v.1.z v.1.n v.2.1 v.1.y.length v.2.2
theorem Un (v:EY):v.arr.toList.length=7:=rfl
def Ia (vs:List EY):Y8:=(vs.map λv=>v.arr.toList).flatten
theorem Sh (v:EY)(vs:List EY):Ia (v::vs)=v.arr.toList++Ia vs:=rfl
theorem LP (xs ys:List EY):Ia (xs++ys)=Ia xs++Ia ys:=by simp[Ia]
theorem Gf:∀h:List EY,(Ia h).length=h.length*7
 | []=>rfl
 | v::h=>by rw[Sh,zH,Gf h,Un,zK];omega
theorem BF (h:List EY)(j:Nat)(q:j<h.length):((Ia h).drop (j*7)).take 7=h[j].arr.toList:=by
 have e:Ia h=Ia (h.take j)++(h[j].arr.toList++Ia (h.drop (j+1))):=by rw[<-Sh,<-LP,<-qS q,qK]
 have hl:(Ia (h.take j)).length=j*7:=by rw[Gf,qB];congr 1;omega
 rw[e,<-hl,List.drop_left,List.take_left' (Un _)]
structure Je (Mu:Nat->Prop)(w:World)(A:Y5)(c:Nat)(vs:List EY):Prop where
 row:yl w w.heap.size 7 A vs.length c (Ia vs)
 out:∀g o,A=some ⟨g,o,K3⟩->¬ Mu g/\o=0
 nil:vs=[]->A=none
 px:∀v∈vs,qv w w.heap.size v.2.1 v.2.2 v.1.y/\∀g o,v.2.1=some ⟨g,o,K3⟩->¬ Mu g
theorem Je.mt (Mu:Nat->Prop)(w:World):Je Mu w none 0 []:=⟨yl.mt _ _ _,(λ_ _ e=>by cases e),λ_=>rfl,λv h=>by cases h⟩
theorem yl.dO {Mu:Nat->Prop}{w w':World}{sz:Nat}{A:Y5}{n c:Nat}{cs:Y8}(h:yl w w.heap.size sz A n c cs)(q:ze Mu w w')(hn:∀g o,A=some ⟨g,o,K3⟩->¬ Mu g):yl w' w'.heap.size sz A n c cs :=
 ⟨h.le,h.max,h.nil,h.len,h.one,λB=>by
  obtain⟨g,o,e,u,E⟩:=h.pO B
  exact⟨g,o,e,zO u q.size,λj v C=>q.cell (E j v C) u (hn g o e)⟩⟩
theorem Je.pR {Mu Nu:Nat->Prop}{w w':World}{A:Y5}{c:Nat}{vs:List EY}(h:Je Mu w A c vs)(u:ze Nu w w')(hn:∀k,Nu k->k<w.heap.size->Mu k):Je Mu w' A c vs :=
 have q:ze Mu w w':=u.more hn
 ⟨h.row.dO q (λg o e=>(h.out g o e).1),h.out,h.nil,λv j=>⟨ze.inB q (h.px v j).1 (λg o e _=>(h.px v j).2 g o e),(h.px v j).2⟩⟩
theorem Je.grow {Mu:Nat->Prop}{w w':World}{A:Y5}{c:Nat}{vs:List EY}(h:Je Mu w A c vs)(hB:nH w.heap.size w w'):Je Mu w' A c vs:=h.pR (ze.below (Mu:=λ_=>False) hB) (λ_ h _=>h.elim)
def tF.sum (x:tF):Nat:=sy x.e x.i x.p x.f x.z x.n x.y
def rE (fs:List tF):Nat:=match fs.getLast? with|some x=>x.sum|none=>0
section
variable (w:World)(l d many lb mb:Nat)(s:DS)(fr pg:Int)(sr ep:Nat)(sz:Int)
end
section
variable (w:World)(l d many lb mb:Nat)(s:DS)(fr pg:Int)(sr ep:Nat)(sz:Int)
end
section
variable (w:World)(l d many lb mb szb:Nat)(s:DS)(fr pg:Int)(sr ep:Nat)(sz:Int)
end

structure JM where
 sr:Nat
 ep:Nat
 sz:Int
 fs:List tF
def YO (w:World)(l d:Nat)(fr pg:Int)(S:JM):Prop:=l≠d/\∃A c vs,za w l 171 (ZC (K4 ⟨d,0,K3⟩) fr pg S.sr S.ep S.sz A vs.length c)/\Je (λk=>k=d\/k=l) w A c vs/\vs.map (·.1)=S.fs
def VI (w:World)(A:Y5):Prop:=∀g o,A=some ⟨g,o,K3⟩->∃cs,za w g 5 cs
theorem VI.grow {w w':World}{A:Y5}(h:VI w A)(hB:nH w.heap.size w w'):VI w' A:=λg o e=>by
 obtain⟨cs,hb⟩:=h g o e;exact⟨cs,hb.below hB hb.lt⟩
theorem zh {w:World}{g h:Nat}{t u:nS}{cs q:Y7}(h1:za w g t cs)(h2:za w h u q)(hn:t≠u):g≠h:=λe=>by
 subst e;have v:w.heap[g]?=some (Q9 cs t (0,0)):=h1;have j:w.heap[g]?=some (Q9 q u (0,0)):=h2;rw[v] at j;injection j with j
 injection j with _ h5
 exact hn h5
theorem Ek {w:World}{base:Nat}{T:nS}{sz:Nat}{v:Value}{n:Nat}{cs:Y8}(h:w.ownsRow base T sz v n cs):∀r,v.ownBlock=some r->∃cur,za w r T cur:=by
 intro r j;rcases h.2 with⟨rfl,_⟩|⟨g,cap,cur,rfl,hb,hg,_⟩
 .cases j
 .injection j with j
  exact⟨cur,by rw[<-j];exact hg⟩
theorem CF {z c:Int}(h1:0<=z)(h2:z<=2000)(h:0<=c)(j:c<=2000):vl z c=true:=(Xr _ _).2 ⟨⟨h1,h2⟩,h,j⟩
section
variable (w:World)(l d many:Nat)(s:DS)(fr pg:Int)(S:JM)
end


def sL (l:Y4)(j:Nat):Bool:=kn l&&decide (Cp l%2=j)

end
section
open Go Go.RowKit xq Qu
section
variable {ρ:nO->Value}{w:World}{o:nh}{x y:nO}
end
def tF.enc (x:tF):Y4:=Vg (YC x.e x.i.toNat x.p.toNat x.f x.z.toNat x.n) x.y
structure pJ (G:Nat->Y4)(ep:Nat)(fs:List tF):Prop where
 pO:∀j (h:j<fs.length),Jm G (2+9*j) 9=(fs[j]).enc
 ok:∀j (h:j<fs.length),(fs[j]).e=ep/\(fs[j]).i=(j:Int)/\KG (fs[j]).y.length (fs[j]).i (fs[j]).p (fs[j]).f (fs[j]).z=true/\(fs[j]).n=rE (fs.take j)/\(fs[j]).n<2^32
 last:∀x,fs.getLast?=some x->x.f=true
def su (z:Int)(fs:List tF):Int:=match fs.getLast? with|some x=>x.z|none=>z
end
section
open Go Go.RowKit xq
structure sZ (G:Nat->Y4)(S:JM)(hz:Nat):Prop where
 hd:G (S.sr%2)=vM S.sr S.ep hz S.fs.length
 sr:S.sr<2^64
 ep:S.ep<2^64
 hzl:hz<=2000
 hn:S.fs.length<=2000
 pos:1<=S.sr
 oth:sL (G (1-S.sr%2)) (1-S.sr%2)=true->Cp (G (1-S.sr%2))<S.sr
 sz:S.sz=su (hz:Int) S.fs
 fr:pJ G S.ep S.fs


section
variable {ρ:nO->Value}{w:World}{o:nh}{x y:nO}
end

section
variable {ρ:nO->Value}{w:World}{o:nh}{x y:nO}{r k clock:Nat}{es:Array MapEntry}
theorem EZ (u:w.heap[r]?=some (.map es clock)){T:nS}{j h:nS}(q:Y3.underlying T=some (.map j h))(v:o.op=.range T x)(h1:ρ x=Q1 (some r)):(nQ ρ o).run Y3 w=.ok (.value (Y9 w.heap.size)) (w.alloc (.mapIter (some r) clock #[] clock)):=by
 have:=run_range_map (P:=Y3) w T j h r es clock q u;simp only[nQ,v,h1,gJ,this,nc,ny]
theorem Gb {v:Value}{w':World}(j:(Instr.next (ρ x) false o.type).run Y3 w=.ok v w')(h:o.op=.next x false):(nQ ρ o).run Y3 w=.ok (.value v) w':=by
 simp only[nQ,h,gJ,j,nc,ny]
theorem RM {v:Value}{w':World}(j:(Instr.entry (ρ x)).run Y3 w=.ok v w')(h:o.op=.entry x):(nQ ρ o).run Y3 w=.ok (.value v) w':=by
 simp only[nQ,h,gJ,j,nc,ny]
end
def QV (w:World)(r m since:Nat)(seen:Array Nat):Prop:=∃c0,w.heap[r]?=some (.mapIter (some m) since seen c0)/\since<=c0
theorem Gr {w j:World}{B r:Nat}{o:Obj}(h:j=w\/j=w.drew)(u:B<=r):nH B w (my j r o):=by
 rcases h with rfl|rfl
 .exact⟨rfl,rfl,rfl,by simp[my],λk q=>by simp[my];rw[ml K5];try rfl⟩
 .exact⟨rfl,rfl,rfl,by simp[my],λk q=>by simp[my];rw[ml K5];try rfl⟩
theorem Ns {w:World}{r m q clock:Nat}{j:Array Nat}{es:Array MapEntry}(ty:nS)(h:QV w r m q j)(v:w.heap[m]?=some (.map es clock))(M:∀x∈es.toList,x.born<q)(hc:q<=clock)(N:MapKept.Stamped es clock)(O:m<r)(T:r<w.heap.size):((∀x∈es.toList,j.contains x.born=true)/\(Instr.next (Y9 r) false ty).run Y3 w=.ok (Q2 #[X3 false]) w) \/
  ∃e,∃w':World,e∈es.toList/\j.contains e.born=false/\(Instr.next (Y9 r) false ty).run Y3 w=.ok (Q2 #[X3 true,e.key,e.val]) w'/\QV w' r m q (j.push e.born)/\nH r w w'/\w'.rangeLeft m r<w.rangeLeft m r /\
   (Instr.entry (Y9 r)).run Y3 w'=.ok (Q2 #[e.key,e.val]) w':=by
 obtain⟨c0,hi,hs⟩:=h;rcases run_next_at (P:=Y3) w ty r m q c0 j es clock hi v M hs with⟨h0,hrun⟩|⟨e,he,w1,hal,hrun⟩
 .exact .inl ⟨all_seen es j h0,hrun⟩
 .obtain⟨B,H⟩:=mem_left he;have I:w1.heap[r]?=some (.mapIter (some m) q j c0):=by rcases hal with rfl|rfl<;>exact hi
  have K:w1.heap[m]?=some (.map es clock):=by rcases hal with rfl|rfl<;>exact v
  have u:=MapKept.heap_set (o':=.mapIter (some m) q (j.push e.born) clock) I;have C:(my w1 r (.mapIter (some m) q (j.push e.born) clock)).heap[m]?=some (.map es clock):=(u.2 m K5).trans K;refine .inr ⟨e,_,B,H,hrun,⟨clock,u.1,hc⟩,Gr hal (zG _),?_,run_entry_at _ r m q j es clock e u.1 C B ((MapKept.stamped_iff es clock).1 N).2.1⟩;have E:(my w1 r (.mapIter (some m) q (j.push e.born) clock)).rangeLeft m r=(leftOf es (j.push e.born)).size:=by unfold World.rangeLeft;have h1:(my w1 r (.mapIter (some m) q (j.push e.born) clock)).heap[r]?=_:=u.1;rw[C,h1]
  have F:w.rangeLeft m r=(leftOf es j).size:=by unfold World.rangeLeft;rw[v,hi]
  rw[E,F];exact left_shrinks es j e he

def TZ (v:Int×Y5×Nat):Y8:=[Y1 Q4 v.1,X1 v.2.1 512 v.2.2]
def JO (vs:List (Int×Y5×Nat)):Y8:=(vs.map TZ).flatten
theorem NG (h:List (Int×Y5×Nat))(x:Int×Y5×Nat):JO (h++[x])=JO h++TZ x:=by simp[JO]
theorem Gz (q:List (Int×Y5×Nat)):∀v∈JO q,v.oneCell'=true:=by
 intro v h;unfold JO at h;obtain⟨l,hl,j⟩:=List.mem_flatten.1 h;obtain⟨x,_,rfl⟩:=qR.1 hl;simp[TZ] at j;rcases j with rfl|rfl<;>rfl
theorem TX:∀(vs:List (Int×Y5×Nat)) (k:Nat) (h:k<vs.length) (j:Nat) (v:Value),(TZ vs[k])[j]?=some v->(JO vs)[k*2+j]?=some v
 | x::vs,0,_,j,v,hv=>by have q:j<(TZ x).length:=(qM.1 hv).1;have e:JO (x::vs)=TZ x++JO vs:=rfl;rw[e,Nat.zero_mul,qA,gj q];exact hv
 | x::vs,k+1,h,j,v,hv=>by have e:JO (x::vs)=TZ x++JO vs:=rfl;have hl:(TZ x).length=2:=rfl;rw[e,qU (by rw[hl];omega),hl,show (k+1)*2+j-2=k*2+j by omega];exact TX vs k (by simpa using h) j v hv
theorem pA:ZQ 197 200 2 32 (Q0 #[Y1 Q4 0,X1 none 0 0]):=⟨underlying197,by kernel_rfl,by kernel_rfl,by decide⟩


def sK (l:Y4):Nat:=xH ((l.drop 28).take 8)
structure LI (G:Nat->Y4)(S:JM)(hz:Nat):Prop where
 on:sZ G S hz
 len:∀k,(G k).length=64
 old:sK (G (1-S.sr%2))<S.sr
theorem CG {s e:Nat}{z c:Int}(hz:0<=z/\z<=2000)(hc:0<=c/\c<=2000):JP (s%2) (ko s e z c) 1=[(s%2,vM s e z.toNat c.toNat)]:=by
 unfold ko;rw[if_pos (CF hz.1 hz.2 hc.1 hc.2)];show [(s%2+0,YJ (vM s e z.toNat c.toNat) 0)]=_
 unfold YJ;rw[Nat.mul_zero,List.drop_zero,qE (by rw[jK];exact zG _)];rfl
section
variable {G:Nat->Y4}{S:JM}{hz:Nat}{z pg:Int}{n:Nat}{pw:Nat->Int×Y4}
end
end
end Go.Proofs.YtohmkffoojdahaaGreat
