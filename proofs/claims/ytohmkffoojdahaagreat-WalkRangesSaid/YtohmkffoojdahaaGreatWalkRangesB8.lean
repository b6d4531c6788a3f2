/- Texts that the proof of WalkRanges leans on, part 8. -/
import Derived.Shelf.SlIterI.Nil
import Derived.Shelf.SortM.Plain
import Derived.Shelf.SortM.SortNone
import Derived.Shelf.SlSortCmp.Whole1
import Derived.Shelf.SlIterI.Collect
import Derived.Shelf.SlSortCmp.NoneTotal
import Derived.Lib.ConvBytes
import Derived.Test.YtohmkffoojdahaaGreatWalkRangesB7
open Nat renaming reduceAdd->yB,reduceSub->yC
set_option linter.unusedVariables false
set_option linter.unusedSimpArgs false
set_option maxRecDepth 100000
set_option maxHeartbeats 8000000

open Array renaming mem_of_getElem?->fI
open Exists renaming intro->lS
open Go renaming Calls->nK,Addr->nN,Operand->nO,execOp->nQ,TypeId->nS,MapEntry->nZ,Oper->nh,maxLen->gP,undef->gQ,Act->gh,callFunc->gm,wpListIn->mx
open Go.Act renaming put->nJ
open Go.Exit renaming noGoto->lv
open Go.Fence renaming wide->nv
open Go.Instr renaming findNow->lT,lookup->lU,checkKey->lW,mapUpdate->lj
open Go.MapKept renaming Stamped->nY,IsKey->gz
open Go.Oper renaming about->eO
open Go.Result renaming andThen->nM
open Go.RowKit renaming Below->nH
open Go.Value renaming slice->mN,int->fY
open Go.World renaming cell?->mv
open List.Pairwise renaming nil->fx
open Go.Proofs.Tryz renaming prog->Y3
open Go.Proofs.Tryz
open Go.Value renaming int->Y1,pointer->Y9,slice->X1,bool->X3,agg->Q0,tuple->Q2,map->Q1
open Go.IntKind renaming i64->Q4,u64->Q6
open Go.Obj renaming cells->Q9
open Option renaming none->K3,some->K4
namespace Go.Proofs.YtohmkffoojdahaaGreat
section
open Go Go.RowKit xq Go.Maps Go.Sort Go.Shelf
def PG:Go.Shelf.Ren:=⟨fun|7=>205|10=>267|n=>n,fun|23=>211|26=>3|3=>129|28=>288|0=>0|27=>287|33=>207|4=>4|n=>n,fun|n=>n⟩
theorem sF:SlLaysZI.n7 Y3 PG:={
 mixed:=K6
 f7:=⟨Tryz.f205.name,by decide,func205.trans (congrArg some K6)⟩
 f10:=⟨Tryz.f267.name,by decide,func267.trans (congrArg some K6)⟩
 t0:=underlying0
 a0:=Tryz.isAgg0
 z0:=Tryz.sizeOf0
 v0:=Tryz.zeroValue0
 t4:=underlying4
 a4:=Tryz.isAgg4
 z4:=Tryz.sizeOf4
 v4:=Tryz.zeroValue4
 t23:=underlying211
 a23:=Tryz.isAgg211
 z23:=Tryz.sizeOf211
 v23:=Tryz.zeroValue211
 t26:=underlying3
 a26:=Tryz.isAgg3
 z26:=Tryz.sizeOf3
 v26:=Tryz.zeroValue3
 t27:=underlying287
 a27:=Tryz.isAgg287
 z27:=Tryz.sizeOf287
 v27:=Tryz.zeroValue287
 t28:=underlying288
 a28:=Tryz.isAgg288
 z28:=Tryz.sizeOf288
 v28:=Tryz.zeroValue288
 t33:=underlying207
 a33:=Tryz.isAgg207
 z33:=Tryz.sizeOf207
 v33:=Tryz.zeroValue207}

end
section
open Go Go.RowKit xq
structure jx (es:Array nZ)(f:Int->Option Value):Prop where
 keys:∀(i:Nat) e,es[i]?=some e->∃k l,f k=some l/\e.key=Y1 Q4 (k:Int)/\e.val=l
 all:∀k l,f k=some l->∃(i:Nat) (e:nZ),es[i]?=some e/\e.key=Y1 Q4 (k:Int)/\e.val=l
 inj:∀(i j:Nat) e e',es[i]?=some e->es[j]?=some e'->e.key=e'.key->i=j
theorem jx.empty:jx #[] (λ_=>none):=⟨λi e h=>by simp at h,λk l h=>by simp at h,λi j e g h=>by simp at h⟩
theorem XT {k m:Int}(h:fY .i64 k=Y1 Q4 m):k=m:=by injection h
def vr (f:Int->Option Value)(k:Int)(x:Option Value):Int->Option Value:=λm=>if m=k then x else f m
section
variable {es:Array nZ}{f:Int->Option Value}
theorem jx.find (h:jx es f)(k:Int):(lT (.int .i64) (Y1 Q4 (k:Int)) es.toList 0=some none/\f k=none) \/
  ∃j e l,lT (.int .i64) (Y1 Q4 (k:Int)) es.toList 0=some (some (j,e.val))/\es[j]?=some e/\e.key=Y1 Q4 (k:Int)/\f k=some l/\e.val=l:=by
 have C:gz (.int .i64) (Y1 Q4 (k:Int)):=rfl;have B:∀x∈es.toList,gz (.int .i64) x.key:=by intro x H;obtain⟨i,hi,rfl⟩:=yG H;obtain⟨q,l,_,h2,_⟩:=h.keys i es.toList[i] (by rw[<-Array.getElem?_toList];exact zM hi);rw[h2];rfl
 rcases MapKept.findNow_spec C es.toList 0 B with⟨h1,h2⟩|⟨j,e,h1,h2,h3⟩
 .left;refine⟨h1,?_⟩;cases hf:f k with
  | none=>rfl
  | some l =>
   obtain⟨i,e,g,p,_⟩:=h.all k l hf;exact absurd p (h2 e (Array.mem_toList_iff.2 (fI g)))
 .right;have g:es[j]?=some e:=by rw[<-Array.getElem?_toList];exact h2
  obtain⟨q,l,p,u,A⟩:=h.keys j e g;have:q=k:=XT (u.symm.trans h3);subst this;exact⟨j,e,l,by simpa using h1,g,h3,p,A⟩
theorem jx.push (h:jx es f){k:Int}(I:f k=none)(l:Value)(born:Nat):jx (es.push {key:=Y1 Q4 (k:Int),val:=l,born:=born}) (vr f k (some l)):=by
 refine⟨λi e g => ?_,λm B A => ?_,λi j e u hi p H => ?_⟩
 .rw[lr] at g;split at g
  .injection g with g
   subst g;exact⟨k,l,by simp[vr],rfl,rfl⟩
  .obtain⟨m,B,h1,h2,C⟩:=h.keys i e g;refine⟨m,B,?_,h2,C⟩;have:m≠k:=λe=>by subst e;rw[I] at h1;cases h1
   simp[vr,this,h1]
 .by_cases e:m=k
  .subst e;simp[vr] at A;subst A;exact⟨es.size,{key:=Y1 Q4 (m:Int),val:=l,born:=born},by simp,rfl,rfl⟩
  .simp only[vr,if_neg e] at A;obtain⟨i,u,h1,h2,C⟩:=h.all m B A;refine⟨i,u,?_,h2,C⟩;have:=(zI.1 h1).1;rw[lr,if_neg K5];exact h1
 .rw[lr] at hi p;have K:∀(q:Nat) (e:nZ),es[q]?=some e->e.key≠Y1 Q4 (k:Int):=λq e g hq=>by obtain⟨m,B,h1,h2,_⟩:=h.keys q e g;have:=XT (h2.symm.trans hq);subst this;rw[I] at h1;cases h1
  split at hi
  .split at p
   .omega
   .injection hi with hi
    subst hi;exact absurd H.symm (K j u p)
  .split at p
   .injection p with p
    subst p;exact absurd H (K i e hi)
   .exact h.inj i j e u hi p H
theorem jx.modify (h:jx es f){k:Int}{i:Nat}{e:nZ}(B:es[i]?=some e)(K:e.key=Y1 Q4 (k:Int))(l:Value):jx (es.modify i λe => {e with key:=Y1 Q4 (k:Int),val:=l}) (vr f k (some l)):=by
 have C:∀j,(es.modify i λe => {e with key:=Y1 Q4 (k:Int),val:=l})[j]?=if i=j then some {e with key:=Y1 Q4 (k:Int),val:=l} else es[j]?:=λj=>by
  rw[mE];split
  .rename_i g
   subst g;rw[B];rfl
  .rfl
 refine⟨λj A p => ?_,λm L H => ?_,λa b u O ha U X => ?_⟩
 .rw[C] at p;split at p
  .injection p with p
   subst p;exact⟨k,l,by simp[vr],rfl,rfl⟩
  .rename_i g
   obtain⟨m,L,h1,h2,I⟩:=h.keys j A p;refine⟨m,L,?_,h2,I⟩;have:m≠k:=λq=>by subst q;exact g (h.inj i j e A B p (by rw[K,h2]))
   simp[vr,this,h1]
 .by_cases q:m=k
  .subst q;simp[vr] at H;subst H;exact⟨i,_,by rw[C,if_pos rfl],rfl,rfl⟩
  .simp only[vr,if_neg q] at H;obtain⟨j,A,h1,h2,I⟩:=h.all m L H;have g:i≠j:=λg=>by
    subst g;rw[B] at h1;injection h1 with h1
    subst h1;exact q (XT (h2.symm.trans K))
   exact⟨j,A,by rw[C,if_neg g];exact h1,h2,I⟩
 .have N:∀(a:Nat) (u:nZ),(es.modify i λe => {e with key:=Y1 Q4 (k:Int),val:=l})[a]?=some u->∃M:nZ,es[a]?=some M/\M.key=u.key:=λa u ha=>by
   rw[C] at ha;split at ha
   .rename_i hia
    subst hia;injection ha with ha
    subst ha;exact⟨e,B,K⟩
   .exact⟨u,ha,rfl⟩
  obtain⟨x,Z,aA⟩:=N a u ha;obtain⟨y,hy,aB⟩:=N b O U;exact h.inj a b x y Z hy (by rw[aA,aB,X])
end
section
variable {ρ:nO->Value}{w:World}{o:nh}{x y z:nO}
variable {r clock:Nat}{k:Int}{es:Array nZ}{f:Int->Option Value}{l:Value}
theorem UL {w:Value}(q:nY es clock){j:Nat}{e:nZ}(p:es[j]?=some e)(h:e.key=w)(v:Value):nY (es.modify j λe => {e with key:=w,val:=v}) clock :=
 MapKept.stamped_modify q j (λe => {e with key:=w,val:=v}) (λe _=>rfl) (λu _ g=>by rw[p] at g;injection g with g;subst g;exact h.symm)
theorem td (g:jx es f)(A:nY es clock)(C:qa w r es clock)(u:o.op=.mapUpdate 211 x y z)(h1:ρ x=Q1 (some r))(h2:ρ y=Y1 Q4 (k:Int))(p:ρ z=l):∃es' clock',(nQ ρ o).run Y3 w=.ok .skip (setMap w r es' clock')/\jx es' (vr f k (some l))/\nY es' clock':=by
 have q:gz (.int .i64) (Y1 Q4 (k:Int)):=rfl;have hc:(lW false 10000 3 (Y1 Q4 (k:Int))).run Y3 w=.ok () w:=mY underlying3 q false 9999;have h:w.heap[r]?=some (.map es clock):=C;rcases g.find k with⟨hf,hn⟩|⟨j,e,l0,hf,hj,hek,_,_⟩
 .refine⟨_,clock+1,?_,g.push hn l clock,MapKept.stamped_push A λx H B=>by
   obtain⟨i,hi,rfl⟩:=yG H;obtain⟨m,I,h1,h2,_⟩:=g.keys i es.toList[i] (by rw[<-Array.getElem?_toList];exact zM hi);have:=XT (h2.symm.trans B);subst this;rw[hn] at h1
   cases h1⟩
  simp[nQ,u,h1,h2,p,lj,gK underlying211,gL h,hc,ga underlying3 hf,mK _ h,nM,setMap]
 .refine⟨_,clock,?_,g.modify hj hek l,UL A hj hek (l)⟩;simp[nQ,u,h1,h2,p,lj,gK underlying211,gL h,hc,ga underlying3 hf,hj,hek,MapKept.run_keyThatStays q,mK _ h,nM,setMap]
end
section
variable {es:Array nZ}{f:Int->Option Value}
end
section
variable {ρ:nO->Value}{w:World}{o:nh}{x y z:nO}{r clock:Nat}{k:Int}{es:Array nZ}{f:Int->Option Value}{T E:nS}
theorem Cv {l:Value}(q:Y3.underlying T=some (.map 3 E))(g:jx es f)(B:nY es clock)(H:qa w r es clock)(A:o.op=.mapUpdate T x y z)(h1:ρ x=Q1 (some r))(h2:ρ y=Y1 Q4 k)(p:ρ z=l):∃es' clock',(nQ ρ o).run Y3 w=.ok .skip (setMap w r es' clock')/\jx es' (vr f k (some l))/\nY es' clock':=by
 have u:gz (.int .i64) (Y1 Q4 k):=rfl;have hc:(lW false 10000 3 (Y1 Q4 k)).run Y3 w=.ok () w:=mY underlying3 u false 9999;have h:w.heap[r]?=some (.map es clock):=H;rcases g.find k with⟨hf,hn⟩|⟨j,e,l0,hf,hj,hek,_,_⟩
 .refine⟨_,clock+1,?_,g.push hn l clock,MapKept.stamped_push B λx I C=>by
   obtain⟨i,hi,rfl⟩:=yG I;obtain⟨m,K,h1,h2,_⟩:=g.keys i es.toList[i] (by rw[<-Array.getElem?_toList];exact zM hi);have:=XT (h2.symm.trans C);subst this;rw[hn] at h1
   cases h1⟩
  simp[nQ,A,h1,h2,p,lj,gK q,gL h,hc,ga underlying3 hf,mK _ h,nM,setMap]
 .refine⟨_,clock,?_,g.modify hj hek l,UL B hj hek (l)⟩;simp[nQ,A,h1,h2,p,lj,gK q,gL h,hc,ga underlying3 hf,hj,hek,MapKept.run_keyThatStays u,mK _ h,nM,setMap]
theorem VO {z0 v:Value}(h:Y3.underlying T=some (.map 3 E))(C:(zeroValue E).run Y3 w=.ok z0 w)(u:jx es f)(B:qa w r es clock)(g:(f k).getD z0=v)(q:o.op=.lookup T x y false)(h1:ρ x=Q1 (some r))(h2:ρ y=Y1 Q4 k):(nQ ρ o).run Y3 w=.ok (.value v) w:=by
 subst g;have A:gz (.int .i64) (Y1 Q4 k):=rfl;have hc:(lW es.isEmpty 10000 3 (Y1 Q4 k)).run Y3 w=.ok () w:=mY underlying3 A _ 9999;have p:w.heap[r]?=some (.map es clock):=B;rcases u.find k with⟨hf,hn⟩|⟨j,e,l0,hf,hj,hek,hfk,g⟩
 .rw[hn];simp[nQ,q,h1,h2,lU,gK h,gL p,hc,ga underlying3 hf,C,nM]
 .rw[hfk];rw[g] at hf;simp[nQ,q,h1,h2,lU,gK h,gL p,hc,ga underlying3 hf,nM]
theorem te {K:nS}(e:Y3.underlying T=some (.map K E))(h:qa w r es clock)(j:o.op=.call {callee:=.builtin .len,args:=#[x],argTypes:=#[T]})(h1:ρ x=Q1 (some r)):(nQ ρ o).run Y3 w=.ok (.value (Y1 Q4 (es.size:Int))) w:=by
 have g:Y3.underlying T=some (.map (Y3.mapKeyOf T) (Y3.mapElemOf T)):=by unfold Program.mapKeyOf Program.mapElemOf;rw[e]
 have p:=run_len_map (P:=Y3) w T o.type r es clock g h;simp only[nQ,j,resolve,invoke,builtin,gJ,ny,nc,zJ,zL,zN,h1,p];rfl
end
section
variable {ρ:nO->Value}{w:World}{o:nh}{x y z:nO}{r clock:Nat}{k:Int}{es:Array nZ}{f:Int->Option Value}
end
end
section
open Go Go.RowKit xq Go.Maps Go.Sort Go.Shelf
attribute [local go_sem] Oper.semAt_some
def xJ (f:Int->Option Value)(many:Nat):List Nat:=(List.range many).filter λk=>(f (k:Int)).isSome
theorem jJ {f:Int->Option Value}{many k:Nat}:k∈xJ f many↔k<many/\(f (k:Int)).isSome=true:=by simp[xJ]
theorem Zo (f:Int->Option Value)(many:Nat):(xJ f many).Pairwise (· < ·):=List.pairwise_lt_range.filter _
theorem Yf (f:Int->Option Value)(many:Nat):(xJ f many).Nodup:=(Zo f many).imp λh=>Nat.ne_of_lt h
theorem JI (f:Int->Option Value)(many:Nat):(xJ f many).length<=many:=zT (fq _ _) K9
def sR:Value->Option (DataW Unit×List MemPlace):=λ_=>some (.nil,[])
def ZF (f:Int->Option Value)(many:Nat):Prop:=∀k v,f k=some v->0<=k/\k<(many:Int)
theorem jx.key {es:Array nZ}{f:Int->Option Value}{many:Nat}(h:jx es f)(j:ZF f many):∀e∈es.toList,∃k:Nat,k<many/\(f (k:Int)).isSome=true/\e.key=Y1 Q4 (k:Int):=λe g=>by
 obtain⟨i,hi,rfl⟩:=yG g;obtain⟨k,l,h1,h2,_⟩:=h.keys i es.toList[i] (by rw[<-Array.getElem?_toList];exact zM hi);obtain⟨p,q⟩:=j k l h1;have e:(k.toNat:Int)=k:=K5
 exact⟨k.toNat,by omega,by rw[e,h1];rfl,by rw[e];exact h2⟩
def AP (e:nZ):Int:=match e.key with | .int _ k=>k|_=>0
theorem Zp {e:nZ}{k:Int}(h:e.key=Y1 Q4 k):AP e=k:=by unfold AP;rw[h]
theorem jx.perm {es:Array nZ}{f:Int->Option Value}{many:Nat}(h:jx es f)(q:ZF f many):(es.toList.map AP).Perm ((xJ f many).map λk:Nat=>(k:Int)):=by
 refine(List.perm_ext_iff_of_nodup ?_ ?_).2 λk => ?_
 .rw[List.Nodup,List.pairwise_map];refine List.pairwise_iff_getElem.2 λi j hi A I e => ?_
  obtain⟨a,_,_,ha⟩:=h.key q _ (qJ hi);obtain⟨b,_,_,u⟩:=h.key q _ (qJ A)
  have:=h.inj i j es.toList[i] es.toList[j] (by rw[<-Array.getElem?_toList];exact zM hi) (by rw[<-Array.getElem?_toList];exact zM A) (by
   rw[Zp ha,Zp u] at e
   rw[ha,u,e])
  omega
 .rw[List.Nodup,List.pairwise_map];exact(Zo f many).imp λh e=>by omega
 .constructor
  .intro p;obtain⟨e,C,rfl⟩:=qR.1 p;obtain⟨a,h1,h2,g⟩:=h.key q e C;rw[Zp g];exact qR.2 ⟨a,jJ.2 ⟨h1,h2⟩,rfl⟩
  .intro p;obtain⟨a,ha,rfl⟩:=qR.1 p;obtain⟨_,h2⟩:=jJ.1 ha;obtain⟨v,H⟩:=Option.isSome_iff_exists.1 h2;obtain⟨i,e,g,B,_⟩:=h.all (a:Int) v H;refine qR.2 ⟨e,Array.mem_toList_iff.2 (fI g),?_⟩;exact Zp B
theorem uZ {e:nZ}{k:Nat}(g:e.key=.int .i64 (k:Int))(hl:k<100000):WideElems.rd Y3 3 sR e=some (.int .i64 (k:Int),.nil):=by
 have h:keyOf Y3 3 e.key=some (.int .i64 (k:Int)):=by rw[g];exact Maps.keyOf_int_mk underlying3 (by simp[Lit.wf,IntKind.min,IntKind.max,IntKind.signed,IntKind.bits];omega)
 unfold WideElems.rd;rw[h];rfl
theorem Bw {w:World}{r many clock:Nat}{es:Array nZ}{f:Int->Option Value}(H:qa w r es clock)(j:jx es f)(K:nY es clock)(q:ZF f many)(C:many<=40000):∃g,w.ownsMap Y3 3 sR r many g/\Maps.size g<=many/\(intKeys g).Perm ((xJ f many).map λk:Nat=>(k:Int)):=by
 have u:=j.perm q;have h:es.size<=many:=by have h1:=u.length_eq;rw[qH,qH,zV] at h1;have:=JI f many;omega
 have A:∀x∈es.toList,∃k:Nat,x.key=.int .i64 (k:Int)/\WideElems.rd Y3 3 sR x=some (.int .i64 (k:Int),.nil):=λx e=>by obtain⟨k,L,_,B⟩:=j.key q x e;exact⟨k,B,uZ B K5⟩
 have I:es.size<=gP:=zT (zT h C) K7;refine⟨.map ((es.toList.map (WideElems.rg Y3 3 sR)).foldr DataW.insert []),⟨es,clock,H,⟨I,K,λx e=>by obtain⟨k,_,h2⟩:=A x e;exact⟨_,h2⟩⟩,h,rfl⟩,?_,?_⟩
 .simp only[Maps.size];rw[length_read];exact h
 .refine List.Perm.trans ?_ u;show (((es.toList.map (WideElems.rg Y3 3 sR)).foldr DataW.insert []).map λp=>Go.intOf p.1).Perm _
  refine((WideShapes.sorted_perm _).map _).trans ?_;rw[List.map_map];refine List.Perm.of_eq (List.map_congr_left λx e => ?_);obtain⟨k,h1,h2⟩:=A x e;simp only[Function.comp];rw[WideElems.rg_of h2,Zp h1];rfl
theorem Od (f:Int->Option Value)(many:Nat):((xJ f many).map λk:Nat=>(k:Int)).mergeSort leI=(xJ f many).map λk:Nat=>(k:Int) :=
 List.mergeSort_of_pairwise (List.pairwise_map.2 ((Zo f many).imp λh=>by simp[leI];omega))
section
variable {P:Program}{w w':World}{ops:Array nh}{rest:List nh}{o:nh}{a:gh}{Q:Exit->gh->World->Prop}{n:Nat}
theorem XI {v:Value}(e:o.guard=none)(g:(nQ a.eval o).run P w=.ok (.value v) w')(h:mx nv n P ops Q rest (a.put o.dst v) w'):mx nv n P ops Q (o::rest) a w:=by
 unfold mx;rw[if_pos (by simp[Region.wanted,e])];refine⟨λ_ _=>trivial,?_⟩;show Oper.uponIn _ _ _ _ _ _ _ ((nQ a.eval o).run P w)
 rw[g];exact h
end
section
variable {ρ:nO->Value}{w:World}{o:nh}{x y:nO}{r clock:Nat}{k:Int}{es:Array nZ}{f:Int->Option Value}
theorem IQ (p:jx es f)(u:qa w r es clock)(h:o.op=.lookup 211 x y false)(h1:ρ x=Q1 (some r))(h2:ρ y=Y1 Q4 k):(nQ ρ o).run Y3 w=.ok (.value ((f k).getD (X1 none 0 0))) w:=by
 have q:gz (.int .i64) (Y1 Q4 k):=rfl;have hc:(lW es.isEmpty 10000 3 (Y1 Q4 k)).run Y3 w=.ok () w:=mY underlying3 q _ 9999;have g:w.heap[r]?=some (.map es clock):=u;have A:(zeroValue 129).run Y3 w=.ok (X1 none 0 0) w:=by simp[go_sem]
 rcases p.find k with⟨hf,hn⟩|⟨j,e,l0,hf,hj,hek,hfk,hv⟩
 .rw[hn];simp[nQ,h,h1,h2,lU,gK underlying211,gL g,hc,ga underlying3 hf,A,nM]
 .rw[hfk];rw[hv] at hf;simp[nQ,h,h1,h2,lU,gK underlying211,gL g,hc,ga underlying3 hf,nM]
end
end
section
open Go Go.RowKit xq
section
variable {ρ:nO->Value}{w:World}{o:nh}{x y z:nO}{r clock:Nat}{k:Int}{es:Array nZ}{f:Int->Option Value}
end
theorem YO.grow {w w':World}{l d:Nat}{fr pg:Int}{S:JM}(h:YO w l d fr pg S)(hB:nH w.heap.size w w'):YO w' l d fr pg S:=by
 obtain⟨g,A,c,p,e,hF,j⟩:=h;exact⟨g,A,c,p,e.below hB e.lt,hF.grow hB,j⟩
section
variable {ρ:nO->Value}{w:World}{o:nh}{x y z:nO}
end
theorem FN {w:World}{l d:Nat}{fr pg:Int}{S:JM}(h:YO w l d fr pg S):nK Y3 108 #[Y9 l] w λe w'=>e=Y0 (Y1 Q4 S.sz)/\w=w':=by
 obtain⟨_,A,c,j,g,_,_⟩:=h;exact PB g
end
section
open Go Go.RowKit xq Go.Shelf
attribute [local go_sem] Oper.semAt_some
def Zw (w:World)(f:Int->Option Value)(Y:Int->Option Y4):Prop :=
 ∀k:Int,(f k=none/\Y k=none)\/∃A c y,f k=some (X1 A 512 c)/\Y k=some y/\y.length=512/\qv w w.heap.size A c y
theorem Zw.grow {w w':World}{f:Int->Option Value}{Y:Int->Option Y4}(h:Zw w f Y)(hB:nH w.heap.size w w'):Zw w' f Y:=λk=>by
 rcases h k with h1|⟨A,c,y,h1,h2,e,g⟩
 .exact .inl h1
 .exact .inr ⟨A,c,y,h1,h2,e,(g.below hB).more hB.size⟩
theorem Zw.keys {w:World}{f:Int->Option Value}{Y:Int->Option Y4}(h:Zw w f Y){many:Nat}(g:∀k y,Y k=some y->0<=k/\k<(many:Int)):ZF f many:=λk v e=>by
 rcases h k with⟨h1,_⟩|⟨A,c,y,h1,h2,_⟩
 .rw[h1] at e;cases e
 .exact g k y h2
section
variable {ρ:nO->Value}{w:World}{o:nh}{x y:nO}{r clock:Nat}{k:Int}{es:Array nZ}{f:Int->Option Value}
theorem LH {v:Value}(e:jx es f)(g:qa w r es clock)(hf:f k=some v)(h:o.op=.lookup 211 x y false)(h1:ρ x=Q1 (some r))(h2:ρ y=Y1 Q4 k):(nQ ρ o).run Y3 w=.ok (.value v) w:=by
 have:=IQ e g h h1 h2;rw[hf] at this;exact this
end
def Tj (x:Nat×(Y5×Nat)):Y7:=#[Y1 Q4 (x.1:Int),X1 x.2.1 512 x.2.2]
end
section
open Go Go.RowKit xq
structure rR (fr pg:Int)(G:Nat->Y4)(S:JM)(i:Nat):Prop where
 li:∃hz,LI G S hz
 sr:S.sr<=i+1
 ep:S.ep<=i+1
 fs:(S.fs.length:Int)<=fr
 sz:0<=S.sz/\S.sz<=pg
theorem rR.y {fr pg:Int}{G:Nat->Y4}{S:JM}{i:Nat}(h:rR fr pg G S i):∀x∈S.fs,x.y.length=512:=λx p=>by
 obtain⟨q,g⟩:=h.li;obtain⟨j,e,rfl⟩:=yG p;exact((Kw _ _ _ _ _).1 (g.on.fr.ok j e).2.2.1).1
theorem rR.begun {fr pg:Int}(h1:0<=fr)(h2:0<=pg):rR fr pg (laid (λ_=>qy) (JP 1 (ko 1 1 0 0) 1)) ⟨1,1,0,[]⟩ 0 :=
 ⟨⟨0,LI.begun⟩,zG _,zG _,h1,⟨mo _,h2⟩⟩
section
variable {fr pg z x:Int}{G:Nat->Y4}{S S':JM}{i n:Nat}{xs:Nat->Int×Y5×Nat}{pw:Nat->Int×Y4}{s':DS}
end
def Vh (l:Nat)(fr pg:Int):Y7:=#[Y9 l,Y1 Q4 fr,Y1 Q4 pg]
theorem Yk {w:World}{f l:Nat}{fr pg:Int}(g:za w f 119 (Vh l fr pg)):nK Y3 107 #[Y9 f] w λe w'=>e=Y0 (X3 false)/\w=w':=by
 have c0:w.cell? f=K4 (Y9 l):=by rw[g.cell];rfl
 go_enter func107,ntmps107
 go_wp2;go_ret;exact⟨rfl,rfl⟩
theorem PS {w:World}{f l d:Nat}{fr pg:Int}{S:JM}(g:za w f 119 (Vh l fr pg))(p:YO w l d fr pg S):nK Y3 64 #[Y9 f] w λe w'=>e=Y0 (Y1 Q4 S.sz)/\w=w':=by
 have h:=Yk g;have j:=FN p;have c0:w.cell? f=K4 (Y9 l):=by rw[g.cell];rfl
 go_enter func64,ntmps64
 go_wp2_with (first
  |(go_at_call 107;refine h.mono ?_;rintro e w' ⟨rfl,rfl⟩)
  | (go_at_call 108;refine j.mono ?_;rintro e w' ⟨rfl,rfl⟩))
 go_ret;exact⟨rfl,rfl⟩
end
section
open Go Go.RowKit xq Go.Shelf
attribute [local go_sem] Oper.semAt_some
section
variable {F:Fence}{n:Nat}{P:Program}{ops:Array nh}{Q:Exit->gh->World->Prop}{o:nh}{rest:List nh}{a:gh}{w w':World}
theorem BD {T:nS}{x y z:nO}(p:o.guard=none)(e:o.op=.mapUpdate T x y z)(q:(nQ a.eval o).run P w=.ok .skip w')(h:mx F n P ops Q rest (a.put o.dst gQ) w'):mx F n P ops Q (o::rest) a w :=
 fH p λu g=>by unfold Oper.wpIn;refine⟨by simp[eO,e],?_⟩;rw[lR F _ _ (by rw[e];intro c j;cases j),q];exact g _ _ h
theorem IP {ρ:nO->Value}(e:o.op=.makeMap 211 none):(nQ ρ o).run Y3 w=.ok (.value (Q1 (some w.heap.size))) (w.alloc (.map #[] 0)):=by
 unfold nQ;simp only[e,Option.map_none,run_makeMap,gJ,nc,ny]
theorem IX {r clock:Nat}{k:Int}{es:Array nZ}{f:Int->Option Value}{l:Value}(A:o.guard=none)(x y z:nO)(j:o.op=.mapUpdate 211 x y z)(h1:a.eval x=Q1 (some r))(h2:a.eval y=Y1 Q4 k)(p:a.eval z=l)(q:jx es f)(H:nY es clock)(g:qa w r es clock)
  (h:∀es' e w',qa w' r es' e->jx es' (vr f k (some l))->nY es' e->w.grownBy w' (some r)->mx F n Y3 ops Q rest (a.put o.dst gQ) w'):mx F n Y3 ops Q (o::rest) a w:=by
 obtain⟨es',e,B,u,C⟩:=td (ρ:=a.eval) (o:=o) q H g j h1 h2 p;exact BD A j B (h es' e _ (g.set _ _) u C (vP g _ _))
end
def Df (W:World)(fm:Int->Option Value)(Y:Int->Option Y4)(ks:List Nat):Prop :=
 ∀k:Int,((∀m∈ks,(m:Int)≠k)/\fm k=none)\/(∃m∈ks,(m:Int)=k)/\∃A c y,fm k=some (X1 A 512 c)/\Y k=some y/\y.length=512/\qv W W.heap.size A c y
theorem Df.add {X Z:World}{r:Nat}{es:Array nZ}{clock:Nat}{B:Int->Option Value}{Y:Int->Option Y4}{ks:List Nat}{k:Nat}{A:Y5}{c:Nat}{y:Y4}(h:Df X B Y ks)(p:qa X r es clock)(M:X.grownBy Z (some r))(K:Y (k:Int)=some y)(hy:y.length=512)(O:qv X X.heap.size A c y):Df Z (vr B (k:Int) (some (X1 A 512 c))) Y (ks++[k]):=by
 have I:ze (λj=>j=r) X Z:=ze.grown M (λq e=>by injection e with e;exact .inl e.symm)
 have H:∀{A:Y5} {c:Nat} {y:Y4},qv X X.heap.size A c y->qv Z Z.heap.size A c y:=λ{A c y} hi=>I.inB hi (λg o e C N=>by
  obtain⟨g',o',u,_,hc⟩:=hi.pO C;rw[e] at u;injection u with u
  injection u with e1 e2
  subst e1 N;have L:=hc 0 C;have U:X.heap[g]?=some (.map es clock):=p
  simp[mv,U] at L)
 intro q;unfold vr
 by_cases hq:q=(k:Int)
 .subst hq;exact .inr ⟨⟨k,by simp,rfl⟩,A,c,y,by rw[if_pos rfl],K,hy,H O⟩
 .rw[if_neg hq];rcases h q with⟨h1,h2⟩|⟨⟨m,hm1,hm2⟩,A2,c2,y2,h2,h3,h4,h5⟩
  .refine .inl ⟨λm p e => ?_,h2⟩;rcases zZ.1 p with p|p
   .exact h1 m p e
   .rw[qL] at p;subst p;exact hq e.symm
  .exact .inr ⟨⟨m,by simp[hm1],hm2⟩,A2,c2,y2,h2,h3,h4,H h5⟩
theorem qa.oL {B r clock:Nat}{es:Array nZ}{X Z:World}{row:Option Nat}(p:r<B)(h:qa X r es clock)(g:X.grownBy Z row)(j:∀q,row=some q->B<=q):qa Z r es clock :=
 h.grown g (λe=>by have:=j _ e.symm;omega)
end
section
open Go Go.RowKit xq



end
section
open Go Go.RowKit xq Go.Shelf
attribute [local go_sem] Oper.semAt_some
end
section
open Go Go.RowKit xq



structure Vu (W:World)(B:Nat)(A1:Y5)(n:Nat)(xs:Nat->Int×Y5×Nat)(pw:Nat->Int×Y4):Prop where
 ge:∀g o,A1=some ⟨g,o,K3⟩->B<=g
 row:1<=n->∃g o,A1=some ⟨g,o,K3⟩/\Pz W g o n xs/\g<W.heap.size
 px:∀k,k<n->(pw k).1=(xs k).1/\(pw k).2.length=512/\qv W W.heap.size (xs k).2.1 (xs k).2.2 (pw k).2
 tys:∀k,k<n->VI W (xs k).2.1
theorem Vu.grow {W W':World}{B:Nat}{A:Y5}{n:Nat}{xs:Nat->Int×Y5×Nat}{pw:Nat->Int×Y4}(h:Vu W B A n xs pw)(hB:nH W.heap.size W W'):Vu W' B A n xs pw:=by
 refine⟨h.ge,λh1 => ?_,λk u => ?_,λk u=>(h.tys k u).grow hB⟩
 .obtain⟨g,o,e,K,C⟩:=h.row h1;exact⟨g,o,e,λj I q v hq=>(hB.cell (p:=⟨g,o+j*2+q,K3⟩) C).trans (K j I q v hq),zO C hB.size⟩
 .obtain⟨h1,h2,H⟩:=h.px k u;exact⟨h1,h2,(H.below hB).more hB.size⟩




section
variable {fr pg z x:Int}{G:Nat->Y4}{S S':JM}{i n P:Nat}{xs:Nat->Int×Y5×Nat}{pw:Nat->Int×Y4}{s':DS}
end
structure VL (W0:World)(d f l many:Nat)(fr pg:Int)(s:DS)(S:JM)(W:World):Prop where
 up:nH W0.heap.size W0 W
 dk:DkS W d many s
 lg:YO W l d fr pg S
 fb:za W f 119 (Vh l fr pg)
 gd:W0.heap.size<=d
 gl:W0.heap.size<=l
section
variable {W0 W W':World}{d f l many:Nat}{fr pg:Int}{s s':DS}{S S':JM}
theorem VL.grow (h:VL W0 d f l many fr pg s S W)(hB:nH W.heap.size W W'):VL W0 d f l many fr pg s S W' :=
 ⟨h.up.trans (hB.mono h.up.size),h.dk.grow hB,h.lg.grow hB,h.fb.below hB h.fb.lt,h.gd,h.gl⟩
theorem VL.apart (h:VL W0 d f l many fr pg s S W):¬ (f=d\/f=l):=λe=>by
 obtain⟨q,p,c',g,_⟩:=yN.has h.dk;obtain⟨_,A,c,u,j,_⟩:=h.lg;rcases e with rfl|rfl
 .exact zh h.fb g K7 rfl
 .exact zh h.fb j K7 rfl
theorem VL.ne (h:VL W0 d f l many fr pg s S W){g:Nat}{T:nS}{cs:Y7}(j:za W g T cs)(h1:T≠114)(h2:T≠171):¬ (g=d\/g=l):=λe=>by
 obtain⟨B,u,c',p,_⟩:=yN.has h.dk;obtain⟨_,A,c,C,q,_⟩:=h.lg;rcases e with rfl|rfl
 .exact zh j p h1 rfl
 .exact zh j q h2 rfl
variable {G:Nat->Y4}{i P:Nat}
end
theorem FY (w:World)(d:Nat)(fr pg:Int)(Q:Nat->World->Prop)(H:nK Y3 62 #[Y9 d,Q0 #[Y1 Q4 fr,Y1 Q4 pg]] (w.alloc (Q9 #[Y1 Q4 fr,Y1 Q4 pg] 74)) λe w'=>∃l,e=Y0 (Q2 #[Y9 (K4 ⟨l,0,K3⟩),Y1 Q4 0])/\za w' w.heap.size 74 #[Y1 Q4 fr,Y1 Q4 pg]/\Q l w'):nK Y3 37 #[Y9 d,Q0 #[Y1 Q4 fr,Y1 Q4 pg]] w λe w'=>∃l h,e=Y0 (Q2 #[Y9 h.heap.size,Y1 Q4 0])/\Q l h/\w'=h.alloc (Q9 (Vh l fr pg) 119):=by
 have j:=za.new w 74 #[Y1 Q4 fr,Y1 Q4 pg]
 go_enter func37,ntmps37
 go_wp2_with (first
  |(refine yp (g:=w.heap.size) JF (by first|exact b2|exact j) ?_)
  | (go_at_call 62;refine H.mono ?_;rintro e h ⟨l,rfl,b2,p⟩))
 exact nT (nj rfl _ _ _) rfl ⟨l,h,rfl,p,rfl⟩
def XZ (W:World)(k:Nat):Prop:=(∃es c,W.heap[k]?=some (.map es c))\/(∃T cs,za W k T cs/\cs.size<=64/\∀n,cs[0]? ≠ K4 (Y1 Q6 n))\/∃ds,W.heap[k]?=some (.deferred ds)
theorem XZ.pP {W:World}{n c:Nat}{A:Y5}{l:Y4}(h:qv W n A c l)(u:64<l.length){g o:Nat}(e:A=some ⟨g,o,K3⟩):¬ XZ W g:=by
 obtain⟨H,o',j,_,hc⟩:=h.pO K5;rw[e] at j;injection j with j
 injection j with e1 e2
 subst e1 e2;have p:=hc 64 u;rintro(⟨es,c',q⟩|⟨T,cs,B,hs,_⟩|⟨C,q⟩)
 .simp[mv,q] at p
 .rw[B.cell,gg K5] at p;cases p
 .simp[mv,q] at p
theorem qv.pq {Mu:Nat->Prop}{W W':World}{A:Y5}{c:Nat}{l:Y4}(h:qv W W.heap.size A c l)(j:64<l.length)(p:ze Mu W W')(q:∀k,Mu k->XZ W k):qv W' W'.heap.size A c l :=
 p.inB h (λg o e _ u=>XZ.pP h j e (q g u))
theorem YO.pq {Mu:Nat->Prop}{W W':World}{l d:Nat}{fr pg:Int}{S:JM}(h:YO W l d fr pg S)(O:∀x∈S.fs,x.y.length=512)(B:ze Mu W W')(C:∀k,Mu k->XZ W k)(hl:¬ Mu l):YO W' l d fr pg S:=by
 obtain⟨K,A,c,j,L,hF,I⟩:=h;have U:∀v∈j,v.1.y.length=512:=λv p=>O v.1 (by rw[<-I];exact List.mem_map_of_mem p)
 refine⟨K,A,c,j,B.blk L hl,⟨hF.row.dO B (λg o e M => ?_),hF.out,hF.nil,λv p=>⟨(hF.px v p).1.pq (by have:=U v p;omega) B C,(hF.px v p).2⟩⟩,I⟩;subst e;have N:=(hF.out g o rfl).2;subst N;have hn:j≠[]:=λe=>by have:=hF.nil e;cases this
 have h1:0<j.length:=List.length_pos_iff.2 hn;obtain⟨X,o',u,_,Z⟩:=hF.row.pO K5;injection u with u
 injection u with e1 e2
 subst e1 e2;have H:=hF.row.elem 0 h1;rw[BF j 0 h1] at H;have q:=H 0 (Y1 Q6 ((j[0]).1.e:Int)) rfl;rcases C g M with⟨es,c',hmm⟩|⟨T,cs,hb,hs,hne⟩|⟨ds,hmm⟩
 .simp[mv,hmm] at q
 .rw[hb.cell] at q;exact hne _ q
 .simp[mv,hmm] at q
end
section
open Go Go.RowKit xq Go.Shelf Go.Sort
theorem JU {α : Type}[Inhabited α](enc : α -> Value)(w:World)(blk off m:Nat)(dk:Array α)(os:Array Obj):ze (λk=>k=blk) w (sortWorld enc w blk off m dk os):=by
 refine⟨rfl,rfl,rfl,?_,λk g hn => ?_⟩
 .simp[sortWorld,grow,putRow,mapBlock,Sort.ahead]
 .have h:k<(w.heap.modify blk (onCells (putCells enc off dk))).size:=by simpa using g
  show ((w.heap.modify blk (onCells (putCells enc off dk)))++os)[k]?=w.heap[k]?
  rw[Array.getElem?_append_left h,mE,if_neg (λe=>hn e.symm)]
end
section
open Go Go.RowKit xq Go.Maps Go.Sort Go.Shelf
def AK:Go.Shelf.Ren:=⟨fun|8=>241|11=>301|n=>n,fun|26=>3|28=>288|24=>67|0=>0|33=>207|4=>4|n=>n,fun|n=>n⟩
theorem sw:SlLaysZI.n8 Y3 AK:={
 mixed:=K6
 f8:=⟨Tryz.f241.name,by decide,func241.trans (congrArg some K6)⟩
 f11:=⟨Tryz.f301.name,by decide,func301.trans (congrArg some K6)⟩
 t0:=underlying0
 a0:=Tryz.isAgg0
 z0:=Tryz.sizeOf0
 v0:=Tryz.zeroValue0
 t24:=underlying67
 a24:=Tryz.isAgg67
 z24:=Tryz.sizeOf67
 v24:=Tryz.zeroValue67
 t26:=underlying3
 a26:=Tryz.isAgg3
 z26:=Tryz.sizeOf3
 v26:=Tryz.zeroValue3
 t28:=underlying288
 a28:=Tryz.isAgg288
 z28:=Tryz.sizeOf288
 v28:=Tryz.zeroValue288
 i26:=by kernel_rfl}
def Kp:Go.Shelf.Ren:=⟨fun|6=>245|15=>304|14=>303|28=>340|29=>341|20=>332|21=>333|22=>334|23=>335|24=>336|25=>337|26=>338|27=>339|46=>364|47=>365|48=>366|49=>367|50=>368|57=>376|n=>n,fun|22=>67|24=>3|25=>267|3=>3|39=>343|0=>0|53=>148|55=>168|4=>4|46=>412|45=>411|50=>102|5=>5|9=>9|66=>436|70=>440|76=>445|77=>446|n=>n,fun|n=>n⟩
theorem rF:SlLaysF.n6 Y3 Kp:={
 mixed:=K6
 f6:=⟨Tryz.f245.name,by decide,func245.trans (congrArg some K6)⟩
 f14:=⟨Tryz.f303.name,by decide,func303.trans (congrArg some K6)⟩
 f15:=func304.trans (congrArg some K6)
 f20:=⟨Tryz.f332.name,by decide,func332.trans (congrArg some K6)⟩
 f21:=⟨Tryz.f333.name,by decide,func333.trans (congrArg some K6)⟩
 f22:=⟨Tryz.f334.name,by decide,func334.trans (congrArg some K6)⟩
 f23:=⟨Tryz.f335.name,by decide,func335.trans (congrArg some K6)⟩
 f24:=⟨Tryz.f336.name,by decide,func336.trans (congrArg some K6)⟩
 f25:=⟨Tryz.f337.name,by decide,func337.trans (congrArg some K6)⟩
 f26:=⟨Tryz.f338.name,by decide,func338.trans (congrArg some K6)⟩
 f27:=⟨Tryz.f339.name,by decide,func339.trans (congrArg some K6)⟩
 f28:=func340.trans (congrArg some K6)
 f29:=func341.trans (congrArg some K6)
 f46:=⟨Tryz.f364.name,by decide,func364.trans (congrArg some K6)⟩
 f47:=func365.trans (congrArg some K6)
 f48:=func366.trans (congrArg some K6)
 f49:=⟨Tryz.f367.name,by decide,func367.trans (congrArg some K6)⟩
 f50:=⟨Tryz.f368.name,by decide,func368.trans (congrArg some K6)⟩
 f57:=⟨Tryz.f376.name,by decide,func376.trans (congrArg some K6)⟩
 t0:=underlying0
 a0:=Tryz.isAgg0
 z0:=Tryz.sizeOf0
 v0:=Tryz.zeroValue0
 t3:=underlying3
 a3:=Tryz.isAgg3
 z3:=Tryz.sizeOf3
 v3:=Tryz.zeroValue3
 t4:=underlying4
 a4:=Tryz.isAgg4
 z4:=Tryz.sizeOf4
 v4:=Tryz.zeroValue4
 t5:=underlying5
 a5:=Tryz.isAgg5
 z5:=Tryz.sizeOf5
 v5:=Tryz.zeroValue5
 t9:=underlying9
 a9:=Tryz.isAgg9
 z9:=Tryz.sizeOf9
 v9:=Tryz.zeroValue9
 t22:=underlying67
 a22:=Tryz.isAgg67
 z22:=Tryz.sizeOf67
 v22:=Tryz.zeroValue67
 a24:=Tryz.isAgg3
 z24:=Tryz.sizeOf3
 t25:=underlying267
 a25:=Tryz.isAgg267
 z25:=Tryz.sizeOf267
 v25:=Tryz.zeroValue267
 t39:=underlying343
 a39:=Tryz.isAgg343
 z39:=Tryz.sizeOf343
 v39:=Tryz.zeroValue343
 t45:=underlying411
 a45:=Tryz.isAgg411
 z45:=Tryz.sizeOf411
 v45:=Tryz.zeroValue411
 t46:=underlying412
 a46:=Tryz.isAgg412
 z46:=Tryz.sizeOf412
 v46:=Tryz.zeroValue412
 t50:=underlying102
 a50:=Tryz.isAgg102
 z50:=Tryz.sizeOf102
 v50:=Tryz.zeroValue102
 t53:=underlying148
 a53:=Tryz.isAgg148
 z53:=Tryz.sizeOf148
 v53:=Tryz.zeroValue148
 t55:=underlying168
 a55:=Tryz.isAgg168
 z55:=Tryz.sizeOf168
 v55:=Tryz.zeroValue168
 t66:=underlying436
 a66:=Tryz.isAgg436
 z66:=Tryz.sizeOf436
 v66:=Tryz.zeroValue436
 t70:=underlying440
 a70:=Tryz.isAgg440
 z70:=Tryz.sizeOf440
 v70:=Tryz.zeroValue440
 t76:=underlying445
 a76:=Tryz.isAgg445
 z76:=Tryz.sizeOf445
 v76:=Tryz.zeroValue445
 t77:=underlying446
 a77:=Tryz.isAgg446
 z77:=Tryz.sizeOf446
 v77:=Tryz.zeroValue446}
end
section
open Go Go.RowKit xq Go.Shelf Go.Sort
theorem Dq {α : Type}[Inhabited α]{enc : α -> Value}{w:World}{g off m:Nat}{T:nS}{cs:Y7}(h:za w g T cs)(dk:Array α)(os:Array Obj):za (sortWorld enc w g off m dk os) g T (putCells enc off dk cs):=by
 have j:=h.lt;show ((w.heap.modify g (onCells (putCells enc off dk)))++os)[g]?=_
 rw[Array.getElem?_append_left (by simpa using j),mE,if_pos rfl];have e:w.heap[g]?=some (Q9 cs T (0,0)):=h;rw[e];rfl
def Pc (ks:List Int)(x : {k:Int // k∈ks}):Value:=Y1 Q4 x.val
theorem To {ks:List Int}{d:Array {k:Int // k∈ks}}(h:d.toList.Perm ks.attach):(d.toList.map Subtype.val).Perm ks:=by
 have:=h.map Subtype.val
 rwa [List.attach_map_subtype_val] at this
theorem Sy (w:World)(g L:Nat)(ks:List Int)(cs:Y7)(B:za w g 3 cs)(hr:∀j (h:j<ks.length),cs[j]?=K4 (Y1 Q4 ks[j]))(hl:ks.length<=1000000)(A:Int->Int->Int)(M:SWO (ltOf A))(u:Nat)(H:Y7)(eg:∀args w,(gm u args).run Y3 w=.ok (.enter u args) w)
  (hc:∀W,ze (λk=>k=g) w W->∀x∈ks,∀y∈ks,nK Y3 u (#[Y1 Q4 x,Y1 Q4 y]++H) W λe w'=>e=Y0 (Y1 Q4 (A x y))/\∃q os,w'=grow (W.drewN q) os) :
  nK Y3 245 #[X1 g ks.length L,.func (.func u) #[] H] w λe w'=>e=Y0 (Q2 #[])/\∃(K:List Int) (cs':Y7),K.Perm ks/\K.Pairwise (λa b=>¬ A b a<0)/\za w' g 3 cs'/\(∀j (h:j<K.length),cs'[j]?=K4 (Y1 Q4 K[j]))/\ze (λk=>k=g) w w':=by
 cases Z:ks with
 | nil =>
  refine(AnyF.slices_SortFunc_none (P:=Y3) (ρ:=Kp) {rF with} (K4 ⟨g,0,K3⟩) L (.func (.func u) #[] H) w).mono ?_;rintro e w' ⟨rfl,rfl⟩;exact⟨rfl,[],cs,List.Perm.refl _,fx,B,λj h=>absurd h K9,ze.refl _ _⟩
 | cons k0 kr =>
  rw[<-Z]
  haveI:Inhabited {k:Int // k∈ks}:=⟨⟨k0,by rw[Z];simp⟩⟩
  obtain⟨d,hd⟩:∃d:Array {k:Int // k∈ks},d=ks.attach.toArray:=⟨_,rfl⟩;have N:d.size=ks.length:=by rw[hd];simp
  have aD:∀j (h:j<ks.length),(d[j]!).val=ks[j]:=λj h=>by rw[getElem!_pos d j K5];subst hd;simp
  have U:Holds (Pc ks) w g 0 d:=λj C=>⟨by rw[qA,B.cell,hr j K5];unfold Pc;rw[aD j K5],by rw[qA];exact B.free j⟩
  have hS:CmpLays1 Y3 u H (Pc ks) (λx y=>A x.val y.val) g 0 d.size w:=λm os dk _ x y =>
   hc _ (JU (Pc ks) w g 0 m dk os) x.val x.property y.val y.property
  have aB:SWO (ltOf λx y : {k:Int // k∈ks}=>A x.val y.val):=⟨λx=>M.irrefl x.val,λx y z=>M.trans x.val y.val z.val,λx y z=>M.ntrans x.val y.val z.val⟩;have O:=Any.slices_SortFunc (P:=Y3) (ρ:=Kp) rF (Pc ks) (λ_=>rfl) (λx y=>A x.val y.val) aB u H g 0 L d w eg hS U B.lt K5;rw[N] at O;refine O.mono ?_;rintro e w' ⟨rfl,p,n,os,I,hs,rfl⟩;have aC:p.size=ks.length:=by rw[I.1,N]
  have aF:p.toList.Perm d.toList:=by
   have:=I.2.2;rw[<-N,<-I.1] at this;have e1:(p.extract 0 p.size).toList=p.toList:=by simp
   have e2:(d.extract 0 p.size).toList=d.toList:=by rw[I.1];simp
   rwa [e1,e2] at this
  have aA:=holds_sortWorld (Pc ks) w g 0 n d p os B.lt U I.1;have X:=Dq (enc:=Pc ks) (off:=0) (m:=n) B p os;refine⟨rfl,p.toList.map Subtype.val,_,To (aF.trans (by rw[hd])),?_,X,λj C => ?_,JU _ _ _ _ _ _ _⟩
  .rw[List.pairwise_map,List.pairwise_iff_getElem];intro i j hi C aE;have h1:=hs i j (ly _) aE (by rw[<-aC];simpa using C);rw[getElem!_pos p i (by simpa using hi),getElem!_pos p j (by simpa using C)] at h1;unfold ltOf at h1;simpa using h1
  .have h1:=(aA j (by simpa using C)).1;rw[qA,X.cell] at h1;rw[h1,getElem!_pos p j (by simpa using C)];simp[Pc]
end
section
open Go Go.RowKit xq Go.Maps Go.Shelf Go.Sort
theorem Vm (gf:Nat)(lb:Y7)(W:World):nK Y3 243 #[X1 none 0 0,.func (.func gf) #[] lb] W λe w'=>e=Y0 (X1 none 0 0)/\w'=W:=by
 have g:nK Y3 199 #[X1 none 0 0,.func (.func gf) #[] lb] W λe w'=>e=Y0 (Y1 Q4 (-1))/\w'=W:=by
  go_enter func199,ntmps199
  go_wp2
  go_loopw [8] (λi wr=>i=Y1 Q4 0/\wr=W) (λ_ _=>0)
  case atStart=>exact⟨rfl,rfl⟩
  case round =>
   obtain⟨rfl,rfl⟩:=hrel;go_wp2;go_ret;exact⟨rfl,rfl⟩
 go_enter func243,ntmps243
 go_wp2_with (go_at_call 199;refine g.mono ?_;rintro e h ⟨rfl,rfl⟩)
 go_ret;exact⟨rfl,rfl⟩
def wW (f:Int->Option Value)(p:Int->Bool)(cf:Int->Int->Int)(ks:List Int):Prop:=ks.Nodup/\(∀k,k∈ks↔(f k).isSome=true/\p k=true)/\ks.Pairwise λa b=>¬ cf b a<0
def tD (w w':World)(A:Y5)(ks:List Int):Prop:=∀j (h:j<ks.length),∃g,A=some ⟨g,0,K3⟩/\w.heap.size<=g/\w'.cell? ⟨g,j,K3⟩=K4 (Y1 Q4 ks[j])
section
variable {ρ:nO->Value}{w:World}{o:nh}{x y:nO}{r clock:Nat}{k:Int}{es:Array nZ}{f:Int->Option Value}{v:Value}
theorem tM (e:jx es f)(h:qa w r es clock)(g:f k=some v)(j:o.op=.lookup 178 x y false)(h1:ρ x=Q1 (some r))(h2:ρ y=Y1 Q4 k):(nQ ρ o).run Y3 w=.ok (.value v) w :=
 VO (z0:=(Y9 none)) underlying178 (by simp[go_sem]) e h (by simp[g]) j h1 h2
theorem rD (e:jx es f)(h:qa w r es clock)(g:f k=none)(j:o.op=.lookup 178 x y false)(h1:ρ x=Q1 (some r))(h2:ρ y=Y1 Q4 k):(nQ ρ o).run Y3 w=.ok (.value (Y9 none)) w :=
 VO (z0:=(Y9 none)) underlying178 (by simp[go_sem]) e h (by simp[g]) j h1 h2
end
end
section
open Go Go.RowKit xq
structure jN where
 b:Nat
 at_:Int
 A:Y5
 c:Nat
 y:Y4
 d:Bool
abbrev qt:=Int->Option jN
def TG (v:jN):Y7:=#[Y1 Q4 v.at_,X1 v.A v.y.length v.c,X3 v.d]
def tT (f:Nat)(room now:Int)(r:Nat)(hh mm:Int):Y7:=#[Y9 f,Y1 Q4 room,Y1 Q4 now,Q1 (some r),Y1 Q4 hh,Y1 Q4 mm]
def jW (V:qt):Int->Option Value:=λk=>(V k).map λv => Y9 v.b
def xS (V:qt)(k:Int)(x:Option jN):qt:=λj=>if j=k then x else V j
theorem Tb (V:qt)(k:Int)(x:Option jN):jW (xS V k x)=vr (jW V) k (x.map λv => Y9 v.b):=by
 funext j
 unfold jW xS vr;split<;>rfl
theorem Qn (V:qt)(k:Int)(x:Option jN):xS V k x k=x:=if_pos rfl
theorem JD {V:qt}{k j:Int}{x:Option jN}(h:j≠k):xS V k x j=V j:=if_neg h
theorem XQ {V:qt}{k:Int}{v:jN}(h:V k=some v):jW V k=K4 (Y9 v.b):=by unfold jW;rw[h];rfl
theorem NM {V:qt}{k:Int}(h:V k=none):jW V k=none:=by unfold jW;rw[h];rfl
theorem Kf {V:qt}{k:Int}{x:Value}(h:jW V k=some x):∃v,V k=some v/\x=Y9 v.b:=by
 unfold jW at h;cases e:V k with
 | none=>rw[e] at h;cases h
 | some v=>rw[e] at h;injection h with h;exact⟨v,rfl,h.symm⟩
theorem NK {V:qt}{k:Int}{v g:jN}(h:V k=some v)(p:g.b=v.b):jW (xS V k (some g))=jW V:=by
 rw[Tb]
 funext j
 unfold vr;split
 .rename_i e
  rw[e,XQ h,gv,p]
 .rfl
def xI (a r:Nat)(V:qt)(k:Nat):Prop:=k=a\/k=r\/∃j v,V j=some v/\k=v.b
structure Jb (W:World)(P:Nat)(now:Int)(k:Int)(v:jN):Prop where
 blk:za W v.b 194 (TG v)
 key:0<=k/\k<(P:Int)
 px:qv W W.heap.size v.A v.c v.y
 len:v.y.length=512\/v.y=[]
 om:0<=v.at_/\v.at_<=now
structure yW (W:World)(a f r P:Nat)(room now hh mm:Int)(V:qt):Prop where
 cb:za W a 185 (tT f room now r hh mm)
 mp:∃es clock,qa W r es clock/\jx es (jW V)/\nY es clock
 rows:∀k v,V k=some v->Jb W P now k v
 inj:∀j k u v,V j=some u->V k=some v->u.b=v.b->j=k
 dM:∀j k u v,V j=some u->V k=some v->1<=u.at_->u.at_=v.at_->j=k
theorem qv.noB {W W':World}{n g c:Nat}{A:Y5}(h:qv W n A c []):qv W' g A c []:=⟨h.le,h.max,h.nil,λe=>absurd e K9⟩
theorem Jb.pQ {Mu:Nat->Prop}{W W':World}{A:Y5}{c:Nat}{y:Y4}(h:qv W W.heap.size A c y)(hl:y.length=512\/y=[])(e:ze Mu W W')(g:∀k,Mu k->XZ W k):qv W' W'.heap.size A c y:=by
 rcases hl with hl|rfl
 .exact h.pq K5 e g
 .exact h.noB
section
variable {W W':World}{a f r P:Nat}{room now hh mm:Int}{V V':qt}
theorem yW.ca (h:yW W a f r P room now hh mm V):∀k,xI a r V k->XZ W k:=λk g=>by
 rcases g with rfl|rfl|⟨j,v,q,rfl⟩
 .exact .inr (.inl ⟨_,_,h.cb,by show 6<=64;decide,λn e=>by cases e⟩)
 .obtain⟨es,c,p,_⟩:=h.mp;exact .inl ⟨es,c,p⟩
 .exact .inr (.inl ⟨_,_,(h.rows j v q).blk,by show 3<=64;decide,λn e=>by cases e⟩)
theorem yW.oE (h:yW W a f r P room now hh mm V):∀k,xI a r V k->k<W.heap.size:=λk e=>by
 rcases e with rfl|rfl|⟨j,v,p,rfl⟩
 .exact h.cb.lt
 .obtain⟨es,c,g,_⟩:=h.mp;exact g.lt
 .exact(h.rows j v p).blk.lt
theorem qa.pf {W:World}{r g c:Nat}{es:Array nZ}{T:nS}{cs:Y7}(h:qa W r es c)(j:za W g T cs):r≠g:=λe=>by
 subst e;have h1:W.heap[r]?=some (.map es c):=h;have h2:W.heap[r]?=some (Q9 cs T (0,0)):=j;rw[h1] at h2;cases h2
theorem yW.ar (h:yW W a f r P room now hh mm V):r≠a:=by
 obtain⟨es,c,e,_⟩:=h.mp;exact e.pf h.cb
theorem yW.rb (h:yW W a f r P room now hh mm V){k:Int}{v:jN}(g:V k=some v):r≠v.b:=by
 obtain⟨es,c,e,_⟩:=h.mp;exact e.pf (h.rows k v g).blk
theorem yW.ab (h:yW W a f r P room now hh mm V){k:Int}{v:jN}(e:V k=some v):a≠v.b:=zh h.cb (h.rows k v e).blk K7
theorem yW.pR {Mu:Nat->Prop}(h:yW W a f r P room now hh mm V)(j:ze Mu W W')(u:∀k,Mu k->XZ W k)(hn:∀k,Mu k->¬ xI a r V k):yW W' a f r P room now hh mm V:=by
 obtain⟨es,c,p,A,hs⟩:=h.mp;refine⟨j.blk h.cb (λe=>hn _ e (.inl rfl)),⟨es,c,(j.block r p.lt (λe=>hn _ e (.inr (.inl rfl)))).trans p,A,hs⟩,λk v q => ?_,h.inj,h.dM⟩;have g:=h.rows k v q;exact⟨j.blk g.blk (λe=>hn _ e (.inr (.inr ⟨k,v,q,rfl⟩))),g.key,Jb.pQ g.px g.len j u,g.len,g.om⟩
theorem yW.below (h:yW W a f r P room now hh mm V)(hB:nH W.heap.size W W'):yW W' a f r P room now hh mm V :=
 h.pR (Mu:=λ_=>False) (ze.below hB) (λ_ e=>e.elim) (λ_ e=>e.elim)
theorem yW.step {now' hh' mm':Int}(h:yW W a f r P room now hh mm V)(g:ze (xI a r V) W W')(cb:za W' a 185 (tT f room now' r hh' mm'))(mp:∃es clock,qa W' r es clock/\jx es (jW V')/\nY es clock)(q:now<=now')
  (A:∀k v,V' k=some v->(V k=some v/\W'.heap[v.b]?=W.heap[v.b]?)\/Jb W' P now' k v) (inj:∀j k u v,V' j=some u->V' k=some v->u.b=v.b->j=k) (B:∀j k u v,V' j=some u->V' k=some v->1<=u.at_->u.at_=v.at_->j=k):yW W' a f r P room now' hh' mm' V' :=
 ⟨cb,mp,λk v p=>by
  rcases A k v p with⟨h1,h2⟩|h1
  .have e:=h.rows k v h1;exact⟨h2.trans e.blk,e.key,Jb.pQ e.px e.len g h.ca,e.len,e.om.1,Int.le_trans e.om.2 q⟩
  .exact h1,inj,B⟩
theorem BH (h:yW W a f r P room now hh mm V){k0:Int}{v0 v1:jN}(A:V k0=some v0)(H:v1.b=v0.b):∀j k u v,xS V k0 (some v1) j=some u->xS V k0 (some v1) k=some v->u.b=v.b->j=k:=λj k u v g I e=>by
 have q:∀j u,xS V k0 (some v1) j=some u->∃p,V j=some p/\p.b=u.b:=λj u g=>by
  unfold xS at g;split at g
  .rename_i ej
   injection g with g
   rw[ej];exact⟨v0,A,by rw[<-g,H]⟩
  .exact⟨u,g,rfl⟩
 obtain⟨p,h1,h2⟩:=q j u g;obtain⟨K,B,C⟩:=q k v I;exact h.inj j k p K h1 B (by rw[h2,C,e])
theorem yW.setRow (h:yW W a f r P room now hh mm V){k0:Int}{v0 v1:jN}(q:V k0=some v0)(M:v1.b=v0.b)(i:Nat)(x:Value)(X:(TG v0).setIfInBounds i x=TG v1)(hB:v1.y=v0.y/\v1.A=v0.A/\v1.c=v0.c\/qv W W.heap.size v1.A v1.c v1.y/\(v1.y.length=512\/v1.y=[]))(U:0<=v1.at_/\v1.at_<=now)(hu:1<=v1.at_->∀k v,k≠k0->V k=some v->v.at_≠v1.at_):yW (W.setCell ⟨v0.b,i,K3⟩ x) a f r P room now hh mm (xS V k0 (some v1))/\ze (λk=>k=v0.b) W (W.setCell ⟨v0.b,i,K3⟩ x):=by
 have I:=h.rows k0 v0 q;have H:ze (λk=>k=v0.b) W (W.setCell ⟨v0.b,i,K3⟩ x):=ze.setCell _ _ _ rfl;have L:ze (xI a r V) W (W.setCell ⟨v0.b,i,K3⟩ x):=H.more (λk e _ => .inr (.inr ⟨k0,v0,q,e⟩));obtain⟨es,c,O,B,hs⟩:=h.mp;have N:=I.blk.set i x;rw[X] at N;refine⟨h.step L (H.blk h.cb (h.ab q)) ⟨es,c,(H.block r O.lt (h.rb q)).trans O,by rw[NK q M];exact B,hs⟩ (mo _) (λk v g => ?_) (BH h q M) (λj k u v p g h1 B => ?_),H⟩
 .unfold xS at g;split at g
  .rename_i e
   injection g with g
   subst g;rw[e];refine .inr ⟨by rw[M];exact N,I.key,?_,?_,U⟩
   .rcases hB with⟨e1,K,e3⟩|⟨hB,hl⟩
    .rw[e1,K,e3];exact Jb.pQ I.px I.len L h.ca
    .exact Jb.pQ hB hl L h.ca
   .rcases hB with⟨e1,_,_⟩|⟨_,hl⟩
    .rw[e1];exact I.len
    .exact hl
  .rename_i e
   exact .inl ⟨g,H.block v.b (h.rows k v g).blk.lt (λK=>e (h.inj k k0 v v0 g q K))⟩
 .by_cases C:j=k0<;>by_cases ek:k=k0
  .rw[C,ek]
  .subst C;rw[Qn] at p;rw[JD ek] at g;injection p with p
   subst p;exact absurd B.symm (hu h1 k v ek g)
  .subst ek;rw[Qn] at g;rw[JD C] at p;injection g with g
   subst g;exact absurd B (hu (B▸h1) j u C p)
  .rw[JD C] at p;rw[JD ek] at g;exact h.dM j k u v p g h1 B
theorem yW.ow {now' hh' mm':Int}(h:yW W a f r P room now hh mm V)(i:Nat)(x:Value)(C:(tT f room now r hh mm).setIfInBounds i x=tT f room now' r hh' mm')(B:now<=now'):yW (W.setCell ⟨a,i,K3⟩ x) a f r P room now' hh' mm' V/\ze (λk=>k=a) W (W.setCell ⟨a,i,K3⟩ x):=by
 have g:ze (λk=>k=a) W (W.setCell ⟨a,i,K3⟩ x):=ze.setCell _ _ _ rfl;have u:ze (xI a r V) W (W.setCell ⟨a,i,K3⟩ x):=g.more (λk e _ => .inl e);obtain⟨es,c,q,A,hs⟩:=h.mp;have p:=h.cb.set i x;rw[C] at p;exact⟨h.step u p ⟨es,c,(g.block r q.lt h.ar).trans q,A,hs⟩ B (λk v j => .inl ⟨j,g.block v.b (h.rows k v j).blk.lt (λe=>h.ab j e.symm)⟩) h.inj h.dM,g⟩
theorem yW.fresh (h:yW W a f r P room now hh mm V){k0:Int}(N:0<=k0/\k0<(P:Int))(X:V k0=none)(O:0<=now){b:Nat}(H:za W b 194 (TG ⟨b,0,none,0,[],false⟩))(I:∀k v,V k=some v->v.b≠b){K:Array nZ}{c0:Nat}(C:qa W r K c0)(es:Array nZ)(c:Nat)(M:jx es (vr (jW V) k0 (some (Y9 b))))(hs:nY es c):yW (setMap W r es c) a f r P room now hh mm (xS V k0 (K4 ⟨b,0,none,0,[],false⟩))/\ze (λk=>k=r) W (setMap W r es c):=by
 have B:ze (λk=>k=r) W (setMap W r es c):=ze.grown (vP C es c) (λq e=>by injection e with e;exact .inl e.symm);have L:ze (xI a r V) W (setMap W r es c):=B.more (λk e _ => .inr (.inl e));have U:r≠b:=C.pf H;have A:∀j u,xS V k0 (K4 ⟨b,0,none,0,[],false⟩) j=some u->(j=k0/\u=⟨b,0,none,0,[],false⟩)\/(j≠k0/\V j=some u):=λj u g=>by
  unfold xS at g;split at g
  .rename_i e
   injection g with g
   exact .inl ⟨e,g.symm⟩
  .rename_i e
   exact .inr ⟨e,g⟩
 refine⟨h.step L (B.blk h.cb (λe=>h.ar e.symm)) ⟨es,c,C.set es c,by rw[Tb];exact M,hs⟩ (mo _) (λk v p => ?_) (λj k u v g p e => ?_) (λj k u v g p h1 e => ?_),B⟩
 .rcases A k v p with⟨rfl,rfl⟩|⟨_,p⟩
  .exact .inr ⟨B.blk H (λe=>U e.symm),N,⟨by simp,by simp,λ_=>rfl,λh=>absurd h K9⟩,.inr rfl,mo _,O⟩
  .exact .inl ⟨p,B.block v.b (h.rows k v p).blk.lt (λe=>h.rb p e.symm)⟩
 .rcases A j u g with⟨rfl,rfl⟩|⟨n1,hj'⟩<;>rcases A k v p with⟨rfl,rfl⟩|⟨n2,hk'⟩
  .rfl
  .exact absurd e.symm (I k v hk')
  .exact absurd e (I j u hj')
  .exact h.inj j k u v hj' hk' e
 .rcases A j u g with⟨rfl,rfl⟩|⟨n1,hj'⟩<;>rcases A k v p with⟨rfl,rfl⟩|⟨n2,hk'⟩
  .rfl
  .exact absurd h1 (show ¬ (1:Int)<=0 by decide)
  .rw[e] at h1;exact absurd h1 (show ¬ (1:Int)<=0 by decide)
  .exact h.dM j k u v hj' hk' h1 e
end
end
section
open Go Go.RowKit xq Go.Shelf Go.Sort
theorem VR (V:qt)(k:Int)(x y:Option jN):xS (xS V k x) k y=xS V k y:=by
 funext j
 unfold xS;split<;>rfl
theorem Ey {a b:Int}:Fp a b<0↔a<b:=by
 unfold Fp;split
 .constructor<;>intro<;>omega
 .split<;>constructor<;>intro<;>omega
theorem Gg {W:World}{v:jN}(g:za W v.b 194 (TG v))(n:Int):nK Y3 184 #[Y9 v.b,Y1 Q4 n] W λe w'=>e=Y0 (Q2 #[])/\w'=W.setCell v.b (Y1 Q4 n):=by
 have k2:W.cell? v.b=K4 (Y1 Q4 v.at_):=by rw[g.cell];rfl
 have k3:=g.free 0
 go_enter func184,ntmps184
 go_wp2;go_end0;exact⟨rfl,rfl⟩
section
variable {ops:Array nh}{Q:Exit->gh->World->Prop}{a:gh}{w:World}{r clock:Nat}{k:Int}{es:Array nZ}{f:Int->Option Value}{x y z:nO}{o:nh}
theorem wv {rest:List nh}{l:Value}(q:o.guard=none)(A:o.op=.mapUpdate 178 x y z)(h1:a.eval x=Q1 (some r))(h2:a.eval y=Y1 Q4 k)(g:a.eval z=l)(j:jx es f)(H:nY es clock)(u:qa w r es clock)
  (h:∀es' e,jx es' (vr f k (some l))->nY es' e->wpList Y3 ops Q rest (a.put o.dst gQ) (setMap w r es' e)):wpList Y3 ops Q (o::rest) a w:=by
 obtain⟨es',e,B,p,C⟩:=Cv (ρ:=a.eval) (o:=o) underlying178 j H u A h1 h2 g;exact SZ q B (h es' e p C)
end
theorem yW.size {W:World}{a f r P:Nat}{room now hh mm:Int}{V:qt}(h:yW W a f r P room now hh mm V){es:Array nZ}(g:jx es (jW V)):es.size=(xJ (jW V) P).length:=by
 have e:=(g.perm (many:=P) (λk x p=>by obtain⟨v,j,_⟩:=Kf p;exact(h.rows k v j).key)).length_eq;rw[qH,qH,zV] at e;exact e
end
section
open Go Go.RowKit xq
theorem Ub {w:World}{f l d:Nat}{fr pg:Int}{S:JM}(g:za w f 119 (Vh l fr pg))(p:YO w l d fr pg S):nK Y3 106 #[Y9 f] w λe w'=>e=Y0 (Y9 d)/\w=w':=by
 have j:=Yk g;obtain⟨_,A,c,u,q,_⟩:=p;have h:=PF q;have c0:w.cell? f=K4 (Y9 l):=by rw[g.cell];rfl
 go_enter func106,ntmps106
 go_wp2_with (first
  |(go_at_call 107;refine j.mono ?_;rintro e w' ⟨rfl,rfl⟩)
  | (go_at_call 178;refine h.mono ?_;rintro e w' ⟨rfl,rfl⟩))
 go_ret;exact⟨rfl,rfl⟩
theorem Yj {w:World}{f l:Nat}{fr pg:Int}(h:za w f 119 (Vh l fr pg)):nK Y3 110 #[Y9 f] w λe w'=>e=Y0 (Q0 #[Y1 Q4 fr,Y1 Q4 pg])/\nH w.heap.size w w':=by
 have hB:nH w.heap.size w (w.alloc (Q9 #[Y1 Q4 0,Y1 Q4 0] 74)):=(nF _ w).alloc (zG _) _;have b2:=za.new w 74 #[Y1 Q4 0,Y1 Q4 0];have p:=h.below hB h.lt;have q:=Yk p;have u:(w.alloc (Q9 #[Y1 Q4 0,Y1 Q4 0] 74)).rangeAt f 1 [Y1 Q4 fr,Y1 Q4 pg]:=λj v g=>by
  rw[p.cell]
  match j,g with
  | 0,g=>exact g
  | 1,g=>exact g
  | j+2,g=>exact absurd g K9
 go_enter func110,ntmps110
 go_wp2_with (first
  |(go_at_call 107;refine q.mono ?_;rintro e w' ⟨rfl,rfl⟩)
  |(refine zp rfl (yQ JF u rfl rfl rfl) ?_)
  | (fail;refine zt rfl 74 (.tmp 2) (.tmp 9) rfl w.heap.size rfl rfl JF b2 J0 J0 (BJ rfl rfl) ?_))
 exact bodyPost_ret_by (yL 2 rfl rfl JF (za.new w _ _) J0) rfl ⟨rfl,(nF _ w).alloc (zG _) _⟩
theorem Xw (w:World)(A:Y5)(c:Nat)(y:Y4)(h:qv w w.heap.size A c y)(hl:y.length<=100000):nK Y3 112 #[X1 A y.length c] w λe w'=>∃j c',e=Y0 (X1 j y.length c')/\qv w' w'.heap.size j c' y/\(∀g o,j=some ⟨g,o,K3⟩->w.heap.size<=g)/\VI w' j/\nH w.heap.size w w':=by
 refine(Yl w A c y h K5).mono ?_;rintro e w' ⟨v,rfl,own,p⟩;have q:=zj own;have B:=Ek own;obtain⟨j,c',rfl,u⟩:=own.inB;exact⟨j,c',rfl,u,λg o e=>by subst e;exact q g rfl,λg o e=>by subst e;exact B g rfl,p⟩
theorem jt {w:World}{a f r:Nat}{room now hh mm:Int}(g:za w a 185 (tT f room now r hh mm)):nK Y3 109 #[Y9 a] w λe w'=>e=Y0 (X3 false)/\w=w':=by
 have c0:w.cell? ⟨a,3,K3⟩=some (Q1 (some r)):=by rw[g.cell];rfl
 have hq:=λW=>QQ (P:=Y3) W 178 _ _ (some r) underlying178
 go_enter func109,ntmps109
 go_wp2;go_ret;exact⟨rfl,rfl⟩
theorem ES {w:World}{a:nN}{x:Int}(hc:w.cell? a=K4 (Y1 Q4 x))(hf:w.frozen? a=false)(ha:a.spot=none)(hx : -1000000000<=x/\x<=1000000000):nK Y3 118 #[Y9 (some a),Y1 Q4 1] w λe w'=>e=Y0 (Y1 Q4 (x+1))/\w'=w.setCell a (Y1 Q4 (x+1)):=by
 obtain⟨g,o,s⟩:=a;subst ha;have h:IntKind.i64.wrap (x+1)=x+1:=zg _;have j:=run_call_add (P:=Y3) func194 K6 K6 K6 .i64 K6 (y:=1) (s:=x+1) hc hf (by simp[go_sem,h])
 go_enter func118,ntmps118
 go_wp2;go_ret;exact⟨rfl,rfl⟩
theorem Jb.short {W:World}{P:Nat}{now k:Int}{v:jN}(h:Jb W P now k v):v.y.length<=100000:=by
 rcases h.len with h|h
 .omega
 .rw[h];simp
def Dg (P:Nat)(room:Int)(V:qt):Prop:=room<=((xJ (jW V) P).length:Int)/\∀k v,V k=some v->v.d=true
section
variable {w:World}{a f r P:Nat}{room now hh mm:Int}{V:qt}
end
theorem EF (w:World)(f l d P:Nat)(fr pg room:Int)(S:JM)(H:za w f 119 (Vh l fr pg))(C:YO w l d fr pg S)(I:2<=room/\room<=2000):nK Y3 63 #[Y9 f,Y1 Q4 room] w λe w'=>∃a r,e=Y0 (Q2 #[Y9 (K4 ⟨a,0,K3⟩),Y1 Q4 0])/\w.heap.size<=a/\w.heap.size<=r/\yW w' a f r P room 0 0 0 (λ_=>none)/\nH w.heap.size w w':=by
 have A:=Ub H C
 go_enter func63,ntmps63
 go_wp2_with (first
  |(refine Qv rfl rfl ?_;intro _)
  | (go_at_call 106;refine A.mono ?_;rintro e w' ⟨rfl,rfl⟩))
 have g:nH w.heap.size w (w.alloc (.map #[] 0)):=(nF _ w).alloc (zG _) _;have p:nH (w.alloc (.map #[] 0)).heap.size (w.alloc (.map #[] 0)) ((w.alloc (.map #[] 0)).alloc (Q9 (tT f room 0 w.heap.size 0 0) 185)):=(nF _ _).alloc (zG _) _;have q:qa (w.alloc (.map #[] 0)) w.heap.size #[] 0:=World.alloc_heap_new w _;have bb:=za.new (w.alloc (.map #[] 0)) 185 (tT f room 0 w.heap.size 0 0);rw[nG] at bb;have B:jW (λ_=>none)=λ_=>none:=rfl
 refine nT (nj rfl _ _ _) rfl ⟨w.heap.size+1,w.heap.size,rfl,by omega,zG _,⟨bb,⟨#[],0,q.below p q.lt,by rw[B];exact jx.empty,MapKept.stamped_empty 0⟩,λk v h=>(by cases h),λj k u v h=>(by cases h),λj k u v h=>(by cases h)⟩,g.trans (p.mono g.size)⟩
theorem Vb (fr pg:Int)(W:World):(Instr.field 74 (Q0 #[Y1 Q4 fr,Y1 Q4 pg]) 1).run Y3 W=.ok (Y1 Q4 pg) W:=by
 simp[Instr.field,gK underlying74,part,asAgg,go_sem,nM]
theorem Fo (w:World)(a f l r:Nat)(fr pg room now hh mm:Int)(j:za w a 185 (tT f room now r hh mm))(hf:za w f 119 (Vh l fr pg))(page:Int)(A:Y5)(c:Nat)(hn:page<0\/pg<=page):nK Y3 65 #[Y9 (K4 ⟨a,0,K3⟩),Y1 Q4 page,X1 A 512 c] w λe w'=>e=Y0 (Y1 Q4 4)/\nH w.heap.size w w':=by
 have g:=jt j;have h:=Yj hf;have k0:w.cell? ⟨a,0,K3⟩=K4 (Y9 f):=(j.cell _).trans rfl
 go_enter func65,ntmps65
 go_wp2_with fail
 refine wp_scope_jumps (rest:=?rest) 0 (λa w'=>(∃p u1 u2 u3 u4 u5 u7 u8 u9 u10 u11 u12 u13 u14 u15 u16 u17 u18 u19 u20 u21 u22 u23 u24 u25 u26 u27 u28 u29 u30 u31 u32 u33 u34 u35 u36 u37 u38 u39 u40 u41,a={tmps:=#[p,u1,u2,u3,u4,u5,Y1 Q4 4,u7,u8,u9,u10,u11,u12,u13,u14,u15,u16,u17,u18,u19,u20,u21,u22,u23,u24,u25,u26,u27,u28,u29,u30,u31,u32,u33,u34,u35,u36,u37,u38,u39,u40,u41],defers:=[]})/\nH w.heap.size w w') (λ_ _=>0) ?hf ?first ?pass
 case hf=>exact rfl
 case pass =>
  rintro a w' ⟨⟨p,u1,u2,u3,u4,u5,u7,u8,u9,u10,u11,u12,u13,u14,u15,u16,u17,u18,u19,u20,u21,u22,u23,u24,u25,u26,u27,u28,u29,u30,u31,u32,u33,u34,u35,u36,u37,u38,u39,u40,u41,rfl⟩,hB⟩;go_wp2;simp only[Exit.jump];go_ret;exact⟨rfl,hB⟩
 case first =>
  by_cases q:page<0
  .go_wp2_with (first
    |(go_at_call 109;refine g.mono ?_;rintro e w' ⟨rfl,rfl⟩)
    | (go_at_call 110;refine h.mono ?_;rintro e w' ⟨rfl,hB⟩))
   go_step3
   exact⟨rfl,by repeat (first|exact rfl|apply lS),nF _ _⟩
  .have h1:pg<=page:=K5
   have hq:=Vb fr pg
   go_wp2_with (first
    |(go_at_call 109;refine g.mono ?_;rintro e w' ⟨rfl,rfl⟩)
    | (go_at_call 110;refine h.mono ?_;rintro e w' ⟨rfl,hB⟩))
   go_step3
   exact⟨rfl,by repeat (first|exact rfl|apply lS),hB⟩
theorem yW.hu {W:World}{a f r P:Nat}{room now hh mm:Int}{V:qt}(h:yW W a f r P room now hh mm V){g:Int}{v:jN}(q:V g=some v)(v1:jN)(j:v1.at_=v.at_):1<=v1.at_->∀k u,k≠g->V k=some u->u.at_≠v1.at_:=λh1 k u p hu e=>p (h.dM k g u v hu q (by rw[e];exact h1) (by rw[e,j]))
theorem yW.fill {W:World}{a f r P:Nat}{room now hh mm:Int}{V:qt}(h:yW W a f r P room now hh mm V){e:Int}{v:jN}(g:V e=some v){A:Y5}{c:Nat}{y:Y4}(p:y.length=512)(B:qv W W.heap.size A c y):yW ((W.setCell ⟨v.b,1,K3⟩ (X1 A 512 c)).setCell ⟨v.b,2,K3⟩ (X3 true)) a f r P room now hh mm (xS V e (K4 ⟨v.b,v.at_,A,c,y,true⟩))/\ze (λk=>k=v.b) W ((W.setCell ⟨v.b,1,K3⟩ (X1 A 512 c)).setCell ⟨v.b,2,K3⟩ (X3 true)):=by
 obtain⟨h1,q⟩:=h.setRow (v1:=⟨v.b,v.at_,A,c,y,v.d⟩) g rfl 1 (X1 A 512 c) (by simp[TG,p]) (.inr ⟨B,.inl p⟩) (h.rows e v g).om (h.hu g _ rfl);have j:=Qn V e (K4 ⟨v.b,v.at_,A,c,y,v.d⟩);obtain⟨h2,u⟩:=h1.setRow (v1:=⟨v.b,v.at_,A,c,y,true⟩) j rfl 2 (X3 true) (by simp[TG]) (.inl ⟨rfl,rfl,rfl⟩) (h1.rows e _ j).om (h1.hu j _ rfl);rw[VR] at h2;exact⟨h2,q.trans u⟩
theorem za.pZ {w:World}{g:Nat}{T:nS}{l:Y8}(h:za w g T l.toArray):w.rangeAt g 0 l:=λj v e=>by
 rw[h.cell,qA];simpa using e

abbrev kU:=Int->Option (Y4×Bool)
def jR (P:Nat)(Y:Nat->Y4)(R:kU):Prop:=∀p b d,R p=some (b,d)->(0<=p/\p<(P:Int))/\b.length=512/\(d=false->b=Y p.toNat)
def Si (Y:Nat->Y4)(R:kU)(p:Nat):Y4:=match R (p:Int) with|some (b,true)=>b|_=>Y p
theorem jR.view {P:Nat}{Y:Nat->Y4}{R:kU}(h:jR P Y R){p:Nat}{b:Y4}{d:Bool}(e:R (p:Int)=some (b,d)):Si Y R p=b:=by
 unfold Si;rw[e];cases d with
 | true=>rfl
 | false =>
  have:=(h _ b false e).2.2 rfl;rw[Int.toNat_natCast] at this;exact this.symm
def Xj (R:kU)(k:Int)(x:Y4×Bool):kU:=λp=>if p=k then some x else R p
theorem jR.put {P:Nat}{Y:Nat->Y4}{R:kU}(h:jR P Y R){k:Int}{b:Y4}{d:Bool}(u:0<=k/\k<(P:Int))(j:b.length=512)(hd:d=false->b=Y k.toNat):jR P Y (Xj R k (b,d)):=λp c e g=>by
 unfold Xj at g
 by_cases q:p=k
 .subst q;rw[if_pos rfl] at g;injection g with g
  injection g with h1 h2
  subst h1 h2;exact⟨u,j,hd⟩
 .rw[if_neg q] at g;exact h p c e g
def QS (R:kU):Nat->List (Nat×Y4)
 | 0=>[]
 | P+1=>QS R P++(match R (P:Int) with|some (b,true)=>[(P,b)] | _=>[])
theorem DK {R:kU}:∀{P:Nat} {x:Nat×Y4},x∈QS R P↔x.1<P/\R (x.1:Int)=some (x.2,true)
 | 0,x=>by simp[QS]
 | P+1,x=>by
  unfold QS;rw[zZ,DK];have hc:x∈(match R (P:Int) with|some (b,true)=>[(P,b)] | _=>[])↔x.1=P/\R (P:Int)=some (x.2,true):=by
   obtain⟨a,c⟩:=x;split
   .next b h =>
    rw[qL,h];constructor
    .intro e;injection e with j g
     subst j g;exact⟨rfl,rfl⟩
    .rintro⟨j,g⟩;simp only at j g;injection g with g
     injection g with g _
     rw[j,g]
   .next h =>
    constructor
    .intro e;cases e
    .rintro⟨_,e⟩;exact absurd e (h _)
  rw[hc];constructor
  .rintro(⟨h1,h2⟩|⟨h1,h2⟩)
   .exact⟨by omega,h2⟩
   .rw[h1];exact⟨by omega,h2⟩
  .rintro⟨h1,h2⟩
   by_cases e:x.1=P
   .rw[e] at h2;exact .inr ⟨e,h2⟩
   .exact .inl ⟨by omega,h2⟩
def rz (l:List (Nat×Y4))(k:Nat):Int×Y4:=match l[k]? with|some x=>((x.1:Int),x.2)|none=>(0,[])
theorem yN.oN {Mu:Nat->Prop}{W W':World}{d many:Nat}{g:Nat->Y4}{xs:List (Nat×Y4)}{left:Int}{st:Bool}(h:yN W d many g xs left st){k:Nat}(hk:¬ g k=qy)(H:ze Mu W W')(hd:¬ Mu d)
  (U:∀j,Mu j->(∃es c f,qa W j es c/\jx es f/\∀k v,f k=some v->∃a,v=Y9 a)\/(∃T cs,za W j T cs/\cs.size<=64)\/∃L,W.heap[j]?=some (.deferred L)):yN W' d many g xs left st:=by
 obtain⟨r,A,c,hb,N,I,u⟩:=h.has;have hr:¬ Mu r:=λaE=>by
  obtain⟨es,ck,aD,he,_⟩:=N.pO;have M:W.heap[r]?=some (.map es ck):=aD;rcases U r aE with⟨es1,c1,f,h1,h2,h3⟩|⟨T,cs,h1,_⟩|⟨L,h1⟩
  .have q:W.heap[r]?=some (.map es1 c1):=h1;rw[M] at q;injection q with q
   injection q with e1 _
   subst e1;obtain⟨i,e,h6,_,h7⟩:=he.all k (g k) (by unfold Uq;rw[if_neg hk]);obtain⟨k',l,h8,_,O⟩:=h2.keys i e h6;obtain⟨a,ha⟩:=h3 k' l h8;rw[h7,ha] at O;cases O
  .have q:W.heap[r]?=some (Q9 cs T (0,0)):=h1;rw[M] at q;cases q
  .rw[M] at h1;cases h1
 refine⟨r,A,c,H.blk hb hd,N.pR (H.block r N.lt hr),I,⟨u.le,u.max,u.nil,u.len,u.one,λC => ?_⟩⟩;obtain⟨b,o,e,X,aG⟩:=u.pO C;subst e;have aA:¬ Mu b:=λaC=>by
  have Z:∀K,W.heap[b]?=some K->(∀cs T fr,K≠Q9 cs T fr)->False:=λK q aF=>by
   have aB:=SK.elem (w:=W) (B:=W.heap.size) (c:=c) ⟨I,u⟩ 0 C;have aH:=vT (I xs[0] (qJ C));have hc:=aB 0 ((kV xs[0])[0]'(by omega)) (zM K5);cases K with
   | cells cs T fr=>exact aF cs T fr rfl
   | _=>simp[mv,q] at hc
  rcases U b aC with⟨es1,c1,f,h1,_⟩|⟨T,cs,h1,hs⟩|⟨L,h1⟩
  .exact Z _ h1 (λcs T fr e=>by cases e)
  .exact SK.pr (w:=W) (B:=W.heap.size) (c:=c) ⟨I,u⟩ C h1 hs rfl
  .exact Z _ h1 (λcs T fr e=>by cases e)
 exact⟨b,o,rfl,zO X H.size,λj v hj=>H.cell (p:=⟨b,o+j,K3⟩) (aG j v hj) X aA⟩
def BN (d l a r:Nat)(V:qt)(k:Nat):Prop:=k=d\/k=l\/xI a r V k
structure QY (W:World)(k:Nat):Prop where
 ca:XZ W k
 dk:(∃es c g,qa W k es c/\jx es g/\∀j v,g j=some v->∃p,v=Y9 p)\/(∃T cs,za W k T cs/\cs.size<=64)\/∃ds,W.heap[k]?=some (.deferred ds)
theorem yW.sm {W:World}{a f r P:Nat}{room now hh mm:Int}{V:qt}(h:yW W a f r P room now hh mm V):∀k,xI a r V k->QY W k:=λk g=>by
 refine⟨h.ca k g,?_⟩;rcases g with rfl|rfl|⟨j,v,u,rfl⟩
 .exact .inr (.inl ⟨_,_,h.cb,by show 6<=64;decide⟩)
 .obtain⟨es,c,q,p,_⟩:=h.mp;exact .inl ⟨es,c,jW V,q,p,λk x A=>by obtain⟨v,_,e⟩:=Kf A;exact⟨_,e⟩⟩
 .exact .inr (.inl ⟨_,_,(h.rows j v u).blk,by show 3<=64;decide⟩)
theorem YO.lg {W:World}{l d:Nat}{fr pg:Int}{S:JM}(h:YO W l d fr pg S):∃A n c,za W l 171 (ZC (K4 ⟨d,0,K3⟩) fr pg S.sr S.ep S.sz A n c):=by
 obtain⟨_,A,c,g,e,_⟩:=h;exact⟨A,g.length,c,e⟩
theorem SM {W:World}{d many:Nat}{g:Nat->Y4}{xs:List (Nat×Y4)}{left:Int}{st:Bool}(h:yN W d many g xs left st):∃r A n c,za W d 114 (tS r many A n c left st):=by
 obtain⟨r,A,c,e,_⟩:=h.has;exact⟨r,A,xs.length,c,e⟩
structure YT (W0:World)(d f l a r many P:Nat)(fr pg room now hh mm:Int)(s:DS)(S:JM)(V:qt)(W:World):Prop where
 fh:VL W0 d f l many fr pg s S W
 ca:yW W a f r P room now hh mm V
 nb:∀k,xI a r V k->W0.heap.size<=k
 nz:∃k,¬ s.g k=qy
 y5:∀x∈S.fs,x.y.length=512
section
variable {W0 W W':World}{d f l a r many P:Nat}{fr pg room now hh mm now' hh' mm':Int}{s s':DS}{S S':JM}{V V':qt}
theorem yW.pU (h:yW W a f r P room now hh mm V){k:Nat}{T:nS}{cs:Y7}(e:za W k T cs)(h1:T≠185)(h2:T≠194):¬ xI a r V k:=λg=>by
 rcases g with rfl|rfl|⟨j,v,q,rfl⟩
 .exact zh e h.cb h1 rfl
 .obtain⟨es,c,p,_⟩:=h.mp;exact p.pf e rfl
 .exact zh e (h.rows j v q).blk h2 rfl
theorem YT.nd (h:YT W0 d f l a r many P fr pg room now hh mm s S V W):¬ xI a r V d/\¬ xI a r V l/\¬ xI a r V f:=by
 obtain⟨_,_,_,_,e⟩:=SM h.fh.dk;obtain⟨_,_,_,hl⟩:=h.fh.lg.lg;exact⟨h.ca.pU e K7 K7,h.ca.pU hl K7 K7,h.ca.pU h.fh.fb K7 K7⟩
theorem VL.oN {Mu:Nat->Prop}(h:VL W0 d f l many fr pg s S W)(H:∃k,¬ s.g k=qy)(C:∀x∈S.fs,x.y.length=512)(p:ze Mu W W')(u:∀k,Mu k->QY W k)(A:∀k,Mu k->W0.heap.size<=k)(hn:∀k,Mu k->k≠d/\k≠l/\k≠f):VL W0 d f l many fr pg s S W':=by
 obtain⟨k,B⟩:=H;exact⟨h.up.trans (p.toBelow h.up.size A),yN.oN h.dk B p (λe=>(hn _ e).1 rfl) (λj q=>(u j q).dk),h.lg.pq C p (λj q=>(u j q).ca) (λe=>(hn _ e).2.1 rfl),p.blk h.fb (λe=>(hn _ e).2.2 rfl),h.gd,h.gl⟩
theorem YT.pR {Mu:Nat->Prop}(h:YT W0 d f l a r many P fr pg room now hh mm s S V W)(j:ze Mu W W')(p:∀k,Mu k->QY W k)(q:∀k,Mu k->W0.heap.size<=k)(hn:∀k,Mu k->¬ BN d l a r V k/\k≠f):YT W0 d f l a r many P fr pg room now hh mm s S V W' :=
 ⟨h.fh.oN h.nz h.y5 j p q (λk g=>⟨λe=>(hn k g).1 (.inl e),λe=>(hn k g).1 (.inr (.inl e)),(hn k g).2⟩),h.ca.pR j (λk g=>(p k g).ca) (λk g e=>(hn k g).1 (.inr (.inr e))),h.nb,h.nz,h.y5⟩
theorem YT.grow (h:YT W0 d f l a r many P fr pg room now hh mm s S V W)(hB:nH W.heap.size W W'):YT W0 d f l a r many P fr pg room now hh mm s S V W' :=
 ⟨h.fh.grow hB,h.ca.below hB,h.nb,h.nz,h.y5⟩
theorem YT.pS (h:YT W0 d f l a r many P fr pg room now hh mm s S V W)(p:ze (xI a r V) W W')(j:yW W' a f r P room now' hh' mm' V')(q:∀k,xI a r V' k->xI a r V k\/W.heap.size<=k):YT W0 d f l a r many P fr pg room now' hh' mm' s S V' W':=by
 obtain⟨u,A,B⟩:=h.nd;have C:=h.fh.up.size;exact⟨h.fh.oN h.nz h.y5 p h.ca.sm h.nb (λk g=>⟨λe=>u (e▸g),λe=>A (e▸g),λe=>B (e▸g)⟩),j,λk g=>(q k g).elim (h.nb k) (λe=>by omega),h.nz,h.y5⟩
end
structure YU where
 now:Int
 hh:Int
 mm:Int
 V:qt
def sV (x:Int ⊕ Y4)(e:Ending)(w':World):Prop :=
 match x with
 | .inl er=>e=Y0 (Q2 #[X1 none 0 0,Y1 Q4 er])
 | .inr y=>∃A c,e=Y0 (Q2 #[X1 A y.length c,Y1 Q4 0])/\qv w' w'.heap.size A c y/\VI w' A
theorem DT {a r n:Nat}{V V1:qt}{g:Int}{b:Nat}{v:jN}(p:∀k u,V1 k=some u->V k=some u)(q:v.b=b)(h:(∃u,V g=some u/\b=u.b)\/n<=b):∀k,xI a r (xS V1 g (some v)) k->xI a r V k\/n<=k:=λk e=>by
 rcases e with e|e|⟨j,u,hu,rfl⟩
 .exact .inl (.inl e)
 .exact .inl (.inr (.inl e))
 .unfold xS at hu;split at hu
  .injection hu with hu
   subst hu;rw[q];rcases h with⟨u,h1,h2⟩|h
   .exact .inl (.inr (.inr ⟨g,u,h1,h2⟩))
   .exact .inr h
  .exact .inl (.inr (.inr ⟨j,u,p j u hu,rfl⟩))
structure YU.Ok (c:YU)(N:Nat):Prop where
 now:0<=c.now/\c.now<=(N:Int)
 hh:0<=c.hh/\c.hh<=(N:Int)
 mm:0<=c.mm/\c.mm<=(N:Int)
theorem YU.Ok.more {c:YU}{N M:Nat}(h:c.Ok N)(e:N<=M):c.Ok M:=⟨by have:=h.now;omega,by have:=h.hh;omega,by have:=h.mm;omega⟩
abbrev wY (W0:World)(d f l a r many P:Nat)(fr pg room:Int)(s:DS)(S:JM)(c:YU)(W:World):Prop:=YT W0 d f l a r many P fr pg room c.now c.hh c.mm s S c.V W
section
variable {W0 W W':World}{d f l a r many P:Nat}{fr pg room:Int}{s:DS}{S:JM}{c:YU}
end
def jE (es:Array nZ)(seen:Array Nat)(pd:Int->Bool):Prop:=∀e∈es.toList,∀k:Int,e.key=Y1 Q4 k->(pd k=true↔seen.contains e.born=true)
def kL (pd:Int->Bool)(k:Int):Int->Bool:=λj=>decide (j=k)||pd j
theorem UT (pd:Int->Bool)(k:Int):kL pd k k=true:=by simp[kL]
theorem Vc {pd:Int->Bool}{k j:Int}(h:j≠k):kL pd k j=pd j:=by simp[kL,h]
theorem jE.start (es:Array nZ):jE es #[] (λ_=>false):=λe _ k _=>by simp
theorem jE.sub {es es':Array nZ}{g:Array Nat}{pd:Int->Bool}(h:jE es g pd)(hs:∀x∈es'.toList,x∈es.toList):jE es' g pd:=λe j=>h e (hs e j)
theorem jx.at_ {es:Array nZ}{f:Int->Option Value}(h:jx es f){e:nZ}(g:e∈es.toList):∃(k:Int) (v:Value),f k=some v/\e.key=Y1 Q4 k/\e.val=v:=by
 obtain⟨i,hi,rfl⟩:=yG g;exact h.keys i es.toList[i] (by rw[<-Array.getElem?_toList];exact zM hi)
theorem jx.dR {es:Array nZ}{f:Int->Option Value}(h:jx es f){e e':nZ}(g:e∈es.toList)(p:e'∈es.toList)(u:e.key=e'.key):e=e':=by
 obtain⟨i,hi,rfl⟩:=yG g;obtain⟨j,q,rfl⟩:=yG p;have:=h.inj i j _ _ (by rw[<-Array.getElem?_toList];exact zM hi) (by rw[<-Array.getElem?_toList];exact zM q) u;subst this;rfl
theorem jE.next {es:Array nZ}{f:Int->Option Value}{B:Array Nat}{pd:Int->Bool}{clock:Nat}(h:jE es B pd)(I:jx es f)(M:nY es clock){e:nZ}(u:e∈es.toList){k:Int}(q:e.key=Y1 Q4 k):jE es (B.push e.born) (kL pd k):=λp g A j=>by
 have L:=((MapKept.stamped_iff es clock).1 M).2.1;rw[contains_push,Bool.or_eq_true];unfold kL;rw[Bool.or_eq_true,h p g A j];constructor
 .rintro(hd|hs)
  .have K:A=k:=by simpa using hd
   subst K;have:=I.dR g u (j.trans q.symm);subst this;exact .inr K9
  .exact .inl hs
 .rintro(hs|C)
  .exact .inr hs
  .have H:p.born=e.born:=by simpa using C
   obtain rfl:=born_inj L g u H;exact .inl (by simpa using XT (j.symm.trans q))
theorem jE.fin {es:Array nZ}{f:Int->Option Value}{j:Array Nat}{pd:Int->Bool}(h:jE es j pd)(q:jx es f)(p:∀x∈es.toList,j.contains x.born=true):∀k v,f k=some v->pd k=true:=λk v u=>by
 obtain⟨i,e,h1,h2,_⟩:=q.all k v u;have g:e∈es.toList:=Array.mem_toList_iff.2 (fI h1);exact(h e g k h2).2 (p e g)
theorem tQ {w:World}{r m j clock:Nat}{g:Array Nat}{es:Array nZ}{f:Int->Option Value}{pd:Int->Bool}(ty:nS)(h:QV w r m j g)(A:qa w m es clock)(p:jx es f)(u:nY es clock)(C:∀x∈es.toList,x.born<j)(hc:j<=clock)(B:m<r)(I:r<w.heap.size)(q:jE es g pd):((∀k v,f k=some v->pd k=true)/\(Instr.next (Y9 r) false ty).run Y3 w=.ok (Q2 #[X3 false]) w) \/
  ∃k v b,∃w':World,f k=some v/\pd k=false/\(Instr.next (Y9 r) false ty).run Y3 w=.ok (Q2 #[X3 true,Y1 Q4 k,v]) w'/\QV w' r m j (g.push b)/\nH r w w'/\w'.rangeLeft m r<w.rangeLeft m r /\
   (Instr.entry (Y9 r)).run Y3 w'=.ok (Q2 #[Y1 Q4 k,v]) w'/\jE es (g.push b) (kL pd k):=by
 rcases Ns ty h A C hc u B I with⟨h1,h2⟩|⟨e,w',h1,h2,h3,h4,h5,h6,h7⟩
 .exact .inl ⟨q.fin p h1,h2⟩
 .obtain⟨k,v,q1,q2,K⟩:=p.at_ h1;rw[q2,K] at h3 h7;refine .inr ⟨k,v,e.born,w',q1,?_,h3,h4,h5,h6,h7,q.next p u h1 q2⟩;cases H:pd k with
  | false=>rfl
  | true =>
   have:=(q e h1 k q2).1 H;rw[h2] at this;cases this
theorem QV.pR {w w':World}{r m e:Nat}{seen:Array Nat}(h:QV w r m e seen)(g:w'.heap[r]?=w.heap[r]?):QV w' r m e seen:=by
 obtain⟨c0,q1,q2⟩:=h;exact⟨c0,g.trans q1,q2⟩
theorem ZY {w w':World}{m r:Nat}(h1:w'.heap[m]?=w.heap[m]?)(h2:w'.heap[r]?=w.heap[r]?):w'.rangeLeft m r=w.rangeLeft m r:=by
 unfold World.rangeLeft;rw[h1,h2]
section
variable {ops:Array nh}{Q:Exit->gh->World->Prop}{a:gh}{w:World}{r clock:Nat}{k:Int}{es:Array nZ}{f:Int->Option Value}{x y z:nO}{o:nh}
theorem rA {i:Nat}{K:gh->World->Prop}{l:Value}(A:ops[i]?=some o)(q:o.guard=none)(B:o.op=.mapUpdate 211 x y z)(h1:a.eval x=Q1 (some r))(h2:a.eval y=Y1 Q4 k)(g:a.eval z=l)(j:jx es f)(I:nY es clock)(u:qa w r es clock)
  (h:∀es' e,jx es' (vr f k (some l))->nY es' e->K (a.put o.dst gQ) (setMap w r es' e)):wpOp Y3 ops Q i K a w:=by
 obtain⟨es',e,C,p,H⟩:=Cv (ρ:=a.eval) (o:=o) underlying211 j I u B h1 h2 g;exact zb.opS A q C (h es' e p H)
end
section
variable {ρ:nO->Value}{w:World}{o:nh}{x y z:nO}{r clock:Nat}{k:Int}{es:Array nZ}{f:Int->Option Value}{T E:nS}
end
def xh (V:qt):Int->Option Value:=λk=>match V k with|some v=>if v.d then some (X1 v.A v.y.length v.c) else none|none=>none
def jB (V:qt):Int->Option Y4:=λk=>match V k with|some v=>if v.d then some v.y else none|none=>none
theorem Ug {V:qt}{k:Int}{v:jN}(h:V k=some v)(hd:v.d=false):xh V k=none:=by unfold xh;rw[h];simp only[hd,Bool.false_eq_true,if_false]
theorem Uf {V:qt}{k:Int}{v:jN}(h:V k=some v)(hd:v.d=true):xh V k=some (X1 v.A v.y.length v.c):=by unfold xh;rw[h];simp only[hd,if_true]
def GB (pd:Int->Bool)(g:Int->Option Value):Int->Option Value:=λk=>if pd k then g k else none
theorem ED (g:Int->Option Value):GB (λ_=>false) g=λ_=>none:=rfl
theorem CT {pd:Int->Bool}{g:Int->Option Value}{k:Int}{x:Value}(h:g k=some x):GB (kL pd k) g=vr (GB pd g) k (some x):=by
 funext j
 unfold GB vr
 by_cases e:j=k
 .subst e;rw[UT,if_pos rfl,if_pos rfl,h]
 .rw[Vc e,if_neg e]
theorem CU {pd:Int->Bool}{g:Int->Option Value}{k:Int}(h:g k=none):GB (kL pd k) g=GB pd g:=by
 funext j
 unfold GB
 by_cases e:j=k
 .subst e;rw[h];split<;>split<;>rfl
 .rw[Vc e]
theorem wA {pd:Int->Bool}{g:Int->Option Value}(h:∀k x,g k=some x->pd k=true):GB pd g=g:=by
 funext j
 unfold GB;cases e:g j with
 | none=>split<;>rfl
 | some x=>rw[h j x e,if_pos rfl]
theorem Ev {W:World}{a f r P:Nat}{room now hh mm:Int}{V:qt}(h:yW W a f r P room now hh mm V)(hf:∀k v,V k=some v->v.y.length=512):Zw W (xh V) (jB V):=λk=>by
 cases e:V k with
 | none=>exact .inl ⟨by unfold xh;rw[e],by unfold jB;rw[e]⟩
 | some v =>
  cases hd:v.d with
  | false=>exact .inl ⟨Ug e hd,by unfold jB;rw[e];simp[hd]⟩
  | true=>exact .inr ⟨v.A,v.c,v.y,by rw[Uf e hd,hf k v e],by unfold jB;rw[e];simp[hd],hf k v e,(h.rows k v e).px⟩
structure GX (w:World)(s r clock:Nat)(es:Array nZ)(g:Int->Option Value)(seen:Array Nat)(pd:Int->Bool)(W:World):Prop where
 it:QV W (s+1+1) r clock seen
 sn:jE es seen pd
 mp:∃eo co,qa W s eo co/\jx eo (GB pd g)/\nY eo co
 bx:za W (s+1) 211 #[Q1 (some s)]
 up:nH s w W
 sz:s+1+1<W.heap.size
theorem VD (w:World)(a f r P:Nat)(room now hh mm:Int)(V:qt)(h:yW w a f r P room now hh mm V):nK Y3 115 #[Y9 a] w λe w'=>∃q s eo I,e=Y0 (.func (.func 186) #[] #[Y9 (K4 ⟨q,0,K3⟩)])/\za w' q 211 #[Q1 (some s)]/\qa w' s eo I/\jx eo (xh V)/\nY eo I/\nH w.heap.size w w'/\w.heap.size<=s/\w.heap.size<=q:=by
 obtain⟨W2,B⟩:=Z9 (((w.alloc (.map #[] 0)).alloc (Q9 #[Q1 (some w.heap.size)] 211)));have a7:nH w.heap.size w (w.alloc (.map #[] 0)):=(nF _ w).alloc (zG _) _;have O:nH w.heap.size w W2:=by rw[B];exact a7.alloc K9 _
 have s2:W2.heap.size=w.heap.size+1+1:=by rw[B];simp
 have aO:qa W2 w.heap.size #[] 0:=by rw[B];exact(show qa (w.alloc (.map #[] 0)) w.heap.size #[] 0 from lD w _).below ((nF _ _).alloc (zG _) _) K9
 have b2:za W2 (w.heap.size+1) 211 #[Q1 (some w.heap.size)]:=by have:=za.new (w.alloc (.map #[] 0)) 211 #[Q1 (some w.heap.size)];rw[nG] at this;rw[B];exact this
 have h2:=h.below O;have HN:=jt h2.cb;have k3:W2.cell? ⟨a,3,K3⟩=some (Q1 (some r)):=(h2.cb.cell _).trans rfl;obtain⟨es,clock,hm,he,aT⟩:=h.mp;have bC:qa W2 r es clock:=hm.below O hm.lt;have aS:=hm.lt;have a8:∀x∈es.toList,x.born<clock:=((MapKept.stamped_iff es clock).1 aT).1;obtain⟨W3,M⟩:=Z9 (W2.alloc (.mapIter (some r) clock #[] clock));have aD:nH W2.heap.size W2 W3:=by rw[M];exact(nF _ _).alloc (zG _) _
 have bB:QV W3 (w.heap.size+1+1) r clock #[]:=⟨clock,by rw[M,<-s2];exact lD W2 _,zG _⟩;have a6:nH w.heap.size w W3:=O.trans (aD.mono O.size);have s3:w.heap.size+1+1<W3.heap.size:=by rw[M];simp;omega
 have a3:GX w w.heap.size r clock es (xh V) #[] (λ_=>false) W3:=⟨bB,jE.start es,⟨#[],0,aO.below aD aO.lt,by rw[ED];exact jx.empty,MapKept.stamped_empty 0⟩,b2.below aD b2.lt,a6,s3⟩;have aZ:=nI B.symm;have a0:=nI M.symm;have aY:=nI s2;clear B M s2
 go_enter func115,ntmps115
 go_wp2_with (first
  |(refine Qv rfl rfl ?_;intro _)
  |(go_at_call 109;rw[aZ.out];refine HN.mono ?_;rintro e w' ⟨rfl,rfl⟩)
  | (refine zp rfl (EZ bC underlying178 rfl rfl) ?_;rw[a0.out,aY.out]))
 simp only[nJ,zA,zF,zE]
 go_loopw [15] (λ_ wr=>∃N pd,GX w w.heap.size r clock es (xh V) N pd wr) (λ_ wr=>wr.rangeLeft r (w.heap.size+1+1))
 case atStart=>exact⟨_,_,a3⟩
 case round =>
  obtain⟨N,pd,hD⟩:=hrel;obtain⟨bA,bE,⟨eo,I,aQ,Z,aG⟩,aJ,aH,aU⟩:=hD;have bD:qa wr r es clock:=(aH.block r aS).trans hm;rcases tQ 0 bA bD he aT a8 (zG _) K5 aU bE with⟨hall,hrun⟩|⟨k,x,b,w4,hk,hpk,hrun,hit4,hB4,hdec,hent,hsn4⟩
  .have j:GB pd (xh V)=xh V:=wA λk x hx=>by
    unfold xh at hx;cases H:V k with
    | none=>rw[H] at hx;cases hx
    | some v=>exact hall k _ (XQ H)
   rw[j] at Z;clear j
   go_wp2_with (refine zp rfl (Gb hrun rfl) ?_)
   go_ret;exact⟨_,_,eo,I,rfl,aJ,aQ,Z,aG,aH,zG _,by omega⟩
  .obtain⟨v,H,rfl⟩:=Kf hk;have aC:nH w.heap.size w w4:=aH.trans (hB4.mono K5);have h4:=h.below aC;have aR:=h4.rows k v H;have aE:=aQ.below hB4 K5;have X:=aJ.below hB4 K5;have aV:w.heap.size+1+1<w4.heap.size:=zO aU hB4.size;have k2:w4.cell? ⟨v.b,2,K3⟩=some (X3 v.d):=(aR.blk.cell _).trans rfl;cases hd:v.d with
   | false =>
    rw[hd] at k2;have j:=CU (pd:=pd) (Ug H hd);have a4:GX w w.heap.size r clock es (xh V) (N.push b) (kL pd k) w4:=⟨hit4,hsn4,⟨eo,I,aE,by rw[j];exact Z,aG⟩,X,aC,aV⟩;clear j hd
    go_wp2_with (first
     |(refine zp rfl (Gb hrun rfl) ?_)
     | (refine zp rfl (RM hent rfl) ?_))
    exact⟨⟨_,_,a4⟩,hdec⟩
   | true =>
    rw[hd] at k2;have aM:=Uf H hd;have j:=CT (pd:=pd) aM;have k1:w4.cell? ⟨v.b,1,K3⟩=some (X1 v.A v.y.length v.c):=(aR.blk.cell _).trans rfl;have kb:w4.cell? (w.heap.size+1:Nat)=some (Q1 (some w.heap.size)):=X.boxed;have p:w4.drew.cell? ⟨v.b,1,K3⟩=some (X1 v.A v.y.length v.c)/\w4.drew.cell? (w.heap.size+1:Nat)=some (Q1 (some w.heap.size)):=⟨k1,kb⟩;have U:nH w4.heap.size w4 w4.drew:=(nF _ _).drew;have aB:=aE.below U aE.lt;have aK:=X.below U X.lt;have aW:nH w.heap.size w w4.drew:=aC.trans (U.mono aC.size);have aN:QV w4.drew (w.heap.size+1+1) r clock (N.push b):=hit4;have aL:w4.drew.rangeLeft r (w.heap.size+1+1)<wr.rangeLeft r (w.heap.size+1+1):=hdec;have aF:w.heap.size+1+1<w4.drew.heap.size:=aV;have aX:=nI j;clear hd j aM k1 kb
    go_wp2_with (first
     |(refine zp rfl (Gb hrun rfl) ?_)
     | (refine zp rfl (RM hent rfl) ?_))
    refine zb.st (λW:World=>W.cell? ⟨v.b,1,K3⟩=some (X1 v.A v.y.length v.c)/\W.cell? (w.heap.size+1:Nat)=some (Q1 (some w.heap.size))) 6 ?_;refine zb.q 0 (Q1 (some w.heap.size)) p ?_;refine zb.q 1 (Y1 Q4 k) p ?_;refine zb.q 2 (Y9 v.b) p ?_;refine zb.q 3 (Y9 v.b) p ?_;refine zb.q 4 (Y9 (K4 ⟨v.b,1,K3⟩)) p ?_;refine zb.q 5 (X1 v.A v.y.length v.c) p ?_;simp only[Z8];refine zb.n 6 ?_;refine rA rfl rfl rfl rfl rfl rfl Z aG aB ?_;intro u K aA bF;refine⟨λh=>absurd rfl h,zb.dn ?_⟩;simp only[zD,zC,zB,nJ];replace aA:jx u (vr (GB pd (xh V)) k (some (X1 v.A v.y.length v.c))):=aA;rw[<-aX.out] at aA;have C:=vP aB u K;have aP:=aB.set u K;have aI:nH w.heap.size w4.drew (setMap w4.drew w.heap.size u K):=zo C K5 (λr e=>by injection e with e;omega);generalize setMap w4.drew w.heap.size u K=w6 at *;have g:=C.block (w.heap.size+1+1) aF (λe=>by injection e with e;omega);have e2:=C.block r (Nat.lt_trans aS K5) (λe=>by injection e with e;omega);have a5:GX w w.heap.size r clock es (xh V) (N.push b) (kL pd k) w6:=⟨aN.pR g,hsn4,⟨u,K,aP,aA,bF⟩,aK.grown C (λe=>by injection e with e;omega),aW.trans aI,zO aF C.size⟩;have a9:w6.rangeLeft r (w.heap.size+1+1)<wr.rangeLeft r (w.heap.size+1+1):=by rw[ZY e2 g];exact aL
    clear C aP aI g e2 p U aB aK aW aN aL aF;go_wp2;exact⟨⟨_,_,a5⟩,a9⟩
end
section
open Go Go.RowKit xq Go.Maps Go.Shelf Go.Sort
theorem DO (w:World)(b r many clock:Nat)(es:Array nZ)(f:Int->Option Value)(j:za w b 211 #[Q1 (some r)])(H:qa w r es clock)(A:jx es f)(O:nY es clock)(B:ZF f many)(p:many<=40000):nK Y3 241 #[.func (.func 267) #[] #[Y9 (K4 ⟨b,0,K3⟩)]] w λe w'=>∃v,∃g:List Int,e=Y0 v/\g.Perm ((xJ f many).map λk:Nat=>(k:Int))/\w'.ownsRow w.heap.size 3 1 v g.length (g.map encZ)/\(v=X1 none 0 0↔g=[])/\nH w.heap.size w w':=by
 obtain⟨h,K,U,L⟩:=Bw H A O B p;have C:Maps.size h<=gP:=zT U (zT p K7);have u:Maps.size h*8<=140737488355328:=K5
 refine(callsIn_wide (n:=6)).1 ?_;have N:SeqGives nv 4 Y3 267 #[Y9 (K4 ⟨b,0,K3⟩)] encZ (λg=>g.Perm (intKeys h)) (Maps.size h) w :=
  AnyZI.keys_gives (ρ:=PG) {sF with} nv _ trivial rfl K5 b r many h _ j.lt j.boxed K
 refine(AnyZI.collect_in sw nv 6 trivial trivial rfl K5 267 #[Y9 (K4 ⟨b,0,K3⟩)] trivial (zb.eo func267) _ _ C u w N).mono ?_;rintro e w' ⟨v,g,rfl,q,M,I,hB⟩;exact⟨v,g,rfl,q.trans L,M,I,hB⟩
theorem PJ (g:Option Nat)(w:World):nK Y3 205 #[.map g] w λe w'=>e=Y0 (.func (.func 267) #[] #[Y9 w.heap.size])/\w'=w.alloc (Q9 #[.map g] 211) :=
 (callsIn_wide (n:=6)).1 (AnyZI.keys_in sF nv 6 trivial rfl g w)
section
variable {ρ:nO->Value}{w:World}{o:nh}{x y:nO}{r clock:Nat}{k:Int}{es:Array nZ}{f:Int->Option Value}{v:Value}
theorem sE (e:jx es f)(h:qa w r es clock)(g:f k=some v)(j:o.op=.lookup 211 x y false)(h1:ρ x=Q1 (some r))(h2:ρ y=Y1 Q4 k):(nQ ρ o).run Y3 w=.ok (.value v) w :=
 VO (z0:=(X1 none 0 0)) underlying211 (by simp[go_sem]) e h (by simp[g]) j h1 h2
end
theorem OL (W:World)(h j r clock:Nat)(es:Array nZ)(f:Int->Option Value)(g:Nat)(p:Y7)(B:∀args w,(gm g args).run Y3 w=.ok (.enter g args) w)(h1:za W h 219 #[.func (.func g) #[] p])(h2:za W j 211 #[Q1 (some r)])(A:qa W r es clock)(q:jx es f)(k:Int)(v:Value)(u:f k=some v)(b:Bool)(hs:nK Y3 g (#[v]++p) W λe w'=>e=Y0 (X3 b)/\W=w'):nK Y3 248 #[Y1 Q4 k,Y9 h,Y9 j] W λe w'=>e=Y0 (.bool (!b))/\W=w':=by
 have c1:=h1.boxed;have c2:=h2.boxed
 go_enter func248,ntmps248
 go_wp2_with (first
  |(refine zp rfl (sE q A u rfl rfl rfl) ?_)
  | (refine hs.mono ?_;rintro e w' ⟨rfl,rfl⟩))
 go_ret;exact⟨rfl,rfl⟩
theorem Dp (w:World)(r many clock:Nat)(es:Array nZ)(f:Int->Option Value)(aD:qa w r es clock)(he:jx es f)(a5:nY es clock)(aI:ZF f many)(hm:many<=40000)
  (u:Nat) (C:Y7) (aO:∀args w,(gm u args).run Y3 w=.ok (.enter u args) w) (p:Int->Bool) (a6:∀W,nH w.heap.size w W->∀k v,f k=some v->nK Y3 u (#[v]++C) W λe w'=>e=Y0 (.bool (p k))/\W=w')
  (L:Nat) (bl:Y7) (aN:∀args w,(gm L args).run Y3 w=.ok (.enter L args) w) (O:Int->Int->Int) (hO:SWO (ltOf O)) (aW:∀W,nH w.heap.size w W->∀x y,(f x).isSome=true->(f y).isSome=true->p x=true->p y=true->nK Y3 L (#[Y1 Q4 x,Y1 Q4 y]++bl) W λe w'=>e=Y0 (Y1 Q4 (O x y))/\∃q os,w'=grow (W.drewN q) os) :
  nK Y3 187 #[Q1 (some r),.func (.func u) #[] C,.func (.func L) #[] bl] w λe w'=>∃(A:Y5) (c:Nat) (ks:List Int),e=Y0 (X1 A ks.length c)/\wW f p O ks/\tD w w' A ks/\nH w.heap.size w w':=by
 have aA:nH w.heap.size w ((w.alloc (Q9 #[Q1 (some r)] 211)).alloc (Q9 #[.func (.func u) #[] C] 219)):=((nF _ w).alloc (zG _) _).alloc K9 _;have b0:za ((w.alloc (Q9 #[Q1 (some r)] 211)).alloc (Q9 #[.func (.func u) #[] C] 219)) w.heap.size 211 #[Q1 (some r)]:=(za.new w _ _).alloc _;have b1:za ((w.alloc (Q9 #[Q1 (some r)] 211)).alloc (Q9 #[.func (.func u) #[] C] 219)) (w.heap.size+1) 219 #[.func (.func u) #[] C]:=by
  have:=za.new (w.alloc (Q9 #[Q1 (some r)] 211)) 219 #[.func (.func u) #[] C]
  rwa [nG] at this
 have c0:=b0.boxed;have aR:=PJ (some r);obtain⟨W0,K⟩:=Z9 ((w.alloc (Q9 #[Q1 (some r)] 211)).alloc (Q9 #[.func (.func u) #[] C] 219));have bF:W0.heap.size=w.heap.size+2:=by rw[K];simp
 rw[<-K] at aA b0 b1 c0;have X:nH W0.heap.size W0 (W0.alloc (Q9 #[Q1 (some r)] 211)):=(nF _ _).alloc (zG _) _;have bA:za (W0.alloc (Q9 #[Q1 (some r)] 211)) W0.heap.size 211 #[Q1 (some r)]:=za.new _ _ _;have aK:=aD.lt;have HC:=DO _ _ r many clock es f bA ((aD.below aA aK).below X K5) he a5 aI hm;rw[K] at HC;simp only[nG] at HC;clear bA;have aS:=@Vm;have aH:=λW fv=>AnyF.slices_SortFunc_none (P:=Y3) (ρ:=Kp) {rF with} none 0 fv W
 change ∀W fv,nK Y3 245 _ _ _ at aH
 go_enter func187,ntmps187
 go_wp2_with (first
  |(go_at_call 205;refine(aR _).mono ?_;rintro e w1 ⟨rfl,rfl⟩)
  | (go_at_call 241;refine HC.mono ?_;rintro e w2 ⟨v,g,rfl,aF,a4,aL,aB⟩))
 have N:∀k,k∈g↔(f k).isSome=true:=λk=>by
  rw[aF.mem_iff,qR];constructor
  .rintro⟨a,ha,rfl⟩;exact(jJ.1 ha).2
  .intro h;obtain⟨v,hv⟩:=Option.isSome_iff_exists.1 h;obtain⟨h3,h4⟩:=aI k v hv;have e:(k.toNat:Int)=k:=K5
   exact⟨k.toNat,jJ.2 ⟨by omega,by rw[e];exact h⟩,e⟩
 have a0:g.Nodup:=aF.nodup_iff.2 (List.pairwise_map.2 ((Zo f many).imp λh e=>by omega));have bE:g.length<=many:=by have h1:=aF.length_eq;rw[qH] at h1;have:=JI f many;omega
 have H:nH w.heap.size w w2:=by
  have h1:nH w.heap.size (W0.alloc (Q9 #[Q1 (some r)] 211)) w2:=by rw[K];exact aB.mono K5
  exact(aA.trans (X.mono K5)).trans h1
 by_cases aG:g=[]
 .rw[aL.2 aG]
  go_wp2_with (first
   |(go_at_call 243;refine(aS _ _ _).mono ?_;rintro e w3 ⟨rfl,rfl⟩)
   | (go_at_call 245;refine(aH _ _).mono ?_;rintro e w3 ⟨rfl,rfl⟩))
  go_ret;refine⟨none,0,[],rfl,⟨List.nodup_nil,λk=>⟨λh=>absurd h K9,λh => ?_⟩,fx⟩,λj h=>absurd h K9,H⟩;have:=(N k).2 h.1;rw[aG] at this;exact absurd this K9
 .obtain⟨gb,B,cur,rfl,aV,aC,r1,r2,r3,r4⟩:∃gb B cur,v=X1 (K4 ⟨gb,0,K3⟩) g.length B/\w.heap.size+2<gb/\za w2 gb 3 cur/\g.length<=B/\B<=gP/\cur.size=B*1/\cur.toList.take (g.length*1)=g.map encZ:=by
   rcases a4.2 with⟨rfl,hz⟩|⟨gb,B,cur,rfl,aV,aC,r1,r2,r3,r4⟩
   .exact absurd (aL.1 rfl) aG
   .exact⟨gb,B,cur,rfl,by omega,aC,r1,r2,r3,r4⟩
  have aZ:∀j (h:j<g.length),cur[j]?=K4 (Y1 Q4 g[j]):=λj Z=>by
   rw[yJ] at r4;have h1:(cur.toList.take g.length)[j]?=(g.map encZ)[j]?:=by rw[r4]
   rw[List.getElem?_take_of_lt Z,List.getElem?_map,zM Z,Array.getElem?_toList] at h1;exact h1
  have q0:za w2 w.heap.size 211 #[Q1 (some r)]:=by have M:=(b0.below X K5);rw[K] at M;exact M.below aB K5
  have q1:za w2 (w.heap.size+1) 219 #[.func (.func u) #[] C]:=by have M:=(b1.below X K5);rw[K] at M;exact M.below aB K5
  have aJ:qa w2 r es clock:=aD.below H aK
  have HD:=Fm w2 248 #[Y9 (w.heap.size+1:Nat),Y9 w.heap.size] (zb.eo func248) (λk => !p k) gb B g cur aC aZ r1 K5 (λW I k hk=>by
   obtain⟨v,hv⟩:=Option.isSome_iff_exists.1 ((N k).1 hk);have n0:¬ w.heap.size=gb:=K5
   have n1:¬ w.heap.size+1=gb:=K5
   have n2:¬ r=gb:=K5
   exact OL W (w.heap.size+1) w.heap.size r clock es f u C aO (I.blk q1 n1) (I.blk q0 n0) ((I.block r aJ.lt n2).trans aJ) he k v hv (p k) (a6 W (H.trans (I.toBelow H.size (λk e=>by omega))) k v hv))
  have ef:(g.filter λk => !(!p k))=g.filter p:=by congr 1;funext k;simp
  rw[ef] at HD;have bD:(g.filter p).length<=g.length:=fq _ _
  go_wp2_with (go_at_call 243;refine HD.mono ?_;rintro e w3 ⟨aM,rfl,aT,aX,aP⟩)
  have U:nH w.heap.size w w3:=H.trans (aP.toBelow H.size (λk e=>by omega))
  have HS:=Sy w3 gb B (g.filter p) aM aT aX K5 O hO L bl aN (λW I x hx y hy=>by
   obtain⟨a7,a8⟩:=yD.1 hx;obtain⟨a9,bB⟩:=yD.1 hy
   exact aW W (U.trans (I.toBelow U.size (λk e=>by omega))) x y ((N x).1 a7) ((N y).1 a9) a8 bB)
  go_wp2_with (go_at_call 245;refine HS.mono ?_;rintro e w4 ⟨rfl,ks,bC,aE,a3,aU,aY,aQ⟩)
  go_ret;refine⟨some ⟨gb,0,K3⟩,B,ks,by rw[aE.length_eq];rfl,⟨aE.nodup_iff.2 (a0.filter _),λk=>by rw[aE.mem_iff,yD,N],a3.imp λh=>by omega⟩,λj Z=>⟨gb,rfl,by omega,by rw[aU.cell];exact aY j Z⟩,U.trans (aQ.toBelow U.size (λk e=>by omega))⟩
end
section
open Go Go.RowKit xq Go.Shelf Go.Sort
attribute [local go_sem] Oper.semAt_some
theorem sv:SWO (ltOf Fp):=by
 have e:∀x y,ltOf Fp x y=decide (x<y):=λx y=>by unfold ltOf;simp only[Ey]
 refine⟨λx => ?_,λx y z h1 h2 => ?_,λx y z h1 h2 => ?_⟩<;>simp only[e,decide_eq_true_eq,decide_eq_false_iff_not] at *<;>omega
theorem Oe {f:Int->Option Value}{many:Nat}{ks:List Int}(h:wW f (λ_=>true) Fp ks)(q:ZF f many):ks=(xJ f many).map λk:Nat=>(k:Int):=by
 obtain⟨h1,h2,p⟩:=h;have u:ks.Perm ((xJ f many).map λk:Nat=>(k:Int)):=by
  refine(List.perm_ext_iff_of_nodup h1 (List.pairwise_map.2 ((Zo f many).imp λh e=>by omega))).2 λk => ?_
  rw[h2,qR];constructor
  .rintro⟨h,_⟩;obtain⟨v,A⟩:=Option.isSome_iff_exists.1 h;obtain⟨B,C⟩:=q k v A;have e:(k.toNat:Int)=k:=K5
   exact⟨k.toNat,jJ.2 ⟨by omega,by rw[e];exact h⟩,e⟩
  .rintro⟨a,ha,rfl⟩;exact⟨(jJ.1 ha).2,rfl⟩
 have g:=(mergeSort_of_perm_i u).trans (Od f many)
 have j:ks.mergeSort (λx y=>decide (x<=y))=ks:=List.mergeSort_of_pairwise (p.imp λh=>by
  rw[Ey] at h;simp
  omega)
 rw[j] at g;exact g
theorem IL (W:World)(v:Value):nK Y3 188 #[v] W λe w'=>e=Y0 (X3 true)/\W=w':=by
 go_enter func188,ntmps188
 go_wp2;go_ret;exact⟨rfl,rfl⟩
theorem Pr (W:World)(x y:Int):nK Y3 189 #[Y1 Q4 x,Y1 Q4 y] W λe w'=>e=Y0 (Y1 Q4 (Fp x y))/\∃q os,w'=grow (W.drewN q) os:=by
 go_enter func189,ntmps189
 go_wp2_with (go_at_call 183;refine(Fq _ _ _).mono ?_;rintro e w' ⟨rfl,rfl⟩)
 go_ret;exact⟨rfl,0,#[],by rw[grow_empty];rfl⟩
theorem Gq (w:World)(r many clock:Nat)(es:Array nZ)(f:Int->Option Value)(C:qa w r es clock)(u:jx es f)(K:nY es clock)(p:ZF f many)(B:many<=40000):nK Y3 187 #[Q1 (some r),.func (.func 188) #[] #[],.func (.func 189) #[] #[]] w λe w'=>∃(A:Y5) (c:Nat),e=Y0 (X1 A (xJ f many).length c)/\nH w.heap.size w w' /\
   ∀(j:Nat) (h:j<(xJ f many).length),∃gb,A=some ⟨gb,0,K3⟩/\w.heap.size<=gb/\w'.cell? ⟨gb,j,K3⟩=K4 (Y1 Q4 (((xJ f many)[j]:Nat):Int)):=by
 refine(Dp w r many clock es f C u K p B 188 #[] (zb.eo func188) (λ_=>true) (λW _ k v _=>IL W v) 189 #[] (zb.eo func189) Fp sv (λW _ x y _ _ _ _=>Pr W x y)).mono ?_;rintro e w' ⟨A,c,ks,rfl,I,H,hB⟩;obtain rfl:=Oe I p;refine⟨A,c,by rw[qH],hB,λj h => ?_⟩;obtain⟨g,h1,h2,q⟩:=H j (by rw[qH];exact h);exact⟨g,h1,h2,by rw[q,mC]⟩
theorem VI.pX {B:Nat}(A:Y5):OwnFrom B (λ(_:Unit) W=>VI W A):=λ_ X Y row hs p q g o e=>by
 obtain⟨cs,j⟩:=hs g o e;refine⟨cs,(p.block g j.lt λe => ?_).trans j⟩;obtain⟨_,u,h1,h2⟩:=q g e.symm;have h:X.heap[g]?=some (Q9 cs 5 (0,0)):=j;rw[h1] at h;injection h with h
 rw[h] at h2;cases h2
def sa (K:List Nat)(Y:Int->Option Y4)(pre:List (Nat×(Y5×Nat)))(x:Nat×(Y5×Nat))(W:World):Prop :=
 K[pre.length]?=some x.1/\pre.map (·.1)=K.take pre.length/\∃y,Y (x.1:Int)=some y/\y.length=512/\qv W W.heap.size x.2.1 x.2.2 y/\VI W x.2.1
theorem yd.step {g U:Nat->Prop}{j p W3:World}(h:yd g j p)(q:vp j.heap.size g U)(k:yd U p W3):yd g j W3 :=
 ⟨zT h.1 k.1,λi o hi hn=>k.2 i o (h.2 i o hi hn) λe=>(q i e).elim hn (λh=>by have:=(zI.1 hi).1;omega)⟩
def tA (W:World)(k:Nat):Prop:=(∃em cm,W.heap[k]?=some (.map em cm))\/∃T cs,za W k T cs/\cs.size<=64
theorem tA.below {W W':World}{k:Nat}(h:tA W k)(hB:nH W.heap.size W W'):tA W' k:=by
 rcases h with⟨em,cm,h⟩|⟨T,cs,h,hs⟩
 .exact .inl ⟨em,cm,(hB.block k (zI.1 h).1).trans h⟩
 .exact .inr ⟨T,cs,h.below hB h.lt,hs⟩
theorem tA.pP {W:World}{n c:Nat}{A:Y5}{y:Y4}(h:qv W n A c y)(hl:64<y.length){g o:Nat}(e:A=some ⟨g,o,K3⟩):¬ tA W g:=λhs=>by
 obtain⟨q,o',j,_,hc⟩:=h.pO K5;rw[e] at j;injection j with j
 injection j with e1 e2
 subst e1 e2;have p:=hc 64 hl;rcases hs with⟨em,cm,hm⟩|⟨T,cs,hb,hsz⟩
 .simp[mv,hm] at p
 .rw[hb.cell,gg K5] at p;cases p
theorem CN (n:Nat)(hn:6<=n)(l q r many clock:Nat)(es:Array nZ)(f:Int->Option Value)(Y:Int->Option Y4)(J Jx:List (Nat×(Y5×Nat))->(Nat->Prop)->World->Prop)(u:Nat->Prop)(W:World)(a6:¬ u q)(a7:¬ u r)(aI:∀k,u k->tA W k)(aE:sj J)(a0:∀s U X,J s U X->∀k,U k->k<X.heap.size)
  (hY:∀h x U W1,J h U W1->sa (xJ f many) Y h x W1->YieldAt nv (n-1) Y3 l (Tj x) W1 λe W' =>
   (e=Y0 (X3 true)/\∃B,vp W1.heap.size U B/\J (h++[x]) B W'/\yd U W1 W')\/(e=Y0 (X3 false)/\∃B,Jx (h++[x]) B W'))
  (hq:za W q 211 #[Q1 (some r)]) (hm:qa W r es clock) (he:jx es f) (aR:nY es clock) (hP:Zw W f Y) (L:ZF f many) (aO:many<=40000) (M:J [] u W) :
  CallsIn nv n Y3 186 #[.func (.yield l) #[] #[],Y9 (K4 ⟨q,0,K3⟩)] W λe W'=>(∃v,e=Y0 v) /\
   ((∃ys B,ys.map (·.1)=xJ f many/\J ys B W')\/(∃h B,h.length<=(xJ f many).length/\Jx h B W')):=by
 have h1:1<=n:=K5
 have a8:=hq.boxed;have HS:=Gq W r many clock es f hm he aR L aO;have aB:∀k∈xJ f many,(f (k:Int)).isSome=true:=λk I=>(jJ.1 I).2
 have aK:=a0 _ _ _ M;obtain⟨K,O⟩:=Z9 (xJ f many);have bG:K.length<=40000:=by rw[O];exact zT (JI f many) aO
 rw[<-O] at HS aB;rw[<-O] at hY ⊢;clear O L aR;refine callsIn_of_wp func186 rfl trivial ?_ rfl;simp only[ntmps186,zR,zK,zY,yB,yC,qC,qD,qO,qG,zQ,zW]
 gi_wp2
 refine jc ?_
 gi_wp2
 refine wpIn_label ?_
 gi_wp2_with (refine⟨trivial,?_⟩;gi_at_call 187;refine(callsIn_wide.2 HS).mono ?_;rintro e W1 ⟨A,c,rfl,H,aL⟩)
 have aY:J [] u W1:=aE _ _ _ _ M H;have q1:=hq.below H hq.lt;have m1:=hm.below H hm.lt;have aJ:=hP.grow H;have a4:∀k,u k->tA W1 k:=λk I=>(aI k I).below H
 have bB:∀gb,W.heap.size<=gb->¬ u gb:=λgb aM e=>by have:=aK gb e;omega
 clear HS a8 H hq hm hP aI aK M
 gi_loopw [8] (λi wr=>∃(h:List (Nat×(Y5×Nat))) (U:Nat->Prop),i=Y1 Q4 (h.length:Int)/\h.length<=K.length/\h.map (·.1)=K.take h.length/\J h U wr/\vp W1.heap.size u U/\yd u W1 wr)
  (λi _=>K.length-(intOf i).toNat)
 case atStart=>exact⟨[],u,rfl,ly _,rfl,aY,vp.refl _ _,yd.refl _ _⟩
 case round =>
  obtain⟨h,U,rfl,bI,N,aF,aH,C⟩:=hrel
  by_cases L:h.length<K.length
  .obtain⟨gb,rfl,aM,a9⟩:=aL h.length L;have bA:=C.cell (p:=⟨gb,h.length,K3⟩) a9 (bB gb aM);have bH:=(C.blk q1 a6).boxed;have bD:qa wr r es clock:=C.2 _ _ m1 a7;have Z:K[h.length]?=some K[h.length]:=zM L;have aC:=aB K[h.length] (qJ L);obtain⟨k,I⟩:=Z9 (K[h.length]);rw[<-I] at bA Z aC;rcases aJ (k:Int) with⟨h2,_⟩|⟨A0,c0,y,h2,h3,h4,h5⟩
   .rw[h2] at aC;cases aC
   .have aX:qv wr wr.heap.size A0 c0 y:=by
     refine⟨h5.le,h5.max,h5.nil,λM => ?_⟩;obtain⟨g,o,e,hg,hc⟩:=h5.pO M;have a5:¬ u g:=λbE=>tA.pP h5 K5 e (a4 g bE)
     exact⟨g,o,e,zO hg C.1,λj hj=>C.cell (hc j hj) a5⟩
    have hC:=Xw wr A0 c0 y aX K5;rw[h4] at hC;have aQ:∀z,(h++[(k,z)]).map (·.1)=K.take (h++[(k,z)]).length:=λz=>by rw[qX,N,zH,List.length_singleton,List.take_add_one,Z];rfl
    have bJ:IntKind.i64.wrap ((h.length:Int)+1)=(h.length:Int)+1:=jy _;have H2:=nI h2;have H3:=nI h3;have H4:=nI h4;have aV:=nI N;have aW:=nI aQ;have aT:=nI Z;clear h2 h3 h4 N aQ I Z aL aB aJ h5
    gi_wp2_with (first
     |(refine XI rfl (LH he bD H2.out rfl rfl rfl) ?_)
     | (refine⟨trivial,?_⟩;gi_at_call 112;refine(callsIn_wide.2 hC).mono ?_;rintro e W6 ⟨A6,c6,rfl,bC,_,bF,aA⟩;obtain⟨fn,tmps,assign,body,aS,hR⟩:=hY h (k,(A6,c6)) U W6 (aE _ _ _ _ aF aA) ⟨aT.out,aV.out,y,H3.out,H4.out,bC,bF⟩;unfold Tj at aS;dsimp only at aS))
    refine hR.mono ?_;rintro e W4 (⟨rfl,U4,aG,aZ,aN⟩|⟨rfl,U4,a3⟩)
    .have s6:=aA.size;have k6:yd U wr W4:=(yd.grow U aA).trans aN;have L4:vp W1.heap.size u U4:=aH.trans aG (zT C.1 s6);have k4:=C.step aH k6;have aD:(h++[(k,(A6,c6))]).length<=K.length:=by simp;omega
     clear k6 aG aN
     gi_wp2
     go_roundw
     case rel=>exact⟨_,U4,by simp,aD,aW.out _,aZ,L4,k4⟩
     case measure=>simp[intOf];omega
    .have aD:(h++[(k,(A6,c6))]).length<=K.length:=by simp;omega
     gi_wp2
     simp only[lv];go_end0;exact⟨⟨_,rfl⟩,.inr ⟨_,U4,aD,a3⟩⟩
  .have aP:h.map (·.1)=K:=by rw[N,qE K5]
   have aU:=nI aP;clear aP N
   gi_wp2
   simp only[lv];go_end0;exact⟨⟨_,rfl⟩,.inl ⟨h,U,aU.out,aF⟩⟩
theorem DL (n:Nat)(hn:6<=n)(q r many clock:Nat)(es:Array nZ)(f:Int->Option Value)(Y:Int->Option Y4)(w:World)
  (hq:za w q 211 #[Q1 (some r)]) (h:qa w r es clock) (H:jx es f) (M:nY es clock) (hP:Zw w f Y) (K:ZF f many) (L:many<=40000) :
  tB nv n Y3 186 #[Y9 q] Tj (λU=>¬ U q/\¬ U r/\∀k,U k->tA w k) (sa (xJ f many) Y) (λO=>O.map (·.1)=xJ f many) (λN=>N.length<=(xJ f many).length) w:=λl J j p W e g A B C u =>
 CN n hn l q r many clock es f Y J j p W g.1 g.2.1 (λk I=>(g.2.2 k I).below e) A B C (hq.below e hq.lt) (h.below e h.lt) H M (hP.grow e) K L u
end
section
open Go Go.RowKit xq Go.Shelf
attribute [local go_sem] Oper.semAt_some
def vt (pd:Int->Bool)(V:qt):qt:=λk=>(V k).map λv=>if pd k then {v with d:=false} else v
def kR (V:qt):qt:=λk=>(V k).map λv => {v with d:=false}
theorem MR (V:qt):vt (λ_=>false) V=V:=by
 funext k
 unfold vt;cases V k<;>rfl
theorem Fs {pd:Int->Bool}{V:qt}{k:Int}{v:jN}(h:V k=some v):vt (kL pd k) V=xS (vt pd V) k (some {v with d:=false}):=by
 funext j
 unfold vt xS
 by_cases e:j=k
 .subst e;rw[if_pos rfl,h,gv,UT,if_pos rfl]
 .rw[if_neg e,Vc e]
theorem Pj {pd:Int->Bool}{V:qt}(h:∀k x,jW V k=some x->pd k=true):vt pd V=kR V:=by
 funext k
 unfold vt kR;cases e:V k with
 | none=>rfl
 | some v=>rw[gv,gv,h k _ (XQ e),if_pos rfl]
theorem Uh {pd:Int->Bool}{V:qt}{k:Int}{v:jN}(h:V k=some v)(e:pd k=false):vt pd V k=some v:=by unfold vt;rw[h,gv,e];rfl
theorem EH {a r:Nat}{V:qt}:∀k,xI a r (kR V) k->xI a r V k:=λk e=>by
 rcases e with e|e|⟨j,u,hu,rfl⟩
 .exact .inl e
 .exact .inr (.inl e)
 .unfold kR at hu;cases g:V j with
  | none=>rw[g] at hu;cases hu
  | some v =>
   rw[g,gv] at hu;injection hu with hu
   subst hu;exact .inr (.inr ⟨j,v,g,rfl⟩)
structure Yq (W9:World)(h r clock:Nat)(es:Array nZ)(a f P:Nat)(room now hh mm:Int)(V:qt)(seen:Array Nat)(pd:Int->Bool)(W:World):Prop where
 it:QV W h r clock seen
 sn:jE es seen pd
 ca:yW W a f r P room now hh mm (vt pd V)
 mp:qa W r es clock
 gb:ze (xI a r V) W9 W
 sz:h<W.heap.size
theorem Yq.next {A w:World}{h r clock:Nat}{es:Array nZ}{a f P:Nat}{room now hh mm:Int}{V:qt}{u:Array Nat}{pd:Int->Bool}(hc:Yq A h r clock es a f P room now hh mm V u pd w){g:World}{b:Nat}{k:Int}{v:jN}(B:V k=some v)(N:pd k=false)(Z:v.b<h)(K:r<h)
  (M:QV g h r clock (u.push b)) (hB:nH h w g) (X:nH w.heap.size w g\/True) (U:jE es (u.push b) (kL pd k)) (q:yW g a f r P room now hh mm (vt pd V)) (L:ze (xI a r V) A g) :
  Yq A h r clock es a f P room now hh mm V (u.push b) (kL pd k) (g.setCell ⟨v.b,2,K3⟩ (X3 false))/\(g.setCell ⟨v.b,2,K3⟩ (X3 false)).rangeLeft r h=g.rangeLeft r h:=by
 have j:=Uh B N;obtain⟨h1,p⟩:=q.setRow (v1:={v with d:=false}) j rfl 2 (X3 false) (by simp[TG]) (.inl ⟨rfl,rfl,rfl⟩) (q.rows k v j).om (q.hu j _ rfl);have O:=q.rb j;have hl:r<g.heap.size:=zO (zO K (Nat.le_of_lt hc.sz)) hB.size;have I:h<g.heap.size:=zO hc.sz hB.size;have C:=p.block h I K5;have H:=p.block r hl O;refine⟨⟨M.pR C,U,by rw[Fs B];exact h1,H.trans ((hB.block r K).trans hc.mp),L.trans (p.more (λk' e _=>by rw[e];exact .inr (.inr ⟨k,v,B,rfl⟩))),zO I p.size⟩,ZY H C⟩
def LF (x:Nat×(Y5×Nat)):Int×Y5×Nat:=((x.1:Int),x.2.1,x.2.2)
section
set_option maxRecDepth 100000
variable {F:Fence}{n:Nat}{w:World}{ops:Array nh}{rest:List nh}{o:nh}{a:gh}{Q:Exit->gh->World->Prop}
theorem LK (U:o.guard=none){S T:nS}{sz A:Nat}{z:Value}(q:ZQ S T sz A z)(s x:nO)(I:o.op=.call {callee:=.builtin .append,args:=#[s,x],argTypes:=#[S,S]})
  (base:Nat) (v:Value) (k:Nat) (cs:Y8) (hs:a.eval s=v) (aA:w.ownsRow base T sz v k cs) (B g c m:Nat) (C:Y8) (hx:a.eval x=X1 g m c) (H:yl w B sz (K4 ⟨g,0,K3⟩) m c C) (Z:0<m)
  (X:k+m<=gP) (N:(k+m)*A<=140737488355328) (M:base<=w.heap.size)
  (h:∀p w',w'.ownsRow base T sz p (k+m) (cs++C)->w.grownBy w' v.ownBlock->(p.ownBlock=v.ownBlock\/p.ownBlock=some w.heap.size)->mx F n Y3 ops Q rest (a.put o.dst p) w'):mx F n Y3 ops Q (o::rest) a w:=by
 obtain⟨i0,hi,aC,aD,aE⟩:=info_parts q.inf;refine fH U λK L => ?_
 obtain⟨p,w',aB,r1,r2,_,r4⟩:=run_append_own_at (P:=Y3) w base S o.type T i0 z sz A q.oB hi aC aD aE q.zs q.pos v k cs aA ⟨g,0,K3⟩ m c C H.len (λj u hu=>by
  obtain⟨g',o',e,_,hr⟩:=H.pO Z;injection e with e
  injection e with e1 e2
  subst e1 e2;rw[Addr.add_mid]
  exact hr j u hu) H.one X N M
 unfold Oper.wpIn;refine⟨?_,?_⟩
 .simp[eO,I,resolve,Target.leads,ny]
 .rw[lR F _ _ (by rw[I];intro c O;cases O)];simp[nQ,I,resolve,invoke,builtin,hs,hx,aB,nM];exact L _ _ (h p w' r1 r2 r4)
end
structure Zz (w:World)(B4:Nat)(Y:Int->Option Y4)(pre:List (Nat×(Y5×Nat)))(U:Nat->Prop)(W:World):Prop where
 has:∃Aw cw,za W w.heap.size 197 #[X1 Aw pre.length cw]/\W.ownsRow B4 200 2 (X1 Aw pre.length cw) pre.length (JO (pre.map LF))/\(∀k,U k↔k=w.heap.size\/(mN Aw pre.length cw).ownBlock=some k)
 px:∀x∈pre,∃y,Y (x.1:Int)=some y/\y.length=512/\qv W W.heap.size x.2.1 x.2.2 y/\VI W x.2.1
 up:nH w.heap.size w W
 b4:w.heap.size<B4/\B4<=W.heap.size
theorem Zz.st (w:World)(j:Nat)(Y:Int->Option Y4):tU j (λu U W=>Zz w j Y u U W):=λu U X Z row ⟨⟨A,C,h1,h2,H⟩,I,p,q⟩ g h=>by
 refine⟨⟨A,C,h1.kept g (λr e=>(h r e).2),XS h2 g (λr e=>(h r e).2),H⟩,λx K => ?_,p.trans (zo g p.size (λr e=>by have:=(h r e).1;omega)),q.1,zT q.2 g.size⟩;obtain⟨y,L,M,N,O⟩:=I x K;exact⟨y,L,M,qv.pX (B:=j) _ _ _ () X Z row N g h,VI.pX (B:=j) _ () X Z row O g h⟩
theorem Zz.oE {w:World}{g:Nat}{Y:Int->Option Y4}{q:List (Nat×(Y5×Nat))}{U:Nat->Prop}{W:World}(h:Zz w g Y q U W):∀k,U k->k<W.heap.size:=λk p=>by
 obtain⟨u,A,h1,h2,j⟩:=h.has;rcases(j k).1 p with rfl|e
 .exact h1.lt
 .exact kM h2 k e
theorem Zz.next {w:World}{L:Nat}{Y:Int->Option Y4}{q:List (Nat×(Y5×Nat))}{U:Nat->Prop}{V Va w5:World}{x:Nat×(Y5×Nat)}{C:Y5}{H:Nat}(h:Zz w L Y q U V)(N:za V w.heap.size 197 #[X1 C q.length H])(aF:V.ownsRow L 200 2 (X1 C q.length H) q.length (JO (q.map LF)))(I:∀k,U k↔k=w.heap.size\/(mN C q.length H).ownBlock=some k)
  (hx:∃y,Y (x.1:Int)=some y/\y.length=512/\qv V V.heap.size x.2.1 x.2.2 y/\VI V x.2.1) (M:nH V.heap.size V Va) {v5:Value} (Z:w5.ownsRow L 200 2 v5 (q.length+1) (JO (q.map LF)++TZ (LF x))) (aA:Va.grownBy w5 (mN C q.length H).ownBlock) (aI:v5.ownBlock=(mN C q.length H).ownBlock\/v5.ownBlock=some Va.heap.size) :
  ∃U',vp V.heap.size U U'/\yd U V (w5.setCell w.heap.size v5)/\Zz w L Y (q++[x]) U' (w5.setCell w.heap.size v5):=by
 have e1:JO (q.map LF)++TZ (LF x)=JO ((q++[x]).map LF):=by rw[qX,List.map_singleton,NG]
 have e2:(q++[x]).length=q.length+1:=by simp
 rw[e1] at Z;obtain⟨A5,c5,rfl,_⟩:=qq Z (Gz _);have aD:=zj aF;have aH:=zj Z;have hs:=M.size;have h4:=h.b4;have aJ:=N.lt;have k5:yd U V w5:=(yd.grow U M).trans (yd.grown U aA (λr e=>(I r).2 (.inr e)));have kc:yd U w5 (w5.setCell w.heap.size (X1 A5 (q.length+1) c5)):=yd.setCell _ _ _ ((I _).2 (.inl rfl));have bx:za w5 w.heap.size 197 #[X1 C q.length H]:=(N.below M N.lt).grown aA (λe=>by have:=aD _ e.symm;omega);have aE:∀{W:World} {A:Y5} {c:Nat} {y:Y4},qv V V.heap.size A c y->y.length=512->VI V A->yd U V W->qv W W.heap.size A c y/\VI W A:=λ{W A c y} hi hl ht B=>by
  have aB:∀g cs,za V g 5 cs->¬ U g:=λg cs aC e=>by
   rcases(I g).1 e with rfl|e
   .exact zh N aC K7 rfl
   .obtain⟨cur,aG⟩:=Ek aF g e;exact zh aG aC K7 rfl
  refine⟨⟨hi.le,hi.max,hi.nil,λh0 => ?_⟩,λg o e => ?_⟩
  .obtain⟨g,o,e,hg,hc⟩:=hi.pO h0;obtain⟨cs,O⟩:=ht g o e;exact⟨g,o,e,zO hg B.1,λj hj=>B.cell (p:=⟨g,o+j,K3⟩) (hc j hj) (aB g cs O)⟩
  .obtain⟨cs,O⟩:=ht g o e;exact⟨cs,B.blk O (aB g cs O)⟩
 have X:=k5.trans kc;refine⟨λk=>k=w.heap.size\/(mN A5 (q.length+1) c5).ownBlock=some k,λk B => ?_,X,⟨⟨A5,c5,by rw[e2];exact bx.set 0 _,?_,λk=>by rw[e2]⟩,λu hu => ?_,?_,h4.1,zT h4.2 X.1⟩⟩
 .rcases B with rfl|B
  .exact .inl ((I _).2 (.inl rfl))
  .rcases aI with e|e
   .rw[e] at B;exact .inl ((I _).2 (.inr B))
   .rw[e] at B;injection B with B;exact .inr K5
 .rw[e2];exact qp Z (λr hr=>Below.heap_setCell w5 ⟨w.heap.size,0,K3⟩ _ r (λe=>by have h7:=aH r hr;have h8:r=w.heap.size:=e;omega))
 .rcases zZ.1 hu with hu|hu
  .obtain⟨y,y1,K,y3,y4⟩:=h.px u hu;obtain⟨z1,z2⟩:=aE y3 K y4 X;exact⟨y,y1,K,z1,z2⟩
  .rw[qL] at hu;subst hu;obtain⟨y,y1,K,y3,y4⟩:=hx;obtain⟨z1,z2⟩:=aE y3 K y4 X;exact⟨y,y1,K,z1,z2⟩
 .have h5:=h.up.size;exact h.up.trans (((M.mono h5).trans (zo aA K5 (λr e=>by have:=aD r e;omega))).setCell (zG _) _)
end
section
open Go Go.RowKit xq Go.Shelf
attribute [local go_sem] Oper.semAt_some
def xZ (V:qt):kU:=λk=>(V k).map λv=>(v.y,v.d)
theorem ZU {V:qt}{k:Int}{y:Y4}:xZ V k=some (y,true)↔jB V k=some y:=by
 unfold xZ jB;cases e:V k with
 | none=>simp
 | some v =>
  cases hd:v.d<;>simp[hd]
theorem RC {V:qt}{k:Int}:(xh V k).isSome=(jB V k).isSome:=by
 unfold xh jB;cases V k with
 | none=>rfl
 | some v=>cases hd:v.d<;>simp[hd]
theorem Ue (V:qt):∀P,(QS (xZ V) P).map (·.1)=xJ (xh V) P
 | 0=>rfl
 | P+1=>by
  have h:=Ue V P;unfold QS;rw[qX,h];unfold xJ;rw[List.range_succ,List.filter_append];congr 1;have h1:=@ZU V (P:Int);split
  .next b e =>
   have:=h1.1 e;simp[RC,this]
  .next e =>
   cases g:jB V (P:Int) with
   | none=>simp[RC,g]
   | some y=>exact absurd (h1.2 g) (e y)
theorem Zz.args {w V:World}{K:Nat}{Y:Int->Option Y4}{u:List (Nat×(Y5×Nat))}{U:Nat->Prop}(h:Zz w K Y u U V)(L:List (Nat×Y4))(p:u.map (·.1)=L.map (·.1))(O:∀x∈L,Y (x.1:Int)=some x.2):∃B H,za V w.heap.size 197 #[X1 B L.length H]/\Vu V K B L.length (λk=>(u.map LF).getD k (0,none,0)) (rz L):=by
 obtain⟨B,H,M,own,_⟩:=h.has;have hl:u.length=L.length:=by have:=congrArg List.length p;simpa using this
 rw[hl] at M own;have Z:=zj own;obtain⟨A,c,e,aA⟩:=qq own (Gz _);injection e with e1 _ e3
 subst e1 e3;have I:∀k (p:k<L.length),(u.map LF).getD k (0,none,0)=LF (u[k]'(by omega)):=λk p=>by rw[qT,zM (by simp;omega),mC];rfl
 have aB:∀k (p:k<L.length),rz L k=((L[k].1:Int),L[k].2):=λk p=>by unfold rz;rw[zM p]
 have h1:∀k (hq:k<L.length),(u[k]'(by omega)).1=L[k].1:=λk hq=>by
  have h2:(u.map (·.1))[k]?=(L.map (·.1))[k]?:=by rw[p]
  rw[zM (by simp;omega),zM (by simp;omega)] at h2;simpa using h2
 have N:∀k (p:k<L.length),L[k].2.length=512/\qv V V.heap.size (u[k]'(by omega)).2.1 (u[k]'(by omega)).2.2 L[k].2/\VI V (u[k]'(by omega)).2.1:=λk p=>by
  obtain⟨y,C,y2,y3,y4⟩:=h.px _ (qJ (by omega:k<u.length));have h2:=O _ (qJ p);rw[h1 k p,h2] at C;injection C with C
  subst C;exact⟨y2,y3,y4⟩
 refine⟨B,H,M,⟨λg o e=>Z g (by rw[e];rfl),λh0 => ?_,λk p => ?_,λk p => ?_⟩⟩
 .obtain⟨g,o,e,X,hr⟩:=aA.pO K5;refine⟨g,o,e,λj hj q v hq => ?_,X⟩;have aC:(TZ ((u.map LF)[j]'(by simp;omega)))[q]?=some v:=by have e:=I j hj;simp only[e] at hq;rw[mC];exact hq
  have:=hr (j*2+q) v (TX _ j (by simp;omega) q v aC);rw[show o+j*2+q=o+(j*2+q) by omega];exact this
 .obtain⟨q1,q2,_⟩:=N k p;simp only[I k p,aB k p];exact⟨by show ((L[k].1:Nat):Int)=(((u[k]'(by omega)).1:Nat):Int);rw[h1 k p],q1,q2⟩
 .simp only[I k p];exact(N k p).2.2
theorem uO (x:Int×Y5×Nat):∀v∈TZ x,v.oneCell'=true:=by
 intro v e;simp[TZ] at e;rcases e with rfl|rfl<;>rfl
theorem yW.dX {W W':World}{a f r P B:Nat}{room now hh mm:Int}{V:qt}(h:yW W a f r P room now hh mm V)(hB:nH B W W')(u:∀k,xI a r V k->k<B)(I:∀k v,V k=some v->∀g o,v.A=some ⟨g,o,K3⟩->0<v.y.length->g<B):yW W' a f r P room now hh mm V:=by
 obtain⟨es,c,N,K,hs⟩:=h.mp;refine⟨h.cb.below hB (u _ (.inl rfl)),⟨es,c,N.below hB (u _ (.inr (.inl rfl))),K,hs⟩,λk v C => ?_,h.inj,h.dM⟩;have q:=h.rows k v C;refine⟨q.blk.below hB (u _ (.inr (.inr ⟨k,v,C,rfl⟩))),q.key,⟨q.px.le,q.px.max,q.px.nil,λH => ?_⟩,q.len,q.om⟩;obtain⟨g,o,e,L,hc⟩:=q.px.pO H;exact⟨g,o,e,zO L hB.size,λj M=>(hB.cell (p:=⟨g,o+j,K3⟩) (I k v C g o e H)).trans (hc j M)⟩
theorem DP {pd:Int->Bool}{V:qt}{k:Int}{v:jN}(h:vt pd V k=some v):∃u,V k=some u/\v.b=u.b/\v.A=u.A/\v.y=u.y:=by
 unfold vt at h;cases e:V k with
 | none=>rw[e] at h;cases h
 | some u =>
  rw[e,gv] at h;injection h with h
  subst h;refine⟨u,rfl,?_,?_,?_⟩<;>split<;>rfl
theorem Yq.iter {h w w4:World}{r clock:Nat}{es:Array nZ}{a f P:Nat}{room now hh mm:Int}{V:qt}{L:Array Nat}{pd:Int->Bool}(hc:Yq h h.heap.size r clock es a f P room now hh mm V L pd w)(A:yW h a f r P room now hh mm V)(hB:nH h.heap.size w w4):yW w4 a f r P room now hh mm (vt pd V)/\ze (xI a r V) h w4:=by
 refine⟨hc.ca.dX hB (λk K=>A.oE k ?_) (λk v p g o e q => ?_),⟨hB.os.trans hc.gb.os,hB.tape.trans hc.gb.tape,hB.output.trans hc.gb.output,zT hc.gb.size hB.size,λi hi hn=>(hB.block i hi).trans (hc.gb.block i hi hn)⟩⟩
 .rcases K with e|e|⟨j,v,p,e⟩
  .exact .inl e
  .exact .inr (.inl e)
  .obtain⟨u,h1,h2,_⟩:=DP p;exact .inr (.inr ⟨j,u,h1,by rw[e,h2]⟩)
 .obtain⟨u,h1,_,C,H⟩:=DP p;have I:=(A.rows k u h1).px;rw[H] at q;obtain⟨M,o',B,N,_⟩:=I.pO q;rw[C,B] at e;injection e with e
  injection e with e1 e2
  omega
section
variable {W0 W W' w:World}{d f l a r many P:Nat}{fr pg room now hh mm:Int}{s:DS}{S:JM}{V:qt}{c:YU}
theorem YT.pU (h:YT W0 d f l a r many P fr pg room now hh mm s S V W){g:Nat}{T:nS}{cs:Y7}(j:za W g T cs)(h1:T≠185)(h2:T≠194)(q:T≠114)(u:T≠171)(A:T≠119):¬ BN d l a r V g/\g≠f:=by
 have B:=h.ca.pU j h1 h2;have p:=h.fh.ne j q u;refine⟨λC => ?_,λe => ?_⟩
 .rcases C with e|e|e
  .exact p (.inl e)
  .exact p (.inr e)
  .exact B e
 .subst e;exact zh j h.fh.fb A rfl
theorem YT.other (h:YT W0 d f l a r many P fr pg room now hh mm s S V W){g:Nat}{T:nS}{cs:Y7}(j:za W g T cs)(hs:cs.size<=64)(hu:∀n,cs[0]? ≠ K4 (Y1 Q6 n))(B:W0.heap.size<=g)(h1:T≠185)(h2:T≠194)(p:T≠114)(q:T≠171)(u:T≠119)(A:ze (λk=>k=g) W W'):YT W0 d f l a r many P fr pg room now hh mm s S V W' :=
 h.pR A (λk e=>by subst e;exact⟨.inr (.inl ⟨_,_,j,hs,hu⟩),.inr (.inl ⟨_,_,j,hs⟩)⟩) (λk e=>by subst e;exact B) (λk e=>by subst e;exact h.pU j h1 h2 p q u)
end
end
section
open Go Go.RowKit xq
section
variable {w:World}{a f r P:Nat}{room now hh mm:Int}{V:qt}
end
theorem VU (V:qt)(k:Int)(v:jN):xZ (xS V k (some v))=Xj (xZ V) k (v.y,v.d):=by
 funext j
 unfold xZ xS Xj;split<;>rfl
theorem Lq {V:qt}{k:Int}(h:V k=none):xZ V k=none:=by unfold xZ;rw[h];rfl
theorem vw {V:qt}{k:Int}{v:jN}(h:V k=some v):xZ V k=some (v.y,v.d):=by unfold xZ;rw[h];rfl
def tW (V:qt):Prop:=∀k v,V k=some v->v.y.length=512
theorem jR.full {P:Nat}{Y:Nat->Y4}{V:qt}(h:jR P Y (xZ V)):tW V:=λk v e=>(h k v.y v.d (vw e)).2.1
section
variable {fr pg room:Int}{P:Nat}{G:Nat->Y4}{S:JM}{c c':YU}{i:Nat}
theorem tC {Y g:Nat->Y4}{R:kU}(h:jR P Y R)(q:∀p,p<P->g p=Y p):jR P g R:=λp b d e=>by
 obtain⟨h1,h2,j⟩:=h p b d e;exact⟨h1,h2,λhd=>by rw[q p.toNat K5];exact j hd⟩
end
section
variable {fr pg:Int}{P:Nat}{G1 G2 G1' G2':Nat->Y4}{S1 S2 S1' S2':JM}{R1 R2 R1' R2':kU}
end

section
variable {ρ:nO->Value}{w:World}{o:nh}{x y z:nO}
theorem tc {l:Y4}(hl:l.length<=1000000)(u:o.op=.convert 9 129 x)(h1:ρ x=.string (KQ l)):∃c w',(nQ ρ o).run Y3 w=.ok (.value (X1 w.heap.size l.length c)) w'/\qv w' w'.heap.size (K4 ⟨w.heap.size,0,K3⟩) c l/\nH w.heap.size w w':=by
 have A:=Go.Lib.run_convert_string_bytes (P:=Y3) w 9 129 5 (KQ l) underlying9 underlying129 underlying5;have h2:=grownCap_ge w (KQ l).size 0 5;have p:=grownCap_le_maxLen w (KQ l).size 0 5 (by rw[ZS];unfold gP;omega);have h:=Go.Lib.bytesWorld_size w 5 (KQ l);refine⟨grownCap w (KQ l).size 0 5,Go.Lib.bytesWorld w 5 (KQ l),?_,⟨by rw[ZS] at h2;exact h2,by unfold gP at p;omega,(λe=>by cases e),λB=>⟨w.heap.size,0,rfl,by rw[h];omega,λj g => ?_⟩⟩,⟨rfl,rfl,rfl,by rw[h];omega,λk q=>Go.Lib.bytesWorld_at_old w _ _ k q⟩⟩
 .simp only[nQ,u,h1,gJ,A,nc,ny,ZS]
 .rw[qA,Go.Lib.bytesWorld_cell w 5 (KQ l) j (by rw[ZS];exact g),BP];congr 2;simp[List.getD,g]
theorem Qa {g k:Nat}{t T:nS}{cs:Y7}(e:yw Y3 T k)(h:za w g t cs)(j:cs.size=k)(p:o.op=.load T x)(q:ρ x=Y9 g):(nQ ρ o).run Y3 w=.ok (.value (Q0 cs)) w:=by
 have:=yQ (ρ:=ρ) (o:=o) e h.range (by simpa using j) p q;simpa using this
end


theorem Oo {W0:World}(w:World)(d many:Nat)(fr pg:Int)(B:nH W0.heap.size W0 w)(hd:W0.heap.size<=d)(u:yN w d many (λ_=>qy) [] 0 false)(K:yz fr pg=true)(H:(many:Int)=2+9*fr+8*pg)(I:many<=1000000):nK Y3 37 #[Y9 d,Q0 #[Y1 Q4 fr,Y1 Q4 pg]] w λe w'=>∃f l,e=Y0 (Q2 #[Y9 (K4 ⟨f,0,K3⟩),Y1 Q4 0])/\VL W0 d f l many fr pg ⟨laid (λ_=>qy) (JP 1 (ko 1 1 0 0) 1),[],0,false⟩ ⟨1,1,0,[]⟩ w'/\w.heap.size<=f/\w.heap.size<=l:=by
 have L:=u.lt;have p:nH w.heap.size w (w.alloc (Q9 #[Y1 Q4 fr,Y1 Q4 pg] 74)):=(nF _ w).alloc (zG _) _;have C:=za.new w 74 #[Y1 Q4 fr,Y1 Q4 pg];have hs:=B.size;refine(FY w d fr pg (λl g=>w.heap.size<=l/\yN g d many (laid (λ_=>qy) (JP 1 (ko 1 1 0 0) 1)) [] 0 false/\za g l 171 (ZC (K4 ⟨d,0,K3⟩) fr pg 1 1 0 none 0 0)/\nH W0.heap.size W0 g) ((Nd _ fr pg d many 0 (u.grow p) K H I K7 K7).mono ?_)).mono ?_
 .rintro e g ⟨l,rfl,hl,j,h,A⟩;refine⟨l,rfl,C.grown A (λe=>by injection e with e;omega),by simp at hl;omega,j,h,(B.trans (p.mono hs)).trans (zo A (by simp;omega) (λr e=>by injection e with e;rw[<-e];exact hd))⟩
 .rintro e w' ⟨l,g,rfl,⟨hl,j,h,q⟩,rfl⟩;have ha:nH g.heap.size g (g.alloc (Q9 (Vh l fr pg) 119)):=(nF _ _).alloc (zG _) _;exact⟨_,l,rfl,⟨q.trans (ha.mono q.size),j.grow ha,YO.grow ⟨by omega,none,0,[],h,Je.mt _ _,rfl⟩ ha,za.new _ _ _,hd,by omega⟩,by have:=h.lt;omega,hl⟩
theorem LI.nz {G:Nat->Y4}{S:JM}{g:Nat}(h:LI G S g):∃k,¬ G k=qy:=⟨S.sr%2,λe=>by
 have h1:=FQ (s:=S.sr) (e:=S.ep) (z:=g) (c:=S.fs.length) h.on.sr h.on.ep h.on.hzl h.on.hn;rw[<-h.on.hd,e,Hw] at h1
 cases h1⟩
theorem rR.nz {fr pg:Int}{G:Nat->Y4}{S:JM}{i:Nat}(h:rR fr pg G S i):∃k,¬ G k=qy:=by
 obtain⟨e,h⟩:=h.li;exact h.nz
theorem wE (w:World)(f l d:Nat)(fr pg room:Int)(S:JM)(j:za w f 119 (Vh l fr pg))(h:YO w l d fr pg S)(p:¬ (2<=room/\room<=2000)):nK Y3 63 #[Y9 f,Y1 Q4 room] w λe w'=>e=Y0 (Q2 #[Y9 none,Y1 Q4 2])/\w=w':=by
 have g:=Ub j h
 by_cases h1:room<2
 .go_enter func63,ntmps63
  go_wp2_with (go_at_call 106;refine g.mono ?_;rintro e w' ⟨rfl,rfl⟩)
  exact nT (nj rfl _ _ _) rfl ⟨rfl,rfl⟩
 .have h2:2000<room:=K5
  go_enter func63,ntmps63
  go_wp2_with (go_at_call 106;refine g.mono ?_;rintro e w' ⟨rfl,rfl⟩)
  exact nT (nj rfl _ _ _) rfl ⟨rfl,rfl⟩
def rW (W0:World)(d f l many P:Nat)(fr pg room:Int)(S:JM)(s:DS)(W:World)(e:Ending)(w':World):Prop :=
 ((2<=room/\room<=2000)/\∃a r,e=Y0 (Q2 #[Y9 (K4 ⟨a,0,K3⟩),Y1 Q4 0])/\wY W0 d f l a r many P fr pg room s S ⟨0,0,0,λ_=>none⟩ w'/\(∀k,BN d l a r (λ_=>none) k->k=d\/k=l\/W.heap.size<=k)/\nH W.heap.size W w') \/
 (¬ (2<=room/\room<=2000)/\e=Y0 (Q2 #[Y9 none,Y1 Q4 2])/\W=w')
theorem wC {W0 W:World}{d f l many P:Nat}{fr pg room:Int}{S:JM}{s:DS}(h:VL W0 d f l many fr pg s S W)(H:∃k,¬ s.g k=qy)(C:∀x∈S.fs,x.y.length=512):nK Y3 63 #[Y9 f,Y1 Q4 room] W (rW W0 d f l many P fr pg room S s W):=by
 have hs:=h.up.size
 by_cases p:2<=room/\room<=2000
 .refine(EF W f l d P fr pg room S h.fb h.lg p).mono ?_;rintro e w' ⟨a,r,rfl,h1,h2,B,A⟩;refine .inl ⟨p,a,r,rfl,⟨h.grow A,B,λk q => ?_,H,C⟩,λk q => ?_,A⟩
  .rcases q with rfl|rfl|⟨j,v,u,_⟩
   .omega
   .omega
   .cases u
  .rcases q with e|e|e|e|⟨j,v,u,_⟩
   .exact .inl e
   .exact .inr (.inl e)
   .exact .inr (.inr (by rw[e];exact h1))
   .exact .inr (.inr (by rw[e];exact h2))
   .cases u
 .refine(wE W f l d fr pg room S h.fb h.lg p).mono ?_;rintro e w' ⟨rfl,rfl⟩;exact .inr ⟨p,rfl,rfl⟩
section
variable {W0 W:World}{d f l a r many P:Nat}{fr pg room:Int}{s:DS}{S:JM}{c:YU}
variable {G:Nat->Y4}{i:Nat}
end


section
variable {W0 W W':World}{d1 f1 l1 a1 r1 d2 f2 l2 a2 r2 many P:Nat}{fr pg rm1 rm2:Int}{G1 G1' G2:Nat->Y4}{S1 S1' S2:JM}{c1 c1' c2:YU}{i:Nat}
end
structure qj where
 size:Int
 first:Int
 many:Int
 roots:List Int
  deriving Inhabited
def xR (s:qj):Y8:=Y1 Q4 s.size :: Y1 Q4 s.first :: Y1 Q4 s.many::s.roots.map (fY .i64)
theorem zq {s:qj}(h:s.roots.length=16):(xR s).length=19:=by simp[xR,h]
def VM (s:qj)(cv:Value)(l:qj)(under:Bool)(mk:Value):Y7:=(xR s++cv::(xR l++[X3 under,mk])).toArray
section
variable {s l:qj}{cv mk:Value}{under:Bool}
theorem sC (hs:s.roots.length=16):(VM s cv l under mk)[19]?=some cv:=by
 unfold VM;rw[qP,qU (by rw[zq hs];omega),zq hs];rfl
theorem NU (hs:s.roots.length=16)(hl:l.roots.length=16):(VM s cv l under mk)[39]?=some (X3 under):=by
 unfold VM;rw[qP,qU (by rw[zq hs];omega),zq hs,show 39-19=19+1 from rfl,qZ,qU (by rw[zq hl];omega),zq hl];rfl
theorem NW (hs:s.roots.length=16)(hl:l.roots.length=16):(VM s cv l under mk)[40]?=some mk:=by
 unfold VM;rw[qP,qU (by rw[zq hs];omega),zq hs,show 40-19=20+1 from rfl,qZ,qU (by rw[zq hl];omega),zq hl];rfl
theorem Xn (hs:s.roots.length=16){j:Nat}(e:j<19):(VM s cv l under mk)[j]?=(xR s)[j]?:=by
 unfold VM;rw[qP,List.getElem?_append_left (by rw[zq hs];exact e)]
theorem Br (hs:s.roots.length=16):(VM s cv l under mk)[0]?=K4 (Y1 Q4 s.size):=(Xn hs K5).trans rfl
theorem NX (hs:s.roots.length=16):(VM s cv l under mk)[1]?=K4 (Y1 Q4 s.first):=(Xn hs K5).trans rfl
theorem Bt (hs:s.roots.length=16):(VM s cv l under mk)[2]?=K4 (Y1 Q4 s.many):=(Xn hs K5).trans rfl
end
theorem QI {w:World}{p a:Nat}(hc:w.cell? ⟨p,19,K3⟩=K4 (Y9 a)):nK Y3 73 #[Y9 p] w λe w'=>e=Y0 (X3 false)/\w=w':=by
 go_enter func73,ntmps73
 go_wp2;go_ret;exact⟨rfl,rfl⟩
theorem Td (w:World)(x:Int):nK Y3 148 #[Y1 Q4 x,Y1 Q4 0] w λe w'=>e=Y0 (Q2 #[Y1 Q4 x,Y1 Q4 0])/\w=w':=by
 go_enter func148,ntmps148
 go_wp2;exact nT (nj rfl _ _ _) rfl ⟨rfl,rfl⟩
theorem Mj (w:World)(x er:Int)(h:er≠0):nK Y3 148 #[Y1 Q4 x,Y1 Q4 er] w λe w'=>e=Y0 (Q2 #[Y1 Q4 0,Y1 Q4 er])/\w=w':=by
 go_enter func148,ntmps148
 go_wp2;exact nT (nj rfl _ _ _) rfl ⟨rfl,rfl⟩
theorem Qq:∀{l m:List Nat},l.Nodup->(∀x∈l,x∈m)->l.length<=m.length
 | [],m,_,_=>ly _
 | x::l,m,h,hs=>by obtain⟨h1,h2⟩:=List.nodup_cons.1 h;have g:x∈m:=hs x K9;have:=Qq (l:=l) (m:=m.erase x) h2 (λy j=>(List.mem_erase_of_ne (λe=>h1 (by rw[<-e];exact j))).2 (hs y (by simp[j])));rw[List.length_erase_of_mem g] at this;have:=List.length_pos_of_mem g;simp only[zK];omega
def ZL (P:Nat)(V:qt):Nat:=(xJ (jW V) P).length
theorem Tc {V:qt}{k:Int}:(jW V k).isSome=(V k).isSome:=by unfold jW;cases V k<;>rfl
theorem kj {V:qt}{P k:Nat}:k∈xJ (jW V) P↔k<P/\(V (k:Int)).isSome=true:=by rw[jJ,Tc]
theorem Ex {P:Nat}{V V':qt}(h:∀k,(V' k).isSome=true->(V k).isSome=true):ZL P V'<=ZL P V :=
 Qq (Yf _ _) (λx e=>by rw[kj] at e ⊢;exact⟨e.1,h _ e.2⟩)
theorem wB (P:Nat)(V:qt)(k:Int)(v:jN):ZL P (xS V k (some v))<=ZL P V+1:=by
 have:=Qq (l:=xJ (jW (xS V k (some v))) P) (m:=k.toNat::xJ (jW V) P) (Yf _ _) (λx g=>by
  rw[kj] at g;rw[qN,kj]
  by_cases e:(x:Int)=k
  .left;omega
  .rw[JD e] at g
   exact .inr g)
 simpa[ZL] using this
section
variable {fr pg room:Int}{P:Nat}{Y:Nat->Y4}{G:Nat->Y4}{S:JM}{c c':YU}{V V1:qt}
theorem RE {k:Int}{u v:jN}(h:V k=some u):ZL P (xS V k (some v))<=ZL P V:=Ex λj g=>by
 by_cases e:j=k
 .rw[e,h];rfl
 .rw[JD e] at g;exact g
theorem Dg.dm (h:Dg P room V){l:List Nat}(hl:∀p b,xZ V p=some (b,true)->p.toNat∈l)(hn:∀k v,V k=some v->0<=k):room<=(l.length:Int):=by
 have:=Qq (l:=xJ (jW V) P) (m:=l) (Yf _ _) (λx g=>by
  rw[kj] at g;cases e:V (x:Int) with
  | none=>rw[e] at g;cases g.2
  | some v =>
   have hd:=h.2 _ _ e;have:=hl (x:Int) v.y (by rw[vw e,hd])
   simpa using this)
 have:=h.1;omega
end
end
section
open Go Go.RowKit xq Go.Shelf Go.Sort
def rQ (w:World)(a f r P:Nat)(room now hh mm:Int)(V:qt)(page:Int)(e:Ending)(w':World):Prop :=
 (∃v,V page=some v/\e=Y0 (Q2 #[Y9 v.b,Y1 Q4 0])/\yW w' a f r P room (now+1) hh mm (xS V page (some {v with at_:=now+1}))) \/
 (V page=none/\∃b,w.heap.size<=b/\e=Y0 (Q2 #[Y9 (K4 ⟨b,0,K3⟩),Y1 Q4 0])/\yW w' a f r P room (now+1) hh mm (xS V page (K4 ⟨b,now+1,none,0,[],false⟩)))
theorem KZ (w:World)(a f r P:Nat)(room now hh mm:Int)(V:qt)(h:yW w a f r P room now hh mm V)(hP:P<=1000)(hn:0<=now/\now<=1000000)(bL:2<=room)(q:Int)(bE:0<=q/\q<(P:Int))(bB:V q=none->((xJ (jW V) P).length:Int)<room):nK Y3 111 #[Y9 a,Y1 Q4 q] w λe w'=>rQ w a f r P room now hh mm V q e w'/\ze (xI a r V) w w':=by
 have aH:nH w.heap.size w (w.alloc (Q9 #[Y9 a] 120)):=(nF _ w).alloc (zG _) _;have N:=za.new w 120 #[Y9 a];have a4:¬ w.heap.size=a:=λe=>by have:=h.cb.lt;omega
 have hw:IntKind.i64.wrap (now+1)=now+1:=zg _;obtain⟨W0,aI⟩:=Z9 (w.alloc (Q9 #[Y9 a] 120));rw[<-aI] at aH N;have C:=h.below aH;have k0:=N.boxed;have k3:W0.cell? ⟨a,3,K3⟩=some (Q1 (some r)):=(C.cb.cell _).trans rfl;obtain⟨es,clock,aE,he,bG⟩:=C.mp;have aV:ze (λk=>xI a r V k\/w.heap.size<=k) w W0:=ze.below aH
 have a3:∀{W':World},ze (λk=>xI a r V k\/w.heap.size<=k) w W'->ze (xI a r V) w W':=λhG=>hG.more (λk e hk=>by
  rcases e with e|e
  .exact e
  .omega)
 have aP:=nI aI.symm;clear aI;cases K:V q with
 | some v =>
  have hl:=XQ K;have bI:W0.cell? ⟨a,2,K3⟩=K4 (Y1 Q4 now):=(C.cb.cell _).trans rfl;have bJ:=C.cb.free 2
  go_enter func111,ntmps111
  go_wp2_with (first
   |(rw[aP.out])
   | (refine zp rfl (tM he aE hl rfl rfl rfl) ?_))
  have h1:=C;have bx:=N;have hg:=aV;have u:=K;obtain⟨v1,U⟩:=Z9 v;rw[<-U] at u ⊢;have aO:xI a r V v1.b\/w.heap.size<=v1.b:=.inl (.inr (.inr ⟨q,v1,u,rfl⟩));obtain⟨W,O⟩:=Z9 W0;rw[<-O] at h1 bx hg ⊢;clear O;have aB:=h1.ow 2 (Y1 Q4 (now+1)) (now':=now+1) (hh':=hh) (mm':=mm) rfl K5;have B:=aB.2.blk bx (show ¬ w.heap.size=a from a4);obtain⟨X,Z⟩:=aB;have aN:=h1.rows q v1 u;have A:=X.below (W':=(W.setCell ⟨a,2,K3⟩ (Y1 Q4 (now+1))).drew) (nF _ _).drew;have hU:=Gg (W:=(W.setCell ⟨a,2,K3⟩ (Y1 Q4 (now+1))).drew) (A.rows q v1 u).blk (now+1)
  have L:=A.setRow (v1:={v1 with at_:=now+1}) u rfl 0 (Y1 Q4 (now+1)) rfl (.inl ⟨rfl,rfl,rfl⟩) ⟨by show 0<=now+1;omega,mo _⟩ (λ_ k v hk hv=>by
   have:=(h1.rows k v hv).om.2;show v.at_≠now+1
   omega)
  have g:(W.setCell ⟨a,2,K3⟩ (Y1 Q4 (now+1))).drew.cell? w.heap.size=K4 (Y9 a)/\(W.setCell ⟨a,2,K3⟩ (Y1 Q4 (now+1))).drew.cell? ⟨a,2,K3⟩=K4 (Y1 Q4 (now+1)):=⟨B.boxed,(A.cb.cell _).trans rfl⟩;have aM:ze (λk=>xI a r V k\/w.heap.size<=k) w (((W.setCell ⟨a,2,K3⟩ (Y1 Q4 (now+1))).drew).setCell v1.b (Y1 Q4 (now+1))):=((hg.trans (Z.more (λk e _ => .inl (.inl e)))).trans (ze.below (nF _ _).drew)).trans (L.2.more (λk e _=>by rw[e];exact aO));clear X Z A aN bx B;refine zb.st (λW:World=>W.cell? w.heap.size=K4 (Y9 a)/\W.cell? ⟨a,2,K3⟩=K4 (Y1 Q4 (now+1))) 7 ?_;refine zb.q1 0 (Y9 v1.b) g ?_;refine zb.q1 1 (Y9 v1.b) g ?_;refine zb.q1 2 (Y9 v1.b) g ?_;refine zb.q1 3 (Y9 a) g ?_;refine zb.q1 4 (Y9 a) g ?_;refine zb.q1 5 (Y9 (K4 ⟨a,2,K3⟩)) g ?_;refine zb.q1 6 (Y1 Q4 (now+1)) g ?_;simp only[Z8];refine zb.n 7 ?_;refine zb.oC 184 #[.tmp 58,.tmp 62] #[192,3] #[Y9 v1.b,Y1 Q4 (now+1)] (hU.mono ?_) (zb.eo func184);rintro e w9 ⟨rfl,rfl⟩;refine⟨_,rfl,λh=>absurd rfl h,zb.dn ?_⟩;simp only[Z8];clear g;go_wp2;exact nT (nj rfl _ _ _) rfl ⟨.inl ⟨v1,u,rfl,L.1⟩,a3 aM⟩
 | none =>
  have hl:=NM K;have bH:=C.size he;obtain⟨n,aZ⟩:=Z9 ((xJ (jW V) P).length);rw[<-aZ] at bH;have bK:W0.drew.cell? ⟨a,1,K3⟩=K4 (Y1 Q4 room):=(C.cb.cell _).trans rfl;have aD:nH W0.heap.size W0 W0.drew:=(nF _ _).drew;have h1:=C.below aD;have B:za W0.drew w.heap.size 120 #[Y9 a]:=N.below aD N.lt;have aY:qa W0.drew r es clock:=aE;have g:W0.drew.cell? w.heap.size=K4 (Y9 a)/\W0.drew.cell? ⟨a,3,K3⟩=some (Q1 (some r))/\W0.drew.cell? ⟨a,1,K3⟩=K4 (Y1 Q4 room)/\qa W0.drew r es clock:=⟨k0,k3,bK,aE⟩
  go_enter func111,ntmps111
  go_wp2_with (first
   |(rw[aP.out])
   | (refine zp rfl (rD he aE hl rfl rfl rfl) ?_))
  refine zb.st (λW:World=>W.cell? w.heap.size=K4 (Y9 a)/\W.cell? ⟨a,3,K3⟩=some (Q1 (some r))/\W.cell? ⟨a,1,K3⟩=K4 (Y1 Q4 room)/\qa W r es clock) 99 ?_;refine zb.q0 0 (Y9 a) g ?_;refine zb.q0 1 (Y9 a) g ?_;refine zb.q0 2 (Y9 (K4 ⟨a,3,K3⟩)) g ?_;refine zb.q0 3 (Q1 (some r)) g ?_;simp only[Z8];refine zb.t0 4 (Y1 Q4 (es.size:Int)) rfl g (λW hW=>te underlying178 hW.2.2.2 rfl rfl) ?_;refine zb.q0 5 (Y9 a) g ?_;refine zb.q0 6 (Y9 a) g ?_;refine zb.q0 7 (Y9 (K4 ⟨a,1,K3⟩)) g ?_;refine zb.q0 8 (Y1 Q4 room) g ?_;simp only[Z8];refine zb.n 9 (zb.opV (w':=W0.drew) (X3 (decide ((es.size:Int) ≥ room))) rfl rfl K8 ⟨λ_=>g,zb.dn ?_⟩);simp only[Z8];clear g;obtain⟨W1,aR⟩:=Z9 W0.drew;rw[<-aR] at h1 B aY aD ⊢;clear aR;have a7:ze (λk=>xI a r V k\/w.heap.size<=k) w W1:=aV.trans (ze.below aD);have bC:=bB K;rw[<-aZ] at bC;rw[show decide ((es.size:Int) ≥ room)=false from decide_eq_false K5];have hd:=h1;have aW:=aY;have a8:=he;have a9:=bG;have aQ:=B;have a6:=K;have aX:=a7;have aA:nH W1.heap.size W1 (W1.alloc (Q9 #[Y1 Q4 0,X1 none 0 0,X3 false] 194)):=(nF _ _).alloc (zG _) _;have aK:=za.new W1 194 #[Y1 Q4 0,X1 none 0 0,X3 false];have aJ:w.heap.size<=W1.heap.size:=aX.size;obtain⟨M,aG⟩:=Z9 (W1.alloc (Q9 #[Y1 Q4 0,X1 none 0 0,X3 false] 194));rw[<-aG] at aA aK;have hf:=hd.below aA;have aL:qa M r _ _:=aW.below aA aW.lt;have aF:=aQ.below aA aQ.lt;have bD:=aX.trans (ze.below (Mu:=λk=>xI a r V k\/w.heap.size<=k) aA);have a5:=nI aG.symm;clear aG;have bN:=aF.boxed;have bM:M.cell? ⟨a,3,K3⟩=some (Q1 (some r)):=(hf.cb.cell _).trans rfl;have a0:∀k v,V k=some v->v.b≠W1.heap.size:=λk v hv e=>by have:=(hd.rows k v hv).blk.lt;omega
  obtain⟨b1,aS⟩:=Z9 W1.heap.size;rw[<-aS] at aK a0 aJ
  go_wp2_with (first
   |(rw[a5.out])
   |(rw[<-aS])
   | (refine wv rfl rfl rfl rfl rfl a8 a9 aL ?_
      intro aT ck2 bA bF;have aC:=hf.fresh bE a6 hn.1 aK a0 aL aT ck2 bA bF;have bx:=aC.2.blk aF (λe=>aL.pf aF e.symm);have h1:=aC.1;have hg:=bD.trans (aC.2.more (Nu:=λk=>xI a r V k\/w.heap.size<=k) (λk e _ => .inl (.inr (.inl e))));clear aC;obtain⟨W,O⟩:=Z9 (setMap M r aT ck2);rw[<-O] at bx h1 hg ⊢;clear O;have bO:=bx.boxed;have bI:W.cell? ⟨a,2,K3⟩=K4 (Y1 Q4 now):=(h1.cb.cell _).trans rfl
      have bJ:=h1.cb.free 2))
  obtain⟨v1,U⟩:∃v1:jN,v1=⟨b1,0,none,0,[],false⟩:=⟨_,rfl⟩;rw[<-U] at h1;have aU:v1.b=b1:=by rw[U]
  rw[<-aU];have u:=Qn (V) q (some v1);have aO:xI a r V v1.b\/w.heap.size<=v1.b:=.inr (by rw[aU];exact aJ);have aB:=h1.ow 2 (Y1 Q4 (now+1)) (now':=now+1) (hh':=hh) (mm':=mm) rfl K5;have B:=aB.2.blk bx (show ¬ w.heap.size=a from a4);obtain⟨X,Z⟩:=aB;have aN:=h1.rows q v1 u;have A:=X.below (W':=(W.setCell ⟨a,2,K3⟩ (Y1 Q4 (now+1))).drew) (nF _ _).drew;have hU:=Gg (W:=(W.setCell ⟨a,2,K3⟩ (Y1 Q4 (now+1))).drew) (A.rows q v1 u).blk (now+1)
  have L:=A.setRow (v1:={v1 with at_:=now+1}) u rfl 0 (Y1 Q4 (now+1)) rfl (.inl ⟨rfl,rfl,rfl⟩) ⟨by show 0<=now+1;omega,mo _⟩ (λ_ k v hk hv=>by
   have:=(h1.rows k v hv).om.2;show v.at_≠now+1
   omega)
  have g:(W.setCell ⟨a,2,K3⟩ (Y1 Q4 (now+1))).drew.cell? w.heap.size=K4 (Y9 a)/\(W.setCell ⟨a,2,K3⟩ (Y1 Q4 (now+1))).drew.cell? ⟨a,2,K3⟩=K4 (Y1 Q4 (now+1)):=⟨B.boxed,(A.cb.cell _).trans rfl⟩;have aM:ze (λk=>xI a r V k\/w.heap.size<=k) w (((W.setCell ⟨a,2,K3⟩ (Y1 Q4 (now+1))).drew).setCell v1.b (Y1 Q4 (now+1))):=((hg.trans (Z.more (λk e _ => .inl (.inl e)))).trans (ze.below (nF _ _).drew)).trans (L.2.more (λk e _=>by rw[e];exact aO));clear X Z A aN bx B;refine zb.st (λW:World=>W.cell? w.heap.size=K4 (Y9 a)/\W.cell? ⟨a,2,K3⟩=K4 (Y1 Q4 (now+1))) 7 ?_;refine zb.q1 0 (Y9 v1.b) g ?_;refine zb.q1 1 (Y9 v1.b) g ?_;refine zb.q1 2 (Y9 v1.b) g ?_;refine zb.q1 3 (Y9 a) g ?_;refine zb.q1 4 (Y9 a) g ?_;refine zb.q1 5 (Y9 (K4 ⟨a,2,K3⟩)) g ?_;refine zb.q1 6 (Y1 Q4 (now+1)) g ?_;simp only[Z8];refine zb.n 7 ?_;refine zb.oC 184 #[.tmp 58,.tmp 62] #[192,3] #[Y9 v1.b,Y1 Q4 (now+1)] (hU.mono ?_) (zb.eo func184);rintro e w9 ⟨rfl,rfl⟩;refine⟨_,rfl,λh=>absurd rfl h,zb.dn ?_⟩;simp only[Z8];clear g;go_wp2;have hQ:=L.1;rw[VR] at hQ;subst U;exact nT (nj rfl _ _ _) rfl ⟨.inr ⟨K,b1,aJ,rfl,hQ⟩,a3 aM⟩
end
end Go.Proofs.YtohmkffoojdahaaGreat
