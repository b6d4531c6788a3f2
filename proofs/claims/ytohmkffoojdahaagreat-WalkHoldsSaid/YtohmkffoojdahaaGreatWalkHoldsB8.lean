/- Texts that the proof of WalkHolds leans on, part 8. -/
import Derived.Shelf.SlIterI.Nil
import Derived.Shelf.SortM.Plain
import Derived.Shelf.SortM.SortNone
import Derived.Shelf.SlSortCmp.Whole1
import Derived.Shelf.SlIterI.Collect
import Derived.Shelf.SlSortCmp.NoneTotal
import Derived.Lib.ConvBytes
import Derived.Test.YtohmkffoojdahaaGreatWalkHoldsB7
open Nat renaming reduceAdd->yJ,reduceSub->yK
set_option linter.unusedVariables false
set_option linter.unusedSimpArgs false
set_option maxRecDepth 100000
set_option maxHeartbeats 8000000

open Array renaming mem_of_getElem?->gn
open Exists renaming intro->nw
open Go renaming Calls->pr,Addr->px,Operand->py,execOp->oB,TypeId->oD,MapEntry->oJ,Oper->oM,maxLen->oo,undef->ou,Act->oy,callFunc->dF,wpListIn->nH
open Go.Act renaming put->pj
open Go.Fence renaming wide->oS
open Go.Instr renaming findNow->ny,lookup->gE,checkKey->gG,mapUpdate->gM
open Go.MapKept renaming Stamped->oH,IsKey->dJ
open Go.Oper renaming about->mg
open Go.Result renaming andThen->pv
open Go.RowKit renaming Below->ph
open Go.Value renaming slice->dW,int->mG
open Go.World renaming cell?->nD
open List.Pairwise renaming nil->mQ
open Go.Proofs.Tryz renaming prog->Y3
open Go.Proofs.Tryz
namespace Go.Proofs.YtohmkffoojdahaaGreat
section
open Go Go.RowKit vA Go.Maps Go.Sort Go.Shelf
def TH:Go.Shelf.Ren:=⟨fun|7=>205|10=>267|n=>n,fun|23=>211|26=>3|3=>129|28=>288|0=>0|27=>287|33=>207|4=>4|n=>n,fun|n=>n⟩
theorem tG:SlLaysZI.n7 Y3 TH:={
 mixed:=by kernel_rfl
 f7:=⟨Tryz.f205.name,by decide,func205.trans (congrArg some (by kernel_rfl))⟩
 f10:=⟨Tryz.f267.name,by decide,func267.trans (congrArg some (by kernel_rfl))⟩
 t0:=underlying0
 a0:=Tryz.isAgg0
 z0:=Tryz.sizeOf0
 v0:=Tryz.zeroValue0
 t4:=underlying4
 a4:=Tryz.isAgg4
 z4:=Tryz.sizeOf4
 v4:=Tryz.zeroValue4
 t23:=underlying211
 a23:=Tryz.isAgg211
 z23:=Tryz.sizeOf211
 v23:=Tryz.zeroValue211
 t26:=underlying3
 a26:=Tryz.isAgg3
 z26:=Tryz.sizeOf3
 v26:=Tryz.zeroValue3
 t27:=underlying287
 a27:=Tryz.isAgg287
 z27:=Tryz.sizeOf287
 v27:=Tryz.zeroValue287
 t28:=underlying288
 a28:=Tryz.isAgg288
 z28:=Tryz.sizeOf288
 v28:=Tryz.zeroValue288
 t33:=underlying207
 a33:=Tryz.isAgg207
 z33:=Tryz.sizeOf207
 v33:=Tryz.zeroValue207}

end
section
open Go Go.RowKit vA
structure jv (es:Array oJ)(f:Int->Option Value):Prop where
 keys:∀(i:Nat) e,es[i]?=some e->∃k l,f k=some l/\e.key=.int .i64 (k:Int)/\e.val=l
 all:∀k l,f k=some l->∃(i:Nat) (e:oJ),es[i]?=some e/\e.key=.int .i64 (k:Int)/\e.val=l
 inj:∀(i j:Nat) e e',es[i]?=some e->es[j]?=some e'->e.key=e'.key->i=j
theorem jv.empty:jv #[] (λ_=>none):=⟨λi e h=>by simp at h,λk l h=>by simp at h,λi j e g h=>by simp at h⟩
theorem XB {k m:Int}(h:mG .i64 k=.int .i64 m):k=m:=by injection h
def vj (f:Int->Option Value)(k:Int)(x:Option Value):Int->Option Value:=λm=>if m=k then x else f m
section
variable {es:Array oJ}{f:Int->Option Value}
theorem jv.find (h:jv es f)(k:Int):(ny (.int .i64) (.int .i64 (k:Int)) es.toList 0=some none/\f k=none) ∨
  ∃j e l,ny (.int .i64) (.int .i64 (k:Int)) es.toList 0=some (some (j,e.val))/\es[j]?=some e/\e.key=.int .i64 (k:Int)/\f k=some l/\e.val=l:=by
 have H:dJ (.int .i64) (.int .i64 (k:Int)):=rfl;have B:∀x∈es.toList,dJ (.int .i64) x.key:=by intro x I;obtain⟨i,C,rfl⟩:=yG I;obtain⟨q,l,_,h2,_⟩:=h.keys i es.toList[i] (by rw[<-yD];exact zM C);rw[h2];rfl
 rcases MapKept.findNow_spec H es.toList 0 B with⟨h1,h2⟩|⟨j,e,h1,h2,h3⟩
 ·left;refine⟨h1,?_⟩;cases hf:f k with
  | none=>rfl
  | some l =>
   obtain⟨i,e,g,p,_⟩:=h.all k l hf;exact absurd p (h2 e (Array.mem_toList_iff.2 (gn g)))
 ·right;have g:es[j]?=some e:=by rw[<-yD];exact h2
  obtain⟨q,l,p,u,A⟩:=h.keys j e g;have:q=k:=XB (u.symm.trans h3);subst this;exact⟨j,e,l,by simpa using h1,g,h3,p,A⟩
theorem jv.push (h:jv es f){k:Int}(K:f k=none)(l:Value)(born:Nat):jv (es.push {key:=.int .i64 (k:Int),val:=l,born:=born}) (vj f k (some l)):=by
 refine⟨λi e g => ?_,λm C B => ?_,λi j e A u p I => ?_⟩
 ·rw[gO] at g;split at g
  ·injection g with g
   subst g;exact⟨k,l,by simp[vj],rfl,rfl⟩
  ·obtain⟨m,C,h1,h2,H⟩:=h.keys i e g;refine⟨m,C,?_,h2,H⟩;have:m≠k:=λe=>by subst e;rw[K] at h1;cases h1
   simp[vj,this,h1]
 ·by_cases e:m=k
  ·subst e;simp[vj] at B;subst B;exact⟨es.size,{key:=.int .i64 (m:Int),val:=l,born:=born},by simp,rfl,rfl⟩
  ·simp only[vj,if_neg e] at B;obtain⟨i,A,h1,h2,H⟩:=h.all m C B;refine⟨i,A,?_,h2,H⟩;have:=(zK.1 h1).1;rw[gO,if_neg (by omega)];exact h1
 ·rw[gO] at u p;have L:∀(q:Nat) (e:oJ),es[q]?=some e->e.key≠.int .i64 (k:Int):=λq e g hq=>by obtain⟨m,C,h1,h2,_⟩:=h.keys q e g;have:=XB (h2.symm.trans hq);subst this;rw[K] at h1;cases h1
  split at u
  ·split at p
   ·omega
   ·injection u with u
    subst u;exact absurd I.symm (L j A p)
  ·split at p
   ·injection p with p
    subst p;exact absurd I (L i e u)
   ·exact h.inj i j e A u p I
theorem jv.modify (h:jv es f){k:Int}{i:Nat}{e:oJ}(B:es[i]?=some e)(K:e.key=.int .i64 (k:Int))(l:Value):jv (es.modify i λe => {e with key:=.int .i64 (k:Int),val:=l}) (vj f k (some l)):=by
 have C:∀j,(es.modify i λe => {e with key:=.int .i64 (k:Int),val:=l})[j]?=if i=j then some {e with key:=.int .i64 (k:Int),val:=l} else es[j]?:=λj=>by
  rw[dU];split
  ·rename_i g
   subst g;rw[B];rfl
  ·rfl
 refine⟨λj A p => ?_,λm L H => ?_,λa b u O ha U X => ?_⟩
 ·rw[C] at p;split at p
  ·injection p with p
   subst p;exact⟨k,l,by simp[vj],rfl,rfl⟩
  ·rename_i g
   obtain⟨m,L,h1,h2,I⟩:=h.keys j A p;refine⟨m,L,?_,h2,I⟩;have:m≠k:=λq=>by subst q;exact g (h.inj i j e A B p (by rw[K,h2]))
   simp[vj,this,h1]
 ·by_cases q:m=k
  ·subst q;simp[vj] at H;subst H;exact⟨i,_,by rw[C,if_pos rfl],rfl,rfl⟩
  ·simp only[vj,if_neg q] at H;obtain⟨j,A,h1,h2,I⟩:=h.all m L H;have g:i≠j:=λg=>by
    subst g;rw[B] at h1;injection h1 with h1
    subst h1;exact q (XB (h2.symm.trans K))
   exact⟨j,A,by rw[C,if_neg g];exact h1,h2,I⟩
 ·have N:∀(a:Nat) (u:oJ),(es.modify i λe => {e with key:=.int .i64 (k:Int),val:=l})[a]?=some u->∃M:oJ,es[a]?=some M/\M.key=u.key:=λa u ha=>by
   rw[C] at ha;split at ha
   ·rename_i hia
    subst hia;injection ha with ha
    subst ha;exact⟨e,B,K⟩
   ·exact⟨u,ha,rfl⟩
  obtain⟨x,Z,aA⟩:=N a u ha;obtain⟨y,hy,aB⟩:=N b O U;exact h.inj a b x y Z hy (by rw[aA,aB,X])
end
section
variable {ρ:py->Value}{w:World}{o:oM}{x y z:py}
variable {r clock:Nat}{k:Int}{es:Array oJ}{f:Int->Option Value}{l:Value}
theorem Vq {w:Value}(q:oH es clock){j:Nat}{e:oJ}(p:es[j]?=some e)(h:e.key=w)(v:Value):oH (es.modify j λe => {e with key:=w,val:=v}) clock :=
 MapKept.stamped_modify q j (λe => {e with key:=w,val:=v}) (λe _=>rfl) (λu _ g=>by rw[p] at g;injection g with g;subst g;exact h.symm)
theorem uB (g:jv es f)(A:oH es clock)(H:zw w r es clock)(u:o.op=.mapUpdate 211 x y z)(h1:ρ x=.map (some r))(h2:ρ y=.int .i64 (k:Int))(p:ρ z=l):∃es' clock',(oB ρ o).run Y3 w=.ok .skip (setMap w r es' clock')/\jv es' (vj f k (some l))/\oH es' clock':=by
 have q:dJ (.int .i64) (.int .i64 (k:Int)):=rfl;have hc:(gG false 10000 3 (.int .i64 (k:Int))).run Y3 w=.ok () w:=dg underlying3 q false 9999;have h:w.heap[r]?=some (.map es clock):=H;rcases g.find k with⟨hf,hn⟩|⟨j,e,l0,hf,hj,hek,_,_⟩
 ·refine⟨_,clock+1,?_,g.push hn l clock,MapKept.stamped_push A λx I B=>by
   obtain⟨i,C,rfl⟩:=yG I;obtain⟨m,K,h1,h2,_⟩:=g.keys i es.toList[i] (by rw[<-yD];exact zM C);have:=XB (h2.symm.trans B);subst this;rw[hn] at h1
   cases h1⟩
  simp[oB,u,h1,h2,p,gM,om underlying211,oX h,hc,oq underlying3 hf,dP _ h,pv,setMap]
 ·refine⟨_,clock,?_,g.modify hj hek l,Vq A hj hek (l)⟩;simp[oB,u,h1,h2,p,gM,om underlying211,oX h,hc,oq underlying3 hf,hj,hek,MapKept.run_keyThatStays q,dP _ h,pv,setMap]
end
section
variable {es:Array oJ}{f:Int->Option Value}
end
section
variable {ρ:py->Value}{w:World}{o:oM}{x y z:py}{r clock:Nat}{k:Int}{es:Array oJ}{f:Int->Option Value}{T E:oD}
theorem Nn {l:Value}(q:Y3.underlying T=some (.map 3 E))(g:jv es f)(B:oH es clock)(I:zw w r es clock)(A:o.op=.mapUpdate T x y z)(h1:ρ x=.map (some r))(h2:ρ y=.int .i64 k)(p:ρ z=l):∃es' clock',(oB ρ o).run Y3 w=.ok .skip (setMap w r es' clock')/\jv es' (vj f k (some l))/\oH es' clock':=by
 have u:dJ (.int .i64) (.int .i64 k):=rfl;have hc:(gG false 10000 3 (.int .i64 k)).run Y3 w=.ok () w:=dg underlying3 u false 9999;have h:w.heap[r]?=some (.map es clock):=I;rcases g.find k with⟨hf,hn⟩|⟨j,e,l0,hf,hj,hek,_,_⟩
 ·refine⟨_,clock+1,?_,g.push hn l clock,MapKept.stamped_push B λx K C=>by
   obtain⟨i,H,rfl⟩:=yG K;obtain⟨m,L,h1,h2,_⟩:=g.keys i es.toList[i] (by rw[<-yD];exact zM H);have:=XB (h2.symm.trans C);subst this;rw[hn] at h1
   cases h1⟩
  simp[oB,A,h1,h2,p,gM,om q,oX h,hc,oq underlying3 hf,dP _ h,pv,setMap]
 ·refine⟨_,clock,?_,g.modify hj hek l,Vq B hj hek (l)⟩;simp[oB,A,h1,h2,p,gM,om q,oX h,hc,oq underlying3 hf,hj,hek,MapKept.run_keyThatStays u,dP _ h,pv,setMap]
theorem Kw {z0 v:Value}(h:Y3.underlying T=some (.map 3 E))(C:(zeroValue E).run Y3 w=.ok z0 w)(u:jv es f)(B:zw w r es clock)(g:(f k).getD z0=v)(q:o.op=.lookup T x y false)(h1:ρ x=.map (some r))(h2:ρ y=.int .i64 k):(oB ρ o).run Y3 w=.ok (.value v) w:=by
 subst g;have A:dJ (.int .i64) (.int .i64 k):=rfl;have hc:(gG es.isEmpty 10000 3 (.int .i64 k)).run Y3 w=.ok () w:=dg underlying3 A _ 9999;have p:w.heap[r]?=some (.map es clock):=B;rcases u.find k with⟨hf,hn⟩|⟨j,e,l0,hf,hj,hek,hfk,g⟩
 ·rw[hn];simp[oB,q,h1,h2,gE,om h,oX p,hc,oq underlying3 hf,C,pv]
 ·rw[hfk];rw[g] at hf;simp[oB,q,h1,h2,gE,om h,oX p,hc,oq underlying3 hf,pv]
theorem uC {K:oD}(e:Y3.underlying T=some (.map K E))(h:zw w r es clock)(j:o.op=.call {callee:=.builtin .len,args:=#[x],argTypes:=#[T]})(h1:ρ x=.map (some r)):(oB ρ o).run Y3 w=.ok (.value (.int .i64 (es.size:Int))) w:=by
 have g:Y3.underlying T=some (.map (Y3.mapKeyOf T) (Y3.mapElemOf T)):=by unfold Program.mapKeyOf Program.mapElemOf;rw[e]
 have p:=run_len_map (P:=Y3) w T o.type r es clock g h;simp only[oB,j,resolve,invoke,builtin,oY,oU,oO,zI,zJ,zN,h1,p];rfl
end
section
variable {ρ:py->Value}{w:World}{o:oM}{x y z:py}{r clock:Nat}{k:Int}{es:Array oJ}{f:Int->Option Value}
end
end
section
open Go Go.RowKit vA Go.Maps Go.Sort Go.Shelf
attribute [local go_sem] Oper.semAt_some
def xL (f:Int->Option Value)(many:Nat):List Nat:=(List.range many).filter λk=>(f (k:Int)).isSome
theorem jD {f:Int->Option Value}{many k:Nat}:k∈xL f many↔k<many/\(f (k:Int)).isSome=true:=by simp[xL]
theorem ZV (f:Int->Option Value)(many:Nat):(xL f many).Pairwise (· < ·):=List.pairwise_lt_range.filter _
theorem YU (f:Int->Option Value)(many:Nat):(xL f many).Nodup:=(ZV f many).imp λh=>Nat.ne_of_lt h
theorem Zv (f:Int->Option Value)(many:Nat):(xL f many).length<=many:=zT (List.length_filter_le _ _) (by simp)
def tN:Value->Option (DataW Unit×List MemPlace):=λ_=>some (.nil,[])
def Xn (f:Int->Option Value)(many:Nat):Prop:=∀k v,f k=some v->0<=k/\k<(many:Int)
theorem jv.key {es:Array oJ}{f:Int->Option Value}{many:Nat}(h:jv es f)(p:Xn f many):∀e∈es.toList,∃k:Nat,k<many/\(f (k:Int)).isSome=true/\e.key=.int .i64 (k:Int):=λe g=>by
 obtain⟨i,j,rfl⟩:=yG g;obtain⟨k,l,h1,h2,_⟩:=h.keys i es.toList[i] (by rw[<-yD];exact zM j);obtain⟨q,u⟩:=p k l h1;have e:(k.toNat:Int)=k:=by omega
 exact⟨k.toNat,by omega,by rw[e,h1];rfl,by rw[e];exact h2⟩
def Ct (e:oJ):Int:=match e.key with | .int _ k=>k|_=>0
theorem ZW {e:oJ}{k:Int}(h:e.key=.int .i64 k):Ct e=k:=by unfold Ct;rw[h]
theorem jv.perm {es:Array oJ}{f:Int->Option Value}{many:Nat}(h:jv es f)(q:Xn f many):(es.toList.map Ct).Perm ((xL f many).map λk:Nat=>(k:Int)):=by
 refine(List.perm_ext_iff_of_nodup ?_ ?_).2 λk => ?_
 ·rw[List.Nodup,List.pairwise_map];refine List.pairwise_iff_getElem.2 λi j A B K e => ?_
  obtain⟨a,_,_,ha⟩:=h.key q _ (qI A);obtain⟨b,_,_,u⟩:=h.key q _ (qI B)
  have:=h.inj i j es.toList[i] es.toList[j] (by rw[<-yD];exact zM A) (by rw[<-yD];exact zM B) (by
   rw[ZW ha,ZW u] at e
   rw[ha,u,e])
  omega
 ·rw[List.Nodup,List.pairwise_map];exact(ZV f many).imp λh e=>by omega
 ·constructor
  ·intro p;obtain⟨e,H,rfl⟩:=qP.1 p;obtain⟨a,h1,h2,g⟩:=h.key q e H;rw[ZW g];exact qP.2 ⟨a,jD.2 ⟨h1,h2⟩,rfl⟩
  ·intro p;obtain⟨a,ha,rfl⟩:=qP.1 p;obtain⟨_,h2⟩:=jD.1 ha;obtain⟨v,I⟩:=Option.isSome_iff_exists.1 h2;obtain⟨i,e,g,C,_⟩:=h.all (a:Int) v I;refine qP.2 ⟨e,Array.mem_toList_iff.2 (gn g),?_⟩;exact ZW C
theorem AZ {e:oJ}{k:Nat}(g:e.key=.int .i64 (k:Int))(hl:k<100000):WideElems.rd Y3 3 tN e=some (.int .i64 (k:Int),.nil):=by
 have h:keyOf Y3 3 e.key=some (.int .i64 (k:Int)):=by rw[g];exact Maps.keyOf_int_mk underlying3 (by simp[Lit.wf,IntKind.min,IntKind.max,IntKind.signed,IntKind.bits];omega)
 unfold WideElems.rd;rw[h];rfl
theorem Ce {w:World}{r many clock:Nat}{es:Array oJ}{f:Int->Option Value}(H:zw w r es clock)(j:jv es f)(K:oH es clock)(q:Xn f many)(C:many<=40000):∃g,w.ownsMap Y3 3 tN r many g/\Maps.size g<=many/\(intKeys g).Perm ((xL f many).map λk:Nat=>(k:Int)):=by
 have u:=j.perm q;have h:es.size<=many:=by have h1:=u.length_eq;rw[qE,qE,zW] at h1;have:=Zv f many;omega
 have A:∀x∈es.toList,∃k:Nat,x.key=.int .i64 (k:Int)/\WideElems.rd Y3 3 tN x=some (.int .i64 (k:Int),.nil):=λx e=>by obtain⟨k,L,_,B⟩:=j.key q x e;exact⟨k,B,AZ B (by omega)⟩
 have I:es.size<=oo:=zT (zT h C) (by decide);refine⟨.map ((es.toList.map (WideElems.rg Y3 3 tN)).foldr DataW.insert []),⟨es,clock,H,⟨I,K,λx e=>by obtain⟨k,_,h2⟩:=A x e;exact⟨_,h2⟩⟩,h,rfl⟩,?_,?_⟩
 ·simp only[Maps.size];rw[length_read];exact h
 ·refine List.Perm.trans ?_ u;show (((es.toList.map (WideElems.rg Y3 3 tN)).foldr DataW.insert []).map λp=>Go.intOf p.1).Perm _
  refine((WideShapes.sorted_perm _).map _).trans ?_;rw[List.map_map];refine List.Perm.of_eq (List.map_congr_left λx e => ?_);obtain⟨k,h1,h2⟩:=A x e;simp only[Function.comp];rw[WideElems.rg_of h2,ZW h1];rfl
theorem Lb (f:Int->Option Value)(many:Nat):((xL f many).map λk:Nat=>(k:Int)).mergeSort leI=(xL f many).map λk:Nat=>(k:Int) :=
 List.mergeSort_of_pairwise (List.pairwise_map.2 ((ZV f many).imp λh=>by simp[leI];omega))
section
variable {P:Program}{w w':World}{ops:Array oM}{rest:List oM}{o:oM}{a:oy}{Q:Exit->oy->World->Prop}{n:Nat}
theorem Yr {v:Value}(e:o.guard=none)(g:(oB a.eval o).run P w=.ok (.value v) w')(h:nH oS n P ops Q rest (a.put o.dst v) w'):nH oS n P ops Q (o::rest) a w:=by
 unfold nH;rw[if_pos (by simp[Region.wanted,e])];refine⟨λ_ _=>trivial,?_⟩;show Oper.uponIn _ _ _ _ _ _ _ ((oB a.eval o).run P w)
 rw[g];exact h
end
section
variable {ρ:py->Value}{w:World}{o:oM}{x y:py}{r clock:Nat}{k:Int}{es:Array oJ}{f:Int->Option Value}
theorem EN (p:jv es f)(u:zw w r es clock)(h:o.op=.lookup 211 x y false)(h1:ρ x=.map (some r))(h2:ρ y=.int .i64 k):(oB ρ o).run Y3 w=.ok (.value ((f k).getD (.slice none 0 0))) w:=by
 have q:dJ (.int .i64) (.int .i64 k):=rfl;have hc:(gG es.isEmpty 10000 3 (.int .i64 k)).run Y3 w=.ok () w:=dg underlying3 q _ 9999;have g:w.heap[r]?=some (.map es clock):=u;have A:(zeroValue 129).run Y3 w=.ok (.slice none 0 0) w:=by simp[go_sem]
 rcases p.find k with⟨hf,hn⟩|⟨j,e,l0,hf,hj,hek,hfk,hv⟩
 ·rw[hn];simp[oB,h,h1,h2,gE,om underlying211,oX g,hc,oq underlying3 hf,A,pv]
 ·rw[hfk];rw[hv] at hf;simp[oB,h,h1,h2,gE,om underlying211,oX g,hc,oq underlying3 hf,pv]
end
end
section
open Go Go.RowKit vA
section
variable {ρ:py->Value}{w:World}{o:oM}{x y z:py}{r clock:Nat}{k:Int}{es:Array oJ}{f:Int->Option Value}
end
theorem YH.grow {w w':World}{l d:Nat}{fr pg:Int}{S:Zz}(h:YH w l d fr pg S)(hB:ph w.heap.size w w'):YH w' l d fr pg S:=by
 obtain⟨g,A,c,p,e,hF,j⟩:=h;exact⟨g,A,c,p,e.below hB e.lt,hF.grow hB,j⟩
section
variable {ρ:py->Value}{w:World}{o:oM}{x y z:py}
end
theorem RU {w:World}{l d:Nat}{fr pg:Int}{S:Zz}(h:YH w l d fr pg S):pr Y3 108 #[.pointer (some ⟨l,0,none⟩)] w λe w'=>e=Y0 (.int .i64 S.sz)/\w=w':=by
 obtain⟨_,A,c,j,g,_,_⟩:=h;exact TA g
end
section
open Go Go.RowKit vA Go.Shelf
attribute [local go_sem] Oper.semAt_some
def Zf (w:World)(f:Int->Option Value)(Y:Int->Option Y4):Prop :=
 ∀k:Int,(f k=none/\Y k=none)∨∃A c y,f k=some (.slice A 512 c)/\Y k=some y/\y.length=512/\qq w w.heap.size A c y
theorem Zf.grow {w w':World}{f:Int->Option Value}{Y:Int->Option Y4}(h:Zf w f Y)(hB:ph w.heap.size w w'):Zf w' f Y:=λk=>by
 rcases h k with h1|⟨A,c,y,h1,h2,e,g⟩
 ·exact .inl h1
 ·exact .inr ⟨A,c,y,h1,h2,e,(g.below hB).more hB.size⟩
theorem Zf.keys {w:World}{f:Int->Option Value}{Y:Int->Option Y4}(h:Zf w f Y){many:Nat}(g:∀k y,Y k=some y->0<=k/\k<(many:Int)):Xn f many:=λk v e=>by
 rcases h k with⟨h1,_⟩|⟨A,c,y,h1,h2,_⟩
 ·rw[h1] at e;cases e
 ·exact g k y h2
section
variable {ρ:py->Value}{w:World}{o:oM}{x y:py}{r clock:Nat}{k:Int}{es:Array oJ}{f:Int->Option Value}
theorem PC {v:Value}(e:jv es f)(g:zw w r es clock)(hf:f k=some v)(h:o.op=.lookup 211 x y false)(h1:ρ x=.map (some r))(h2:ρ y=.int .i64 k):(oB ρ o).run Y3 w=.ok (.value v) w:=by
 have:=EN e g h h1 h2;rw[hf] at this;exact this
end
def Sh (x:Nat×(Y5×Nat)):Y7:=#[.int .i64 (x.1:Int),.slice x.2.1 512 x.2.2]
end
section
open Go Go.RowKit vA
structure ug (fr pg:Int)(G:Nat->Y4)(S:Zz)(i:Nat):Prop where
 li:∃hz,LI G S hz
 sr:S.sr<=i+1
 ep:S.ep<=i+1
 fs:(S.fs.length:Int)<=fr
 sz:0<=S.sz/\S.sz<=pg
theorem ug.y {fr pg:Int}{G:Nat->Y4}{S:Zz}{i:Nat}(h:ug fr pg G S i):∀x∈S.fs,x.y.length=512:=λx p=>by
 obtain⟨q,g⟩:=h.li;obtain⟨j,e,rfl⟩:=yG p;exact((Kb _ _ _ _ _).1 (g.on.fr.ok j e).2.2.1).1
theorem ug.begun {fr pg:Int}(h1:0<=fr)(h2:0<=pg):ug fr pg (laid (λ_=>qx) (JD 1 (kg 1 1 0 0) 1)) ⟨1,1,0,[]⟩ 0 :=
 ⟨⟨0,LI.begun⟩,zG _,zG _,h1,⟨dy _,h2⟩⟩
section
variable {fr pg z x:Int}{G:Nat->Y4}{S S':Zz}{i n:Nat}{xs:Nat->Int×Y5×Nat}{pw:Nat->Int×Y4}{s':DS}
end
def VM (l:Nat)(fr pg:Int):Y7:=#[.pointer (some ⟨l,0,none⟩),.int .i64 fr,.int .i64 pg]
theorem YY {w:World}{f l:Nat}{fr pg:Int}(g:za w f 119 (VM l fr pg)):pr Y3 107 #[.pointer (some ⟨f,0,none⟩)] w λe w'=>e=Y0 (.bool false)/\w=w':=by
 have c0:w.cell? ⟨f,0,none⟩=some (.pointer (some ⟨l,0,none⟩)):=by rw[g.cell];rfl
 go_enter func107,ntmps107
 go_wp2;go_ret;exact⟨rfl,rfl⟩
theorem TU {w:World}{f l d:Nat}{fr pg:Int}{S:Zz}(g:za w f 119 (VM l fr pg))(p:YH w l d fr pg S):pr Y3 64 #[.pointer (some ⟨f,0,none⟩)] w λe w'=>e=Y0 (.int .i64 S.sz)/\w=w':=by
 have h:=YY g;have j:=RU p;have c0:w.cell? ⟨f,0,none⟩=some (.pointer (some ⟨l,0,none⟩)):=by rw[g.cell];rfl
 go_enter func64,ntmps64
 go_wp2_with (first
  | (go_at_call 107;refine h.mono ?_;rintro e w' ⟨rfl,rfl⟩)
  | (go_at_call 108;refine j.mono ?_;rintro e w' ⟨rfl,rfl⟩))
 go_ret;exact⟨rfl,rfl⟩
end
section
open Go Go.RowKit vA Go.Shelf
attribute [local go_sem] Oper.semAt_some
section
variable {F:Fence}{n:Nat}{P:Program}{ops:Array oM}{Q:Exit->oy->World->Prop}{o:oM}{rest:List oM}{a:oy}{w w':World}
theorem Nv {T:oD}{x y z:py}(p:o.guard=none)(e:o.op=.mapUpdate T x y z)(q:(oB a.eval o).run P w=.ok .skip w')(h:nH F n P ops Q rest (a.put o.dst ou) w'):nH F n P ops Q (o::rest) a w :=
 gm p λu g=>by unfold Oper.wpIn;refine⟨by simp[mg,e],?_⟩;rw[nu F _ _ (by rw[e];intro c j;cases j),q];exact g _ _ h
theorem EM {ρ:py->Value}(e:o.op=.makeMap 211 none):(oB ρ o).run Y3 w=.ok (.value (.map (some w.heap.size))) (w.alloc (.map #[] 0)):=by
 unfold oB;simp only[e,Option.map_none,run_makeMap,oY,oO,oU]
theorem EU {r clock:Nat}{k:Int}{es:Array oJ}{f:Int->Option Value}{l:Value}(A:o.guard=none)(x y z:py)(j:o.op=.mapUpdate 211 x y z)(h1:a.eval x=.map (some r))(h2:a.eval y=.int .i64 k)(p:a.eval z=l)(q:jv es f)(H:oH es clock)(g:zw w r es clock)
  (h:∀es' e w',zw w' r es' e->jv es' (vj f k (some l))->oH es' e->w.grownBy w' (some r)->nH F n Y3 ops Q rest (a.put o.dst ou) w'):nH F n Y3 ops Q (o::rest) a w:=by
 obtain⟨es',e,B,u,C⟩:=uB (ρ:=a.eval) (o:=o) q H g j h1 h2 p;exact Nv A j B (h es' e _ (g.set _ _) u C (vM g _ _))
end
def DC (W:World)(fm:Int->Option Value)(Y:Int->Option Y4)(ks:List Nat):Prop :=
 ∀k:Int,((∀m∈ks,(m:Int)≠k)/\fm k=none)∨(∃m∈ks,(m:Int)=k)/\∃A c y,fm k=some (.slice A 512 c)/\Y k=some y/\y.length=512/\qq W W.heap.size A c y
theorem DC.add {X Z:World}{r:Nat}{es:Array oJ}{clock:Nat}{B:Int->Option Value}{Y:Int->Option Y4}{ks:List Nat}{k:Nat}{A:Y5}{c:Nat}{y:Y4}(h:DC X B Y ks)(p:zw X r es clock)(M:X.grownBy Z (some r))(K:Y (k:Int)=some y)(hy:y.length=512)(O:qq X X.heap.size A c y):DC Z (vj B (k:Int) (some (.slice A 512 c))) Y (ks++[k]):=by
 have I:ze (λj=>j=r) X Z:=ze.grown M (λq e=>by injection e with e;exact .inl e.symm)
 have H:∀{A:Y5} {c:Nat} {y:Y4},qq X X.heap.size A c y->qq Z Z.heap.size A c y:=λ{A c y} hi=>I.inB hi (λg o e C N=>by
  obtain⟨g',o',u,_,hc⟩:=hi.rC C;rw[e] at u;injection u with u
  injection u with e1 e2
  subst e1 N;have L:=hc 0 C;have U:X.heap[g]?=some (.map es clock):=p
  simp[nD,U] at L)
 intro q;unfold vj
 by_cases hq:q=(k:Int)
 ·subst hq;exact .inr ⟨⟨k,by simp,rfl⟩,A,c,y,by rw[if_pos rfl],K,hy,H O⟩
 ·rw[if_neg hq];rcases h q with⟨h1,h2⟩|⟨⟨m,hm1,hm2⟩,A2,c2,y2,h2,h3,h4,h5⟩
  ·refine .inl ⟨λm p e => ?_,h2⟩;rcases qA.1 p with p|p
   ·exact h1 m p e
   ·rw[qK] at p;subst p;exact hq e.symm
  ·exact .inr ⟨⟨m,by simp[hm1],hm2⟩,A2,c2,y2,h2,h3,h4,H h5⟩
theorem zw.rh {B r clock:Nat}{es:Array oJ}{X Z:World}{row:Option Nat}(p:r<B)(h:zw X r es clock)(g:X.grownBy Z row)(j:∀q,row=some q->B<=q):zw Z r es clock :=
 h.grown g (λe=>by have:=j _ e.symm;omega)
end
section
open Go Go.RowKit vA



end
section
open Go Go.RowKit vA Go.Shelf
attribute [local go_sem] Oper.semAt_some
end
section
open Go Go.RowKit vA



structure Vc (W:World)(B:Nat)(A1:Y5)(n:Nat)(xs:Nat->Int×Y5×Nat)(pw:Nat->Int×Y4):Prop where
 ge:∀g o,A1=some ⟨g,o,none⟩->B<=g
 row:1<=n->∃g o,A1=some ⟨g,o,none⟩/\Tw W g o n xs/\g<W.heap.size
 rV:∀k,k<n->(pw k).1=(xs k).1/\(pw k).2.length=512/\qq W W.heap.size (xs k).2.1 (xs k).2.2 (pw k).2
 tys:∀k,k<n->Kp W (xs k).2.1
theorem Vc.grow {W W':World}{B:Nat}{A:Y5}{n:Nat}{xs:Nat->Int×Y5×Nat}{pw:Nat->Int×Y4}(h:Vc W B A n xs pw)(hB:ph W.heap.size W W'):Vc W' B A n xs pw:=by
 refine⟨h.ge,λh1 => ?_,λk u => ?_,λk u=>(h.tys k u).grow hB⟩
 ·obtain⟨g,o,e,K,C⟩:=h.row h1;exact⟨g,o,e,λj I q v hq=>(hB.cell (p:=⟨g,o+j*2+q,none⟩) C).trans (K j I q v hq),zO C hB.size⟩
 ·obtain⟨h1,h2,H⟩:=h.rV k u;exact⟨h1,h2,(H.below hB).more hB.size⟩




section
variable {fr pg z x:Int}{G:Nat->Y4}{S S':Zz}{i n P:Nat}{xs:Nat->Int×Y5×Nat}{pw:Nat->Int×Y4}{s':DS}
end
structure Kt (W0:World)(d f l many:Nat)(fr pg:Int)(s:DS)(S:Zz)(W:World):Prop where
 up:ph W0.heap.size W0 W
 dk:DkS W d many s
 lg:YH W l d fr pg S
 fb:za W f 119 (VM l fr pg)
 gd:W0.heap.size<=d
 gl:W0.heap.size<=l
section
variable {W0 W W':World}{d f l many:Nat}{fr pg:Int}{s s':DS}{S S':Zz}
theorem Kt.grow (h:Kt W0 d f l many fr pg s S W)(hB:ph W.heap.size W W'):Kt W0 d f l many fr pg s S W' :=
 ⟨h.up.trans (hB.mono h.up.size),h.dk.grow hB,h.lg.grow hB,h.fb.below hB h.fb.lt,h.gd,h.gl⟩
theorem Kt.apart (h:Kt W0 d f l many fr pg s S W):¬ (f=d∨f=l):=λe=>by
 obtain⟨q,p,c',g,_⟩:=yR.has h.dk;obtain⟨_,A,c,u,j,_⟩:=h.lg;rcases e with rfl|rfl
 ·exact zo h.fb g (by decide) rfl
 ·exact zo h.fb j (by decide) rfl
theorem Kt.ne (h:Kt W0 d f l many fr pg s S W){g:Nat}{T:oD}{cs:Y7}(j:za W g T cs)(h1:T≠114)(h2:T≠171):¬ (g=d∨g=l):=λe=>by
 obtain⟨B,u,c',p,_⟩:=yR.has h.dk;obtain⟨_,A,c,C,q,_⟩:=h.lg;rcases e with rfl|rfl
 ·exact zo j p h1 rfl
 ·exact zo j q h2 rfl
variable {G:Nat->Y4}{i P:Nat}
end
theorem Re (w:World)(d:Nat)(fr pg:Int)(Q:Nat->World->Prop)(H:pr Y3 62 #[.pointer (some ⟨d,0,none⟩),.agg #[.int .i64 fr,.int .i64 pg]] (w.alloc (.cells #[.int .i64 fr,.int .i64 pg] 74)) λe w'=>∃l,e=Y0 (.tuple #[.pointer (some ⟨l,0,none⟩),.int .i64 0])/\za w' w.heap.size 74 #[.int .i64 fr,.int .i64 pg]/\Q l w'):pr Y3 37 #[.pointer (some ⟨d,0,none⟩),.agg #[.int .i64 fr,.int .i64 pg]] w λe w'=>∃l h,e=Y0 (.tuple #[.pointer (some ⟨h.heap.size,0,none⟩),.int .i64 0])/\Q l h/\w'=h.alloc (.cells (VM l fr pg) 119):=by
 have j:=za.new w 74 #[.int .i64 fr,.int .i64 pg]
 go_enter func37,ntmps37
 go_wp2_with (first
  | (refine xA (g:=w.heap.size) Zs (by first|exact p|exact j) ?_)
  | (go_at_call 62;refine H.mono ?_;rintro e h ⟨l,rfl,p,q⟩))
 exact oE (oN rfl _ _ _) rfl ⟨l,h,rfl,q,rfl⟩
def XI (W:World)(k:Nat):Prop:=(∃es c,W.heap[k]?=some (.map es c))∨(∃T cs,za W k T cs/\cs.size<=64/\∀n,cs[0]? ≠ some (.int .u64 n))∨∃ds,W.heap[k]?=some (.deferred ds)
theorem XI.rD {W:World}{n c:Nat}{A:Y5}{l:Y4}(h:qq W n A c l)(u:64<l.length){g o:Nat}(e:A=some ⟨g,o,none⟩):¬ XI W g:=by
 obtain⟨H,o',j,_,hc⟩:=h.rC (by omega);rw[e] at j;injection j with j
 injection j with e1 e2
 subst e1 e2;have p:=hc 64 u;rintro(⟨es,c',q⟩|⟨T,cs,B,hs,_⟩|⟨C,q⟩)
 ·simp[nD,q] at p
 ·rw[B.cell,ov (by omega)] at p;cases p
 ·simp[nD,q] at p
theorem qq.rR {Mu:Nat->Prop}{W W':World}{A:Y5}{c:Nat}{l:Y4}(h:qq W W.heap.size A c l)(j:64<l.length)(p:ze Mu W W')(q:∀k,Mu k->XI W k):qq W' W'.heap.size A c l :=
 p.inB h (λg o e _ u=>XI.rD h j e (q g u))
theorem YH.rR {Mu:Nat->Prop}{W W':World}{l d:Nat}{fr pg:Int}{S:Zz}(h:YH W l d fr pg S)(O:∀x∈S.fs,x.y.length=512)(B:ze Mu W W')(C:∀k,Mu k->XI W k)(hl:¬ Mu l):YH W' l d fr pg S:=by
 obtain⟨K,A,c,j,L,hF,I⟩:=h;have U:∀v∈j,v.1.y.length=512:=λv p=>O v.1 (by rw[<-I];exact List.mem_map_of_mem p)
 refine⟨K,A,c,j,B.blk L hl,⟨hF.row.si B (λg o e M => ?_),hF.out,hF.nil,λv p=>⟨(hF.rV v p).1.rR (by have:=U v p;omega) B C,(hF.rV v p).2⟩⟩,I⟩;subst e;have N:=(hF.out g o rfl).2;subst N;have hn:j≠[]:=λe=>by have:=hF.nil e;cases this
 have h1:0<j.length:=List.length_pos_iff.2 hn;obtain⟨X,o',u,_,Z⟩:=hF.row.rC (by omega);injection u with u
 injection u with e1 e2
 subst e1 e2;have H:=hF.row.elem 0 h1;rw[Nw j 0 h1] at H;have q:=H 0 (.int .u64 ((j[0]).1.e:Int)) rfl;rcases C g M with⟨es,c',hmm⟩|⟨T,cs,hb,hs,hne⟩|⟨ds,hmm⟩
 ·simp[nD,hmm] at q
 ·rw[hb.cell] at q;exact hne _ q
 ·simp[nD,hmm] at q
end
section
open Go Go.RowKit vA Go.Shelf Go.Sort
theorem JH {α : Type}[Inhabited α](enc : α -> Value)(w:World)(blk off m:Nat)(dk:Array α)(os:Array Obj):ze (λk=>k=blk) w (sortWorld enc w blk off m dk os):=by
 refine⟨rfl,rfl,rfl,?_,λk g hn => ?_⟩
 ·simp[sortWorld,grow,putRow,mapBlock,Sort.ahead]
 ·have h:k<(w.heap.modify blk (onCells (putCells enc off dk))).size:=by simpa using g
  show ((w.heap.modify blk (onCells (putCells enc off dk)))++os)[k]?=w.heap[k]?
  rw[Array.getElem?_append_left h,dU,if_neg (λe=>hn e.symm)]
end
section
open Go Go.RowKit vA Go.Maps Go.Sort Go.Shelf
def Cq:Go.Shelf.Ren:=⟨fun|8=>241|11=>301|n=>n,fun|26=>3|28=>288|24=>67|0=>0|33=>207|4=>4|n=>n,fun|n=>n⟩
theorem tg:SlLaysZI.n8 Y3 Cq:={
 mixed:=by kernel_rfl
 f8:=⟨Tryz.f241.name,by decide,func241.trans (congrArg some (by kernel_rfl))⟩
 f11:=⟨Tryz.f301.name,by decide,func301.trans (congrArg some (by kernel_rfl))⟩
 t0:=underlying0
 a0:=Tryz.isAgg0
 z0:=Tryz.sizeOf0
 v0:=Tryz.zeroValue0
 t24:=underlying67
 a24:=Tryz.isAgg67
 z24:=Tryz.sizeOf67
 v24:=Tryz.zeroValue67
 t26:=underlying3
 a26:=Tryz.isAgg3
 z26:=Tryz.sizeOf3
 v26:=Tryz.zeroValue3
 t28:=underlying288
 a28:=Tryz.isAgg288
 z28:=Tryz.sizeOf288
 v28:=Tryz.zeroValue288
 i26:=by kernel_rfl}
def KU:Go.Shelf.Ren:=⟨fun|6=>245|15=>304|14=>303|28=>340|29=>341|20=>332|21=>333|22=>334|23=>335|24=>336|25=>337|26=>338|27=>339|46=>364|47=>365|48=>366|49=>367|50=>368|57=>376|n=>n,fun|22=>67|24=>3|25=>267|3=>3|39=>343|0=>0|53=>148|55=>168|4=>4|46=>412|45=>411|50=>102|5=>5|9=>9|66=>436|70=>440|76=>445|77=>446|n=>n,fun|n=>n⟩
theorem uV:SlLaysF.n6 Y3 KU:={
 mixed:=by kernel_rfl
 f6:=⟨Tryz.f245.name,by decide,func245.trans (congrArg some (by kernel_rfl))⟩
 f14:=⟨Tryz.f303.name,by decide,func303.trans (congrArg some (by kernel_rfl))⟩
 f15:=func304.trans (congrArg some (by kernel_rfl))
 f20:=⟨Tryz.f332.name,by decide,func332.trans (congrArg some (by kernel_rfl))⟩
 f21:=⟨Tryz.f333.name,by decide,func333.trans (congrArg some (by kernel_rfl))⟩
 f22:=⟨Tryz.f334.name,by decide,func334.trans (congrArg some (by kernel_rfl))⟩
 f23:=⟨Tryz.f335.name,by decide,func335.trans (congrArg some (by kernel_rfl))⟩
 f24:=⟨Tryz.f336.name,by decide,func336.trans (congrArg some (by kernel_rfl))⟩
 f25:=⟨Tryz.f337.name,by decide,func337.trans (congrArg some (by kernel_rfl))⟩
 f26:=⟨Tryz.f338.name,by decide,func338.trans (congrArg some (by kernel_rfl))⟩
 f27:=⟨Tryz.f339.name,by decide,func339.trans (congrArg some (by kernel_rfl))⟩
 f28:=func340.trans (congrArg some (by kernel_rfl))
 f29:=func341.trans (congrArg some (by kernel_rfl))
 f46:=⟨Tryz.f364.name,by decide,func364.trans (congrArg some (by kernel_rfl))⟩
 f47:=func365.trans (congrArg some (by kernel_rfl))
 f48:=func366.trans (congrArg some (by kernel_rfl))
 f49:=⟨Tryz.f367.name,by decide,func367.trans (congrArg some (by kernel_rfl))⟩
 f50:=⟨Tryz.f368.name,by decide,func368.trans (congrArg some (by kernel_rfl))⟩
 f57:=⟨Tryz.f376.name,by decide,func376.trans (congrArg some (by kernel_rfl))⟩
 t0:=underlying0
 a0:=Tryz.isAgg0
 z0:=Tryz.sizeOf0
 v0:=Tryz.zeroValue0
 t3:=underlying3
 a3:=Tryz.isAgg3
 z3:=Tryz.sizeOf3
 v3:=Tryz.zeroValue3
 t4:=underlying4
 a4:=Tryz.isAgg4
 z4:=Tryz.sizeOf4
 v4:=Tryz.zeroValue4
 t5:=underlying5
 a5:=Tryz.isAgg5
 z5:=Tryz.sizeOf5
 v5:=Tryz.zeroValue5
 t9:=underlying9
 a9:=Tryz.isAgg9
 z9:=Tryz.sizeOf9
 v9:=Tryz.zeroValue9
 t22:=underlying67
 a22:=Tryz.isAgg67
 z22:=Tryz.sizeOf67
 v22:=Tryz.zeroValue67
 a24:=Tryz.isAgg3
 z24:=Tryz.sizeOf3
 t25:=underlying267
 a25:=Tryz.isAgg267
 z25:=Tryz.sizeOf267
 v25:=Tryz.zeroValue267
 t39:=underlying343
 a39:=Tryz.isAgg343
 z39:=Tryz.sizeOf343
 v39:=Tryz.zeroValue343
 t45:=underlying411
 a45:=Tryz.isAgg411
 z45:=Tryz.sizeOf411
 v45:=Tryz.zeroValue411
 t46:=underlying412
 a46:=Tryz.isAgg412
 z46:=Tryz.sizeOf412
 v46:=Tryz.zeroValue412
 t50:=underlying102
 a50:=Tryz.isAgg102
 z50:=Tryz.sizeOf102
 v50:=Tryz.zeroValue102
 t53:=underlying148
 a53:=Tryz.isAgg148
 z53:=Tryz.sizeOf148
 v53:=Tryz.zeroValue148
 t55:=underlying168
 a55:=Tryz.isAgg168
 z55:=Tryz.sizeOf168
 v55:=Tryz.zeroValue168
 t66:=underlying436
 a66:=Tryz.isAgg436
 z66:=Tryz.sizeOf436
 v66:=Tryz.zeroValue436
 t70:=underlying440
 a70:=Tryz.isAgg440
 z70:=Tryz.sizeOf440
 v70:=Tryz.zeroValue440
 t76:=underlying445
 a76:=Tryz.isAgg445
 z76:=Tryz.sizeOf445
 v76:=Tryz.zeroValue445
 t77:=underlying446
 a77:=Tryz.isAgg446
 z77:=Tryz.sizeOf446
 v77:=Tryz.zeroValue446}
end
section
open Go Go.RowKit vA Go.Shelf Go.Sort
theorem DN {α : Type}[Inhabited α]{enc : α -> Value}{w:World}{g off m:Nat}{T:oD}{cs:Y7}(h:za w g T cs)(dk:Array α)(os:Array Obj):za (sortWorld enc w g off m dk os) g T (putCells enc off dk cs):=by
 have j:=h.lt;show ((w.heap.modify g (onCells (putCells enc off dk)))++os)[g]?=_
 rw[Array.getElem?_append_left (by simpa using j),dU,if_pos rfl];have e:w.heap[g]?=some (.cells cs T (0,0)):=h;rw[e];rfl
def Tb (ks:List Int)(x : {k:Int // k∈ks}):Value:=.int .i64 x.val
theorem Sm {ks:List Int}{d:Array {k:Int // k∈ks}}(h:d.toList.Perm ks.attach):(d.toList.map Subtype.val).Perm ks:=by
 have:=h.map Subtype.val
 rwa [List.attach_map_subtype_val] at this
theorem SE (w:World)(g L:Nat)(ks:List Int)(cs:Y7)(B:za w g 3 cs)(hr:∀j (h:j<ks.length),cs[j]?=some (.int .i64 ks[j]))(hl:ks.length<=1000000)(A:Int->Int->Int)(M:SWO (ltOf A))(u:Nat)(H:Y7)(eg:∀args w,(dF u args).run Y3 w=.ok (.enter u args) w)
  (hc:∀W,ze (λk=>k=g) w W->∀x∈ks,∀y∈ks,pr Y3 u (#[.int .i64 x,.int .i64 y]++H) W λe w'=>e=Y0 (.int .i64 (A x y))/\∃q os,w'=grow (W.drewN q) os) :
  pr Y3 245 #[.slice (some ⟨g,0,none⟩) ks.length L,.func (.func u) #[] H] w λe w'=>e=Y0 (.tuple #[])/\∃(K:List Int) (cs':Y7),K.Perm ks/\K.Pairwise (λa b=>¬ A b a<0)/\za w' g 3 cs'/\(∀j (h:j<K.length),cs'[j]?=some (.int .i64 K[j]))/\ze (λk=>k=g) w w':=by
 cases Z:ks with
 | nil =>
  refine(AnyF.slices_SortFunc_none (P:=Y3) (ρ:=KU) {uV with} (some ⟨g,0,none⟩) L (.func (.func u) #[] H) w).mono ?_;rintro e w' ⟨rfl,rfl⟩;exact⟨rfl,[],cs,List.Perm.refl _,mQ,B,λj h=>absurd h (by simp),ze.refl _ _⟩
 | cons k0 kr =>
  rw[<-Z]
  haveI:Inhabited {k:Int // k∈ks}:=⟨⟨k0,by rw[Z];simp⟩⟩
  obtain⟨d,hd⟩:∃d:Array {k:Int // k∈ks},d=ks.attach.toArray:=⟨_,rfl⟩;have N:d.size=ks.length:=by rw[hd];simp
  have aD:∀j (h:j<ks.length),(d[j]!).val=ks[j]:=λj h=>by rw[getElem!_pos d j (by omega)];subst hd;simp
  have U:Holds (Tb ks) w g 0 d:=λj C=>⟨by rw[qC,B.cell,hr j (by omega)];unfold Tb;rw[aD j (by omega)],by rw[qC];exact B.free j⟩
  have hS:CmpLays1 Y3 u H (Tb ks) (λx y=>A x.val y.val) g 0 d.size w:=λm os dk _ x y =>
   hc _ (JH (Tb ks) w g 0 m dk os) x.val x.property y.val y.property
  have aB:SWO (ltOf λx y : {k:Int // k∈ks}=>A x.val y.val):=⟨λx=>M.irrefl x.val,λx y z=>M.trans x.val y.val z.val,λx y z=>M.ntrans x.val y.val z.val⟩;have O:=Any.slices_SortFunc (P:=Y3) (ρ:=KU) uV (Tb ks) (λ_=>rfl) (λx y=>A x.val y.val) aB u H g 0 L d w eg hS U B.lt (by omega);rw[N] at O;refine O.mono ?_;rintro e w' ⟨rfl,p,n,os,I,hs,rfl⟩;have aC:p.size=ks.length:=by rw[I.1,N]
  have aF:p.toList.Perm d.toList:=by
   have:=I.2.2;rw[<-N,<-I.1] at this;have e1:(p.extract 0 p.size).toList=p.toList:=by simp
   have e2:(d.extract 0 p.size).toList=d.toList:=by rw[I.1];simp
   rwa [e1,e2] at this
  have aA:=holds_sortWorld (Tb ks) w g 0 n d p os B.lt U I.1;have X:=DN (enc:=Tb ks) (off:=0) (m:=n) B p os;refine⟨rfl,p.toList.map Subtype.val,_,Sm (aF.trans (by rw[hd])),?_,X,λj C => ?_,JH _ _ _ _ _ _ _⟩
  ·rw[List.pairwise_map,List.pairwise_iff_getElem];intro i j hi C aE;have h1:=hs i j (gP _) aE (by rw[<-aC];simpa using C);rw[getElem!_pos p i (by simpa using hi),getElem!_pos p j (by simpa using C)] at h1;unfold ltOf at h1;simpa using h1
  ·have h1:=(aA j (by simpa using C)).1;rw[qC,X.cell] at h1;rw[h1,getElem!_pos p j (by simpa using C)];simp[Tb]
end
section
open Go Go.RowKit vA Go.Maps Go.Shelf Go.Sort
theorem VQ (gf:Nat)(lb:Y7)(W:World):pr Y3 243 #[.slice none 0 0,.func (.func gf) #[] lb] W λe w'=>e=Y0 (.slice none 0 0)/\w'=W:=by
 have g:pr Y3 199 #[.slice none 0 0,.func (.func gf) #[] lb] W λe w'=>e=Y0 (.int .i64 (-1))/\w'=W:=by
  go_enter func199,ntmps199
  go_wp2
  go_loopw [8] (λi wr=>i=.int .i64 0/\wr=W) (λ_ _=>0)
  case atStart=>exact⟨rfl,rfl⟩
  case round =>
   obtain⟨rfl,rfl⟩:=hrel;go_wp2;go_ret;exact⟨rfl,rfl⟩
 go_enter func243,ntmps243
 go_wp2_with (go_at_call 199;refine g.mono ?_;rintro e h ⟨rfl,rfl⟩)
 go_ret;exact⟨rfl,rfl⟩
def Bj (f:Int->Option Value)(p:Int->Bool)(cf:Int->Int->Int)(ks:List Int):Prop:=ks.Nodup/\(∀k,k∈ks↔(f k).isSome=true/\p k=true)/\ks.Pairwise λa b=>¬ cf b a<0
def wL (w w':World)(A:Y5)(ks:List Int):Prop:=∀j (h:j<ks.length),∃g,A=some ⟨g,0,none⟩/\w.heap.size<=g/\w'.cell? ⟨g,j,none⟩=some (.int .i64 ks[j])
section
variable {ρ:py->Value}{w:World}{o:oM}{x y:py}{r clock:Nat}{k:Int}{es:Array oJ}{f:Int->Option Value}{v:Value}
theorem wW (e:jv es f)(h:zw w r es clock)(g:f k=some v)(j:o.op=.lookup 178 x y false)(h1:ρ x=.map (some r))(h2:ρ y=.int .i64 k):(oB ρ o).run Y3 w=.ok (.value v) w :=
 Kw (z0:=(.pointer none)) underlying178 (by simp[go_sem]) e h (by simp[g]) j h1 h2
theorem uT (e:jv es f)(h:zw w r es clock)(g:f k=none)(j:o.op=.lookup 178 x y false)(h1:ρ x=.map (some r))(h2:ρ y=.int .i64 k):(oB ρ o).run Y3 w=.ok (.value (.pointer none)) w :=
 Kw (z0:=(.pointer none)) underlying178 (by simp[go_sem]) e h (by simp[g]) j h1 h2
end
end
section
open Go Go.RowKit vA
structure jH where
 b:Nat
 at_:Int
 A:Y5
 c:Nat
 y:Y4
 d:Bool
abbrev qo:=Int->Option jH
def SJ (v:jH):Y7:=#[.int .i64 v.at_,.slice v.A v.y.length v.c,.bool v.d]
def wj (f:Nat)(room now:Int)(r:Nat)(hh mm:Int):Y7:=#[.pointer (some ⟨f,0,none⟩),.int .i64 room,.int .i64 now,.map (some r),.int .i64 hh,.int .i64 mm]
def jT (V:qo):Int->Option Value:=λk=>(V k).map λv => .pointer (some ⟨v.b,0,none⟩)
def xS (V:qo)(k:Int)(x:Option jH):qo:=λj=>if j=k then x else V j
theorem SZ (V:qo)(k:Int)(x:Option jH):jT (xS V k x)=vj (jT V) k (x.map λv => .pointer (some ⟨v.b,0,none⟩)):=by
 funext j
 unfold jT xS vj;split<;>rfl
theorem Qh (V:qo)(k:Int)(x:Option jH):xS V k x k=x:=if_pos rfl
theorem Zp {V:qo}{k j:Int}{x:Option jH}(h:j≠k):xS V k x j=V j:=if_neg h
theorem Yx {V:qo}{k:Int}{v:jH}(h:V k=some v):jT V k=some (.pointer (some ⟨v.b,0,none⟩)):=by unfold jT;rw[h];rfl
theorem IB {V:qo}{k:Int}(h:V k=none):jT V k=none:=by unfold jT;rw[h];rfl
theorem KM {V:qo}{k:Int}{x:Value}(h:jT V k=some x):∃v,V k=some v/\x=.pointer (some ⟨v.b,0,none⟩):=by
 unfold jT at h;cases e:V k with
 | none=>rw[e] at h;cases h
 | some v=>rw[e] at h;injection h with h;exact⟨v,rfl,h.symm⟩
theorem IA {V:qo}{k:Int}{v g:jH}(h:V k=some v)(p:g.b=v.b):jT (xS V k (some g))=jT V:=by
 rw[SZ]
 funext j
 unfold vj;split
 ·rename_i e
  rw[e,Yx h,dH,p]
 ·rfl
def xJ (a r:Nat)(V:qo)(k:Nat):Prop:=k=a∨k=r∨∃j v,V j=some v/\k=v.b
structure JQ (W:World)(P:Nat)(now:Int)(k:Int)(v:jH):Prop where
 blk:za W v.b 194 (SJ v)
 key:0<=k/\k<(P:Int)
 rV:qq W W.heap.size v.A v.c v.y
 len:v.y.length=512∨v.y=[]
 sH:0<=v.at_/\v.at_<=now
structure yW (W:World)(a f r P:Nat)(room now hh mm:Int)(V:qo):Prop where
 cb:za W a 185 (wj f room now r hh mm)
 mp:∃es clock,zw W r es clock/\jv es (jT V)/\oH es clock
 rows:∀k v,V k=some v->JQ W P now k v
 inj:∀j k u v,V j=some u->V k=some v->u.b=v.b->j=k
 sf:∀j k u v,V j=some u->V k=some v->1<=u.at_->u.at_=v.at_->j=k
theorem qq.noB {W W':World}{n g c:Nat}{A:Y5}(h:qq W n A c []):qq W' g A c []:=⟨h.le,h.max,h.nil,λe=>absurd e (by simp)⟩
theorem JQ.rF {Mu:Nat->Prop}{W W':World}{A:Y5}{c:Nat}{y:Y4}(h:qq W W.heap.size A c y)(hl:y.length=512∨y=[])(e:ze Mu W W')(g:∀k,Mu k->XI W k):qq W' W'.heap.size A c y:=by
 rcases hl with hl|rfl
 ·exact h.rR (by omega) e g
 ·exact h.noB
section
variable {W W':World}{a f r P:Nat}{room now hh mm:Int}{V V':qo}
theorem yW.ca (h:yW W a f r P room now hh mm V):∀k,xJ a r V k->XI W k:=λk g=>by
 rcases g with rfl|rfl|⟨j,v,q,rfl⟩
 ·exact .inr (.inl ⟨_,_,h.cb,by show 6<=64;decide,λn e=>by cases e⟩)
 ·obtain⟨es,c,p,_⟩:=h.mp;exact .inl ⟨es,c,p⟩
 ·exact .inr (.inl ⟨_,_,(h.rows j v q).blk,by show 3<=64;decide,λn e=>by cases e⟩)
theorem yW.rZ (h:yW W a f r P room now hh mm V):∀k,xJ a r V k->k<W.heap.size:=λk e=>by
 rcases e with rfl|rfl|⟨j,v,p,rfl⟩
 ·exact h.cb.lt
 ·obtain⟨es,c,g,_⟩:=h.mp;exact g.lt
 ·exact(h.rows j v p).blk.lt
theorem zw.rO {W:World}{r g c:Nat}{es:Array oJ}{T:oD}{cs:Y7}(h:zw W r es c)(j:za W g T cs):r≠g:=λe=>by
 subst e;have h1:W.heap[r]?=some (.map es c):=h;have h2:W.heap[r]?=some (.cells cs T (0,0)):=j;rw[h1] at h2;cases h2
theorem yW.ar (h:yW W a f r P room now hh mm V):r≠a:=by
 obtain⟨es,c,e,_⟩:=h.mp;exact e.rO h.cb
theorem yW.rb (h:yW W a f r P room now hh mm V){k:Int}{v:jH}(g:V k=some v):r≠v.b:=by
 obtain⟨es,c,e,_⟩:=h.mp;exact e.rO (h.rows k v g).blk
theorem yW.ab (h:yW W a f r P room now hh mm V){k:Int}{v:jH}(e:V k=some v):a≠v.b:=zo h.cb (h.rows k v e).blk (by decide)
theorem yW.rE {Mu:Nat->Prop}(h:yW W a f r P room now hh mm V)(j:ze Mu W W')(u:∀k,Mu k->XI W k)(hn:∀k,Mu k->¬ xJ a r V k):yW W' a f r P room now hh mm V:=by
 obtain⟨es,c,p,A,hs⟩:=h.mp;refine⟨j.blk h.cb (λe=>hn _ e (.inl rfl)),⟨es,c,(j.block r p.lt (λe=>hn _ e (.inr (.inl rfl)))).trans p,A,hs⟩,λk v q => ?_,h.inj,h.sf⟩;have g:=h.rows k v q;exact⟨j.blk g.blk (λe=>hn _ e (.inr (.inr ⟨k,v,q,rfl⟩))),g.key,JQ.rF g.rV g.len j u,g.len,g.sH⟩
theorem yW.below (h:yW W a f r P room now hh mm V)(hB:ph W.heap.size W W'):yW W' a f r P room now hh mm V :=
 h.rE (Mu:=λ_=>False) (ze.below hB) (λ_ e=>e.elim) (λ_ e=>e.elim)
theorem yW.step {now' hh' mm':Int}(h:yW W a f r P room now hh mm V)(g:ze (xJ a r V) W W')(cb:za W' a 185 (wj f room now' r hh' mm'))(mp:∃es clock,zw W' r es clock/\jv es (jT V')/\oH es clock)(q:now<=now')
  (A:∀k v,V' k=some v->(V k=some v/\W'.heap[v.b]?=W.heap[v.b]?)∨JQ W' P now' k v) (inj:∀j k u v,V' j=some u->V' k=some v->u.b=v.b->j=k) (B:∀j k u v,V' j=some u->V' k=some v->1<=u.at_->u.at_=v.at_->j=k):yW W' a f r P room now' hh' mm' V' :=
 ⟨cb,mp,λk v p=>by
  rcases A k v p with⟨h1,h2⟩|h1
  ·have e:=h.rows k v h1;exact⟨h2.trans e.blk,e.key,JQ.rF e.rV e.len g h.ca,e.len,e.sH.1,Int.le_trans e.sH.2 q⟩
  ·exact h1,inj,B⟩
theorem Ny (h:yW W a f r P room now hh mm V){k0:Int}{v0 v1:jH}(A:V k0=some v0)(H:v1.b=v0.b):∀j k u v,xS V k0 (some v1) j=some u->xS V k0 (some v1) k=some v->u.b=v.b->j=k:=λj k u v g I e=>by
 have q:∀j u,xS V k0 (some v1) j=some u->∃p,V j=some p/\p.b=u.b:=λj u g=>by
  unfold xS at g;split at g
  ·rename_i ej
   injection g with g
   rw[ej];exact⟨v0,A,by rw[<-g,H]⟩
  ·exact⟨u,g,rfl⟩
 obtain⟨p,h1,h2⟩:=q j u g;obtain⟨K,B,C⟩:=q k v I;exact h.inj j k p K h1 B (by rw[h2,C,e])
theorem yW.setRow (h:yW W a f r P room now hh mm V){k0:Int}{v0 v1:jH}(q:V k0=some v0)(M:v1.b=v0.b)(i:Nat)(x:Value)(X:(SJ v0).setIfInBounds i x=SJ v1)(hB:v1.y=v0.y/\v1.A=v0.A/\v1.c=v0.c∨qq W W.heap.size v1.A v1.c v1.y/\(v1.y.length=512∨v1.y=[]))(U:0<=v1.at_/\v1.at_<=now)(hu:1<=v1.at_->∀k v,k≠k0->V k=some v->v.at_≠v1.at_):yW (W.setCell ⟨v0.b,i,none⟩ x) a f r P room now hh mm (xS V k0 (some v1))/\ze (λk=>k=v0.b) W (W.setCell ⟨v0.b,i,none⟩ x):=by
 have I:=h.rows k0 v0 q;have H:ze (λk=>k=v0.b) W (W.setCell ⟨v0.b,i,none⟩ x):=ze.setCell _ _ _ rfl;have L:ze (xJ a r V) W (W.setCell ⟨v0.b,i,none⟩ x):=H.more (λk e _ => .inr (.inr ⟨k0,v0,q,e⟩));obtain⟨es,c,O,B,hs⟩:=h.mp;have N:=I.blk.set i x;rw[X] at N;refine⟨h.step L (H.blk h.cb (h.ab q)) ⟨es,c,(H.block r O.lt (h.rb q)).trans O,by rw[IA q M];exact B,hs⟩ (dy _) (λk v g => ?_) (Ny h q M) (λj k u v p g h1 B => ?_),H⟩
 ·unfold xS at g;split at g
  ·rename_i e
   injection g with g
   subst g;rw[e];refine .inr ⟨by rw[M];exact N,I.key,?_,?_,U⟩
   ·rcases hB with⟨e1,K,e3⟩|⟨hB,hl⟩
    ·rw[e1,K,e3];exact JQ.rF I.rV I.len L h.ca
    ·exact JQ.rF hB hl L h.ca
   ·rcases hB with⟨e1,_,_⟩|⟨_,hl⟩
    ·rw[e1];exact I.len
    ·exact hl
  ·rename_i e
   exact .inl ⟨g,H.block v.b (h.rows k v g).blk.lt (λK=>e (h.inj k k0 v v0 g q K))⟩
 ·by_cases C:j=k0<;>by_cases ek:k=k0
  ·rw[C,ek]
  ·subst C;rw[Qh] at p;rw[Zp ek] at g;injection p with p
   subst p;exact absurd B.symm (hu h1 k v ek g)
  ·subst ek;rw[Qh] at g;rw[Zp C] at p;injection g with g
   subst g;exact absurd B (hu (B▸h1) j u C p)
  ·rw[Zp C] at p;rw[Zp ek] at g;exact h.sf j k u v p g h1 B
theorem yW.sP {now' hh' mm':Int}(h:yW W a f r P room now hh mm V)(i:Nat)(x:Value)(C:(wj f room now r hh mm).setIfInBounds i x=wj f room now' r hh' mm')(B:now<=now'):yW (W.setCell ⟨a,i,none⟩ x) a f r P room now' hh' mm' V/\ze (λk=>k=a) W (W.setCell ⟨a,i,none⟩ x):=by
 have g:ze (λk=>k=a) W (W.setCell ⟨a,i,none⟩ x):=ze.setCell _ _ _ rfl;have u:ze (xJ a r V) W (W.setCell ⟨a,i,none⟩ x):=g.more (λk e _ => .inl e);obtain⟨es,c,q,A,hs⟩:=h.mp;have p:=h.cb.set i x;rw[C] at p;exact⟨h.step u p ⟨es,c,(g.block r q.lt h.ar).trans q,A,hs⟩ B (λk v j => .inl ⟨j,g.block v.b (h.rows k v j).blk.lt (λe=>h.ab j e.symm)⟩) h.inj h.sf,g⟩
theorem yW.fresh (h:yW W a f r P room now hh mm V){k0:Int}(N:0<=k0/\k0<(P:Int))(X:V k0=none)(O:0<=now){b:Nat}(H:za W b 194 (SJ ⟨b,0,none,0,[],false⟩))(I:∀k v,V k=some v->v.b≠b){K:Array oJ}{c0:Nat}(C:zw W r K c0)(es:Array oJ)(c:Nat)(M:jv es (vj (jT V) k0 (some (.pointer (some ⟨b,0,none⟩)))))(hs:oH es c):yW (setMap W r es c) a f r P room now hh mm (xS V k0 (some ⟨b,0,none,0,[],false⟩))/\ze (λk=>k=r) W (setMap W r es c):=by
 have B:ze (λk=>k=r) W (setMap W r es c):=ze.grown (vM C es c) (λq e=>by injection e with e;exact .inl e.symm);have L:ze (xJ a r V) W (setMap W r es c):=B.more (λk e _ => .inr (.inl e));have U:r≠b:=C.rO H;have A:∀j u,xS V k0 (some ⟨b,0,none,0,[],false⟩) j=some u->(j=k0/\u=⟨b,0,none,0,[],false⟩)∨(j≠k0/\V j=some u):=λj u g=>by
  unfold xS at g;split at g
  ·rename_i e
   injection g with g
   exact .inl ⟨e,g.symm⟩
  ·rename_i e
   exact .inr ⟨e,g⟩
 refine⟨h.step L (B.blk h.cb (λe=>h.ar e.symm)) ⟨es,c,C.set es c,by rw[SZ];exact M,hs⟩ (dy _) (λk v p => ?_) (λj k u v g p e => ?_) (λj k u v g p h1 e => ?_),B⟩
 ·rcases A k v p with⟨rfl,rfl⟩|⟨_,p⟩
  ·exact .inr ⟨B.blk H (λe=>U e.symm),N,⟨by simp,by simp,λ_=>rfl,λh=>absurd h (by simp)⟩,.inr rfl,dy _,O⟩
  ·exact .inl ⟨p,B.block v.b (h.rows k v p).blk.lt (λe=>h.rb p e.symm)⟩
 ·rcases A j u g with⟨rfl,rfl⟩|⟨n1,hj'⟩<;>rcases A k v p with⟨rfl,rfl⟩|⟨n2,hk'⟩
  ·rfl
  ·exact absurd e.symm (I k v hk')
  ·exact absurd e (I j u hj')
  ·exact h.inj j k u v hj' hk' e
 ·rcases A j u g with⟨rfl,rfl⟩|⟨n1,hj'⟩<;>rcases A k v p with⟨rfl,rfl⟩|⟨n2,hk'⟩
  ·rfl
  ·exact absurd h1 (show ¬ (1:Int)<=0 by decide)
  ·rw[e] at h1;exact absurd h1 (show ¬ (1:Int)<=0 by decide)
  ·exact h.sf j k u v hj' hk' h1 e
end
end
section
open Go Go.RowKit vA Go.Shelf Go.Sort
theorem Ky (V:qo)(k:Int)(x y:Option jH):xS (xS V k x) k y=xS V k y:=by
 funext j
 unfold xS;split<;>rfl
theorem Oz {a b:Int}:Rw a b<0↔a<b:=by
 unfold Rw;split
 ·constructor<;>intro<;>omega
 ·split<;>constructor<;>intro<;>omega
theorem GG {W:World}{v:jH}(g:za W v.b 194 (SJ v))(n:Int):pr Y3 184 #[.pointer (some ⟨v.b,0,none⟩),.int .i64 n] W λe w'=>e=Y0 (.tuple #[])/\w'=W.setCell ⟨v.b,0,none⟩ (.int .i64 n):=by
 have k2:W.cell? ⟨v.b,0,none⟩=some (.int .i64 v.at_):=by rw[g.cell];rfl
 have k3:=g.free 0
 go_enter func184,ntmps184
 go_wp2;go_end0;exact⟨rfl,rfl⟩
section
variable {ops:Array oM}{Q:Exit->oy->World->Prop}{a:oy}{w:World}{r clock:Nat}{k:Int}{es:Array oJ}{f:Int->Option Value}{x y z:py}{o:oM}
theorem AB {rest:List oM}{l:Value}(q:o.guard=none)(A:o.op=.mapUpdate 178 x y z)(h1:a.eval x=.map (some r))(h2:a.eval y=.int .i64 k)(g:a.eval z=l)(j:jv es f)(H:oH es clock)(u:zw w r es clock)
  (h:∀es' e,jv es' (vj f k (some l))->oH es' e->wpList Y3 ops Q rest (a.put o.dst ou) (setMap w r es' e)):wpList Y3 ops Q (o::rest) a w:=by
 obtain⟨es',e,B,p,C⟩:=Nn (ρ:=a.eval) (o:=o) underlying178 j H u A h1 h2 g;exact Ff q B (h es' e p C)
end
theorem yW.size {W:World}{a f r P:Nat}{room now hh mm:Int}{V:qo}(h:yW W a f r P room now hh mm V){es:Array oJ}(g:jv es (jT V)):es.size=(xL (jT V) P).length:=by
 have e:=(g.perm (many:=P) (λk x p=>by obtain⟨v,j,_⟩:=KM p;exact(h.rows k v j).key)).length_eq;rw[qE,qE,zW] at e;exact e
end
section
open Go Go.RowKit vA
theorem UF {w:World}{f l d:Nat}{fr pg:Int}{S:Zz}(g:za w f 119 (VM l fr pg))(p:YH w l d fr pg S):pr Y3 106 #[.pointer (some ⟨f,0,none⟩)] w λe w'=>e=Y0 (.pointer (some ⟨d,0,none⟩))/\w=w':=by
 have j:=YY g;obtain⟨_,A,c,u,q,_⟩:=p;have h:=TG q;have c0:w.cell? ⟨f,0,none⟩=some (.pointer (some ⟨l,0,none⟩)):=by rw[g.cell];rfl
 go_enter func106,ntmps106
 go_wp2_with (first
  | (go_at_call 107;refine j.mono ?_;rintro e w' ⟨rfl,rfl⟩)
  | (go_at_call 178;refine h.mono ?_;rintro e w' ⟨rfl,rfl⟩))
 go_ret;exact⟨rfl,rfl⟩
theorem YX {w:World}{f l:Nat}{fr pg:Int}(h:za w f 119 (VM l fr pg)):pr Y3 110 #[.pointer (some ⟨f,0,none⟩)] w λe w'=>e=Y0 (.agg #[.int .i64 fr,.int .i64 pg])/\ph w.heap.size w w':=by
 have hB:ph w.heap.size w (w.alloc (.cells #[.int .i64 0,.int .i64 0] 74)):=(pf _ w).alloc (zG _) _;have u:=za.new w 74 #[.int .i64 0,.int .i64 0];have p:=h.below hB h.lt;have q:=YY p;have A:(w.alloc (.cells #[.int .i64 0,.int .i64 0] 74)).rangeAt f 1 [.int .i64 fr,.int .i64 pg]:=λj v g=>by
  rw[p.cell]
  match j,g with
  | 0,g=>exact g
  | 1,g=>exact g
  | j+2,g=>exact absurd g (by simp)
 go_enter func110,ntmps110
 go_wp2_with (first
  | (go_at_call 107;refine q.mono ?_;rintro e w' ⟨rfl,rfl⟩)
  | (refine zr rfl (yX Zs A rfl rfl rfl) ?_)
  | (fail;refine zt rfl 74 (.tmp 2) (.tmp 9) rfl w.heap.size rfl rfl Zs u (by rfl) (by rfl) (CA rfl rfl) ?_))
 exact bodyPost_ret_by (yM 2 rfl rfl Zs (za.new w _ _) (by rfl)) rfl ⟨rfl,(pf _ w).alloc (zG _) _⟩
theorem Xe (w:World)(A:Y5)(c:Nat)(y:Y4)(h:qq w w.heap.size A c y)(hl:y.length<=100000):pr Y3 112 #[.slice A y.length c] w λe w'=>∃j c',e=Y0 (.slice j y.length c')/\qq w' w'.heap.size j c' y/\(∀g o,j=some ⟨g,o,none⟩->w.heap.size<=g)/\Kp w' j/\ph w.heap.size w w':=by
 refine(YZ w A c y h (by omega)).mono ?_;rintro e w' ⟨v,rfl,own,p⟩;have q:=zh own;have B:=Oh own;obtain⟨j,c',rfl,u⟩:=own.inB;exact⟨j,c',rfl,u,λg o e=>by subst e;exact q g rfl,λg o e=>by subst e;exact B g rfl,p⟩
theorem jr {w:World}{a f r:Nat}{room now hh mm:Int}(g:za w a 185 (wj f room now r hh mm)):pr Y3 109 #[.pointer (some ⟨a,0,none⟩)] w λe w'=>e=Y0 (.bool false)/\w=w':=by
 have c0:w.cell? ⟨a,3,none⟩=some (.map (some r)):=by rw[g.cell];rfl
 have hq:=λW=>QL (P:=Y3) W 178 _ _ (some r) underlying178
 go_enter func109,ntmps109
 go_wp2;go_ret;exact⟨rfl,rfl⟩
theorem OR {w:World}{a:px}{x:Int}(hc:w.cell? a=some (.int .i64 x))(hf:w.frozen? a=false)(ha:a.spot=none)(hx : -1000000000<=x/\x<=1000000000):pr Y3 118 #[.pointer (some a),.int .i64 1] w λe w'=>e=Y0 (.int .i64 (x+1))/\w'=w.setCell a (.int .i64 (x+1)):=by
 obtain⟨g,o,s⟩:=a;subst ha;have h:IntKind.i64.wrap (x+1)=x+1:=zg _;have j:=run_call_add (P:=Y3) func194 (by kernel_rfl) (by kernel_rfl) (by kernel_rfl) .i64 (by kernel_rfl) (y:=1) (s:=x+1) hc hf (by simp[go_sem,h])
 go_enter func118,ntmps118
 go_wp2;go_ret;exact⟨rfl,rfl⟩
theorem JQ.short {W:World}{P:Nat}{now k:Int}{v:jH}(h:JQ W P now k v):v.y.length<=100000:=by
 rcases h.len with h|h
 ·omega
 ·rw[h];simp
def DD (P:Nat)(room:Int)(V:qo):Prop:=room<=((xL (jT V) P).length:Int)/\∀k v,V k=some v->v.d=true
section
variable {w:World}{a f r P:Nat}{room now hh mm:Int}{V:qo}
end
theorem OF (w:World)(f l d P:Nat)(fr pg room:Int)(S:Zz)(H:za w f 119 (VM l fr pg))(C:YH w l d fr pg S)(I:2<=room/\room<=2000):pr Y3 63 #[.pointer (some ⟨f,0,none⟩),.int .i64 room] w λe w'=>∃a r,e=Y0 (.tuple #[.pointer (some ⟨a,0,none⟩),.int .i64 0])/\w.heap.size<=a/\w.heap.size<=r/\yW w' a f r P room 0 0 0 (λ_=>none)/\ph w.heap.size w w':=by
 have A:=UF H C
 go_enter func63,ntmps63
 go_wp2_with (first
  | (refine Qq rfl rfl ?_;intro _)
  | (go_at_call 106;refine A.mono ?_;rintro e w' ⟨rfl,rfl⟩))
 have g:ph w.heap.size w (w.alloc (.map #[] 0)):=(pf _ w).alloc (zG _) _;have p:ph (w.alloc (.map #[] 0)).heap.size (w.alloc (.map #[] 0)) ((w.alloc (.map #[] 0)).alloc (.cells (wj f room 0 w.heap.size 0 0) 185)):=(pf _ _).alloc (zG _) _;have q:zw (w.alloc (.map #[] 0)) w.heap.size #[] 0:=World.alloc_heap_new w _;have bb:=za.new (w.alloc (.map #[] 0)) 185 (wj f room 0 w.heap.size 0 0);rw[pq] at bb;have B:jT (λ_=>none)=λ_=>none:=rfl
 refine oE (oN rfl _ _ _) rfl ⟨w.heap.size+1,w.heap.size,rfl,by omega,zG _,⟨bb,⟨#[],0,q.below p q.lt,by rw[B];exact jv.empty,MapKept.stamped_empty 0⟩,λk v h=>(by cases h),λj k u v h=>(by cases h),λj k u v h=>(by cases h)⟩,g.trans (p.mono g.size)⟩
theorem VH (fr pg:Int)(W:World):(Instr.field 74 (.agg #[.int .i64 fr,.int .i64 pg]) 1).run Y3 W=.ok (.int .i64 pg) W:=by
 simp[Instr.field,om underlying74,part,asAgg,go_sem,pv]
theorem Rv (w:World)(a f l r:Nat)(fr pg room now hh mm:Int)(j:za w a 185 (wj f room now r hh mm))(hf:za w f 119 (VM l fr pg))(page:Int)(A:Y5)(c:Nat)(hn:page<0∨pg<=page):pr Y3 65 #[.pointer (some ⟨a,0,none⟩),.int .i64 page,.slice A 512 c] w λe w'=>e=Y0 (.int .i64 4)/\ph w.heap.size w w':=by
 have g:=jr j;have h:=YX hf;have k0:w.cell? ⟨a,0,none⟩=some (.pointer (some ⟨f,0,none⟩)):=(j.cell _).trans rfl
 go_enter func65,ntmps65
 go_wp2_with fail
 refine wp_scope_jumps (rest:=?rest) 0 (λa w'=>(∃p u1 u2 u3 u4 u5 u7 u8 u9 u10 u11 u12 u13 u14 u15 u16 u17 u18 u19 u20 u21 u22 u23 u24 u25 u26 u27 u28 u29 u30 u31 u32 u33 u34 u35 u36 u37 u38 u39 u40 u41,a={tmps:=#[p,u1,u2,u3,u4,u5,.int .i64 4,u7,u8,u9,u10,u11,u12,u13,u14,u15,u16,u17,u18,u19,u20,u21,u22,u23,u24,u25,u26,u27,u28,u29,u30,u31,u32,u33,u34,u35,u36,u37,u38,u39,u40,u41],defers:=[]})/\ph w.heap.size w w') (λ_ _=>0) ?hf ?first ?pass
 case hf=>exact rfl
 case pass =>
  rintro a w' ⟨⟨p,u1,u2,u3,u4,u5,u7,u8,u9,u10,u11,u12,u13,u14,u15,u16,u17,u18,u19,u20,u21,u22,u23,u24,u25,u26,u27,u28,u29,u30,u31,u32,u33,u34,u35,u36,u37,u38,u39,u40,u41,rfl⟩,hB⟩;go_wp2;simp only[Exit.jump];go_ret;exact⟨rfl,hB⟩
 case first =>
  by_cases q:page<0
  ·go_wp2_with (first
    | (go_at_call 109;refine g.mono ?_;rintro e w' ⟨rfl,rfl⟩)
    | (go_at_call 110;refine h.mono ?_;rintro e w' ⟨rfl,hB⟩))
   go_step3
   exact⟨rfl,by repeat (first|exact rfl|apply nw),pf _ _⟩
  ·have h1:pg<=page:=by omega
   have hq:=VH fr pg
   go_wp2_with (first
    | (go_at_call 109;refine g.mono ?_;rintro e w' ⟨rfl,rfl⟩)
    | (go_at_call 110;refine h.mono ?_;rintro e w' ⟨rfl,hB⟩))
   go_step3
   exact⟨rfl,by repeat (first|exact rfl|apply nw),hB⟩
theorem yW.hu {W:World}{a f r P:Nat}{room now hh mm:Int}{V:qo}(h:yW W a f r P room now hh mm V){g:Int}{v:jH}(q:V g=some v)(v1:jH)(j:v1.at_=v.at_):1<=v1.at_->∀k u,k≠g->V k=some u->u.at_≠v1.at_:=λh1 k u p hu e=>p (h.sf k g u v hu q (by rw[e];exact h1) (by rw[e,j]))
theorem yW.fill {W:World}{a f r P:Nat}{room now hh mm:Int}{V:qo}(h:yW W a f r P room now hh mm V){e:Int}{v:jH}(g:V e=some v){A:Y5}{c:Nat}{y:Y4}(p:y.length=512)(B:qq W W.heap.size A c y):yW ((W.setCell ⟨v.b,1,none⟩ (.slice A 512 c)).setCell ⟨v.b,2,none⟩ (.bool true)) a f r P room now hh mm (xS V e (some ⟨v.b,v.at_,A,c,y,true⟩))/\ze (λk=>k=v.b) W ((W.setCell ⟨v.b,1,none⟩ (.slice A 512 c)).setCell ⟨v.b,2,none⟩ (.bool true)):=by
 obtain⟨h1,q⟩:=h.setRow (v1:=⟨v.b,v.at_,A,c,y,v.d⟩) g rfl 1 (.slice A 512 c) (by simp[SJ,p]) (.inr ⟨B,.inl p⟩) (h.rows e v g).sH (h.hu g _ rfl);have j:=Qh V e (some ⟨v.b,v.at_,A,c,y,v.d⟩);obtain⟨h2,u⟩:=h1.setRow (v1:=⟨v.b,v.at_,A,c,y,true⟩) j rfl 2 (.bool true) (by simp[SJ]) (.inl ⟨rfl,rfl,rfl⟩) (h1.rows e _ j).sH (h1.hu j _ rfl);rw[Ky] at h2;exact⟨h2,q.trans u⟩
theorem za.rP {w:World}{g:Nat}{T:oD}{l:Y8}(h:za w g T l.toArray):w.rangeAt g 0 l:=λj v e=>by
 rw[h.cell,qC];simpa using e

abbrev kR:=Int->Option (Y4×Bool)
def jN (P:Nat)(Y:Nat->Y4)(R:kR):Prop:=∀p b d,R p=some (b,d)->(0<=p/\p<(P:Int))/\b.length=512/\(d=false->b=Y p.toNat)
def Fp (Y:Nat->Y4)(R:kR)(p:Nat):Y4:=match R (p:Int) with|some (b,true)=>b|_=>Y p
theorem jN.view {P:Nat}{Y:Nat->Y4}{R:kR}(h:jN P Y R){p:Nat}{b:Y4}{d:Bool}(e:R (p:Int)=some (b,d)):Fp Y R p=b:=by
 unfold Fp;rw[e];cases d with
 | true=>rfl
 | false =>
  have:=(h _ b false e).2.2 rfl;rw[Int.toNat_natCast] at this;exact this.symm
def XR (R:kR)(k:Int)(x:Y4×Bool):kR:=λp=>if p=k then some x else R p
theorem jN.put {P:Nat}{Y:Nat->Y4}{R:kR}(h:jN P Y R){k:Int}{b:Y4}{d:Bool}(u:0<=k/\k<(P:Int))(j:b.length=512)(hd:d=false->b=Y k.toNat):jN P Y (XR R k (b,d)):=λp c e g=>by
 unfold XR at g
 by_cases q:p=k
 ·subst q;rw[if_pos rfl] at g;injection g with g
  injection g with h1 h2
  subst h1 h2;exact⟨u,j,hd⟩
 ·rw[if_neg q] at g;exact h p c e g
def QN (R:kR):Nat->List (Nat×Y4)
 | 0=>[]
 | P+1=>QN R P++(match R (P:Int) with|some (b,true)=>[(P,b)] | _=>[])
theorem Hh {R:kR}:∀{P:Nat} {x:Nat×Y4},x∈QN R P↔x.1<P/\R (x.1:Int)=some (x.2,true)
 | 0,x=>by simp[QN]
 | P+1,x=>by
  unfold QN;rw[qA,Hh];have hc:x∈(match R (P:Int) with|some (b,true)=>[(P,b)] | _=>[])↔x.1=P/\R (P:Int)=some (x.2,true):=by
   obtain⟨a,c⟩:=x;split
   ·next b h =>
    rw[qK,h];constructor
    ·intro e;injection e with j g
     subst j g;exact⟨rfl,rfl⟩
    ·rintro⟨j,g⟩;simp only at j g;injection g with g
     injection g with g _
     rw[j,g]
   ·next h =>
    constructor
    ·intro e;cases e
    ·rintro⟨_,e⟩;exact absurd e (h _)
  rw[hc];constructor
  ·rintro(⟨h1,h2⟩|⟨h1,h2⟩)
   ·exact⟨by omega,h2⟩
   ·rw[h1];exact⟨by omega,h2⟩
  ·rintro⟨h1,h2⟩
   by_cases e:x.1=P
   ·rw[e] at h2;exact .inr ⟨e,h2⟩
   ·exact .inl ⟨by omega,h2⟩
def tB (l:List (Nat×Y4))(k:Nat):Int×Y4:=match l[k]? with|some x=>((x.1:Int),x.2)|none=>(0,[])
theorem yR.rz {Mu:Nat->Prop}{W W':World}{d many:Nat}{g:Nat->Y4}{xs:List (Nat×Y4)}{left:Int}{st:Bool}(h:yR W d many g xs left st){k:Nat}(hk:¬ g k=qx)(H:ze Mu W W')(hd:¬ Mu d)
  (U:∀j,Mu j->(∃es c f,zw W j es c/\jv es f/\∀k v,f k=some v->∃a,v=.pointer a)∨(∃T cs,za W j T cs/\cs.size<=64)∨∃L,W.heap[j]?=some (.deferred L)):yR W' d many g xs left st:=by
 obtain⟨r,A,c,hb,N,I,u⟩:=h.has;have hr:¬ Mu r:=λaE=>by
  obtain⟨es,ck,aD,he,_⟩:=N.rC;have M:W.heap[r]?=some (.map es ck):=aD;rcases U r aE with⟨es1,c1,f,h1,h2,h3⟩|⟨T,cs,h1,_⟩|⟨L,h1⟩
  ·have q:W.heap[r]?=some (.map es1 c1):=h1;rw[M] at q;injection q with q
   injection q with e1 _
   subst e1;obtain⟨i,e,h6,_,h7⟩:=he.all k (g k) (by unfold UT;rw[if_neg hk]);obtain⟨k',l,h8,_,O⟩:=h2.keys i e h6;obtain⟨a,ha⟩:=h3 k' l h8;rw[h7,ha] at O;cases O
  ·have q:W.heap[r]?=some (.cells cs T (0,0)):=h1;rw[M] at q;cases q
  ·rw[M] at h1;cases h1
 refine⟨r,A,c,H.blk hb hd,N.rE (H.block r N.lt hr),I,⟨u.le,u.max,u.nil,u.len,u.one,λC => ?_⟩⟩;obtain⟨b,o,e,X,aG⟩:=u.rC C;subst e;have aA:¬ Mu b:=λaC=>by
  have Z:∀K,W.heap[b]?=some K->(∀cs T fr,K≠.cells cs T fr)->False:=λK q aF=>by
   have aB:=FQ.elem (w:=W) (B:=W.heap.size) (c:=c) ⟨I,u⟩ 0 C;have aH:=vP (I xs[0] (qI C));have hc:=aB 0 ((kT xs[0])[0]'(by omega)) (zM (by omega));cases K with
   | cells cs T fr=>exact aF cs T fr rfl
   | _=>simp[nD,q] at hc
  rcases U b aC with⟨es1,c1,f,h1,_⟩|⟨T,cs,h1,hs⟩|⟨L,h1⟩
  ·exact Z _ h1 (λcs T fr e=>by cases e)
  ·exact FQ.rT (w:=W) (B:=W.heap.size) (c:=c) ⟨I,u⟩ C h1 hs rfl
  ·exact Z _ h1 (λcs T fr e=>by cases e)
 exact⟨b,o,rfl,zO X H.size,λj v hj=>H.cell (p:=⟨b,o+j,none⟩) (aG j v hj) X aA⟩
def CD (d l a r:Nat)(V:qo)(k:Nat):Prop:=k=d∨k=l∨xJ a r V k
structure QS (W:World)(k:Nat):Prop where
 ca:XI W k
 dk:(∃es c g,zw W k es c/\jv es g/\∀j v,g j=some v->∃p,v=.pointer p)∨(∃T cs,za W k T cs/\cs.size<=64)∨∃ds,W.heap[k]?=some (.deferred ds)
theorem yW.sm {W:World}{a f r P:Nat}{room now hh mm:Int}{V:qo}(h:yW W a f r P room now hh mm V):∀k,xJ a r V k->QS W k:=λk g=>by
 refine⟨h.ca k g,?_⟩;rcases g with rfl|rfl|⟨j,v,u,rfl⟩
 ·exact .inr (.inl ⟨_,_,h.cb,by show 6<=64;decide⟩)
 ·obtain⟨es,c,q,p,_⟩:=h.mp;exact .inl ⟨es,c,jT V,q,p,λk x A=>by obtain⟨v,_,e⟩:=KM A;exact⟨_,e⟩⟩
 ·exact .inr (.inl ⟨_,_,(h.rows j v u).blk,by show 3<=64;decide⟩)
theorem YH.lg {W:World}{l d:Nat}{fr pg:Int}{S:Zz}(h:YH W l d fr pg S):∃A n c,za W l 171 (Xj (some ⟨d,0,none⟩) fr pg S.sr S.ep S.sz A n c):=by
 obtain⟨_,A,c,g,e,_⟩:=h;exact⟨A,g.length,c,e⟩
theorem FT {W:World}{d many:Nat}{g:Nat->Y4}{xs:List (Nat×Y4)}{left:Int}{st:Bool}(h:yR W d many g xs left st):∃r A n c,za W d 114 (wh r many A n c left st):=by
 obtain⟨r,A,c,e,_⟩:=h.has;exact⟨r,A,xs.length,c,e⟩
structure YL (W0:World)(d f l a r many P:Nat)(fr pg room now hh mm:Int)(s:DS)(S:Zz)(V:qo)(W:World):Prop where
 fh:Kt W0 d f l many fr pg s S W
 ca:yW W a f r P room now hh mm V
 nb:∀k,xJ a r V k->W0.heap.size<=k
 nz:∃k,¬ s.g k=qx
 y5:∀x∈S.fs,x.y.length=512
section
variable {W0 W W':World}{d f l a r many P:Nat}{fr pg room now hh mm now' hh' mm':Int}{s s':DS}{S S':Zz}{V V':qo}
theorem yW.rI (h:yW W a f r P room now hh mm V){k:Nat}{T:oD}{cs:Y7}(e:za W k T cs)(h1:T≠185)(h2:T≠194):¬ xJ a r V k:=λg=>by
 rcases g with rfl|rfl|⟨j,v,q,rfl⟩
 ·exact zo e h.cb h1 rfl
 ·obtain⟨es,c,p,_⟩:=h.mp;exact p.rO e rfl
 ·exact zo e (h.rows j v q).blk h2 rfl
theorem YL.nd (h:YL W0 d f l a r many P fr pg room now hh mm s S V W):¬ xJ a r V d/\¬ xJ a r V l/\¬ xJ a r V f:=by
 obtain⟨_,_,_,_,e⟩:=FT h.fh.dk;obtain⟨_,_,_,hl⟩:=h.fh.lg.lg;exact⟨h.ca.rI e (by decide) (by decide),h.ca.rI hl (by decide) (by decide),h.ca.rI h.fh.fb (by decide) (by decide)⟩
theorem Kt.rz {Mu:Nat->Prop}(h:Kt W0 d f l many fr pg s S W)(H:∃k,¬ s.g k=qx)(C:∀x∈S.fs,x.y.length=512)(p:ze Mu W W')(u:∀k,Mu k->QS W k)(A:∀k,Mu k->W0.heap.size<=k)(hn:∀k,Mu k->k≠d/\k≠l/\k≠f):Kt W0 d f l many fr pg s S W':=by
 obtain⟨k,B⟩:=H;exact⟨h.up.trans (p.toBelow h.up.size A),yR.rz h.dk B p (λe=>(hn _ e).1 rfl) (λj q=>(u j q).dk),h.lg.rR C p (λj q=>(u j q).ca) (λe=>(hn _ e).2.1 rfl),p.blk h.fb (λe=>(hn _ e).2.2 rfl),h.gd,h.gl⟩
theorem YL.rE {Mu:Nat->Prop}(h:YL W0 d f l a r many P fr pg room now hh mm s S V W)(j:ze Mu W W')(p:∀k,Mu k->QS W k)(q:∀k,Mu k->W0.heap.size<=k)(hn:∀k,Mu k->¬ CD d l a r V k/\k≠f):YL W0 d f l a r many P fr pg room now hh mm s S V W' :=
 ⟨h.fh.rz h.nz h.y5 j p q (λk g=>⟨λe=>(hn k g).1 (.inl e),λe=>(hn k g).1 (.inr (.inl e)),(hn k g).2⟩),h.ca.rE j (λk g=>(p k g).ca) (λk g e=>(hn k g).1 (.inr (.inr e))),h.nb,h.nz,h.y5⟩
theorem YL.grow (h:YL W0 d f l a r many P fr pg room now hh mm s S V W)(hB:ph W.heap.size W W'):YL W0 d f l a r many P fr pg room now hh mm s S V W' :=
 ⟨h.fh.grow hB,h.ca.below hB,h.nb,h.nz,h.y5⟩
theorem YL.rH (h:YL W0 d f l a r many P fr pg room now hh mm s S V W)(p:ze (xJ a r V) W W')(j:yW W' a f r P room now' hh' mm' V')(q:∀k,xJ a r V' k->xJ a r V k∨W.heap.size<=k):YL W0 d f l a r many P fr pg room now' hh' mm' s S V' W':=by
 obtain⟨u,A,B⟩:=h.nd;have C:=h.fh.up.size;exact⟨h.fh.rz h.nz h.y5 p h.ca.sm h.nb (λk g=>⟨λe=>u (e▸g),λe=>A (e▸g),λe=>B (e▸g)⟩),j,λk g=>(q k g).elim (h.nb k) (λe=>by omega),h.nz,h.y5⟩
end
structure YM where
 now:Int
 hh:Int
 mm:Int
 V:qo
def tQ (x:Int ⊕ Y4)(e:Ending)(w':World):Prop :=
 match x with
 | .inl er=>e=Y0 (.tuple #[.slice none 0 0,.int .i64 er])
 | .inr y=>∃A c,e=Y0 (.tuple #[.slice A y.length c,.int .i64 0])/\qq w' w'.heap.size A c y/\Kp w' A
theorem Hp {a r n:Nat}{V V1:qo}{g:Int}{b:Nat}{v:jH}(p:∀k u,V1 k=some u->V k=some u)(q:v.b=b)(h:(∃u,V g=some u/\b=u.b)∨n<=b):∀k,xJ a r (xS V1 g (some v)) k->xJ a r V k∨n<=k:=λk e=>by
 rcases e with e|e|⟨j,u,hu,rfl⟩
 ·exact .inl (.inl e)
 ·exact .inl (.inr (.inl e))
 ·unfold xS at hu;split at hu
  ·injection hu with hu
   subst hu;rw[q];rcases h with⟨u,h1,h2⟩|h
   ·exact .inl (.inr (.inr ⟨g,u,h1,h2⟩))
   ·exact .inr h
  ·exact .inl (.inr (.inr ⟨j,u,p j u hu,rfl⟩))
structure YM.Ok (c:YM)(N:Nat):Prop where
 now:0<=c.now/\c.now<=(N:Int)
 hh:0<=c.hh/\c.hh<=(N:Int)
 mm:0<=c.mm/\c.mm<=(N:Int)
theorem YM.Ok.more {c:YM}{N M:Nat}(h:c.Ok N)(e:N<=M):c.Ok M:=⟨by have:=h.now;omega,by have:=h.hh;omega,by have:=h.mm;omega⟩
abbrev Bm (W0:World)(d f l a r many P:Nat)(fr pg room:Int)(s:DS)(S:Zz)(c:YM)(W:World):Prop:=YL W0 d f l a r many P fr pg room c.now c.hh c.mm s S c.V W
section
variable {W0 W W':World}{d f l a r many P:Nat}{fr pg room:Int}{s:DS}{S:Zz}{c:YM}
end
def vx (es:Array oJ)(seen:Array Nat)(pd:Int->Bool):Prop:=∀e∈es.toList,∀k:Int,e.key=.int .i64 k->(pd k=true↔seen.contains e.born=true)
def kI (pd:Int->Bool)(k:Int):Int->Bool:=λj=>decide (j=k)||pd j
theorem Vy (pd:Int->Bool)(k:Int):kI pd k k=true:=by simp[kI]
theorem VI {pd:Int->Bool}{k j:Int}(h:j≠k):kI pd k j=pd j:=by simp[kI,h]
theorem vx.start (es:Array oJ):vx es #[] (λ_=>false):=λe _ k _=>by simp
theorem vx.sub {es es':Array oJ}{g:Array Nat}{pd:Int->Bool}(h:vx es g pd)(hs:∀x∈es'.toList,x∈es.toList):vx es' g pd:=λe j=>h e (hs e j)
theorem jv.at_ {es:Array oJ}{f:Int->Option Value}(h:jv es f){e:oJ}(g:e∈es.toList):∃(k:Int) (v:Value),f k=some v/\e.key=.int .i64 k/\e.val=v:=by
 obtain⟨i,j,rfl⟩:=yG g;exact h.keys i es.toList[i] (by rw[<-yD];exact zM j)
theorem jv.pB {es:Array oJ}{f:Int->Option Value}(h:jv es f){e e':oJ}(g:e∈es.toList)(p:e'∈es.toList)(A:e.key=e'.key):e=e':=by
 obtain⟨i,q,rfl⟩:=yG g;obtain⟨j,u,rfl⟩:=yG p;have:=h.inj i j _ _ (by rw[<-yD];exact zM q) (by rw[<-yD];exact zM u) A;subst this;rfl
theorem vx.next {es:Array oJ}{f:Int->Option Value}{B:Array Nat}{pd:Int->Bool}{clock:Nat}(h:vx es B pd)(I:jv es f)(M:oH es clock){e:oJ}(u:e∈es.toList){k:Int}(q:e.key=.int .i64 k):vx es (B.push e.born) (kI pd k):=λp g A j=>by
 have L:=((MapKept.stamped_iff es clock).1 M).2.1;rw[contains_push,Bool.or_eq_true];unfold kI;rw[Bool.or_eq_true,h p g A j];constructor
 ·rintro(hd|hs)
  ·have K:A=k:=by simpa using hd
   subst K;have:=I.pB g u (j.trans q.symm);subst this;exact .inr (by simp)
  ·exact .inl hs
 ·rintro(hs|C)
  ·exact .inr hs
  ·have H:p.born=e.born:=by simpa using C
   obtain rfl:=born_inj L g u H;exact .inl (by simpa using XB (j.symm.trans q))
theorem vx.fin {es:Array oJ}{f:Int->Option Value}{j:Array Nat}{pd:Int->Bool}(h:vx es j pd)(q:jv es f)(p:∀x∈es.toList,j.contains x.born=true):∀k v,f k=some v->pd k=true:=λk v u=>by
 obtain⟨i,e,h1,h2,_⟩:=q.all k v u;have g:e∈es.toList:=Array.mem_toList_iff.2 (gn h1);exact(h e g k h2).2 (p e g)
theorem we {w:World}{r m j clock:Nat}{g:Array Nat}{es:Array oJ}{f:Int->Option Value}{pd:Int->Bool}(ty:oD)(h:QP w r m j g)(A:zw w m es clock)(p:jv es f)(u:oH es clock)(C:∀x∈es.toList,x.born<j)(hc:j<=clock)(B:m<r)(I:r<w.heap.size)(q:vx es g pd):((∀k v,f k=some v->pd k=true)/\(Instr.next (.pointer (some ⟨r,0,none⟩)) false ty).run Y3 w=.ok (.tuple #[.bool false]) w) ∨
  ∃k v b,∃w':World,f k=some v/\pd k=false/\(Instr.next (.pointer (some ⟨r,0,none⟩)) false ty).run Y3 w=.ok (.tuple #[.bool true,.int .i64 k,v]) w'/\QP w' r m j (g.push b)/\ph r w w'/\w'.rangeLeft m r<w.rangeLeft m r /\
   (Instr.entry (.pointer (some ⟨r,0,none⟩))).run Y3 w'=.ok (.tuple #[.int .i64 k,v]) w'/\vx es (g.push b) (kI pd k):=by
 rcases Ij ty h A C hc u B I with⟨h1,h2⟩|⟨e,w',h1,h2,h3,h4,h5,h6,h7⟩
 ·exact .inl ⟨q.fin p h1,h2⟩
 ·obtain⟨k,v,q1,q2,K⟩:=p.at_ h1;rw[q2,K] at h3 h7;refine .inr ⟨k,v,e.born,w',q1,?_,h3,h4,h5,h6,h7,q.next p u h1 q2⟩;cases H:pd k with
  | false=>rfl
  | true =>
   have:=(q e h1 k q2).1 H;rw[h2] at this;cases this
theorem QP.rE {w w':World}{r m e:Nat}{seen:Array Nat}(h:QP w r m e seen)(g:w'.heap[r]?=w.heap[r]?):QP w' r m e seen:=by
 obtain⟨c0,q1,q2⟩:=h;exact⟨c0,g.trans q1,q2⟩
theorem ZI {w w':World}{m r:Nat}(h1:w'.heap[m]?=w.heap[m]?)(h2:w'.heap[r]?=w.heap[r]?):w'.rangeLeft m r=w.rangeLeft m r:=by
 unfold World.rangeLeft;rw[h1,h2]
section
variable {ops:Array oM}{Q:Exit->oy->World->Prop}{a:oy}{w:World}{r clock:Nat}{k:Int}{es:Array oJ}{f:Int->Option Value}{x y z:py}{o:oM}
theorem uR {i:Nat}{K:oy->World->Prop}{l:Value}(A:ops[i]?=some o)(q:o.guard=none)(B:o.op=.mapUpdate 211 x y z)(h1:a.eval x=.map (some r))(h2:a.eval y=.int .i64 k)(g:a.eval z=l)(j:jv es f)(I:oH es clock)(u:zw w r es clock)
  (h:∀es' e,jv es' (vj f k (some l))->oH es' e->K (a.put o.dst ou) (setMap w r es' e)):wpOp Y3 ops Q i K a w:=by
 obtain⟨es',e,C,p,H⟩:=Nn (ρ:=a.eval) (o:=o) underlying211 j I u B h1 h2 g;exact zb.opS A q C (h es' e p H)
end
section
variable {ρ:py->Value}{w:World}{o:oM}{x y z:py}{r clock:Nat}{k:Int}{es:Array oJ}{f:Int->Option Value}{T E:oD}
end
def xg (V:qo):Int->Option Value:=λk=>match V k with|some v=>if v.d then some (.slice v.A v.y.length v.c) else none|none=>none
def vu (V:qo):Int->Option Y4:=λk=>match V k with|some v=>if v.d then some v.y else none|none=>none
theorem UK {V:qo}{k:Int}{v:jH}(h:V k=some v)(hd:v.d=false):xg V k=none:=by unfold xg;rw[h];simp only[hd,Bool.false_eq_true,if_false]
theorem UJ {V:qo}{k:Int}{v:jH}(h:V k=some v)(hd:v.d=true):xg V k=some (.slice v.A v.y.length v.c):=by unfold xg;rw[h];simp only[hd,if_true]
def Ue (pd:Int->Bool)(g:Int->Option Value):Int->Option Value:=λk=>if pd k then g k else none
theorem OD (g:Int->Option Value):Ue (λ_=>false) g=λ_=>none:=rfl
theorem NM {pd:Int->Bool}{g:Int->Option Value}{k:Int}{x:Value}(h:g k=some x):Ue (kI pd k) g=vj (Ue pd g) k (some x):=by
 funext j
 unfold Ue vj
 by_cases e:j=k
 ·subst e;rw[Vy,if_pos rfl,if_pos rfl,h]
 ·rw[VI e,if_neg e]
theorem NN {pd:Int->Bool}{g:Int->Option Value}{k:Int}(h:g k=none):Ue (kI pd k) g=Ue pd g:=by
 funext j
 unfold Ue
 by_cases e:j=k
 ·subst e;rw[h];split<;>split<;>rfl
 ·rw[VI e]
theorem BQ {pd:Int->Bool}{g:Int->Option Value}(h:∀k x,g k=some x->pd k=true):Ue pd g=g:=by
 funext j
 unfold Ue;cases e:g j with
 | none=>split<;>rfl
 | some x=>rw[h j x e,if_pos rfl]
theorem Ow {W:World}{a f r P:Nat}{room now hh mm:Int}{V:qo}(h:yW W a f r P room now hh mm V)(hf:∀k v,V k=some v->v.y.length=512):Zf W (xg V) (vu V):=λk=>by
 cases e:V k with
 | none=>exact .inl ⟨by unfold xg;rw[e],by unfold vu;rw[e]⟩
 | some v =>
  cases hd:v.d with
  | false=>exact .inl ⟨UK e hd,by unfold vu;rw[e];simp[hd]⟩
  | true=>exact .inr ⟨v.A,v.c,v.y,by rw[UJ e hd,hf k v e],by unfold vu;rw[e];simp[hd],hf k v e,(h.rows k v e).rV⟩
structure Uv (w:World)(s r clock:Nat)(es:Array oJ)(g:Int->Option Value)(seen:Array Nat)(pd:Int->Bool)(W:World):Prop where
 it:QP W (s+1+1) r clock seen
 sn:vx es seen pd
 mp:∃eo co,zw W s eo co/\jv eo (Ue pd g)/\oH eo co
 bx:za W (s+1) 211 #[.map (some s)]
 up:ph s w W
 sz:s+1+1<W.heap.size
theorem Kj (w:World)(a f r P:Nat)(room now hh mm:Int)(V:qo)(h:yW w a f r P room now hh mm V):pr Y3 115 #[.pointer (some ⟨a,0,none⟩)] w λe w'=>∃q s eo I,e=Y0 (.func (.func 186) #[] #[.pointer (some ⟨q,0,none⟩)])/\za w' q 211 #[.map (some s)]/\zw w' s eo I/\jv eo (xg V)/\oH eo I/\ph w.heap.size w w'/\w.heap.size<=s/\w.heap.size<=q:=by
 obtain⟨W2,B⟩:=Z9 (((w.alloc (.map #[] 0)).alloc (.cells #[.map (some w.heap.size)] 211)));have a7:ph w.heap.size w (w.alloc (.map #[] 0)):=(pf _ w).alloc (zG _) _;have O:ph w.heap.size w W2:=by rw[B];exact a7.alloc (by simp) _
 have s2:W2.heap.size=w.heap.size+1+1:=by rw[B];simp
 have aO:zw W2 w.heap.size #[] 0:=by rw[B];exact(show zw (w.alloc (.map #[] 0)) w.heap.size #[] 0 from nO w _).below ((pf _ _).alloc (zG _) _) (by simp)
 have b2:za W2 (w.heap.size+1) 211 #[.map (some w.heap.size)]:=by have:=za.new (w.alloc (.map #[] 0)) 211 #[.map (some w.heap.size)];rw[pq] at this;rw[B];exact this
 have h2:=h.below O;have HN:=jr h2.cb;have k3:W2.cell? ⟨a,3,none⟩=some (.map (some r)):=(h2.cb.cell _).trans rfl;obtain⟨es,clock,hm,he,aT⟩:=h.mp;have bC:zw W2 r es clock:=hm.below O hm.lt;have aS:=hm.lt;have a8:∀x∈es.toList,x.born<clock:=((MapKept.stamped_iff es clock).1 aT).1;obtain⟨W3,M⟩:=Z9 (W2.alloc (.mapIter (some r) clock #[] clock));have aD:ph W2.heap.size W2 W3:=by rw[M];exact(pf _ _).alloc (zG _) _
 have bB:QP W3 (w.heap.size+1+1) r clock #[]:=⟨clock,by rw[M,<-s2];exact nO W2 _,zG _⟩;have a6:ph w.heap.size w W3:=O.trans (aD.mono O.size);have s3:w.heap.size+1+1<W3.heap.size:=by rw[M];simp;omega
 have a3:Uv w w.heap.size r clock es (xg V) #[] (λ_=>false) W3:=⟨bB,vx.start es,⟨#[],0,aO.below aD aO.lt,by rw[OD];exact jv.empty,MapKept.stamped_empty 0⟩,b2.below aD b2.lt,a6,s3⟩;have aZ:=pk B.symm;have a0:=pk M.symm;have aY:=pk s2;clear B M s2
 go_enter func115,ntmps115
 go_wp2_with (first
  | (refine Qq rfl rfl ?_;intro _)
  | (go_at_call 109;rw[aZ.out];refine HN.mono ?_;rintro e w' ⟨rfl,rfl⟩)
  | (refine zr rfl (OX bC underlying178 rfl rfl) ?_;rw[a0.out,aY.out]))
 simp only[pj,zA,zF,zE]
 go_loopw [15] (λ_ wr=>∃N pd,Uv w w.heap.size r clock es (xg V) N pd wr) (λ_ wr=>wr.rangeLeft r (w.heap.size+1+1))
 case atStart=>exact⟨_,_,a3⟩
 case round =>
  obtain⟨N,pd,hD⟩:=hrel;obtain⟨bA,bE,⟨eo,I,aQ,Z,aG⟩,aJ,aH,aU⟩:=hD;have bD:zw wr r es clock:=(aH.block r aS).trans hm;rcases we 0 bA bD he aT a8 (zG _) (by omega) aU bE with⟨hall,hrun⟩|⟨k,x,b,w4,hk,hpk,hrun,hit4,hB4,hdec,hent,hsn4⟩
  ·have j:Ue pd (xg V)=xg V:=BQ λk x hx=>by
    unfold xg at hx;cases H:V k with
    | none=>rw[H] at hx;cases hx
    | some v=>exact hall k _ (Yx H)
   rw[j] at Z;clear j
   go_wp2_with (refine zr rfl (GA hrun rfl) ?_)
   go_ret;exact⟨_,_,eo,I,rfl,aJ,aQ,Z,aG,aH,zG _,by omega⟩
  ·obtain⟨v,H,rfl⟩:=KM hk;have aC:ph w.heap.size w w4:=aH.trans (hB4.mono (by omega));have h4:=h.below aC;have aR:=h4.rows k v H;have aE:=aQ.below hB4 (by omega);have X:=aJ.below hB4 (by omega);have aV:w.heap.size+1+1<w4.heap.size:=zO aU hB4.size;have k2:w4.cell? ⟨v.b,2,none⟩=some (.bool v.d):=(aR.blk.cell _).trans rfl;cases hd:v.d with
   | false =>
    rw[hd] at k2;have j:=NN (pd:=pd) (UK H hd);have a4:Uv w w.heap.size r clock es (xg V) (N.push b) (kI pd k) w4:=⟨hit4,hsn4,⟨eo,I,aE,by rw[j];exact Z,aG⟩,X,aC,aV⟩;clear j hd
    go_wp2_with (first
     | (refine zr rfl (GA hrun rfl) ?_)
     | (refine zr rfl (Md hent rfl) ?_))
    exact⟨⟨_,_,a4⟩,hdec⟩
   | true =>
    rw[hd] at k2;have aM:=UJ H hd;have j:=NM (pd:=pd) aM;have k1:w4.cell? ⟨v.b,1,none⟩=some (.slice v.A v.y.length v.c):=(aR.blk.cell _).trans rfl;have kb:w4.cell? ⟨w.heap.size+1,0,none⟩=some (.map (some w.heap.size)):=X.boxed;have p:w4.drew.cell? ⟨v.b,1,none⟩=some (.slice v.A v.y.length v.c)/\w4.drew.cell? ⟨w.heap.size+1,0,none⟩=some (.map (some w.heap.size)):=⟨k1,kb⟩;have U:ph w4.heap.size w4 w4.drew:=(pf _ _).drew;have aB:=aE.below U aE.lt;have aK:=X.below U X.lt;have aW:ph w.heap.size w w4.drew:=aC.trans (U.mono aC.size);have aN:QP w4.drew (w.heap.size+1+1) r clock (N.push b):=hit4;have aL:w4.drew.rangeLeft r (w.heap.size+1+1)<wr.rangeLeft r (w.heap.size+1+1):=hdec;have aF:w.heap.size+1+1<w4.drew.heap.size:=aV;have aX:=pk j;clear hd j aM k1 kb
    go_wp2_with (first
     | (refine zr rfl (GA hrun rfl) ?_)
     | (refine zr rfl (Md hent rfl) ?_))
    refine zb.st (λW:World=>W.cell? ⟨v.b,1,none⟩=some (.slice v.A v.y.length v.c)/\W.cell? ⟨w.heap.size+1,0,none⟩=some (.map (some w.heap.size))) 6 ?_;refine zb.q 0 (.map (some w.heap.size)) p ?_;refine zb.q 1 (.int .i64 k) p ?_;refine zb.q 2 (.pointer (some ⟨v.b,0,none⟩)) p ?_;refine zb.q 3 (.pointer (some ⟨v.b,0,none⟩)) p ?_;refine zb.q 4 (.pointer (some ⟨v.b,1,none⟩)) p ?_;refine zb.q 5 (.slice v.A v.y.length v.c) p ?_;simp only[Z8];refine zb.n 6 ?_;refine uR rfl rfl rfl rfl rfl rfl Z aG aB ?_;intro u K aA bF;refine⟨λh=>absurd rfl h,zb.dn ?_⟩;simp only[zD,zC,zB,pj];replace aA:jv u (vj (Ue pd (xg V)) k (some (.slice v.A v.y.length v.c))):=aA;rw[<-aX.out] at aA;have C:=vM aB u K;have aP:=aB.set u K;have aI:ph w.heap.size w4.drew (setMap w4.drew w.heap.size u K):=zl C (by omega) (λr e=>by injection e with e;omega);generalize setMap w4.drew w.heap.size u K=w6 at *;have g:=C.block (w.heap.size+1+1) aF (λe=>by injection e with e;omega);have e2:=C.block r (Nat.lt_trans aS (by omega)) (λe=>by injection e with e;omega);have a5:Uv w w.heap.size r clock es (xg V) (N.push b) (kI pd k) w6:=⟨aN.rE g,hsn4,⟨u,K,aP,aA,bF⟩,aK.grown C (λe=>by injection e with e;omega),aW.trans aI,zO aF C.size⟩;have a9:w6.rangeLeft r (w.heap.size+1+1)<wr.rangeLeft r (w.heap.size+1+1):=by rw[ZI e2 g];exact aL
    clear C aP aI g e2 p U aB aK aW aN aL aF;go_wp2;exact⟨⟨_,_,a5⟩,a9⟩
end
section
open Go Go.RowKit vA Go.Maps Go.Shelf Go.Sort
theorem Hl (w:World)(b r many clock:Nat)(es:Array oJ)(f:Int->Option Value)(j:za w b 211 #[.map (some r)])(H:zw w r es clock)(A:jv es f)(O:oH es clock)(B:Xn f many)(p:many<=40000):pr Y3 241 #[.func (.func 267) #[] #[.pointer (some ⟨b,0,none⟩)]] w λe w'=>∃v,∃g:List Int,e=Y0 v/\g.Perm ((xL f many).map λk:Nat=>(k:Int))/\w'.ownsRow w.heap.size 3 1 v g.length (g.map encZ)/\(v=.slice none 0 0↔g=[])/\ph w.heap.size w w':=by
 obtain⟨h,K,U,L⟩:=Ce H A O B p;have C:Maps.size h<=oo:=zT U (zT p (by decide));have u:Maps.size h*8<=140737488355328:=by omega
 refine(callsIn_wide (n:=6)).1 ?_;have N:SeqGives oS 4 Y3 267 #[.pointer (some ⟨b,0,none⟩)] encZ (λg=>g.Perm (intKeys h)) (Maps.size h) w :=
  AnyZI.keys_gives (ρ:=TH) {tG with} oS _ trivial rfl (by omega) b r many h _ j.lt j.boxed K
 refine(AnyZI.collect_in tg oS 6 trivial trivial rfl (by omega) 267 #[.pointer (some ⟨b,0,none⟩)] trivial (zb.eo func267) _ _ C u w N).mono ?_;rintro e w' ⟨v,g,rfl,q,M,I,hB⟩;exact⟨v,g,rfl,q.trans L,M,I,hB⟩
theorem TJ (g:Option Nat)(w:World):pr Y3 205 #[.map g] w λe w'=>e=Y0 (.func (.func 267) #[] #[.pointer (some ⟨w.heap.size,0,none⟩)])/\w'=w.alloc (.cells #[.map g] 211) :=
 (callsIn_wide (n:=6)).1 (AnyZI.keys_in tG oS 6 trivial rfl g w)
section
variable {ρ:py->Value}{w:World}{o:oM}{x y:py}{r clock:Nat}{k:Int}{es:Array oJ}{f:Int->Option Value}{v:Value}
theorem tF (e:jv es f)(h:zw w r es clock)(g:f k=some v)(j:o.op=.lookup 211 x y false)(h1:ρ x=.map (some r))(h2:ρ y=.int .i64 k):(oB ρ o).run Y3 w=.ok (.value v) w :=
 Kw (z0:=(.slice none 0 0)) underlying211 (by simp[go_sem]) e h (by simp[g]) j h1 h2
end
theorem LJ (W:World)(h j r clock:Nat)(es:Array oJ)(f:Int->Option Value)(g:Nat)(p:Y7)(B:∀args w,(dF g args).run Y3 w=.ok (.enter g args) w)(h1:za W h 219 #[.func (.func g) #[] p])(h2:za W j 211 #[.map (some r)])(A:zw W r es clock)(q:jv es f)(k:Int)(v:Value)(u:f k=some v)(b:Bool)(hs:pr Y3 g (#[v]++p) W λe w'=>e=Y0 (.bool b)/\W=w'):pr Y3 248 #[.int .i64 k,.pointer (some ⟨h,0,none⟩),.pointer (some ⟨j,0,none⟩)] W λe w'=>e=Y0 (.bool (!b))/\W=w':=by
 have c1:=h1.boxed;have c2:=h2.boxed
 go_enter func248,ntmps248
 go_wp2_with (first
  | (refine zr rfl (tF q A u rfl rfl rfl) ?_)
  | (refine hs.mono ?_;rintro e w' ⟨rfl,rfl⟩))
 go_ret;exact⟨rfl,rfl⟩
theorem DM (w:World)(r many clock:Nat)(es:Array oJ)(f:Int->Option Value)(aD:zw w r es clock)(he:jv es f)(a5:oH es clock)(aI:Xn f many)(hm:many<=40000)
  (u:Nat) (C:Y7) (aO:∀args w,(dF u args).run Y3 w=.ok (.enter u args) w) (p:Int->Bool) (a6:∀W,ph w.heap.size w W->∀k v,f k=some v->pr Y3 u (#[v]++C) W λe w'=>e=Y0 (.bool (p k))/\W=w')
  (L:Nat) (bl:Y7) (aN:∀args w,(dF L args).run Y3 w=.ok (.enter L args) w) (O:Int->Int->Int) (hO:SWO (ltOf O)) (aW:∀W,ph w.heap.size w W->∀x y,(f x).isSome=true->(f y).isSome=true->p x=true->p y=true->pr Y3 L (#[.int .i64 x,.int .i64 y]++bl) W λe w'=>e=Y0 (.int .i64 (O x y))/\∃q os,w'=grow (W.drewN q) os) :
  pr Y3 187 #[.map (some r),.func (.func u) #[] C,.func (.func L) #[] bl] w λe w'=>∃(A:Y5) (c:Nat) (ks:List Int),e=Y0 (.slice A ks.length c)/\Bj f p O ks/\wL w w' A ks/\ph w.heap.size w w':=by
 have aA:ph w.heap.size w ((w.alloc (.cells #[.map (some r)] 211)).alloc (.cells #[.func (.func u) #[] C] 219)):=((pf _ w).alloc (zG _) _).alloc (by simp) _;have b0:za ((w.alloc (.cells #[.map (some r)] 211)).alloc (.cells #[.func (.func u) #[] C] 219)) w.heap.size 211 #[.map (some r)]:=(za.new w _ _).alloc _;have b1:za ((w.alloc (.cells #[.map (some r)] 211)).alloc (.cells #[.func (.func u) #[] C] 219)) (w.heap.size+1) 219 #[.func (.func u) #[] C]:=by
  have:=za.new (w.alloc (.cells #[.map (some r)] 211)) 219 #[.func (.func u) #[] C]
  rwa [pq] at this
 have c0:=b0.boxed;have aR:=TJ (some r);obtain⟨W0,K⟩:=Z9 ((w.alloc (.cells #[.map (some r)] 211)).alloc (.cells #[.func (.func u) #[] C] 219));have bF:W0.heap.size=w.heap.size+2:=by rw[K];simp
 rw[<-K] at aA b0 b1 c0;have X:ph W0.heap.size W0 (W0.alloc (.cells #[.map (some r)] 211)):=(pf _ _).alloc (zG _) _;have bA:za (W0.alloc (.cells #[.map (some r)] 211)) W0.heap.size 211 #[.map (some r)]:=za.new _ _ _;have aK:=aD.lt;have HC:=Hl _ _ r many clock es f bA ((aD.below aA aK).below X (by omega)) he a5 aI hm;rw[K] at HC;simp only[pq] at HC;clear bA;have aS:=@VQ;have aH:=λW fv=>AnyF.slices_SortFunc_none (P:=Y3) (ρ:=KU) {uV with} none 0 fv W
 change ∀W fv,pr Y3 245 _ _ _ at aH
 go_enter func187,ntmps187
 go_wp2_with (first
  | (go_at_call 205;refine(aR _).mono ?_;rintro e w1 ⟨rfl,rfl⟩)
  | (go_at_call 241;refine HC.mono ?_;rintro e w2 ⟨v,g,rfl,aF,a4,aL,aB⟩))
 have N:∀k,k∈g↔(f k).isSome=true:=λk=>by
  rw[aF.mem_iff,qP];constructor
  ·rintro⟨a,ha,rfl⟩;exact(jD.1 ha).2
  ·intro h;obtain⟨v,hv⟩:=Option.isSome_iff_exists.1 h;obtain⟨h3,h4⟩:=aI k v hv;have e:(k.toNat:Int)=k:=by omega
   exact⟨k.toNat,jD.2 ⟨by omega,by rw[e];exact h⟩,e⟩
 have a0:g.Nodup:=aF.nodup_iff.2 (List.pairwise_map.2 ((ZV f many).imp λh e=>by omega));have bE:g.length<=many:=by have h1:=aF.length_eq;rw[qE] at h1;have:=Zv f many;omega
 have H:ph w.heap.size w w2:=by
  have h1:ph w.heap.size (W0.alloc (.cells #[.map (some r)] 211)) w2:=by rw[K];exact aB.mono (by omega)
  exact(aA.trans (X.mono (by omega))).trans h1
 by_cases aG:g=[]
 ·rw[aL.2 aG]
  go_wp2_with (first
   | (go_at_call 243;refine(aS _ _ _).mono ?_;rintro e w3 ⟨rfl,rfl⟩)
   | (go_at_call 245;refine(aH _ _).mono ?_;rintro e w3 ⟨rfl,rfl⟩))
  go_ret;refine⟨none,0,[],rfl,⟨List.nodup_nil,λk=>⟨λh=>absurd h (by simp),λh => ?_⟩,mQ⟩,λj h=>absurd h (by simp),H⟩;have:=(N k).2 h.1;rw[aG] at this;exact absurd this (by simp)
 ·obtain⟨gb,B,cur,rfl,aV,aC,r1,r2,r3,r4⟩:∃gb B cur,v=.slice (some ⟨gb,0,none⟩) g.length B/\w.heap.size+2<gb/\za w2 gb 3 cur/\g.length<=B/\B<=oo/\cur.size=B*1/\cur.toList.take (g.length*1)=g.map encZ:=by
   rcases a4.2 with⟨rfl,hz⟩|⟨gb,B,cur,rfl,aV,aC,r1,r2,r3,r4⟩
   ·exact absurd (aL.1 rfl) aG
   ·exact⟨gb,B,cur,rfl,by omega,aC,r1,r2,r3,r4⟩
  have aZ:∀j (h:j<g.length),cur[j]?=some (.int .i64 g[j]):=λj Z=>by
   rw[yL] at r4;have h1:(cur.toList.take g.length)[j]?=(g.map encZ)[j]?:=by rw[r4]
   rw[List.getElem?_take_of_lt Z,List.getElem?_map,zM Z,yD] at h1;exact h1
  have q0:za w2 w.heap.size 211 #[.map (some r)]:=by have M:=(b0.below X (by omega));rw[K] at M;exact M.below aB (by omega)
  have q1:za w2 (w.heap.size+1) 219 #[.func (.func u) #[] C]:=by have M:=(b1.below X (by omega));rw[K] at M;exact M.below aB (by omega)
  have aJ:zw w2 r es clock:=aD.below H aK
  have HD:=Ru w2 248 #[.pointer (some ⟨w.heap.size+1,0,none⟩),.pointer (some ⟨w.heap.size,0,none⟩)] (zb.eo func248) (λk => !p k) gb B g cur aC aZ r1 (by omega) (λW I k hk=>by
   obtain⟨v,hv⟩:=Option.isSome_iff_exists.1 ((N k).1 hk);have n0:¬ w.heap.size=gb:=by omega
   have n1:¬ w.heap.size+1=gb:=by omega
   have n2:¬ r=gb:=by omega
   exact LJ W (w.heap.size+1) w.heap.size r clock es f u C aO (I.blk q1 n1) (I.blk q0 n0) ((I.block r aJ.lt n2).trans aJ) he k v hv (p k) (a6 W (H.trans (I.toBelow H.size (λk e=>by omega))) k v hv))
  have ef:(g.filter λk => !(!p k))=g.filter p:=by congr 1;funext k;simp
  rw[ef] at HD;have bD:(g.filter p).length<=g.length:=List.length_filter_le _ _
  go_wp2_with (go_at_call 243;refine HD.mono ?_;rintro e w3 ⟨aM,rfl,aT,aX,aP⟩)
  have U:ph w.heap.size w w3:=H.trans (aP.toBelow H.size (λk e=>by omega))
  have HS:=SE w3 gb B (g.filter p) aM aT aX (by omega) O hO L bl aN (λW I x hx y hy=>by
   obtain⟨a7,a8⟩:=yB.1 hx;obtain⟨a9,bB⟩:=yB.1 hy
   exact aW W (U.trans (I.toBelow U.size (λk e=>by omega))) x y ((N x).1 a7) ((N y).1 a9) a8 bB)
  go_wp2_with (go_at_call 245;refine HS.mono ?_;rintro e w4 ⟨rfl,ks,bC,aE,a3,aU,aY,aQ⟩)
  go_ret;refine⟨some ⟨gb,0,none⟩,B,ks,by rw[aE.length_eq];rfl,⟨aE.nodup_iff.2 (a0.filter _),λk=>by rw[aE.mem_iff,yB,N],a3.imp λh=>by omega⟩,λj Z=>⟨gb,rfl,by omega,by rw[aU.cell];exact aY j Z⟩,U.trans (aQ.toBelow U.size (λk e=>by omega))⟩
end
section
open Go Go.RowKit vA Go.Shelf Go.Sort
attribute [local go_sem] Oper.semAt_some
theorem tf:SWO (ltOf Rw):=by
 have e:∀x y,ltOf Rw x y=decide (x<y):=λx y=>by unfold ltOf;simp only[Oz]
 refine⟨λx => ?_,λx y z h1 h2 => ?_,λx y z h1 h2 => ?_⟩<;>simp only[e,decide_eq_true_eq,decide_eq_false_iff_not] at *<;>omega
theorem Ld {f:Int->Option Value}{many:Nat}{ks:List Int}(h:Bj f (λ_=>true) Rw ks)(q:Xn f many):ks=(xL f many).map λk:Nat=>(k:Int):=by
 obtain⟨h1,h2,p⟩:=h;have u:ks.Perm ((xL f many).map λk:Nat=>(k:Int)):=by
  refine(List.perm_ext_iff_of_nodup h1 (List.pairwise_map.2 ((ZV f many).imp λh e=>by omega))).2 λk => ?_
  rw[h2,qP];constructor
  ·rintro⟨h,_⟩;obtain⟨v,A⟩:=Option.isSome_iff_exists.1 h;obtain⟨B,C⟩:=q k v A;have e:(k.toNat:Int)=k:=by omega
   exact⟨k.toNat,jD.2 ⟨by omega,by rw[e];exact h⟩,e⟩
  ·rintro⟨a,ha,rfl⟩;exact⟨(jD.1 ha).2,rfl⟩
 have g:=(mergeSort_of_perm_i u).trans (Lb f many)
 have j:ks.mergeSort (λx y=>decide (x<=y))=ks:=List.mergeSort_of_pairwise (p.imp λh=>by
  rw[Oz] at h;simp
  omega)
 rw[j] at g;exact g
theorem EJ (W:World)(v:Value):pr Y3 188 #[v] W λe w'=>e=Y0 (.bool true)/\W=w':=by
 go_enter func188,ntmps188
 go_wp2;go_ret;exact⟨rfl,rfl⟩
theorem To (W:World)(x y:Int):pr Y3 189 #[.int .i64 x,.int .i64 y] W λe w'=>e=Y0 (.int .i64 (Rw x y))/\∃q os,w'=grow (W.drewN q) os:=by
 go_enter func189,ntmps189
 go_wp2_with (go_at_call 183;refine(Rx _ _ _).mono ?_;rintro e w' ⟨rfl,rfl⟩)
 go_ret;exact⟨rfl,0,#[],by rw[grow_empty];rfl⟩
theorem GR (w:World)(r many clock:Nat)(es:Array oJ)(f:Int->Option Value)(C:zw w r es clock)(u:jv es f)(K:oH es clock)(p:Xn f many)(B:many<=40000):pr Y3 187 #[.map (some r),.func (.func 188) #[] #[],.func (.func 189) #[] #[]] w λe w'=>∃(A:Y5) (c:Nat),e=Y0 (.slice A (xL f many).length c)/\ph w.heap.size w w' /\
   ∀(j:Nat) (h:j<(xL f many).length),∃gb,A=some ⟨gb,0,none⟩/\w.heap.size<=gb/\w'.cell? ⟨gb,j,none⟩=some (.int .i64 (((xL f many)[j]:Nat):Int)):=by
 refine(DM w r many clock es f C u K p B 188 #[] (zb.eo func188) (λ_=>true) (λW _ k v _=>EJ W v) 189 #[] (zb.eo func189) Rw tf (λW _ x y _ _ _ _=>To W x y)).mono ?_;rintro e w' ⟨A,c,ks,rfl,I,H,hB⟩;obtain rfl:=Ld I p;refine⟨A,c,by rw[qE],hB,λj h => ?_⟩;obtain⟨g,h1,h2,q⟩:=H j (by rw[qE];exact h);exact⟨g,h1,h2,by rw[q,da]⟩
theorem Kp.rL {B:Nat}(A:Y5):OwnFrom B (λ(_:Unit) W=>Kp W A):=λ_ X Y row hs p q g o e=>by
 obtain⟨cs,j⟩:=hs g o e;refine⟨cs,(p.block g j.lt λe => ?_).trans j⟩;obtain⟨_,u,h1,h2⟩:=q g e.symm;have h:X.heap[g]?=some (.cells cs 5 (0,0)):=j;rw[h1] at h;injection h with h
 rw[h] at h2;cases h2
def tV (K:List Nat)(Y:Int->Option Y4)(pre:List (Nat×(Y5×Nat)))(x:Nat×(Y5×Nat))(W:World):Prop :=
 K[pre.length]?=some x.1/\pre.map (·.1)=K.take pre.length/\∃y,Y (x.1:Int)=some y/\y.length=512/\qq W W.heap.size x.2.1 x.2.2 y/\Kp W x.2.1
theorem yg.step {g U:Nat->Prop}{j p W3:World}(h:yg g j p)(u:vh j.heap.size g U)(k:yg U p W3):yg g j W3 :=
 ⟨zT h.1 k.1,λi o q hn=>k.2 i o (h.2 i o q hn) λe=>(u i e).elim hn (λh=>by have:=(zK.1 q).1;omega)⟩
def wI (W:World)(k:Nat):Prop:=(∃em cm,W.heap[k]?=some (.map em cm))∨∃T cs,za W k T cs/\cs.size<=64
theorem wI.below {W W':World}{k:Nat}(h:wI W k)(hB:ph W.heap.size W W'):wI W' k:=by
 rcases h with⟨em,cm,h⟩|⟨T,cs,h,hs⟩
 ·exact .inl ⟨em,cm,(hB.block k (zK.1 h).1).trans h⟩
 ·exact .inr ⟨T,cs,h.below hB h.lt,hs⟩
theorem wI.rD {W:World}{n c:Nat}{A:Y5}{y:Y4}(h:qq W n A c y)(hl:64<y.length){g o:Nat}(e:A=some ⟨g,o,none⟩):¬ wI W g:=λhs=>by
 obtain⟨q,o',j,_,hc⟩:=h.rC (by omega);rw[e] at j;injection j with j
 injection j with e1 e2
 subst e1 e2;have p:=hc 64 hl;rcases hs with⟨em,cm,hm⟩|⟨T,cs,hb,hsz⟩
 ·simp[nD,hm] at p
 ·rw[hb.cell,ov (by omega)] at p;cases p
theorem NF (n:Nat)(hn:6<=n)(l q r many clock:Nat)(es:Array oJ)(f:Int->Option Value)(Y:Int->Option Y4)(J Jx:List (Nat×(Y5×Nat))->(Nat->Prop)->World->Prop)(u:Nat->Prop)(W:World)(a6:¬ u q)(a7:¬ u r)(aI:∀k,u k->wI W k)(aE:tc J)(a0:∀s U X,J s U X->∀k,U k->k<X.heap.size)
  (hY:∀h x U W1,J h U W1->tV (xL f many) Y h x W1->YieldAt oS (n-1) Y3 l (Sh x) W1 λe W' =>
   (e=Y0 (.bool true)/\∃B,vh W1.heap.size U B/\J (h++[x]) B W'/\yg U W1 W')∨(e=Y0 (.bool false)/\∃B,Jx (h++[x]) B W'))
  (hq:za W q 211 #[.map (some r)]) (hm:zw W r es clock) (he:jv es f) (aR:oH es clock) (hP:Zf W f Y) (L:Xn f many) (aO:many<=40000) (M:J [] u W) :
  CallsIn oS n Y3 186 #[.func (.yield l) #[] #[],.pointer (some ⟨q,0,none⟩)] W λe W'=>(∃v,e=Y0 v) /\
   ((∃ys B,ys.map (·.1)=xL f many/\J ys B W')∨(∃h B,h.length<=(xL f many).length/\Jx h B W')):=by
 have h1:1<=n:=by omega
 have a8:=hq.boxed;have HS:=GR W r many clock es f hm he aR L aO;have aB:∀k∈xL f many,(f (k:Int)).isSome=true:=λk I=>(jD.1 I).2
 have aK:=a0 _ _ _ M;obtain⟨K,O⟩:=Z9 (xL f many);have bG:K.length<=40000:=by rw[O];exact zT (Zv f many) aO
 rw[<-O] at HS aB;rw[<-O] at hY ⊢;clear O L aR;refine callsIn_of_wp func186 rfl trivial ?_ rfl;simp only[ntmps186,zR,zL,zY,yJ,yK,qG,qH,qS,qL,zQ,zX]
 gi_wp2
 refine Xh ?_
 gi_wp2
 refine wpIn_label ?_
 gi_wp2_with (refine⟨trivial,?_⟩;gi_at_call 187;refine(callsIn_wide.2 HS).mono ?_;rintro e W1 ⟨A,c,rfl,H,aL⟩)
 have aY:J [] u W1:=aE _ _ _ _ M H;have q1:=hq.below H hq.lt;have m1:=hm.below H hm.lt;have aJ:=hP.grow H;have a4:∀k,u k->wI W1 k:=λk I=>(aI k I).below H
 have bB:∀gb,W.heap.size<=gb->¬ u gb:=λgb aM e=>by have:=aK gb e;omega
 clear HS a8 H hq hm hP aI aK M
 gi_loopw [8] (λi wr=>∃(h:List (Nat×(Y5×Nat))) (U:Nat->Prop),i=.int .i64 (h.length:Int)/\h.length<=K.length/\h.map (·.1)=K.take h.length/\J h U wr/\vh W1.heap.size u U/\yg u W1 wr)
  (λi _=>K.length-(intOf i).toNat)
 case atStart=>exact⟨[],u,rfl,gP _,rfl,aY,vh.refl _ _,yg.refl _ _⟩
 case round =>
  obtain⟨h,U,rfl,bI,N,aF,aH,C⟩:=hrel
  by_cases L:h.length<K.length
  ·obtain⟨gb,rfl,aM,a9⟩:=aL h.length L;have bA:=C.cell (p:=⟨gb,h.length,none⟩) a9 (bB gb aM);have bH:=(C.blk q1 a6).boxed;have bD:zw wr r es clock:=C.2 _ _ m1 a7;have Z:K[h.length]?=some K[h.length]:=zM L;have aC:=aB K[h.length] (qI L);obtain⟨k,I⟩:=Z9 (K[h.length]);rw[<-I] at bA Z aC;rcases aJ (k:Int) with⟨h2,_⟩|⟨A0,c0,y,h2,h3,h4,h5⟩
   ·rw[h2] at aC;cases aC
   ·have aX:qq wr wr.heap.size A0 c0 y:=by
     refine⟨h5.le,h5.max,h5.nil,λM => ?_⟩;obtain⟨g,o,e,hg,hc⟩:=h5.rC M;have a5:¬ u g:=λbE=>wI.rD h5 (by omega) e (a4 g bE)
     exact⟨g,o,e,zO hg C.1,λj hj=>C.cell (hc j hj) a5⟩
    have hC:=Xe wr A0 c0 y aX (by omega);rw[h4] at hC;have aQ:∀z,(h++[(k,z)]).map (·.1)=K.take (h++[(k,z)]).length:=λz=>by rw[qW,N,zH,List.length_singleton,List.take_add_one,Z];rfl
    have bJ:IntKind.i64.wrap ((h.length:Int)+1)=(h.length:Int)+1:=jw _;have H2:=pk h2;have H3:=pk h3;have H4:=pk h4;have aV:=pk N;have aW:=pk aQ;have aT:=pk Z;clear h2 h3 h4 N aQ I Z aL aB aJ h5
    gi_wp2_with (first
     | (refine Yr rfl (PC he bD H2.out rfl rfl rfl) ?_)
     | (refine⟨trivial,?_⟩;gi_at_call 112;refine(callsIn_wide.2 hC).mono ?_;rintro e W6 ⟨A6,c6,rfl,bC,_,bF,aA⟩;obtain⟨fn,tmps,assign,body,aS,hR⟩:=hY h (k,(A6,c6)) U W6 (aE _ _ _ _ aF aA) ⟨aT.out,aV.out,y,H3.out,H4.out,bC,bF⟩;unfold Sh at aS;dsimp only at aS))
    refine hR.mono ?_;rintro e W4 (⟨rfl,U4,aG,aZ,aN⟩|⟨rfl,U4,a3⟩)
    ·have s6:=aA.size;have k6:yg U wr W4:=(yg.grow U aA).trans aN;have L4:vh W1.heap.size u U4:=aH.trans aG (zT C.1 s6);have k4:=C.step aH k6;have aD:(h++[(k,(A6,c6))]).length<=K.length:=by simp;omega
     clear k6 aG aN
     gi_wp2
     go_roundw
     case rel=>exact⟨_,U4,by simp,aD,aW.out _,aZ,L4,k4⟩
     case measure=>simp[intOf];omega
    ·have aD:(h++[(k,(A6,c6))]).length<=K.length:=by simp;omega
     gi_wp2
     simp only[Exit.noGoto];go_end0;exact⟨⟨_,rfl⟩,.inr ⟨_,U4,aD,a3⟩⟩
  ·have aP:h.map (·.1)=K:=by rw[N,qB (by omega)]
   have aU:=pk aP;clear aP N
   gi_wp2
   simp only[Exit.noGoto];go_end0;exact⟨⟨_,rfl⟩,.inl ⟨h,U,aU.out,aF⟩⟩
theorem Hi (n:Nat)(hn:6<=n)(q r many clock:Nat)(es:Array oJ)(f:Int->Option Value)(Y:Int->Option Y4)(w:World)
  (hq:za w q 211 #[.map (some r)]) (h:zw w r es clock) (H:jv es f) (M:oH es clock) (hP:Zf w f Y) (K:Xn f many) (L:many<=40000) :
  wJ oS n Y3 186 #[.pointer (some ⟨q,0,none⟩)] Sh (λU=>¬ U q/\¬ U r/\∀k,U k->wI w k) (tV (xL f many) Y) (λO=>O.map (·.1)=xL f many) (λN=>N.length<=(xL f many).length) w:=λl J j p W e g A B C u =>
 NF n hn l q r many clock es f Y J j p W g.1 g.2.1 (λk I=>(g.2.2 k I).below e) A B C (hq.below e hq.lt) (h.below e h.lt) H M (hP.grow e) K L u
end
section
open Go Go.RowKit vA Go.Shelf
attribute [local go_sem] Oper.semAt_some
def vk (pd:Int->Bool)(V:qo):qo:=λk=>(V k).map λv=>if pd k then {v with d:=false} else v
def kP (V:qo):qo:=λk=>(V k).map λv => {v with d:=false}
theorem Dn (V:qo):vk (λ_=>false) V=V:=by
 funext k
 unfold vk;cases V k<;>rfl
theorem Ry {pd:Int->Bool}{V:qo}{k:Int}{v:jH}(h:V k=some v):vk (kI pd k) V=xS (vk pd V) k (some {v with d:=false}):=by
 funext j
 unfold vk xS
 by_cases e:j=k
 ·subst e;rw[if_pos rfl,h,dH,Vy,if_pos rfl]
 ·rw[if_neg e,VI e]
theorem Th {pd:Int->Bool}{V:qo}(h:∀k x,jT V k=some x->pd k=true):vk pd V=kP V:=by
 funext k
 unfold vk kP;cases e:V k with
 | none=>rfl
 | some v=>rw[dH,dH,h k _ (Yx e),if_pos rfl]
theorem UL {pd:Int->Bool}{V:qo}{k:Int}{v:jH}(h:V k=some v)(e:pd k=false):vk pd V k=some v:=by unfold vk;rw[h,dH,e];rfl
theorem OH {a r:Nat}{V:qo}:∀k,xJ a r (kP V) k->xJ a r V k:=λk e=>by
 rcases e with e|e|⟨j,u,hu,rfl⟩
 ·exact .inl e
 ·exact .inr (.inl e)
 ·unfold kP at hu;cases g:V j with
  | none=>rw[g] at hu;cases hu
  | some v =>
   rw[g,dH] at hu;injection hu with hu
   subst hu;exact .inr (.inr ⟨j,v,g,rfl⟩)
structure Yd (W9:World)(h r clock:Nat)(es:Array oJ)(a f P:Nat)(room now hh mm:Int)(V:qo)(seen:Array Nat)(pd:Int->Bool)(W:World):Prop where
 it:QP W h r clock seen
 sn:vx es seen pd
 ca:yW W a f r P room now hh mm (vk pd V)
 mp:zw W r es clock
 gb:ze (xJ a r V) W9 W
 sz:h<W.heap.size
theorem Yd.next {A w:World}{h r clock:Nat}{es:Array oJ}{a f P:Nat}{room now hh mm:Int}{V:qo}{u:Array Nat}{pd:Int->Bool}(hc:Yd A h r clock es a f P room now hh mm V u pd w){g:World}{b:Nat}{k:Int}{v:jH}(B:V k=some v)(N:pd k=false)(Z:v.b<h)(K:r<h)
  (M:QP g h r clock (u.push b)) (hB:ph h w g) (X:ph w.heap.size w g∨True) (U:vx es (u.push b) (kI pd k)) (q:yW g a f r P room now hh mm (vk pd V)) (L:ze (xJ a r V) A g) :
  Yd A h r clock es a f P room now hh mm V (u.push b) (kI pd k) (g.setCell ⟨v.b,2,none⟩ (.bool false))/\(g.setCell ⟨v.b,2,none⟩ (.bool false)).rangeLeft r h=g.rangeLeft r h:=by
 have j:=UL B N;obtain⟨h1,p⟩:=q.setRow (v1:={v with d:=false}) j rfl 2 (.bool false) (by simp[SJ]) (.inl ⟨rfl,rfl,rfl⟩) (q.rows k v j).sH (q.hu j _ rfl);have O:=q.rb j;have hl:r<g.heap.size:=zO (zO K (Nat.le_of_lt hc.sz)) hB.size;have I:h<g.heap.size:=zO hc.sz hB.size;have C:=p.block h I (by omega);have H:=p.block r hl O;refine⟨⟨M.rE C,U,by rw[Ry B];exact h1,H.trans ((hB.block r K).trans hc.mp),L.trans (p.more (λk' e _=>by rw[e];exact .inr (.inr ⟨k,v,B,rfl⟩))),zO I p.size⟩,ZI H C⟩
def PA (x:Nat×(Y5×Nat)):Int×Y5×Nat:=((x.1:Int),x.2.1,x.2.2)
section
set_option maxRecDepth 100000
variable {F:Fence}{n:Nat}{w:World}{ops:Array oM}{rest:List oM}{o:oM}{a:oy}{Q:Exit->oy->World->Prop}
theorem PE (U:o.guard=none){S T:oD}{sz A:Nat}{z:Value}(q:Zj S T sz A z)(s x:py)(I:o.op=.call {callee:=.builtin .append,args:=#[s,x],argTypes:=#[S,S]})
  (base:Nat) (v:Value) (k:Nat) (cs:Y8) (hs:a.eval s=v) (aB:w.ownsRow base T sz v k cs) (B g c m:Nat) (C:Y8) (hx:a.eval x=.slice (some ⟨g,0,none⟩) m c) (H:yp w B sz (some ⟨g,0,none⟩) m c C) (aA:0<m)
  (Z:k+m<=oo) (N:(k+m)*A<=140737488355328) (M:base<=w.heap.size)
  (h:∀p w',w'.ownsRow base T sz p (k+m) (cs++C)->w.grownBy w' v.ownBlock->(p.ownBlock=v.ownBlock∨p.ownBlock=some w.heap.size)->nH F n Y3 ops Q rest (a.put o.dst p) w'):nH F n Y3 ops Q (o::rest) a w:=by
 obtain⟨i0,X,aD,aE,aF⟩:=info_parts q.inf;refine gm U λK L => ?_
 obtain⟨p,w',aC,r1,r2,_,r4⟩:=run_append_own_at (P:=Y3) w base S o.type T i0 z sz A q.rX X aD aE aF q.zs q.pos v k cs aB ⟨g,0,none⟩ m c C H.len (λj u hu=>by
  obtain⟨g',o',e,_,hr⟩:=H.rC aA;injection e with e
  injection e with e1 e2
  subst e1 e2;rw[Addr.add_mid]
  exact hr j u hu) H.one Z N M
 unfold Oper.wpIn;refine⟨?_,?_⟩
 ·simp[mg,I,resolve,Target.leads,oU]
 ·rw[nu F _ _ (by rw[I];intro c O;cases O)];simp[oB,I,resolve,invoke,builtin,hs,hx,aC,pv];exact L _ _ (h p w' r1 r2 r4)
end
structure Zl (w:World)(B4:Nat)(Y:Int->Option Y4)(pre:List (Nat×(Y5×Nat)))(U:Nat->Prop)(W:World):Prop where
 has:∃Aw cw,za W w.heap.size 197 #[.slice Aw pre.length cw]/\W.ownsRow B4 200 2 (.slice Aw pre.length cw) pre.length (JC (pre.map PA))/\(∀k,U k↔k=w.heap.size∨(dW Aw pre.length cw).ownBlock=some k)
 rV:∀x∈pre,∃y,Y (x.1:Int)=some y/\y.length=512/\qq W W.heap.size x.2.1 x.2.2 y/\Kp W x.2.1
 up:ph w.heap.size w W
 b4:w.heap.size<B4/\B4<=W.heap.size
theorem Zl.st (w:World)(j:Nat)(Y:Int->Option Y4):wk j (λu U W=>Zl w j Y u U W):=λu U X Z row ⟨⟨A,C,h1,h2,H⟩,I,p,q⟩ g h=>by
 refine⟨⟨A,C,h1.kept g (λr e=>(h r e).2),Yz h2 g (λr e=>(h r e).2),H⟩,λx K => ?_,p.trans (zl g p.size (λr e=>by have:=(h r e).1;omega)),q.1,zT q.2 g.size⟩;obtain⟨y,L,M,N,O⟩:=I x K;exact⟨y,L,M,qq.rL (B:=j) _ _ _ () X Z row N g h,Kp.rL (B:=j) _ () X Z row O g h⟩
theorem Zl.rZ {w:World}{g:Nat}{Y:Int->Option Y4}{q:List (Nat×(Y5×Nat))}{U:Nat->Prop}{W:World}(h:Zl w g Y q U W):∀k,U k->k<W.heap.size:=λk p=>by
 obtain⟨u,A,h1,h2,j⟩:=h.has;rcases(j k).1 p with rfl|e
 ·exact h1.lt
 ·exact kJ h2 k e
theorem Zl.next {w:World}{L:Nat}{Y:Int->Option Y4}{q:List (Nat×(Y5×Nat))}{U:Nat->Prop}{V Va w5:World}{x:Nat×(Y5×Nat)}{C:Y5}{H:Nat}(h:Zl w L Y q U V)(N:za V w.heap.size 197 #[.slice C q.length H])(aF:V.ownsRow L 200 2 (.slice C q.length H) q.length (JC (q.map PA)))(I:∀k,U k↔k=w.heap.size∨(dW C q.length H).ownBlock=some k)
  (hx:∃y,Y (x.1:Int)=some y/\y.length=512/\qq V V.heap.size x.2.1 x.2.2 y/\Kp V x.2.1) (M:ph V.heap.size V Va) {v5:Value} (Z:w5.ownsRow L 200 2 v5 (q.length+1) (JC (q.map PA)++SX (PA x))) (aA:Va.grownBy w5 (dW C q.length H).ownBlock) (aI:v5.ownBlock=(dW C q.length H).ownBlock∨v5.ownBlock=some Va.heap.size) :
  ∃U',vh V.heap.size U U'/\yg U V (w5.setCell ⟨w.heap.size,0,none⟩ v5)/\Zl w L Y (q++[x]) U' (w5.setCell ⟨w.heap.size,0,none⟩ v5):=by
 have e1:JC (q.map PA)++SX (PA x)=JC ((q++[x]).map PA):=by rw[qW,List.map_singleton,Ew]
 have e2:(q++[x]).length=q.length+1:=by simp
 rw[e1] at Z;obtain⟨A5,c5,rfl,_⟩:=qn Z (Ga _);have aD:=zh aF;have aH:=zh Z;have hs:=M.size;have h4:=h.b4;have aJ:=N.lt;have k5:yg U V w5:=(yg.grow U M).trans (yg.grown U aA (λr e=>(I r).2 (.inr e)));have kc:yg U w5 (w5.setCell ⟨w.heap.size,0,none⟩ (.slice A5 (q.length+1) c5)):=yg.setCell _ _ _ ((I _).2 (.inl rfl));have bx:za w5 w.heap.size 197 #[.slice C q.length H]:=(N.below M N.lt).grown aA (λe=>by have:=aD _ e.symm;omega);have aE:∀{W:World} {A:Y5} {c:Nat} {y:Y4},qq V V.heap.size A c y->y.length=512->Kp V A->yg U V W->qq W W.heap.size A c y/\Kp W A:=λ{W A c y} hi hl ht B=>by
  have aB:∀g cs,za V g 5 cs->¬ U g:=λg cs aC e=>by
   rcases(I g).1 e with rfl|e
   ·exact zo N aC (by decide) rfl
   ·obtain⟨cur,aG⟩:=Oh aF g e;exact zo aG aC (by decide) rfl
  refine⟨⟨hi.le,hi.max,hi.nil,λh0 => ?_⟩,λg o e => ?_⟩
  ·obtain⟨g,o,e,hg,hc⟩:=hi.rC h0;obtain⟨cs,O⟩:=ht g o e;exact⟨g,o,e,zO hg B.1,λj hj=>B.cell (p:=⟨g,o+j,none⟩) (hc j hj) (aB g cs O)⟩
  ·obtain⟨cs,O⟩:=ht g o e;exact⟨cs,B.blk O (aB g cs O)⟩
 have X:=k5.trans kc;refine⟨λk=>k=w.heap.size∨(dW A5 (q.length+1) c5).ownBlock=some k,λk B => ?_,X,⟨⟨A5,c5,by rw[e2];exact bx.set 0 _,?_,λk=>by rw[e2]⟩,λu hu => ?_,?_,h4.1,zT h4.2 X.1⟩⟩
 ·rcases B with rfl|B
  ·exact .inl ((I _).2 (.inl rfl))
  ·rcases aI with e|e
   ·rw[e] at B;exact .inl ((I _).2 (.inr B))
   ·rw[e] at B;injection B with B;exact .inr (by omega)
 ·rw[e2];exact ql Z (λr hr=>Below.heap_setCell w5 ⟨w.heap.size,0,none⟩ _ r (λe=>by have h7:=aH r hr;have h8:r=w.heap.size:=e;omega))
 ·rcases qA.1 hu with hu|hu
  ·obtain⟨y,y1,K,y3,y4⟩:=h.rV u hu;obtain⟨z1,z2⟩:=aE y3 K y4 X;exact⟨y,y1,K,z1,z2⟩
  ·rw[qK] at hu;subst hu;obtain⟨y,y1,K,y3,y4⟩:=hx;obtain⟨z1,z2⟩:=aE y3 K y4 X;exact⟨y,y1,K,z1,z2⟩
 ·have h5:=h.up.size;exact h.up.trans (((M.mono h5).trans (zl aA (by omega) (λr e=>by have:=aD r e;omega))).setCell (zG _) _)
end
section
open Go Go.RowKit vA Go.Shelf
attribute [local go_sem] Oper.semAt_some
def xY (V:qo):kR:=λk=>(V k).map λv=>(v.y,v.d)
theorem ZD {V:qo}{k:Int}{y:Y4}:xY V k=some (y,true)↔vu V k=some y:=by
 unfold xY vu;cases e:V k with
 | none=>simp
 | some v =>
  cases hd:v.d<;>simp[hd]
theorem MU {V:qo}{k:Int}:(xg V k).isSome=(vu V k).isSome:=by
 unfold xg vu;cases V k with
 | none=>rfl
 | some v=>cases hd:v.d<;>simp[hd]
theorem UI (V:qo):∀P,(QN (xY V) P).map (·.1)=xL (xg V) P
 | 0=>rfl
 | P+1=>by
  have h:=UI V P;unfold QN;rw[qW,h];unfold xL;rw[List.range_succ,List.filter_append];congr 1;have h1:=@ZD V (P:Int);split
  ·next b e =>
   have:=h1.1 e;simp[MU,this]
  ·next e =>
   cases g:vu V (P:Int) with
   | none=>simp[MU,g]
   | some y=>exact absurd (h1.2 g) (e y)
theorem Zl.args {w V:World}{K:Nat}{Y:Int->Option Y4}{u:List (Nat×(Y5×Nat))}{U:Nat->Prop}(h:Zl w K Y u U V)(L:List (Nat×Y4))(p:u.map (·.1)=L.map (·.1))(O:∀x∈L,Y (x.1:Int)=some x.2):∃B H,za V w.heap.size 197 #[.slice B L.length H]/\Vc V K B L.length (λk=>(u.map PA).getD k (0,none,0)) (tB L):=by
 obtain⟨B,H,M,own,_⟩:=h.has;have hl:u.length=L.length:=by have:=congrArg List.length p;simpa using this
 rw[hl] at M own;have Z:=zh own;obtain⟨A,c,e,aA⟩:=qn own (Ga _);injection e with e1 _ e3
 subst e1 e3;have I:∀k (p:k<L.length),(u.map PA).getD k (0,none,0)=PA (u[k]'(by omega)):=λk p=>by rw[qT,zM (by simp;omega),da];rfl
 have aB:∀k (p:k<L.length),tB L k=((L[k].1:Int),L[k].2):=λk p=>by unfold tB;rw[zM p]
 have h1:∀k (hq:k<L.length),(u[k]'(by omega)).1=L[k].1:=λk hq=>by
  have h2:(u.map (·.1))[k]?=(L.map (·.1))[k]?:=by rw[p]
  rw[zM (by simp;omega),zM (by simp;omega)] at h2;simpa using h2
 have N:∀k (p:k<L.length),L[k].2.length=512/\qq V V.heap.size (u[k]'(by omega)).2.1 (u[k]'(by omega)).2.2 L[k].2/\Kp V (u[k]'(by omega)).2.1:=λk p=>by
  obtain⟨y,C,y2,y3,y4⟩:=h.rV _ (qI (by omega:k<u.length));have h2:=O _ (qI p);rw[h1 k p,h2] at C;injection C with C
  subst C;exact⟨y2,y3,y4⟩
 refine⟨B,H,M,⟨λg o e=>Z g (by rw[e];rfl),λh0 => ?_,λk p => ?_,λk p => ?_⟩⟩
 ·obtain⟨g,o,e,X,hr⟩:=aA.rC (by omega);refine⟨g,o,e,λj hj q v hq => ?_,X⟩;have aC:(SX ((u.map PA)[j]'(by simp;omega)))[q]?=some v:=by have e:=I j hj;simp only[e] at hq;rw[da];exact hq
  have:=hr (j*2+q) v (SU _ j (by simp;omega) q v aC);rw[show o+j*2+q=o+(j*2+q) by omega];exact this
 ·obtain⟨q1,q2,_⟩:=N k p;simp only[I k p,aB k p];exact⟨by show ((L[k].1:Nat):Int)=(((u[k]'(by omega)).1:Nat):Int);rw[h1 k p],q1,q2⟩
 ·simp only[I k p];exact(N k p).2.2
theorem AP (x:Int×Y5×Nat):∀v∈SX x,v.oneCell'=true:=by
 intro v e;simp[SX] at e;rcases e with rfl|rfl<;>rfl
theorem yW.pF {W W':World}{a f r P B:Nat}{room now hh mm:Int}{V:qo}(h:yW W a f r P room now hh mm V)(hB:ph B W W')(u:∀k,xJ a r V k->k<B)(I:∀k v,V k=some v->∀g o,v.A=some ⟨g,o,none⟩->0<v.y.length->g<B):yW W' a f r P room now hh mm V:=by
 obtain⟨es,c,N,K,hs⟩:=h.mp;refine⟨h.cb.below hB (u _ (.inl rfl)),⟨es,c,N.below hB (u _ (.inr (.inl rfl))),K,hs⟩,λk v C => ?_,h.inj,h.sf⟩;have q:=h.rows k v C;refine⟨q.blk.below hB (u _ (.inr (.inr ⟨k,v,C,rfl⟩))),q.key,⟨q.rV.le,q.rV.max,q.rV.nil,λH => ?_⟩,q.len,q.sH⟩;obtain⟨g,o,e,L,hc⟩:=q.rV.rC H;exact⟨g,o,e,zO L hB.size,λj M=>(hB.cell (p:=⟨g,o+j,none⟩) (I k v C g o e H)).trans (hc j M)⟩
theorem Hm {pd:Int->Bool}{V:qo}{k:Int}{v:jH}(h:vk pd V k=some v):∃u,V k=some u/\v.b=u.b/\v.A=u.A/\v.y=u.y:=by
 unfold vk at h;cases e:V k with
 | none=>rw[e] at h;cases h
 | some u =>
  rw[e,dH] at h;injection h with h
  subst h;refine⟨u,rfl,?_,?_,?_⟩<;>split<;>rfl
theorem Yd.iter {h w w4:World}{r clock:Nat}{es:Array oJ}{a f P:Nat}{room now hh mm:Int}{V:qo}{M:Array Nat}{pd:Int->Bool}(hc:Yd h h.heap.size r clock es a f P room now hh mm V M pd w)(A:yW h a f r P room now hh mm V)(hB:ph h.heap.size w w4):yW w4 a f r P room now hh mm (vk pd V)/\ze (xJ a r V) h w4:=by
 refine⟨hc.ca.pF hB (λk L=>A.rZ k ?_) (λk v p g o e q => ?_),⟨hB.os.trans hc.gb.os,hB.tape.trans hc.gb.tape,hB.output.trans hc.gb.output,zT hc.gb.size hB.size,λi B hn=>(hB.block i B).trans (hc.gb.block i B hn)⟩⟩
 ·rcases L with e|e|⟨j,v,p,e⟩
  ·exact .inl e
  ·exact .inr (.inl e)
  ·obtain⟨u,h1,h2,_⟩:=Hm p;exact .inr (.inr ⟨j,u,h1,by rw[e,h2]⟩)
 ·obtain⟨u,h1,_,H,I⟩:=Hm p;have K:=(A.rows k u h1).rV;rw[I] at q;obtain⟨N,o',C,O,_⟩:=K.rC q;rw[H,C] at e;injection e with e
  injection e with e1 e2
  omega
section
variable {W0 W W' w:World}{d f l a r many P:Nat}{fr pg room now hh mm:Int}{s:DS}{S:Zz}{V:qo}{c:YM}
theorem YL.rI (h:YL W0 d f l a r many P fr pg room now hh mm s S V W){g:Nat}{T:oD}{cs:Y7}(j:za W g T cs)(h1:T≠185)(h2:T≠194)(q:T≠114)(u:T≠171)(A:T≠119):¬ CD d l a r V g/\g≠f:=by
 have B:=h.ca.rI j h1 h2;have p:=h.fh.ne j q u;refine⟨λC => ?_,λe => ?_⟩
 ·rcases C with e|e|e
  ·exact p (.inl e)
  ·exact p (.inr e)
  ·exact B e
 ·subst e;exact zo j h.fh.fb A rfl
theorem YL.other (h:YL W0 d f l a r many P fr pg room now hh mm s S V W){g:Nat}{T:oD}{cs:Y7}(j:za W g T cs)(hs:cs.size<=64)(hu:∀n,cs[0]? ≠ some (.int .u64 n))(B:W0.heap.size<=g)(h1:T≠185)(h2:T≠194)(p:T≠114)(q:T≠171)(u:T≠119)(A:ze (λk=>k=g) W W'):YL W0 d f l a r many P fr pg room now hh mm s S V W' :=
 h.rE A (λk e=>by subst e;exact⟨.inr (.inl ⟨_,_,j,hs,hu⟩),.inr (.inl ⟨_,_,j,hs⟩)⟩) (λk e=>by subst e;exact B) (λk e=>by subst e;exact h.rI j h1 h2 p q u)
end
end
section
open Go Go.RowKit vA
section
variable {w:World}{a f r P:Nat}{room now hh mm:Int}{V:qo}
end
theorem VB (V:qo)(k:Int)(v:jH):xY (xS V k (some v))=XR (xY V) k (v.y,v.d):=by
 funext j
 unfold xY xS XR;split<;>rfl
theorem Pk {V:qo}{k:Int}(h:V k=none):xY V k=none:=by unfold xY;rw[h];rfl
theorem vo {V:qo}{k:Int}{v:jH}(h:V k=some v):xY V k=some (v.y,v.d):=by unfold xY;rw[h];rfl
def wq (V:qo):Prop:=∀k v,V k=some v->v.y.length=512
theorem jN.full {P:Nat}{Y:Nat->Y4}{V:qo}(h:jN P Y (xY V)):wq V:=λk v e=>(h k v.y v.d (vo e)).2.1
section
variable {fr pg room:Int}{P:Nat}{G:Nat->Y4}{S:Zz}{c c':YM}{i:Nat}
theorem wK {Y g:Nat->Y4}{R:kR}(h:jN P Y R)(q:∀p,p<P->g p=Y p):jN P g R:=λp b d e=>by
 obtain⟨h1,h2,j⟩:=h p b d e;exact⟨h1,h2,λhd=>by rw[q p.toNat (by omega)];exact j hd⟩
end
section
variable {fr pg:Int}{P:Nat}{G1 G2 G1' G2':Nat->Y4}{S1 S2 S1' S2':Zz}{R1 R2 R1' R2':kR}
end

section
variable {ρ:py->Value}{w:World}{o:oM}{x y z:py}
theorem uA {l:Y4}(hl:l.length<=1000000)(u:o.op=.convert 9 129 x)(h1:ρ x=.string (Jz l)):∃c w',(oB ρ o).run Y3 w=.ok (.value (.slice (some ⟨w.heap.size,0,none⟩) l.length c)) w'/\qq w' w'.heap.size (some ⟨w.heap.size,0,none⟩) c l/\ph w.heap.size w w':=by
 have A:=Go.Lib.run_convert_string_bytes (P:=Y3) w 9 129 5 (Jz l) underlying9 underlying129 underlying5;have h2:=grownCap_ge w (Jz l).size 0 5;have p:=grownCap_le_maxLen w (Jz l).size 0 5 (by rw[ZB];unfold oo;omega);have h:=Go.Lib.bytesWorld_size w 5 (Jz l);refine⟨grownCap w (Jz l).size 0 5,Go.Lib.bytesWorld w 5 (Jz l),?_,⟨by rw[ZB] at h2;exact h2,by unfold oo at p;omega,(λe=>by cases e),λB=>⟨w.heap.size,0,rfl,by rw[h];omega,λj g => ?_⟩⟩,⟨rfl,rfl,rfl,by rw[h];omega,λk q=>Go.Lib.bytesWorld_at_old w _ _ k q⟩⟩
 ·simp only[oB,u,h1,oY,A,oO,oU,ZB]
 ·rw[qC,Go.Lib.bytesWorld_cell w 5 (Jz l) j (by rw[ZB];exact g),CF];congr 2;simp[List.getD,g]
theorem QT {g k:Nat}{t T:oD}{cs:Y7}(e:yx Y3 T k)(h:za w g t cs)(j:cs.size=k)(p:o.op=.load T x)(q:ρ x=.pointer (some ⟨g,0,none⟩)):(oB ρ o).run Y3 w=.ok (.value (.agg cs)) w:=by
 have:=yX (ρ:=ρ) (o:=o) e h.range (by simpa using j) p q;simpa using this
end


theorem Lp {W0:World}(w:World)(d many:Nat)(fr pg:Int)(B:ph W0.heap.size W0 w)(hd:W0.heap.size<=d)(u:yR w d many (λ_=>qx) [] 0 false)(K:xB fr pg=true)(H:(many:Int)=2+9*fr+8*pg)(I:many<=1000000):pr Y3 37 #[.pointer (some ⟨d,0,none⟩),.agg #[.int .i64 fr,.int .i64 pg]] w λe w'=>∃f l,e=Y0 (.tuple #[.pointer (some ⟨f,0,none⟩),.int .i64 0])/\Kt W0 d f l many fr pg ⟨laid (λ_=>qx) (JD 1 (kg 1 1 0 0) 1),[],0,false⟩ ⟨1,1,0,[]⟩ w'/\w.heap.size<=f/\w.heap.size<=l:=by
 have L:=u.lt;have p:ph w.heap.size w (w.alloc (.cells #[.int .i64 fr,.int .i64 pg] 74)):=(pf _ w).alloc (zG _) _;have C:=za.new w 74 #[.int .i64 fr,.int .i64 pg];have hs:=B.size;refine(Re w d fr pg (λl g=>w.heap.size<=l/\yR g d many (laid (λ_=>qx) (JD 1 (kg 1 1 0 0) 1)) [] 0 false/\za g l 171 (Xj (some ⟨d,0,none⟩) fr pg 1 1 0 none 0 0)/\ph W0.heap.size W0 g) ((IT _ fr pg d many 0 (u.grow p) K H I (by decide) (by decide)).mono ?_)).mono ?_
 ·rintro e g ⟨l,rfl,hl,j,h,A⟩;refine⟨l,rfl,C.grown A (λe=>by injection e with e;omega),by simp at hl;omega,j,h,(B.trans (p.mono hs)).trans (zl A (by simp;omega) (λr e=>by injection e with e;rw[<-e];exact hd))⟩
 ·rintro e w' ⟨l,g,rfl,⟨hl,j,h,q⟩,rfl⟩;have ha:ph g.heap.size g (g.alloc (.cells (VM l fr pg) 119)):=(pf _ _).alloc (zG _) _;exact⟨_,l,rfl,⟨q.trans (ha.mono q.size),j.grow ha,YH.grow ⟨by omega,none,0,[],h,JS.mt _ _,rfl⟩ ha,za.new _ _ _,hd,by omega⟩,by have:=h.lt;omega,hl⟩
theorem LI.nz {G:Nat->Y4}{S:Zz}{g:Nat}(h:LI G S g):∃k,¬ G k=qx:=⟨S.sr%2,λe=>by
 have h1:=RX (s:=S.sr) (e:=S.ep) (z:=g) (c:=S.fs.length) h.on.sr h.on.ep h.on.hzl h.on.hn;rw[<-h.on.hd,e,Gx] at h1
 cases h1⟩
theorem ug.nz {fr pg:Int}{G:Nat->Y4}{S:Zz}{i:Nat}(h:ug fr pg G S i):∃k,¬ G k=qx:=by
 obtain⟨e,h⟩:=h.li;exact h.nz
theorem BT (w:World)(f l d:Nat)(fr pg room:Int)(S:Zz)(j:za w f 119 (VM l fr pg))(h:YH w l d fr pg S)(p:¬ (2<=room/\room<=2000)):pr Y3 63 #[.pointer (some ⟨f,0,none⟩),.int .i64 room] w λe w'=>e=Y0 (.tuple #[.pointer none,.int .i64 2])/\w=w':=by
 have g:=UF j h
 by_cases h1:room<2
 ·go_enter func63,ntmps63
  go_wp2_with (go_at_call 106;refine g.mono ?_;rintro e w' ⟨rfl,rfl⟩)
  exact oE (oN rfl _ _ _) rfl ⟨rfl,rfl⟩
 ·have h2:2000<room:=by omega
  go_enter func63,ntmps63
  go_wp2_with (go_at_call 106;refine g.mono ?_;rintro e w' ⟨rfl,rfl⟩)
  exact oE (oN rfl _ _ _) rfl ⟨rfl,rfl⟩
def uo (W0:World)(d f l many P:Nat)(fr pg room:Int)(S:Zz)(s:DS)(W:World)(e:Ending)(w':World):Prop :=
 ((2<=room/\room<=2000)/\∃a r,e=Y0 (.tuple #[.pointer (some ⟨a,0,none⟩),.int .i64 0])/\Bm W0 d f l a r many P fr pg room s S ⟨0,0,0,λ_=>none⟩ w'/\(∀k,CD d l a r (λ_=>none) k->k=d∨k=l∨W.heap.size<=k)/\ph W.heap.size W w') ∨
 (¬ (2<=room/\room<=2000)/\e=Y0 (.tuple #[.pointer none,.int .i64 2])/\W=w')
theorem BS {W0 W:World}{d f l many P:Nat}{fr pg room:Int}{S:Zz}{s:DS}(h:Kt W0 d f l many fr pg s S W)(H:∃k,¬ s.g k=qx)(C:∀x∈S.fs,x.y.length=512):pr Y3 63 #[.pointer (some ⟨f,0,none⟩),.int .i64 room] W (uo W0 d f l many P fr pg room S s W):=by
 have hs:=h.up.size
 by_cases p:2<=room/\room<=2000
 ·refine(OF W f l d P fr pg room S h.fb h.lg p).mono ?_;rintro e w' ⟨a,r,rfl,h1,h2,B,A⟩;refine .inl ⟨p,a,r,rfl,⟨h.grow A,B,λk q => ?_,H,C⟩,λk q => ?_,A⟩
  ·rcases q with rfl|rfl|⟨j,v,u,_⟩
   ·omega
   ·omega
   ·cases u
  ·rcases q with e|e|e|e|⟨j,v,u,_⟩
   ·exact .inl e
   ·exact .inr (.inl e)
   ·exact .inr (.inr (by rw[e];exact h1))
   ·exact .inr (.inr (by rw[e];exact h2))
   ·cases u
 ·refine(BT W f l d fr pg room S h.fb h.lg p).mono ?_;rintro e w' ⟨rfl,rfl⟩;exact .inr ⟨p,rfl,rfl⟩
section
variable {W0 W:World}{d f l a r many P:Nat}{fr pg room:Int}{s:DS}{S:Zz}{c:YM}
variable {G:Nat->Y4}{i:Nat}
end


section
variable {W0 W W':World}{d1 f1 l1 a1 r1 d2 f2 l2 a2 r2 many P:Nat}{fr pg rm1 rm2:Int}{G1 G1' G2:Nat->Y4}{S1 S1' S2:Zz}{c1 c1' c2:YM}{i:Nat}
end
structure qm where
 size:Int
 first:Int
 many:Int
 roots:List Int
  deriving Inhabited
def xR (s:qm):Y8:=.int .i64 s.size :: .int .i64 s.first :: .int .i64 s.many::s.roots.map (mG .i64)
theorem zp {s:qm}(h:s.roots.length=16):(xR s).length=19:=by simp[xR,h]
def Ku (s:qm)(cv:Value)(l:qm)(under:Bool)(mk:Value):Y7:=(xR s++cv::(xR l++[.bool under,mk])).toArray
section
variable {s l:qm}{cv mk:Value}{under:Bool}
theorem tD (hs:s.roots.length=16):(Ku s cv l under mk)[19]?=some cv:=by
 unfold Ku;rw[qN,qU (by rw[zp hs];omega),zp hs];rfl
theorem II (hs:s.roots.length=16)(hl:l.roots.length=16):(Ku s cv l under mk)[39]?=some (.bool under):=by
 unfold Ku;rw[qN,qU (by rw[zp hs];omega),zp hs,show 39-19=19+1 from rfl,qY,qU (by rw[zp hl];omega),zp hl];rfl
theorem IK (hs:s.roots.length=16)(hl:l.roots.length=16):(Ku s cv l under mk)[40]?=some mk:=by
 unfold Ku;rw[qN,qU (by rw[zp hs];omega),zp hs,show 40-19=20+1 from rfl,qY,qU (by rw[zp hl];omega),zp hl];rfl
theorem XV (hs:s.roots.length=16){j:Nat}(e:j<19):(Ku s cv l under mk)[j]?=(xR s)[j]?:=by
 unfold Ku;rw[qN,List.getElem?_append_left (by rw[zp hs];exact e)]
theorem Ca (hs:s.roots.length=16):(Ku s cv l under mk)[0]?=some (.int .i64 s.size):=(XV hs (by omega)).trans rfl
theorem IL (hs:s.roots.length=16):(Ku s cv l under mk)[1]?=some (.int .i64 s.first):=(XV hs (by omega)).trans rfl
theorem Cb (hs:s.roots.length=16):(Ku s cv l under mk)[2]?=some (.int .i64 s.many):=(XV hs (by omega)).trans rfl
end
theorem QD {w:World}{p a:Nat}(hc:w.cell? ⟨p,19,none⟩=some (.pointer (some ⟨a,0,none⟩))):pr Y3 73 #[.pointer (some ⟨p,0,none⟩)] w λe w'=>e=Y0 (.bool false)/\w=w':=by
 go_enter func73,ntmps73
 go_wp2;go_ret;exact⟨rfl,rfl⟩
theorem Sb (w:World)(x:Int):pr Y3 148 #[.int .i64 x,.int .i64 0] w λe w'=>e=Y0 (.tuple #[.int .i64 x,.int .i64 0])/\w=w':=by
 go_enter func148,ntmps148
 go_wp2;exact oE (oN rfl _ _ _) rfl ⟨rfl,rfl⟩
theorem MD (w:World)(x er:Int)(h:er≠0):pr Y3 148 #[.int .i64 x,.int .i64 er] w λe w'=>e=Y0 (.tuple #[.int .i64 0,.int .i64 er])/\w=w':=by
 go_enter func148,ntmps148
 go_wp2;exact oE (oN rfl _ _ _) rfl ⟨rfl,rfl⟩
theorem Qj:∀{l m:List Nat},l.Nodup->(∀x∈l,x∈m)->l.length<=m.length
 | [],m,_,_=>gP _
 | x::l,m,h,hs=>by obtain⟨h1,h2⟩:=List.nodup_cons.1 h;have g:x∈m:=hs x (by simp);have:=Qj (l:=l) (m:=m.erase x) h2 (λy j=>(List.mem_erase_of_ne (λe=>h1 (by rw[<-e];exact j))).2 (hs y (by simp[j])));rw[List.length_erase_of_mem g] at this;have:=List.length_pos_of_mem g;simp only[zL];omega
def Xt (P:Nat)(V:qo):Nat:=(xL (jT V) P).length
theorem Sa {V:qo}{k:Int}:(jT V k).isSome=(V k).isSome:=by unfold jT;cases V k<;>rfl
theorem ka {V:qo}{P k:Nat}:k∈xL (jT V) P↔k<P/\(V (k:Int)).isSome=true:=by rw[jD,Sa]
theorem Oy {P:Nat}{V V':qo}(h:∀k,(V' k).isSome=true->(V k).isSome=true):Xt P V'<=Xt P V :=
 Qj (YU _ _) (λx e=>by rw[ka] at e ⊢;exact⟨e.1,h _ e.2⟩)
theorem BR (P:Nat)(V:qo)(k:Int)(v:jH):Xt P (xS V k (some v))<=Xt P V+1:=by
 have:=Qj (l:=xL (jT (xS V k (some v))) P) (m:=k.toNat::xL (jT V) P) (YU _ _) (λx g=>by
  rw[ka] at g;rw[qM,ka]
  by_cases e:(x:Int)=k
  ·left;omega
  ·rw[Zp e] at g
   exact .inr g)
 simpa[Xt] using this
section
variable {fr pg room:Int}{P:Nat}{Y:Nat->Y4}{G:Nat->Y4}{S:Zz}{c c':YM}{V V1:qo}
theorem MW {k:Int}{u v:jH}(h:V k=some u):Xt P (xS V k (some v))<=Xt P V:=Oy λj g=>by
 by_cases e:j=k
 ·rw[e,h];rfl
 ·rw[Zp e] at g;exact g
theorem DD.pO (h:DD P room V){l:List Nat}(hl:∀p b,xY V p=some (b,true)->p.toNat∈l)(hn:∀k v,V k=some v->0<=k):room<=(l.length:Int):=by
 have:=Qj (l:=xL (jT V) P) (m:=l) (YU _ _) (λx g=>by
  rw[ka] at g;cases e:V (x:Int) with
  | none=>rw[e] at g;cases g.2
  | some v =>
   have hd:=h.2 _ _ e;have:=hl (x:Int) v.y (by rw[vo e,hd])
   simpa using this)
 have:=h.1;omega
end
end
section
open Go Go.RowKit vA Go.Shelf Go.Sort
def uf (w:World)(a f r P:Nat)(room now hh mm:Int)(V:qo)(page:Int)(e:Ending)(w':World):Prop :=
 (∃v,V page=some v/\e=Y0 (.tuple #[.pointer (some ⟨v.b,0,none⟩),.int .i64 0])/\yW w' a f r P room (now+1) hh mm (xS V page (some {v with at_:=now+1}))) ∨
 (V page=none/\∃b,w.heap.size<=b/\e=Y0 (.tuple #[.pointer (some ⟨b,0,none⟩),.int .i64 0])/\yW w' a f r P room (now+1) hh mm (xS V page (some ⟨b,now+1,none,0,[],false⟩)))
theorem KG (w:World)(a f r P:Nat)(room now hh mm:Int)(V:qo)(h:yW w a f r P room now hh mm V)(hP:P<=1000)(hn:0<=now/\now<=1000000)(bL:2<=room)(q:Int)(bE:0<=q/\q<(P:Int))(bB:V q=none->((xL (jT V) P).length:Int)<room):pr Y3 111 #[.pointer (some ⟨a,0,none⟩),.int .i64 q] w λe w'=>uf w a f r P room now hh mm V q e w'/\ze (xJ a r V) w w':=by
 have aH:ph w.heap.size w (w.alloc (.cells #[.pointer (some ⟨a,0,none⟩)] 120)):=(pf _ w).alloc (zG _) _;have N:=za.new w 120 #[.pointer (some ⟨a,0,none⟩)];have a4:¬ w.heap.size=a:=λe=>by have:=h.cb.lt;omega
 have hw:IntKind.i64.wrap (now+1)=now+1:=zg _;obtain⟨W0,aI⟩:=Z9 (w.alloc (.cells #[.pointer (some ⟨a,0,none⟩)] 120));rw[<-aI] at aH N;have C:=h.below aH;have k0:=N.boxed;have k3:W0.cell? ⟨a,3,none⟩=some (.map (some r)):=(C.cb.cell _).trans rfl;obtain⟨es,clock,aE,he,bG⟩:=C.mp;have aV:ze (λk=>xJ a r V k∨w.heap.size<=k) w W0:=ze.below aH
 have a3:∀{W':World},ze (λk=>xJ a r V k∨w.heap.size<=k) w W'->ze (xJ a r V) w W':=λhG=>hG.more (λk e hk=>by
  rcases e with e|e
  ·exact e
  ·omega)
 have aP:=pk aI.symm;clear aI;cases K:V q with
 | some v =>
  have hl:=Yx K;have bI:W0.cell? ⟨a,2,none⟩=some (.int .i64 now):=(C.cb.cell _).trans rfl;have bJ:=C.cb.free 2
  go_enter func111,ntmps111
  go_wp2_with (first
   | (rw[aP.out])
   | (refine zr rfl (wW he aE hl rfl rfl rfl) ?_))
  have h1:=C;have bx:=N;have hg:=aV;have u:=K;obtain⟨v1,U⟩:=Z9 v;rw[<-U] at u ⊢;have aO:xJ a r V v1.b∨w.heap.size<=v1.b:=.inl (.inr (.inr ⟨q,v1,u,rfl⟩));obtain⟨W,O⟩:=Z9 W0;rw[<-O] at h1 bx hg ⊢;clear O;have aB:=h1.sP 2 (.int .i64 (now+1)) (now':=now+1) (hh':=hh) (mm':=mm) rfl (by omega);have B:=aB.2.blk bx (show ¬ w.heap.size=a from a4);obtain⟨X,Z⟩:=aB;have aN:=h1.rows q v1 u;have A:=X.below (W':=(W.setCell ⟨a,2,none⟩ (.int .i64 (now+1))).drew) (pf _ _).drew;have hU:=GG (W:=(W.setCell ⟨a,2,none⟩ (.int .i64 (now+1))).drew) (A.rows q v1 u).blk (now+1)
  have L:=A.setRow (v1:={v1 with at_:=now+1}) u rfl 0 (.int .i64 (now+1)) rfl (.inl ⟨rfl,rfl,rfl⟩) ⟨by show 0<=now+1;omega,dy _⟩ (λ_ k v hk hv=>by
   have:=(h1.rows k v hv).sH.2;show v.at_≠now+1
   omega)
  have g:(W.setCell ⟨a,2,none⟩ (.int .i64 (now+1))).drew.cell? ⟨w.heap.size,0,none⟩=some (.pointer (some ⟨a,0,none⟩))/\(W.setCell ⟨a,2,none⟩ (.int .i64 (now+1))).drew.cell? ⟨a,2,none⟩=some (.int .i64 (now+1)):=⟨B.boxed,(A.cb.cell _).trans rfl⟩;have aM:ze (λk=>xJ a r V k∨w.heap.size<=k) w (((W.setCell ⟨a,2,none⟩ (.int .i64 (now+1))).drew).setCell ⟨v1.b,0,none⟩ (.int .i64 (now+1))):=((hg.trans (Z.more (λk e _ => .inl (.inl e)))).trans (ze.below (pf _ _).drew)).trans (L.2.more (λk e _=>by rw[e];exact aO));clear X Z A aN bx B;refine zb.st (λW:World=>W.cell? ⟨w.heap.size,0,none⟩=some (.pointer (some ⟨a,0,none⟩))/\W.cell? ⟨a,2,none⟩=some (.int .i64 (now+1))) 7 ?_;refine zb.q1 0 (.pointer (some ⟨v1.b,0,none⟩)) g ?_;refine zb.q1 1 (.pointer (some ⟨v1.b,0,none⟩)) g ?_;refine zb.q1 2 (.pointer (some ⟨v1.b,0,none⟩)) g ?_;refine zb.q1 3 (.pointer (some ⟨a,0,none⟩)) g ?_;refine zb.q1 4 (.pointer (some ⟨a,0,none⟩)) g ?_;refine zb.q1 5 (.pointer (some ⟨a,2,none⟩)) g ?_;refine zb.q1 6 (.int .i64 (now+1)) g ?_;simp only[Z8];refine zb.n 7 ?_;refine zb.oC 184 #[.tmp 58,.tmp 62] #[192,3] #[.pointer (some ⟨v1.b,0,none⟩),.int .i64 (now+1)] (hU.mono ?_) (zb.eo func184);rintro e w9 ⟨rfl,rfl⟩;refine⟨_,rfl,λh=>absurd rfl h,zb.dn ?_⟩;simp only[Z8];clear g;go_wp2;exact oE (oN rfl _ _ _) rfl ⟨.inl ⟨v1,u,rfl,L.1⟩,a3 aM⟩
 | none =>
  have hl:=IB K;have bH:=C.size he;obtain⟨n,aZ⟩:=Z9 ((xL (jT V) P).length);rw[<-aZ] at bH;have bK:W0.drew.cell? ⟨a,1,none⟩=some (.int .i64 room):=(C.cb.cell _).trans rfl;have aD:ph W0.heap.size W0 W0.drew:=(pf _ _).drew;have h1:=C.below aD;have B:za W0.drew w.heap.size 120 #[.pointer (some ⟨a,0,none⟩)]:=N.below aD N.lt;have aY:zw W0.drew r es clock:=aE;have g:W0.drew.cell? ⟨w.heap.size,0,none⟩=some (.pointer (some ⟨a,0,none⟩))/\W0.drew.cell? ⟨a,3,none⟩=some (.map (some r))/\W0.drew.cell? ⟨a,1,none⟩=some (.int .i64 room)/\zw W0.drew r es clock:=⟨k0,k3,bK,aE⟩
  go_enter func111,ntmps111
  go_wp2_with (first
   | (rw[aP.out])
   | (refine zr rfl (uT he aE hl rfl rfl rfl) ?_))
  refine zb.st (λW:World=>W.cell? ⟨w.heap.size,0,none⟩=some (.pointer (some ⟨a,0,none⟩))/\W.cell? ⟨a,3,none⟩=some (.map (some r))/\W.cell? ⟨a,1,none⟩=some (.int .i64 room)/\zw W r es clock) 99 ?_;refine zb.q0 0 (.pointer (some ⟨a,0,none⟩)) g ?_;refine zb.q0 1 (.pointer (some ⟨a,0,none⟩)) g ?_;refine zb.q0 2 (.pointer (some ⟨a,3,none⟩)) g ?_;refine zb.q0 3 (.map (some r)) g ?_;simp only[Z8];refine zb.t0 4 (.int .i64 (es.size:Int)) rfl g (λW hW=>uC underlying178 hW.2.2.2 rfl rfl) ?_;refine zb.q0 5 (.pointer (some ⟨a,0,none⟩)) g ?_;refine zb.q0 6 (.pointer (some ⟨a,0,none⟩)) g ?_;refine zb.q0 7 (.pointer (some ⟨a,1,none⟩)) g ?_;refine zb.q0 8 (.int .i64 room) g ?_;simp only[Z8];refine zb.n 9 (zb.opV (w':=W0.drew) (.bool (decide ((es.size:Int) ≥ room))) rfl rfl (by go_simp) ⟨λ_=>g,zb.dn ?_⟩);simp only[Z8];clear g;obtain⟨W1,aR⟩:=Z9 W0.drew;rw[<-aR] at h1 B aY aD ⊢;clear aR;have a7:ze (λk=>xJ a r V k∨w.heap.size<=k) w W1:=aV.trans (ze.below aD);have bC:=bB K;rw[<-aZ] at bC;rw[show decide ((es.size:Int) ≥ room)=false from decide_eq_false (by omega)];have hd:=h1;have aW:=aY;have a8:=he;have a9:=bG;have aQ:=B;have a6:=K;have aX:=a7;have aA:ph W1.heap.size W1 (W1.alloc (.cells #[.int .i64 0,.slice none 0 0,.bool false] 194)):=(pf _ _).alloc (zG _) _;have aK:=za.new W1 194 #[.int .i64 0,.slice none 0 0,.bool false];have aJ:w.heap.size<=W1.heap.size:=aX.size;obtain⟨M,aG⟩:=Z9 (W1.alloc (.cells #[.int .i64 0,.slice none 0 0,.bool false] 194));rw[<-aG] at aA aK;have hf:=hd.below aA;have aL:zw M r _ _:=aW.below aA aW.lt;have aF:=aQ.below aA aQ.lt;have bD:=aX.trans (ze.below (Mu:=λk=>xJ a r V k∨w.heap.size<=k) aA);have a5:=pk aG.symm;clear aG;have bN:=aF.boxed;have bM:M.cell? ⟨a,3,none⟩=some (.map (some r)):=(hf.cb.cell _).trans rfl;have a0:∀k v,V k=some v->v.b≠W1.heap.size:=λk v hv e=>by have:=(hd.rows k v hv).blk.lt;omega
  obtain⟨b1,aS⟩:=Z9 W1.heap.size;rw[<-aS] at aK a0 aJ
  go_wp2_with (first
   | (rw[a5.out])
   | (rw[<-aS])
   | (refine AB rfl rfl rfl rfl rfl a8 a9 aL ?_
      intro aT ck2 bA bF;have aC:=hf.fresh bE a6 hn.1 aK a0 aL aT ck2 bA bF;have bx:=aC.2.blk aF (λe=>aL.rO aF e.symm);have h1:=aC.1;have hg:=bD.trans (aC.2.more (Nu:=λk=>xJ a r V k∨w.heap.size<=k) (λk e _ => .inl (.inr (.inl e))));clear aC;obtain⟨W,O⟩:=Z9 (setMap M r aT ck2);rw[<-O] at bx h1 hg ⊢;clear O;have bO:=bx.boxed;have bI:W.cell? ⟨a,2,none⟩=some (.int .i64 now):=(h1.cb.cell _).trans rfl
      have bJ:=h1.cb.free 2))
  obtain⟨v1,U⟩:∃v1:jH,v1=⟨b1,0,none,0,[],false⟩:=⟨_,rfl⟩;rw[<-U] at h1;have aU:v1.b=b1:=by rw[U]
  rw[<-aU];have u:=Qh (V) q (some v1);have aO:xJ a r V v1.b∨w.heap.size<=v1.b:=.inr (by rw[aU];exact aJ);have aB:=h1.sP 2 (.int .i64 (now+1)) (now':=now+1) (hh':=hh) (mm':=mm) rfl (by omega);have B:=aB.2.blk bx (show ¬ w.heap.size=a from a4);obtain⟨X,Z⟩:=aB;have aN:=h1.rows q v1 u;have A:=X.below (W':=(W.setCell ⟨a,2,none⟩ (.int .i64 (now+1))).drew) (pf _ _).drew;have hU:=GG (W:=(W.setCell ⟨a,2,none⟩ (.int .i64 (now+1))).drew) (A.rows q v1 u).blk (now+1)
  have L:=A.setRow (v1:={v1 with at_:=now+1}) u rfl 0 (.int .i64 (now+1)) rfl (.inl ⟨rfl,rfl,rfl⟩) ⟨by show 0<=now+1;omega,dy _⟩ (λ_ k v hk hv=>by
   have:=(h1.rows k v hv).sH.2;show v.at_≠now+1
   omega)
  have g:(W.setCell ⟨a,2,none⟩ (.int .i64 (now+1))).drew.cell? ⟨w.heap.size,0,none⟩=some (.pointer (some ⟨a,0,none⟩))/\(W.setCell ⟨a,2,none⟩ (.int .i64 (now+1))).drew.cell? ⟨a,2,none⟩=some (.int .i64 (now+1)):=⟨B.boxed,(A.cb.cell _).trans rfl⟩;have aM:ze (λk=>xJ a r V k∨w.heap.size<=k) w (((W.setCell ⟨a,2,none⟩ (.int .i64 (now+1))).drew).setCell ⟨v1.b,0,none⟩ (.int .i64 (now+1))):=((hg.trans (Z.more (λk e _ => .inl (.inl e)))).trans (ze.below (pf _ _).drew)).trans (L.2.more (λk e _=>by rw[e];exact aO));clear X Z A aN bx B;refine zb.st (λW:World=>W.cell? ⟨w.heap.size,0,none⟩=some (.pointer (some ⟨a,0,none⟩))/\W.cell? ⟨a,2,none⟩=some (.int .i64 (now+1))) 7 ?_;refine zb.q1 0 (.pointer (some ⟨v1.b,0,none⟩)) g ?_;refine zb.q1 1 (.pointer (some ⟨v1.b,0,none⟩)) g ?_;refine zb.q1 2 (.pointer (some ⟨v1.b,0,none⟩)) g ?_;refine zb.q1 3 (.pointer (some ⟨a,0,none⟩)) g ?_;refine zb.q1 4 (.pointer (some ⟨a,0,none⟩)) g ?_;refine zb.q1 5 (.pointer (some ⟨a,2,none⟩)) g ?_;refine zb.q1 6 (.int .i64 (now+1)) g ?_;simp only[Z8];refine zb.n 7 ?_;refine zb.oC 184 #[.tmp 58,.tmp 62] #[192,3] #[.pointer (some ⟨v1.b,0,none⟩),.int .i64 (now+1)] (hU.mono ?_) (zb.eo func184);rintro e w9 ⟨rfl,rfl⟩;refine⟨_,rfl,λh=>absurd rfl h,zb.dn ?_⟩;simp only[Z8];clear g;go_wp2;have hQ:=L.1;rw[Ky] at hQ;subst U;exact oE (oN rfl _ _ _) rfl ⟨.inr ⟨K,b1,aJ,rfl,hQ⟩,a3 aM⟩
end
end Go.Proofs.YtohmkffoojdahaaGreat
