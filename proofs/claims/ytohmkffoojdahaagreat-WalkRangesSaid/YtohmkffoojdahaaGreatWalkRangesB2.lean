/- Texts that the proof of WalkRanges leans on, part 2. -/
import Derived.Lib.SlBytesConst
import Derived.LoopN
import Derived.Stop.BytesEq
import Derived.Laws.Externs
import Derived.Test.YtohmkffoojdahaaGreatWalkRangesB1
open List renaming replicate->zP
open Array renaming getD_eq_getD_getElem?->zX
set_option linter.unusedVariables false
set_option linter.unusedSimpArgs false
set_option maxRecDepth 100000
set_option maxHeartbeats 8000000

open Array renaming replicate->mI,getD->mS
open Go renaming Calls->nK,Addr->nN,Operand->nO,execOp->nQ,TypeId->nS,MapEntry->nZ,Oper->nh,Program->gF,maxLen->gP,undef->gQ,Act->gh,wpList->mX,Exit->mh,yielded->fy,Tmp->eQ
open Go.Act renaming put->nJ
open Go.Code renaming region->lV
open Go.Deferred renaming ofValue->lP
open Go.Extern.MapsClone renaming clone->eU
open Go.Instr renaming findNow->lT,lookup->lU,checkKey->lW,mapUpdate->lj
open Go.MapKept renaming Stamped->nY,IsKey->gz
open Go.Op renaming equalIn->fE
open Go.Oper renaming wp->mW
open Go.Region renaming ready->nw,binds->gI,wanted->gS
open Go.Result renaming andThen->nM
open Go.RowKit renaming Below->nH
open Go.Value renaming oneCell'->ew,bool->ez
open List renaming range->mi,mem_of_getElem?->mq,drop_replicate->fV,foldl_nil->eB
open Go.Proofs.Tryz renaming prog->Y3
open Go.Proofs.Tryz
open Go.Value renaming int->Y1,pointer->Y9,slice->X1,bool->X3,agg->Q0,tuple->Q2,map->Q1
open Go.IntKind renaming i64->Q4,u8->Q5,u64->Q6,u32->Q7
open Go.Obj renaming cells->Q9
open Option renaming none->K3,some->K4
namespace Go.Proofs.YtohmkffoojdahaaGreat
section
abbrev XH:Y7:=#[Y1 Q5 0,Y1 Q5 0,Y1 Q5 0,Y1 Q5 0,Y1 Q5 0,Y1 Q5 0,Y1 Q5 0,Y1 Q5 0,Y1 Q5 0,Y1 Q5 0,Y1 Q5 0,Y1 Q5 0,Y1 Q5 0,Y1 Q5 0,Y1 Q5 0,Y1 Q5 0,Y1 Q5 0,Y1 Q5 0,Y1 Q5 0,Y1 Q5 0,Y1 Q5 0,Y1 Q5 0,Y1 Q5 0,Y1 Q5 0,Y1 Q5 0,Y1 Q5 0,Y1 Q5 0,Y1 Q5 0,Y1 Q5 0,Y1 Q5 0,Y1 Q5 0,Y1 Q5 0,Y1 Q5 0,Y1 Q5 0,Y1 Q5 0,Y1 Q5 0,Y1 Q5 0,Y1 Q5 0,Y1 Q5 0,Y1 Q5 0,Y1 Q5 0,Y1 Q5 0,Y1 Q5 0,Y1 Q5 0,Y1 Q5 0,Y1 Q5 0,Y1 Q5 0,Y1 Q5 0,Y1 Q5 0,Y1 Q5 0,Y1 Q5 0,Y1 Q5 0,Y1 Q5 0,Y1 Q5 0,Y1 Q5 0,Y1 Q5 0,Y1 Q5 0,Y1 Q5 0,Y1 Q5 0,Y1 Q5 0,Y1 Q5 0,Y1 Q5 0,Y1 Q5 0,Y1 Q5 0]
open Go Go.RowKit
namespace Qu
variable {P:gF}{ops:Array nh}
def backs (ops:Array nh):Bool:=ops.toList.zipIdx.all λ(o,i)=>o.after.toList.all λe => !gI .any e||decide (e.on<i)
def ahead (ops:Array nh)(o:nh)(t:Nat):Bool:=ops.toList.zipIdx.all λ(p,j)=>p.dst != some t||(o.after.toList.any λe=>gI .any e&&e.on==j)
def waits (ops:Array nh)(i:Nat)(t:Nat):Bool:=ops.toList.zipIdx.all λ(p,_)=>p.dst != some t||(p.after.toList.any λe=>gI .any e&&e.on==i)
theorem backs_spec (h:backs ops=true){i:Nat}{o:nh}(j:ops[i]?=some o):∀e∈o.after.toList,gI .any e=true->e.on<i:=by
 unfold backs at h;rw[yF] at h;have g:(o,i)∈ops.toList.zipIdx:=by rw[lE];simpa using j
 have:=h _ g;simp only[yF] at this;intro e d c;have:=this e d;simpa[c] using this
theorem ahead_spec {o:nh}{t:Nat}(h:ahead ops o t=true){j:Nat}{p:nh}(s:ops[j]?=some p)(hd:p.dst=some t):∃e∈o.after.toList,gI .any e=true/\e.on=j:=by
 unfold ahead at h;rw[yF] at h;have q:(p,j)∈ops.toList.zipIdx:=by rw[lE];simpa using s
 have:=h _ q;simp only[hd,bne_self_eq_false,Bool.false_or,fA,gN,beq_iff_eq] at this;obtain⟨e,d,c,g⟩:=this;exact⟨e,d,c,g⟩
theorem waits_spec {i t:Nat}(h:waits ops i t=true){j:Nat}{p:nh}(s:ops[j]?=some p)(hd:p.dst=some t):∃e∈p.after.toList,gI .any e=true/\e.on=i:=by
 unfold waits at h;rw[yF] at h;have q:(p,j)∈ops.toList.zipIdx:=by rw[lE];simpa using s
 have:=h _ q;simp only[hd,bne_self_eq_false,Bool.false_or,fA,gN,beq_iff_eq] at this;obtain⟨e,d,c,g⟩:=this;exact⟨e,d,c,g⟩
def StepOk (P:gF)(ops:Array nh)(Inv:Array Bool->gh->World->Prop)(i:Nat)(o:nh):Prop :=
 ∀(listed:Array Bool) (a:gh) (w:World) (K:gh->World->Prop) (Q:mh->gh->World->Prop),listed.size=ops.size->listed.getD i true=false->(∀e∈o.after.toList,gI .any e=true->listed.getD e.on false=true) ->
  Inv listed a w->(∀v w',Inv (listed.setIfInBounds i true) (a.put o.dst v) w'->K (a.put o.dst v) w') ->
  (if gS o (fy ops a.tmps) then o.wp P a w K Q\/(o.asks P a w/\LetsOut Q) else K (a.put o.dst gQ) w)
theorem region_inv (M:P.follows .mixedOrders=true)(F:backs ops=true){U:Nat}{a0:gh}{w0:World}{Q:mh->gh->World->Prop}(Inv:Array Bool->gh->World->Prop)
  (A:Inv (mI ops.size false) a0 w0.drew) (S:∀i o,ops[i]?=some o->StepOk P ops Inv i o)
  (I:∀listed a w,listed.size=ops.size->(∀i,i<ops.size->listed.getD i true=true)->Inv listed a w->Q .normal a w) :
  (lV U ops true).wp P Q a0 w0:=by
 refine wp_region_any M ?_;have key:∀(d:Nat) (listed:Array Bool) (a:gh) (w:World),listed.size=ops.size->left listed<=d->Inv listed a w->wpAny P .any ops Q d listed a w:=by
  intro d;have q:∀(listed:Array Bool) (a:gh) (w:World),listed.size=ops.size->Inv listed a w->nw .any ops listed=[]->Q .normal a w:=by
   intro listed a w hs g h;refine I listed a w hs ?_ g;intro i
   induction i using Nat.strongRecOn with
   | _ i ih =>
    intro hi;cases hl:listed.getD i true with
    | true=>rfl
    | false =>
     exfalso;have:i∈nw .any ops listed:=by
      unfold nw;simp only[yD,List.mem_range,gN,Bool.not_eq_true'];refine⟨hi,hl,?_⟩;have c:ops[i]?=some ops[i]:=gr hi;simp only[c,gv,fX];rw[lH];intro e G;have hc:=backs_spec F c e (Array.mem_toList_iff.2 G);cases E:gI .any e with
      | false=>simp
      | true =>
       have K:=hc E;have h1:=ih e.on K K5;have h2:e.on<listed.size:=K5
       simp only[mS,h2,dif_pos] at h1 ⊢;simpa using h1
     rw[h] at this;cases this
  induction d with
  | zero =>
   intro listed a w hs hf g;have h:nw .any ops listed=[]:=by
    rcases h:nw .any ops listed with _|⟨i,r⟩
    .rfl
    .exfalso;obtain⟨o,c,hl,_⟩:=ready_mem (ops:=ops) (listed:=listed) (i:=i) (by rw[h];simp);have hi:i<listed.size:=by rw[hs];exact(zI.1 c).1
     have N:listed[i]∈listed.toList.filter (! ·):=by
      rw[yD];refine⟨by simp,?_⟩;have p:listed[i]=false:=by simpa[mS,hi] using hl
      simp[p]
     have:0<left listed:=List.length_pos_of_mem N;omega
   exact⟨h,q listed a w hs g h⟩
  | succ d ih =>
   intro listed a w hs hf g;refine⟨q listed a w hs g,λi hi => ?_⟩;obtain⟨o,c,hl,H⟩:=ready_mem hi;have j:i<listed.size:=by rw[hs];exact(zI.1 c).1
   have O:∀v w',Inv (listed.setIfInBounds i true) (a.put o.dst v) w'->wpAny P .any ops Q d (listed.setIfInBounds i true) (a.put o.dst v) w':=by
    intro v w' T;refine ih _ _ _ (by simpa using hs) ?_ T;have p:listed[i]=false:=by simpa[mS,j] using hl
    have:left (listed.setIfInBounds i true)<left listed:=by
     unfold left;rw[Array.toList_setIfInBounds];have u:listed.toList=listed.toList.take i++false::listed.toList.drop (i+1):=by
      have C:listed.toList[i]'(by simpa using j)=false:=by simpa using p
      conv=>lhs;rw[<-qK i listed.toList,qS (by simpa using j),C]
     rw[List.set_eq_take_append_cons_drop,if_pos (by simpa using j)]
     conv=>rhs;rw[u]
     simp
    omega
   have:=S i o c listed a w (λs w'=>wpAny P .any ops Q d (listed.setIfInBounds i true) s w') Q hs hl H g O;unfold wpOp;simp only[c];exact this
 refine key ops.size _ a0 _ K9 ?_ A;unfold left;simp
end Qu
end
section
open Go Go.RowKit xq
namespace Qu
variable {P:gF}{ops:Array nh}
abbrev WInv:=Array Bool->gh->World->Prop
structure J2 (ops:Array nh)(FS:eQ->Value->World->Prop)(a0:gh)(D:List Nat)(WI:WInv)(listed:Array Bool)(a:gh)(w:World):Prop where
 size:a.tmps.size=a0.tmps.size
 defers:a.defers=a0.defers
 facts:∀t,Known ops listed t->FS t (a.eval (.tmp t)) w
 wi:WI listed a w
 rest:∀t,D.contains t=false->a.eval (.tmp t)=a0.eval (.tmp t)
 old:∀t,(∀(j:Nat) (p:nh),ops[j]?=some p->p.dst=some t->listed.getD j true=false)->a.eval (.tmp t)=a0.eval (.tmp t)
 closed:∀(j:Nat) (p:nh),ops[j]?=some p->listed.getD j true=true->∀e∈p.after.toList,gI .any e=true->listed.getD e.on false=true
def Op2 (P:gF)(ops:Array nh)(a0:gh)(FS:eQ->Value->World->Prop)(WI:WInv)(i:Nat)(o:nh):Prop :=
 ∀(listed:Array Bool) (a:gh) (w:World) (K:gh->World->Prop) (Q:mh->gh->World->Prop),listed.size=ops.size->listed.getD i true=false->(∀e∈o.after.toList,gI .any e=true->listed.getD e.on false=true) ->
  WI listed a w->(∀t,(o.looksAt ops).contains t=true->ahead ops o t=true->FS t (a.eval (.tmp t)) w)->(∀t,waits ops i t=true->a.eval (.tmp t)=a0.eval (.tmp t)) ->
  (∀v w',(∀t u,FS t u w->FS t u w')->FSd FS o.dst v w'->WI (listed.setIfInBounds i true) (a.put o.dst v) w'->K (a.put o.dst v) w') ->
  (if gS o (fy ops a.tmps) then o.wp P a w K Q\/(o.asks P a w/\LetsOut Q) else K (a.put o.dst gQ) w)
def AllOp2 (P:gF)(ops:Array nh)(a0:gh)(FS:eQ->Value->World->Prop)(WI:WInv):Nat->List nh->Prop
 | _,[]=>True
 | k,o::r=>Op2 P ops a0 FS WI k o/\AllOp2 P ops a0 FS WI (k+1) r
theorem AllOp2.get {a0:gh}{FS:eQ->Value->World->Prop}{c:WInv}:∀{l:List nh} {k:Nat},AllOp2 P ops a0 FS c k l->∀i o,l[i]?=some o->Op2 P ops a0 FS c (k+i) o
 | [],_,_,i,o,h=>by simp at h
 | x::r,k,h,0,o,ho=>by simp at ho;subst ho;exact h.1
 | x::r,k,h,i+1,o,ho=>by have:=AllOp2.get h.2 i o (by simpa using ho);rw[show k+(i+1)=k+1+i from by omega];exact this
theorem op2_of {a0:gh}{FS:eQ->Value->World->Prop}{c:WInv}{i:Nat}{o:nh}(q:∀t v w w',FS t v w->yK w w'->FS t v w')(h:∀w0,OpOk P ops FS w0 o)(d:((o.looksAt ops).all (ahead ops o))=true)
  (j:∀listed a v w w',c listed a w->yK w w'->c (listed.setIfInBounds i true) (a.put o.dst v) w'):Op2 P ops a0 FS c i o:=by
 intro listed a w K Q hs hl A s p _ g
 exact h w a w K Q (yK.refl w) (λt ht=>p t ht (by
  rw[yF] at d
  exact d t (by simpa using ht))) (λv w' e hf=>g v w' (λt u hu=>q t u w w' hu e) hf (j _ _ _ _ _ s e))
theorem region2 (hm:P.follows .mixedOrders=true)(aA:backs ops=true){id:Nat}{a0:gh}{w0:World}{Q:mh->gh->World->Prop}(n:Nat)(hn:a0.tmps.size=n)(F:Zr ops n=true)(D:List Nat)(E:dstsAre ops D=true)
  (FS:eQ->Value->World->Prop) (C:WInv) (aL:∀t,(∀o∈ops.toList,o.dst≠some t)->FS t (a0.eval (.tmp t)) w0.drew) (X:C (mI ops.size false) a0 w0.drew)
  (aI:AllOp2 P ops a0 FS C 0 ops.toList)
  (aC:∀listed a w,(∀i,i<ops.size->listed.getD i true=true)->J2 ops FS a0 D C listed a w->(∀t,FS t (a.eval (.tmp t)) w)->Q .normal a w) :
  (lV id ops true).wp P Q a0 w0:=by
 have Z:∀o∈ops.toList,∀d,o.dst=some d->D.contains d=true:=by intro o q d hd;unfold dstsAre at E;rw[yF] at E;have:=E o q;simpa[hd] using this
 have aB:∀o∈ops.toList,∀d,o.dst=some d->d<n:=by intro o q d hd;unfold Zr at F;rw[yF] at F;have:=F o q;simpa[hd] using this
 refine region_inv hm aA (J2 ops FS a0 D C) ⟨rfl,rfl,?_,X,λ_ _=>rfl,λ_ _=>rfl,λj p c h=>by
  have hj:=(zI.1 c).1
  simp[mS,hj] at h⟩ ?_ ?_
 .intro t ht;refine aL t ?_;intro o q hd;obtain⟨i,hi,rfl⟩:=yG q;have O:i<ops.size:=by simpa using hi
  have:=ht i ops[i] (gr O) (by simpa using hd);simp[mS,O] at this
 .intro i o q listed a w K W hs hl G g hK;have S:o∈ops.toList:=by obtain⟨h1,h2⟩:=zI.1 q;subst h2;simp
  have H:i<listed.size:=by rw[hs];exact(zI.1 q).1
  have aJ:∀t,waits ops i t=true->a.eval (.tmp t)=a0.eval (.tmp t):=by
   intro t ht;refine g.old t ?_;intro j p c hd;obtain⟨e,A,u,rfl⟩:=waits_spec ht c hd;cases aE:listed.getD j true with
   | false=>rfl
   | true =>
    have:=g.closed j p c aE e A u;simp only[mS,H,dif_pos] at this hl;rw[hl] at this;cases this
  have aG:∀t,(o.looksAt ops).contains t=true->ahead ops o t=true->FS t (a.eval (.tmp t)) w:=by
   intro t _ ht;refine g.facts t ?_;intro j p c hd;obtain⟨e,A,u,rfl⟩:=ahead_spec ht c hd;have:=G e A u;have aH:e.on<listed.size:=by rw[hs];exact(zI.1 c).1
   simp only[mS,aH,dif_pos] at this ⊢;exact this
  have T:=aI.get i o (by simpa using q);rw[qA] at T;refine T listed a w K W hs hl G g.wi aG aJ ?_;intro v w' aK V aM;refine hK v w' ⟨?_,?_,?_,aM,?_,?_,?_⟩
  .cases hd:o.dst with
   | none=>simpa[nJ] using g.size
   | some d=>simpa[nJ] using g.size
  .cases hd:o.dst with
   | none=>simpa[nJ] using g.defers
   | some d=>simpa[nJ] using g.defers
  .intro t ht
   by_cases s:o.dst=some t
   .rw[s] at V ⊢;rw[eval_put_same (by rw[g.size,hn];exact aB o S t s)];exact V
   .have I:Known ops listed t:=by
     intro j p c hd;have:=ht j p c hd
     by_cases e:i=j
     .subst e;rw[q] at c;injection c with c
      subst c;exact absurd hd s
     .simpa[zX,zS,e] using this
    have:=aK t _ (g.facts t I);cases hd:o.dst with
    | none=>simpa[nJ] using this
    | some d =>
     rw[eval_put_other (by intro e;subst e;exact s hd)];exact this
  .intro t ht;cases hd:o.dst with
   | none=>simpa[nJ] using g.rest t ht
   | some d =>
    rw[eval_put_other (by intro e;subst e;rw[Z o S t hd] at ht;cases ht)];exact g.rest t ht
  .intro t ht;have s:o.dst≠some t:=by intro hd;have:=ht i o q hd;simp[zX,H] at this
   have:=g.old t (λj p c hd=>by
    have h2:=ht j p c hd;have aD:i≠j:=by
     intro e;subst e;rw[q] at c;injection c with c
     subst c;exact s hd
    simpa[zX,zS,aD] using h2)
   cases hd:o.dst with
   | none=>simpa[nJ] using this
   | some d =>
    rw[eval_put_other (by intro e;subst e;exact s hd)];exact this
  .intro j p c aF e A u;have U:∀k,listed.getD k false=true->(listed.setIfInBounds i true).getD k false=true:=by
    intro k I
    by_cases e:i=k
    .subst e;simp[zX,H]
    .simpa[zX,zS,e] using I
   by_cases M:i=j
   .subst M;rw[q] at c;injection c with c
    subst c;exact U _ (G e A u)
   .refine U _ (g.closed j p c ?_ e A u);simpa[zX,zS,M] using aF
 .intro listed a w hs N g;refine aC listed a w N g (λt=>g.facts t ?_);intro j p c _;exact N j (zI.1 c).1
theorem region2_facts {P:gF}{ops:Array nh}(u:P.follows .mixedOrders=true)(j:backs ops=true){A:Nat}{a0:gh}{w0:World}{Q:mh->gh->World->Prop}(n:Nat)(hn:a0.tmps.size=n)(q:Zr ops n=true)(D:List Nat)(e:dstsAre ops D=true)
  (V W:List (Nat×vh)) (g:StartOk a0 w0.drew V) (h:(W.all λp=>KU ops p.1)=true) (c:WInv) (d:c (mI ops.size false) a0 w0.drew)
  (v:AllOp2 P ops a0 (xD (V++W)) c 0 ops.toList)
  (s:∀listed a w,(∀i,i<ops.size->listed.getD i true=true)->J2 ops (xD (V++W)) a0 D c listed a w->(∀t,xD (V++W) t (a.eval (.tmp t)) w)->Q .normal a w) :
  (lV A ops true).wp P Q a0 w0 :=
 region2 u j n hn q D e (xD (V++W)) c (λt ht=>start_fact V W g h t ht) d v s
theorem op2_mv_old {a0:gh}{FS:eQ->Value->World->Prop}{d:WInv}{i:Nat}{o:nh}(t:eQ)(p:o.guard=none)(c:o.op=.move (.tmp t)\/o.op=.assign (.tmp t))(s:waits ops i t=true)(hd:∀w,FSd FS o.dst (a0.eval (.tmp t)) w)
  (j:∀listed a v w w',d listed a w->yK w w'->d (listed.setIfInBounds i true) (a.put o.dst v) w'):Op2 P ops a0 FS d i o:=by
 intro listed a w K Q hs hl A u _ q g;have e:=q t s;rw[if_pos (by simp[gS,p])];left;unfold mW nQ;rcases c with c|c<;>simp only[c,ny,lq,e]<;>exact g _ w (λ_ _ h=>h) (hd w) (j _ _ _ _ _ u (yK.refl w))
def allVal:List (Nat×vh)->Bool
 | []=>true
 |(_,.val _)::r=>allVal r
 |(_,.any)::r=>allVal r
 | _=>false
theorem factOf_val:∀{L:List (Nat×vh)},allVal L=true->∀t v w w',(qu L t).holds v w->(qu L t).holds v w'
 | [],_,t,v,w,w',h=>h
 |(k,.val x)::r,hv,t,v,w,w',h=>by
  simp only[qu] at h ⊢;split
  .rename_i e
   rw[if_pos e] at h;exact h
  .rename_i e
   rw[if_neg e] at h;exact factOf_val (L:=r) hv t v w w' h
 |(k,.any)::r,hv,t,v,w,w',h=>by
  simp only[qu] at h ⊢;split
  .trivial
  .rename_i e
   rw[if_neg e] at h;exact factOf_val (L:=r) hv t v w w' h
 |(k,.res l)::r,hv,_,_,_,_,_=>by cases hv
 |(k,.pred p q)::r,hv,_,_,_,_,_=>by cases hv
end Qu
theorem PX (n b:Nat)(c:b<=31)(w:World):nK Y3 134 #[Y1 Q7 n,Y1 Q4 b] w λe w'=>e=Y0 (Y1 Q5 ((n / 2^b%256:Nat):Int))/\w=w':=by
 go_enter func134,ntmps134
 go_wp2;go_ret;exact⟨by simp,rfl⟩
theorem Fh (n b:Nat)(c:b<=63)(w:World):nK Y3 325 #[Y1 Q6 n,Y1 Q4 b] w λe w'=>e=Y0 (Y1 Q5 ((n / 2^b%256:Nat):Int))/\w=w':=by
 go_enter func325,ntmps325
 go_wp2;go_ret;exact⟨by simp,rfl⟩
def Zy (m n k:Nat)(pre:Y4):Prop:=pre++qb k n=qb m n/\pre.length+k=m
theorem Zy.start (m n:Nat):Zy m n m []:=⟨rfl,by simp⟩
theorem Zy.next {m n k:Nat}{c:Y4}(h:Zy m n (k+1) c):Zy m n k (c++[mM (n / 2^(8*k)%256)]):=by
 refine⟨?_,by have:=h.2;simp;omega⟩;rw[<-h.1,Mz,qQ,List.singleton_append];congr 2;apply UInt8.toNat_inj.1;rw[show (256:Nat)^k=2^(8*k) from by rw[Nat.pow_mul]];simp[UInt8.toNat_ofNat']
theorem Zy.last {m n:Nat}{c:Y4}(h:Zy m n 0 c):c=qb m n:=by
 have:=h.1;simpa[qb] using this
theorem MN (m n:Nat)(K:m<=4)(w:World):nK Y3 133 #[Y1 Q7 n,Y1 Q4 m,.func (.func 134) #[] #[]] w (yV w (qb m n)):=by
 obtain⟨H,hi,E,F,G⟩:=info_parts Yy
 go_enter func133,ntmps133
 go_wp2_with fail
 go_loopw [6,7] (λv i wr=>∃(k:Nat) (c:Y4),Hid (Zy m n k c)/\c.length<=m/\k<=m/\i=Y1 Q4 ((k:Int)-1)/\yY wr w.heap.size v c/\nH w.heap.size w wr)
  (λ_ i _=>(intOf i+1).toNat)
 case atStart=>exact⟨m,[],nI (Zy.start m n),by simp,by omega,rfl,yY.nil _ _,nF _ _⟩
 case round =>
  obtain⟨k,c,hF,hl,j,rfl,g,hB⟩:=hrel;have s:=hB.size;rcases k with _|k
  .have I:((0:Nat):Int)-1<0:=K5
   go_wp2_with fail
   go_ret;have e:=hF.out.last;subst e;exact⟨_,rfl,g,hB⟩
  .have h:(((k+1:Nat):Int)-1)=(k:Int):=K5
   rw[h];clear h
   go_wp2_with fail
   rw[show (8*(k:Int))=((8*k:Nat):Int) from by omega];refine(PX n (8*k) K5 _).mono ?_;rintro e w' ⟨rfl,rfl⟩;have A:n / 2^(8*k)%256<256:=K5
   generalize q:n / 2^(8*k)%256=x at *;have u:=nI q;clear q
   go_wp2_with (at_builtin;refine fN _ rfl _ _ 129 rfl w.heap.size 5 H (Y1 Q5 0) 1 1 underlying129 hi E F G rfl K7 _ _ _ rfl (eI g _) ⟨wr.heap.size,0,K3⟩ 1 1 _ rfl rfl (cell_one_new _ _ _) (by simp[ew]) (by unfold gP;omega) K5 (by simp;omega) ?_;intro M N p C _)
   have d:=hF.out.next;rw[u.out] at d;rw[Ye c x A] at p;refine⟨⟨k,c++[mM x],nI d,?_,by omega,rfl,?_,(hB.alloc s _).grown C (by simp;omega) (λk j=>(fZ g k j).1)⟩,by simp[intOf]⟩
   .have:=d.2;omega
   .unfold yY;simpa using p
theorem MM (m n:Nat)(K:m<=8)(w:World):nK Y3 324 #[Y1 Q6 n,Y1 Q4 m,.func (.func 325) #[] #[]] w (yV w (qb m n)):=by
 obtain⟨H,hi,E,F,G⟩:=info_parts Yy
 go_enter func324,ntmps324
 go_wp2_with fail
 go_loopw [6,7] (λv i wr=>∃(k:Nat) (c:Y4),Hid (Zy m n k c)/\c.length<=m/\k<=m/\i=Y1 Q4 ((k:Int)-1)/\yY wr w.heap.size v c/\nH w.heap.size w wr)
  (λ_ i _=>(intOf i+1).toNat)
 case atStart=>exact⟨m,[],nI (Zy.start m n),by simp,by omega,rfl,yY.nil _ _,nF _ _⟩
 case round =>
  obtain⟨k,c,hF,hl,j,rfl,g,hB⟩:=hrel;have s:=hB.size;rcases k with _|k
  .have I:((0:Nat):Int)-1<0:=K5
   go_wp2_with fail
   go_ret;have e:=hF.out.last;subst e;exact⟨_,rfl,g,hB⟩
  .have h:(((k+1:Nat):Int)-1)=(k:Int):=K5
   rw[h];clear h
   go_wp2_with fail
   rw[show (8*(k:Int))=((8*k:Nat):Int) from by omega];refine(Fh n (8*k) K5 _).mono ?_;rintro e w' ⟨rfl,rfl⟩;have A:n / 2^(8*k)%256<256:=K5
   generalize q:n / 2^(8*k)%256=x at *;have u:=nI q;clear q
   go_wp2_with (at_builtin;refine fN _ rfl _ _ 129 rfl w.heap.size 5 H (Y1 Q5 0) 1 1 underlying129 hi E F G rfl K7 _ _ _ rfl (eI g _) ⟨wr.heap.size,0,K3⟩ 1 1 _ rfl rfl (cell_one_new _ _ _) (by simp[ew]) (by unfold gP;omega) K5 (by simp;omega) ?_;intro M N p C _)
   have d:=hF.out.next;rw[u.out] at d;rw[Ye c x A] at p;refine⟨⟨k,c++[mM x],nI d,?_,by omega,rfl,?_,(hB.alloc s _).grown C (by simp;omega) (λk j=>(fZ g k j).1)⟩,by simp[intOf]⟩
   .have:=d.2;omega
   .unfold yY;simpa using p
theorem xt (n:Nat)(w:World):nK Y3 82 #[Y1 Q7 n] w (yV w (qb 4 n)):=by
 go_enter func82,ntmps82
 go_wp2_with fail
 refine(MN 4 n K5 _).mono ?_;rintro e w' ⟨v,rfl,h1,h2⟩;go_wp2;go_ret;exact⟨v,rfl,h1,h2⟩
theorem Zq (n:Nat)(w:World):nK Y3 290 #[Y1 Q6 n] w (yV w (qb 8 n)):=by
 go_enter func290,ntmps290
 go_wp2_with fail
 refine(MM 8 n K5 _).mono ?_;rintro e w' ⟨v,rfl,h1,h2⟩;go_wp2;go_ret;exact⟨v,rfl,h1,h2⟩




theorem za.dw {w:World}{g base:Nat}{l:Y4}(h:za w g 5 (l.map b8).toArray)(c:base<=g)(d:l.length<=9223372036854775807):yY w base (X1 g l.length l.length) l :=
 ⟨by simp,.inr ⟨g,l.length,(l.map b8).toArray,rfl,c,h,zG _,by unfold gP;omega,by simp,by simp[qE]⟩⟩
theorem Av {ρ:nO->Value}{w:World}{o:nh}{x y:nO}{g n m:Nat}(h:o.op=.slice 129 x (some y) none none)(h1:ρ x=X1 g n n)(h2:ρ y=Y1 Q4 (m:Int))(j:m<n):(nQ ρ o).run Y3 w=.ok (.value (X1 (K4 ⟨g,m,K3⟩) (n-m) (n-m))) w:=by
 have ht:Y3.underlying 129=some (.slice (Y3.elem 129)):=K6
 have e:¬ n=m:=K5
 have c:m<=n:=K5
 have d:(⟨g,0,none⟩:nN).add m=⟨g,m,none⟩:=by cases m<;>simp[Addr.add]
 simp[nQ,h,h1,h2,go_sem,run_sliceAt_slice _ _ _ _ _ _ ht,nM,e,c,d]
theorem rI {ρ:nO->Value}{w:World}{o:nh}{x y:nO}{g n m:Nat}(d:o.op=.slice 129 x none (some y) none)(h1:ρ x=X1 g n n)(h2:ρ y=Y1 Q4 (m:Int))(e:m<n):(nQ ρ o).run Y3 w=.ok (.value (X1 g m n)) w:=by
 have ht:Y3.underlying 129=some (.slice (Y3.elem 129)):=K6
 have c:m<=n:=K5
 simp[nQ,d,h1,h2,go_sem,run_sliceAt_slice _ _ _ _ _ _ ht,nM,c]
theorem Dv (w:World)(A:Y5)(c:Nat)(l:Y4)(h:qv w w.heap.size A c l)(hl:0<l.length)(hm:l.length<30000):nK Y3 292 #[X1 A l.length c,Y1 Q4 2] w (yV w (l++l)):=by
 have H:=Ni l.length 2 K5 K5 w;have e1:IntKind.u64.wrap (l.length:Int)=(l.length:Int):=by
  show (l.length:Int)%18446744073709551616=_
  omega
 have e2:IntKind.i64.wrap ((l.length*2:Nat):Int)=((l.length*2:Nat):Int):=zg _;obtain⟨n,hn⟩:=Z9 (l.length*2);rw[<-hn] at H e2;have p:=nI hn;have aS:n<60000:=K5
 clear hn
 go_enter func292,ntmps292
 go_wp2_with fail
 refine H.mono ?_;rintro e w' ⟨rfl,rfl⟩
 go_wp2_with (first
  |(at_make;refine SY rfl (.tmp 29) (.tmp 29) rfl w.heap.size .i64 .i64 n rfl rfl K5 (zG _) ?_;intro w1 aE Z;have I:nH w.heap.size w w1:=(nF _ w).grown Z (zG _) (λk hk=>by cases hk);obtain⟨N,_⟩:=yY.blk (l:=zP n 0) (by rw[List.length_replicate];exact aE))
  |(refine Sa rfl (.tmp 31) (.tmp 32) rfl w.heap.size 0 (zP n 0) l A c _ n n rfl rfl N (h.below I) K9 ?_))
 have aD:min l.length n=l.length:=by have:=p.out;omega
 have aF:yu (zP n 0) 0 n l=l++zP l.length 0:=by have:=p.out;subst this;simp only[yu,List.take_zero,zQ,qA,fV];rw[qE K5,fj K5];congr 2;omega
 rw[aF];have X:=N.setRow ((l++zP l.length 0).map b8).toArray;have aG:=zf I (zG _) (g:=w.heap.size) ((l++zP l.length 0).map b8).toArray;generalize w1.setRow w.heap.size ((l++zP l.length 0).map b8).toArray=w2 at *;rw[aD];clear I N aE Z aD aF;have aR:(l.length:Int)<(n:Int):=by have:=p.out;omega
 refine wp_loop_rounds 2 ?_;rw[rounds_succ]
 go_wp2_with fail
 have aQ:qv w2 (w.heap.size+1) (K4 ⟨w.heap.size,0,K3⟩) n l:=⟨by have:=p.out;omega,by omega,(λe=>by cases e),λ_=>⟨_,0,rfl,by omega,λj O=>by
  rw[X.cell]
  simp[b8,gj,O]⟩⟩
 have aL:l.length+(n-l.length)<=(l++zP l.length (0:UInt8)).length:=by have:=p.out;simp;omega
 have aB:l.length<n:=K5
 have aI:IntKind.i64.wrap ((l.length:Int)+(l.length:Int))=(n:Int):=by have:=p.out;rw[zg _];omega
 let C:Qu.WInv:=λlisted _ W=>za W w.heap.size 5 ((if listed.getD 7 false then l++l else l++zP l.length 0).map b8).toArray/\nH w.heap.size w W
 have q:∀i,i≠7->∀(listed:Array Bool) (a S:gh) (W W':World),C listed a W->yK W W'->C (listed.setIfInBounds i true) S W':=by
  intro i hi listed a S W W' h d;have e:(listed.setIfInBounds i true).getD 7 false=listed.getD 7 false:=by simp[zX,hi]
  refine⟨?_,h.2.trans (d.mono h.2.size)⟩;rw[e];exact h.1.below d h.1.lt
 have aP:∀(m:Nat) (a:gh),C (mI m false) a w2.drew:=by
  intro m a;have e:(mI m false).getD 7 false=false:=by simp[mS]
  refine⟨?_,aG.drew⟩;rw[e];exact X.drew
 have aN:yu (l++zP l.length 0) l.length (n-l.length) l=l++l:=by
  have e:n-l.length=l.length:=by have:=p.out;omega
  rw[e];simp[yu]
 have aK:∀(ops:Array nh) (a0:gh) (L:List (Nat×vh)) (o:nh),o.guard=none->o.op=.call {callee:=.builtin .copy,args:=#[.tmp 41,.tmp 44],argTypes:=#[129,129]}->o.dst=some 45->7<ops.size ->
   (o.looksAt ops).contains 41=true->(o.looksAt ops).contains 44=true->Qu.ahead ops o 41=true->Qu.ahead ops o 44=true->qu L 41=.val (X1 (K4 ⟨w.heap.size,l.length,K3⟩) (n-l.length) (n-l.length))->qu L 44=.val (X1 w.heap.size l.length n) ->
   qu L 45=.val (Y1 Q4 (l.length:Int))->Qu.allVal L=true->Qu.Op2 Y3 ops a0 (xD L) C 7 o:=by
  intro ops a0 L o d ho hd aT c1 c2 h1 h2 f1 f2 f3 hv listed a W K Q hs hl _ aO aC _ hK;rw[if_pos (by simp[gS,d])];left;have T:(qu L 41).holds (a.eval (.tmp 41)) W:=aC 41 c1 h1;have U:(qu L 44).holds (a.eval (.tmp 44)) W:=aC 44 c2 h2;rw[f1] at T;rw[f2] at U;have e7:listed.getD 7 false=false:=by
   have E:7<listed.size:=K5
   simpa[mS,E] using hl
  obtain⟨G,hB⟩:=aO;rw[e7] at G
  have aM:qv W (w.heap.size+1) (K4 ⟨w.heap.size,0,K3⟩) n l:=⟨by omega,by omega,(λe=>by cases e),λ_=>⟨_,0,rfl,by omega,λj O=>by
   rw[G.cell]
   simp[b8,gj,O]⟩⟩
  refine Js (.tmp 41) (.tmp 44) ho w.heap.size l.length (l++zP l.length 0) l (K4 ⟨w.heap.size,0,K3⟩) n (w.heap.size+1) (n-l.length) (n-l.length) T U G aM aL ?_;rw[aN,show min l.length (n-l.length)=l.length from by have:=p.out;omega];refine hK _ _ (λt u h=>Qu.factOf_val hv t u _ _ h) ?_ ?_
  .rw[hd];show (qu L 45).holds _ _
   rw[f3];rfl
  .refine⟨?_,zf hB (zG _) _⟩;have F:(listed.setIfInBounds 7 true).getD 7 false=true:=by
    have E:7<listed.size:=K5
    simp[zX,E]
   rw[F];exact G.setRow _
 open Qu in
 refine region2_facts K6 K6 48 rfl K6 [38,39,40,41,42,43,44,45,46,8] K6
  [(7,.val (X1 w.heap.size n n))]
  [(38,.val (Y1 Q4 (l.length:Int))),(39,.val (X1 w.heap.size n n)),(40,.val (Y1 Q4 (l.length:Int))),(41,.val (X1 (K4 ⟨w.heap.size,l.length,K3⟩) (n-l.length) (n-l.length))),(42,.val (X1 w.heap.size n n)),(43,.val (Y1 Q4 (l.length:Int))),(44,.val (X1 w.heap.size l.length n)),(45,.val (Y1 Q4 (l.length:Int))),(46,.val (Y1 Q4 (n:Int))),(8,.val (Y1 Q4 (n:Int)))]
  ⟨rfl,trivial⟩ K6 (C) (aP _ {tmps:=#[],defers:=[]})
  (⟨op2_mv_old 8 rfl (.inl rfl) K6 (λw=>fsd (f:=.val (Y1 Q4 (l.length:Int))) K6 rfl) (λlisted a v w w1 h d=>q 0 K7 listed a a w w1 h d),
  ⟨op2_of (xD.ph _) (λ_=>ok_none rfl (l_mvF 7 (.val (X1 w.heap.size n n)) (.inl rfl) K6 K6 K6)) K6 (λlisted a v w w1 h d=>q 1 K7 listed a a w w1 h d),
  ⟨op2_mv_old 8 rfl (.inl rfl) K6 (λw=>fsd (f:=.val (Y1 Q4 (l.length:Int))) K6 rfl) (λlisted a v w w1 h d=>q 2 K7 listed a a w w1 h d),
  ⟨op2_of (xD.ph _) (λ_=>ok_none rfl (l_run2W (.tmp 39) (.tmp 40) (.val (X1 (K4 ⟨w.heap.size,l.length,K3⟩) (n-l.length) (n-l.length))) (X1 w.heap.size n n) (Y1 Q4 (l.length:Int)) (hs 39 _ K6 K6) (hs 40 _ K6 K6) (λρ w d h1 h2=>⟨_,w,Av rfl h1 h2 aB,yK.refl _,rfl⟩) K6)) K6 (λlisted a v w w1 h d=>q 3 K7 listed a a w w1 h d),
  ⟨op2_of (xD.ph _) (λ_=>ok_none rfl (l_mvF 7 (.val (X1 w.heap.size n n)) (.inl rfl) K6 K6 K6)) K6 (λlisted a v w w1 h d=>q 4 K7 listed a a w w1 h d),
  ⟨op2_mv_old 8 rfl (.inl rfl) K6 (λw=>fsd (f:=.val (Y1 Q4 (l.length:Int))) K6 rfl) (λlisted a v w w1 h d=>q 5 K7 listed a a w w1 h d),
  ⟨op2_of (xD.ph _) (λ_=>ok_none rfl (l_run2W (.tmp 42) (.tmp 43) (.val (X1 w.heap.size l.length n)) (X1 w.heap.size n n) (Y1 Q4 (l.length:Int)) (hs 42 _ K6 K6) (hs 43 _ K6 K6) (λρ w d h1 h2=>⟨_,w,rI rfl h1 h2 aB,yK.refl _,rfl⟩) K6)) K6 (λlisted a v w w1 h d=>q 6 K7 listed a a w w1 h d),
  ⟨aK _ _ _ _ rfl rfl rfl K7 K6 K6 K6 K6 K6 K6 K6 K6,
  ⟨op2_of (xD.ph _) (λ_=>ok_none rfl (run2 (.tmp 38) (.tmp 45) (hs 38 (Y1 Q4 (l.length:Int)) K6 K6) (hs 45 (Y1 Q4 (l.length:Int)) K6 K6) (λρ w h1 h2=>by simp[nQ,h1,h2,go_sem,aI]) (λ_=>fsd (f:=.val (Y1 Q4 (n:Int))) K6 rfl))) K6 (λlisted a v w w1 h d=>q 8 K7 listed a a w w1 h d),
  ⟨op2_of (xD.ph _) (λ_=>ok_none rfl (l_mvF 46 (.val (Y1 Q4 (n:Int))) (.inr rfl) K6 K6 K6)) K6 (λlisted a v w w1 h d=>q 9 K7 listed a a w w1 h d),
  trivial⟩⟩⟩⟩⟩⟩⟩⟩⟩⟩) ?_
 intro listed a w3 M s hF;have F:a.eval (.tmp 8)=Y1 Q4 (n:Int):=hF 8;have ha:=Qu.acts_eq [38,39,40,41,42,43,44,45,46,8] s.size s.defers s.rest;obtain⟨aJ,aH⟩:za w3 w.heap.size 5 ((l++l).map b8).toArray/\nH w.heap.size w w3:=by
  have E:=M 7 K7;have hs:listed.getD 7 false=true:=by
   cases V:listed[7]? with
   | none =>
    exfalso;have h9:=s.closed 9 _ rfl (M 9 K7) ⟨7,.chain⟩ K9 K7;simp[zX,V] at h9
   | some b=>simpa[zX,V] using E
  have hw:=s.wi;refine⟨?_,hw.2⟩;have:=hw.1;rw[hs] at this;exact this
 clear hF s M;simp only[mR,eB,F] at ha;clear F;generalize a.eval (.tmp 38)=aU at ha;generalize a.eval (.tmp 39)=v39 at ha;generalize a.eval (.tmp 40)=aV at ha;generalize a.eval (.tmp 41)=aW at ha;generalize a.eval (.tmp 42)=aX at ha;generalize a.eval (.tmp 43)=aY at ha;generalize a.eval (.tmp 44)=aZ at ha;generalize a.eval (.tmp 45)=v45 at ha;generalize a.eval (.tmp 46)=v46 at ha;simp only[nJ,zA,zE,zF] at ha;subst ha;simp only[Exit.inBlock,Exit.then];rw[rounds_succ];go_wp2;go_ret;refine⟨_,rfl,?_,aH⟩;have aA:(l++l).length=n:=by have:=p.out;simp;omega
 rw[<-aA];exact aJ.dw (zG _) (by rw[aA];omega)
end
section
open xq
def QX (s e z c:Nat):Y4:=[qb 8 s,qb 8 e,qb 4 z,qb 4 c].flatten
theorem PN (s e z c:Nat):QX s e z c=qb 8 s++(qb 8 e++(qb 4 z++qb 4 c)):=by simp[QX]
theorem Xs (s e z c:Nat):(QX s e z c).length=24:=by
 rw[PN];simp only[zH,yZ]
def JX (b:Y4):Y4:=b++qb 4 (Ro b)
theorem Kj (b:Y4):(JX b).length=b.length+4:=by simp[JX,yZ]
def QP (b:Y4):Y4:=JX b++JX b++zP 8 0
theorem JR (b:Y4):(QP b).length=2*b.length+16:=by simp[QP,Kj];omega
def vM (s e z c:Nat):Y4:=QP (QX s e z c)
theorem jK (s e z c:Nat):(vM s e z c).length=64:=by simp[vM,JR,Xs]
theorem kI {k n:Nat}(h:n<256^k):xH (qb k n)=n:=by rw[Iz,Nat.mod_eq_of_lt h]
theorem Ol {s e z c:Nat}(hs:s<2^64)(v:e<2^64)(A:z<2^32)(hc:c<2^32)(r:Y4):xH ((QX s e z c++r).take 8)=s/\xH (((QX s e z c++r).drop 8).take 8)=e/\xH (((QX s e z c++r).drop 16).take 4)=z/\xH (((QX s e z c++r).drop 20).take 4)=c:=by
 have g:∀n,(qb 8 n).length=8:=yZ 8;have d:∀n,(qb 4 n).length=4:=yZ 4;have j:∀n (r:Y4),(qb 8 n++r).take 8=qb 8 n:=λn r=>by rw[mG (by rw[g];omega)];rw[qE (by rw[g];omega)]
 have t4:∀n (r:Y4),(qb 4 n++r).take 4=qb 4 n:=λn r=>by rw[mG (by rw[d];omega)];rw[qE (by rw[d];omega)]
 have h:∀n (r:Y4),(qb 8 n++r).drop 8=r:=λn r=>by have:=fC (l₁:=qb 8 n) (l₂:=r);rw[g] at this;exact this
 have p:∀n (r:Y4),(qb 4 n++r).drop 4=r:=λn r=>by have:=fC (l₁:=qb 4 n) (l₂:=r);rw[d] at this;exact this
 have q:∀(l:Y4),l.drop 16=(l.drop 8).drop 8:=λl=>by rw[fB]
 have u:∀(l:Y4),l.drop 20=((l.drop 8).drop 8).drop 4:=λl=>by rw[fB,fB]
 rw[PN];simp only[qQ];rw[u,q,j,h,j,h,t4,p,t4];exact⟨kI K5,kI K5,kI K5,kI K5⟩
def Cp (b:Y4):Nat:=xH (b.take 8)
def ub (b:Y4):Nat:=xH ((b.drop 8).take 8)
def CH (b:Y4):Nat:=xH ((b.drop 16).take 4)
def CI (b:Y4):Nat:=xH ((b.drop 20).take 4)
def kn (b:Y4):Bool:=decide (b.length=64)&&decide (CH b<=2000)&&decide (CI b<=2000)&&decide (vM (Cp b) (ub b) (CH b) (CI b)=b)
theorem KB (b:Y4):kn b=true↔b.length=64/\CH b<=2000/\CI b<=2000/\vM (Cp b) (ub b) (CH b) (CI b)=b:=by
 simp[kn,and_assoc]
theorem PM (s e z c:Nat):∃r,vM s e z c=QX s e z c++r:=⟨_,by unfold vM QP JX;simp only[qQ];rfl⟩
theorem Oj {s e z c:Nat}(hs:s<2^64)(d:e<2^64)(h:z<=2000)(hc:c<=2000):Cp (vM s e z c)=s/\ub (vM s e z c)=e/\CH (vM s e z c)=z/\CI (vM s e z c)=c:=by
 obtain⟨r,g⟩:=PM s e z c;unfold Cp ub CH CI;rw[g];exact Ol hs d K5 K5 r
theorem FQ {s e z c:Nat}(hs:s<2^64)(j:e<2^64)(d:z<=2000)(hc:c<=2000):kn (vM s e z c)=true:=by
 obtain⟨h1,h2,g,h⟩:=Oj hs j d hc;rw[KB,h1,h2,g,h];exact⟨jK _ _ _ _,d,hc,rfl⟩
def YC (e i p:Nat)(f:Bool)(z l:Nat):Y4:=[qb 8 e,qb 4 i,qb 4 p,[if f then 1 else 0],qb 4 z,qb 4 l].flatten
theorem Bv (e i p:Nat)(f:Bool)(z l:Nat):YC e i p f z l=qb 8 e++(qb 4 i++(qb 4 p++((if f then 1 else 0)::(qb 4 z++qb 4 l)))):=by simp[YC]
theorem Qg (e i p:Nat)(f:Bool)(z l:Nat):(YC e i p f z l).length=25:=by
 rw[Bv];simp only[zH,zK,yZ]
def vc (p y:Y4):Y4:=p++qb 4 (Ro (p++y))++zP 35 0
theorem Qe (p y:Y4):(vc p y).length=p.length+39:=by simp[vc,yZ]
def Vg (p y:Y4):Y4:=vc p y++y
end
section
open Go Go.RowKit xq
theorem Qt (r:Nat)(h:r<4294967296)(w:World):(convert 3 148 (Y1 Q4 r)).run Y3 w=.ok (Y1 Q7 r) w:=by
 have e:IntKind.u32.wrap (r:Int)=r:=by
  show (r:Int)%4294967296=r
  omega
 have k:Y3.intKind 148=.u32:=K6
 have h:=run_convert_int (P:=Y3) (w:=w) 3 148 .i64 r K6 K6;rw[k,e] at h;exact h
theorem Hz (s e z c:Nat)(hz:z<=2000)(hc:c<=2000)(w:World):nK Y3 228 #[Q0 #[Y1 Q6 (s:Int),Y1 Q6 (e:Int),Y1 Q4 (z:Int),Y1 Q4 (c:Int)]] w λx w'=>x=.returned (Q0 ((vM s e z c).map b8).toArray)/\nH w.heap.size w w':=by
 have aY:=Qt z K5;have aI:=Qt c K5;have aJ:∀w u,xy [qb 8 s,qb 8 e,qb 4 z,qb 4 c] u w->nK Y3 185 #[u] w λe' w'=>∃v,e'=.returned v/\yK w w'/\(vh.res (QX s e z c)).holds v w':=λw u hu =>
  Qu.gives_res (jY hu K9 (by have:=Xs s e z c;unfold QX at this;omega))
 have aC:nH w.heap.size w ((w.alloc (Q9 #[Y1 Q6 (s:Int),Y1 Q6 (e:Int),Y1 Q4 (z:Int),Y1 Q4 (c:Int)] 173)).alloc (Q9 XH 317)):=((nF _ w).alloc (zG _) _).alloc K9 _;have j:za ((w.alloc (Q9 #[Y1 Q6 (s:Int),Y1 Q6 (e:Int),Y1 Q4 (z:Int),Y1 Q4 (c:Int)] 173)).alloc (Q9 XH 317)) w.heap.size 173 #[Y1 Q6 (s:Int),Y1 Q6 (e:Int),Y1 Q4 (z:Int),Y1 Q4 (c:Int)]:=(za.new w 173 _).alloc _;have T:za ((w.alloc (Q9 #[Y1 Q6 (s:Int),Y1 Q6 (e:Int),Y1 Q4 (z:Int),Y1 Q4 (c:Int)] 173)).alloc (Q9 XH 317)) (w.heap.size+1) 317 ((zP 64 (0:UInt8)).map b8).toArray:=by have h:=za.new (w.alloc (Q9 #[Y1 Q6 (s:Int),Y1 Q6 (e:Int),Y1 Q4 (z:Int),Y1 Q4 (c:Int)] 173)) 317 XH;rw[nG] at h;exact h
 go_enter func228,ntmps228
 go_wp2_with fail
 generalize (w.alloc (Q9 #[Y1 Q6 (s:Int),Y1 Q6 (e:Int),Y1 Q4 (z:Int),Y1 Q4 (c:Int)] 173)).alloc (Q9 XH 317)=G at *;have aF:∀w',yK G w'->w'.cell? w.heap.size=K4 (Y1 Q6 s):=λw' g=>(g.cell (p:=⟨w.heap.size,0,K3⟩) j.lt).trans (by rw[j.cell];rfl)
 have aG:∀w',yK G w'->w'.cell? ⟨w.heap.size,1,K3⟩=K4 (Y1 Q6 e):=λw' g=>(g.cell (p:=⟨w.heap.size,1,K3⟩) j.lt).trans (by rw[j.cell];rfl)
 have A:∀w',yK G w'->w'.cell? ⟨w.heap.size,2,K3⟩=K4 (Y1 Q4 z):=λw' g=>(g.cell (p:=⟨w.heap.size,2,K3⟩) j.lt).trans (by rw[j.cell];rfl)
 have aH:∀w',yK G w'->w'.cell? ⟨w.heap.size,3,K3⟩=K4 (Y1 Q4 c):=λw' g=>(g.cell (p:=⟨w.heap.size,3,K3⟩) j.lt).trans (by rw[j.cell];rfl)
 open Qu in
 refine region_acts K6 K6 33 rfl K6 [5,6,7,8,9,10,11,12,13,14,15,16,17,18,19,20,3] K6
  [(1,.val (Y9 w.heap.size))]
  [(5,.val (Y9 w.heap.size)),(6,.val (Y1 Q6 (s:Int))),(7,.res (qb 8 s)),(8,.val (Y9 (K4 ⟨w.heap.size,1,K3⟩))),(9,.val (Y1 Q6 (e:Int))),(10,.res (qb 8 e)),(11,.val (Y9 (K4 ⟨w.heap.size,2,K3⟩))),(12,.val (Y1 Q4 (z:Int))),(13,.val (Y1 Q7 (z:Int))),(14,.res (qb 4 z)),(15,.val (Y9 (K4 ⟨w.heap.size,3,K3⟩))),(16,.val (Y1 Q4 (c:Int))),(17,.val (Y1 Q7 (c:Int))),(18,.res (qb 4 c)),(19,.pred (xy [qb 8 s,qb 8 e,qb 4 z,qb 4 c]) (xi _)),(20,.res (QX s e z c)),(3,.res (QX s e z c))]
  ⟨rfl,trivial⟩ K6
  (allOk_cons (ok_none rfl (l_run1 (.tmp 1) (Y9 w.heap.size) (Y9 w.heap.size) (hs 1 _ K6 K6) (λρ w h=>by simp[nQ,h,go_sem,nM]) K6))
  <| allOk_cons (ok_none rfl (l_load (.tmp 5) (⟨w.heap.size,0,K3⟩) _ (Y1 Q6 (s:Int)) (by intro w;simp[go_sem]) rfl (hs 5 (Y9 w.heap.size) K6 K6) (λw g=>aF w g) K6))
  <| allOk_cons (ok_none rfl (l_call 290 _ _ rfl (mc func290 K6 rfl) #[Y1 Q6 (s:Int)] (.res (qb 8 s)) (args1 (hs 6 (Y1 Q6 (s:Int)) K6 K6)) (λw g=>gives_res (Zq s w)) K6))
  <| allOk_cons (ok_none rfl (l_run1 (.tmp 1) (Y9 w.heap.size) (Y9 (K4 ⟨w.heap.size,1,K3⟩)) (hs 1 _ K6 K6) (λρ w h=>by simp[nQ,h,go_sem,nM]) K6))
  <| allOk_cons (ok_none rfl (l_load (.tmp 8) (⟨w.heap.size,1,K3⟩) _ (Y1 Q6 (e:Int)) (by intro w;simp[go_sem]) rfl (hs 8 (Y9 (K4 ⟨w.heap.size,1,K3⟩)) K6 K6) (λw g=>aG w g) K6))
  <| allOk_cons (ok_none rfl (l_call 290 _ _ rfl (mc func290 K6 rfl) #[Y1 Q6 (e:Int)] (.res (qb 8 e)) (args1 (hs 9 (Y1 Q6 (e:Int)) K6 K6)) (λw g=>gives_res (Zq e w)) K6))
  <| allOk_cons (ok_none rfl (l_run1 (.tmp 1) (Y9 w.heap.size) (Y9 (K4 ⟨w.heap.size,2,K3⟩)) (hs 1 _ K6 K6) (λρ w h=>by simp[nQ,h,go_sem,nM]) K6))
  <| allOk_cons (ok_none rfl (l_load (.tmp 11) (⟨w.heap.size,2,K3⟩) _ (Y1 Q4 (z:Int)) (by intro w;simp[go_sem]) rfl (hs 11 (Y9 (K4 ⟨w.heap.size,2,K3⟩)) K6 K6) (λw g=>A w g) K6))
  <| allOk_cons (ok_none rfl (l_convS (.tmp 12) _ _ (Y1 Q4 (z:Int)) (Y1 Q7 (z:Int)) rfl (hs 12 (Y1 Q4 (z:Int)) K6 K6) (λw g=>aY w) K6))
  <| allOk_cons (ok_none rfl (l_call 82 _ _ rfl (mc func82 K6 rfl) #[Y1 Q7 (z:Int)] (.res (qb 4 z)) (args1 (hs 13 (Y1 Q7 (z:Int)) K6 K6)) (λw g=>gives_res (xt z w)) K6))
  <| allOk_cons (ok_none rfl (l_run1 (.tmp 1) (Y9 w.heap.size) (Y9 (K4 ⟨w.heap.size,3,K3⟩)) (hs 1 _ K6 K6) (λρ w h=>by simp[nQ,h,go_sem,nM]) K6))
  <| allOk_cons (ok_none rfl (l_load (.tmp 15) (⟨w.heap.size,3,K3⟩) _ (Y1 Q4 (c:Int)) (by intro w;simp[go_sem]) rfl (hs 15 (Y9 (K4 ⟨w.heap.size,3,K3⟩)) K6 K6) (λw g=>aH w g) K6))
  <| allOk_cons (ok_none rfl (l_convS (.tmp 16) _ _ (Y1 Q4 (c:Int)) (Y1 Q7 (c:Int)) rfl (hs 16 (Y1 Q4 (c:Int)) K6 K6) (λw g=>aI w) K6))
  <| allOk_cons (ok_none rfl (l_call 82 _ _ rfl (mc func82 K6 rfl) #[Y1 Q7 (c:Int)] (.res (qb 4 c)) (args1 (hs 17 (Y1 Q7 (c:Int)) K6 K6)) (λw g=>gives_res (xt c w)) K6))
  <| allOk_cons (ok_none rfl (l_build4 7 10 14 18 (qb 8 s) (qb 8 e) (qb 4 z) (qb 4 c) rfl K6 K6 K6 K6 K6 K6 K6 K6 K6))
  <| allOk_cons (ok_none rfl (l_callP 185 19 (xy [qb 8 s,qb 8 e,qb 4 z,qb 4 c]) (xi _) _ rfl (mc func185 K6 rfl) (.res (QX s e z c)) K6 K6 (λw u g hu=>aJ w u hu) K6))
  <| allOk_cons (ok_none rfl (l_mvF 20 (.res (QX s e z c)) (.inr rfl) K6 K6 K6))
  <| allOk_nil) ?_
 intro a w3 aX aK aD hF hU;obtain⟨A3,c3,e3,U⟩:=hF 3;have ha:=Qu.acts_eq [5,6,7,8,9,10,11,12,13,14,15,16,17,18,19,20,3] aX aK hU;clear hF hU aK;simp only[mR,eB,e3] at ha;clear e3 aX;generalize a.eval (.tmp 5)=v5 at *;generalize a.eval (.tmp 6)=v6 at *;generalize a.eval (.tmp 7)=v7 at *;generalize a.eval (.tmp 8)=v8 at *;generalize a.eval (.tmp 9)=v9 at *;generalize a.eval (.tmp 10)=a2 at *;generalize a.eval (.tmp 11)=a3 at *;generalize a.eval (.tmp 12)=a4 at *;generalize a.eval (.tmp 13)=a5 at *;generalize a.eval (.tmp 14)=a6 at *;generalize a.eval (.tmp 15)=a7 at *;generalize a.eval (.tmp 16)=a8 at *;generalize a.eval (.tmp 17)=a9 at *;generalize a.eval (.tmp 18)=bA at *;generalize a.eval (.tmp 19)=bB at *;generalize a.eval (.tmp 20)=bC at *;simp only[nJ,zA,zE,zF] at ha;subst ha;simp only[Exit.then];refine ‹∀(a:gh) (w:World),Code.wp Y3 _ _ a w->_› _ w3 ?_;have V:=T.below aD T.lt;have C:nH w.heap.size w w3:=aC.trans (aD.mono aC.size);have aP:=Xs s e z c;generalize aE:QX s e z c=b at *;have HB:=nI aE;clear aE;have H:=nI aP;clear aP aJ aY aI aF aG A aH j T
 go_wp2_with fail
 refine(Ld w3 A3 c3 b U).mono ?_;rintro e4 w4 ⟨rfl,q⟩;have aL:=(U.below q).more q.size;have W:=V.below q V.lt
 go_wp2_with fail
 refine(xt _ _).mono ?_;rintro e5 w5 ⟨v,rfl,aS,E⟩;obtain⟨A5,k5,rfl,aM⟩:=aS.inB;have A:=XB w5 A3 A5 c3 k5 b _ ((aL.below E).more E.size) aM (by have:=H.out;simp[yZ];omega);rw[yZ] at A;have X:=W.below E W.lt;have M:nH w.heap.size w w5:=(C.trans (q.mono C.size)).trans (E.mono (C.trans (q.mono C.size)).size);rw[yZ]
 go_wp2_with fail
 refine A.mono ?_;rintro e6 w6 ⟨v6,rfl,aT,N⟩;obtain⟨A6,k6,rfl,aN⟩:=aT.inB;have aV:=X.below N X.lt;have aB:nH w.heap.size w w6:=M.trans (N.mono M.size);have aR:b++qb 4 (Ro b)=JX b:=rfl;rw[aR] at aN ⊢;have aQ:(JX b).length=28:=by rw[Kj,H.out]
 have I:=nI aQ;clear aQ aR V W X C q E M U aL aM aS aT A N
 go_wp2_with fail
 have K:=Dv w6.drew A6 k6 (JX b) aN.drew (by have:=I.out;omega) (by have:=I.out;omega);obtain⟨d,hd⟩:∃d,JX b++JX b=d:=⟨_,rfl⟩;rw[hd] at K;have HD:=nI hd;clear hd
 go_region_held3 (λ_=>True) (trivial) (first
  |(go_at_call 292;refine K.mono ?_;rintro e7 w7 ⟨v7,rfl,aU,O⟩;obtain⟨A7,k7,rfl,aO⟩:=aU.inB;have Z:=aV.drew.below O aV.lt)
  |(refine Gk J0 (.tmp 28) (.tmp 30) J0 (w.heap.size+1) 0 (zP 64 0) d A7 k7 _ 64 64 J0 J0 Z aO K9 ?_))
 have aW:yu (zP 64 0) 0 64 d=QP b:=by have:=I.out;rw[<-HD.out];simp only[yu,QP,List.take_zero,zQ,qA,fV,zH];rw[qE (by simp;omega),fj K5,this]
 rw[aW];have F:=Z.setRow ((QP b).map b8).toArray;have aZ:nH w.heap.size w (w7.setRow (w.heap.size+1) ((QP b).map b8).toArray):=zf (aB.drew.trans (O.mono aB.size)) K5 _;generalize w7.setRow (w.heap.size+1) ((QP b).map b8).toArray=w8 at *;clear Z O aO aU K aW;have aA:((QP b).map b8).toArray.size=64:=by have:=H.out;simp[JR];omega
 have S:yw Y3 317 ((QP b).map b8).toArray.size:=by rw[aA];exact jn
 clear aA
 go_wp2_with (first
  |(refine yp S F ?_)
  |(refine zt rfl 317 (.tmp 2) (.tmp 32) rfl (w.heap.size+1) rfl rfl S F rfl rfl (Zt _) ?_))
 have a1:w8.setRow (w.heap.size+1) ((QP b).map b8).toArray=w8:=setRow_self w8 _ _ _ _ F;rw[a1];refine nu (yL 2 rfl rfl S F rfl) rfl ⟨?_,aZ⟩;unfold vM;rw[HB.out]
def GW (w0:World)(l:Y4)(n:Int)(e:Ending)(w':World):Prop :=
 ∃A c,e=Y0 (Q2 #[X1 A l.length c,Y1 Q4 n])/\qv w' w'.heap.size A c l/\nH w0.heap.size w0 w'
def ko (s e:Nat)(z c:Int):Y4:=if vl z c then vM s e z.toNat c.toNat else []
def Om (z c:Int):Int:=if vl z c then 0 else 2
theorem qv.mt (w:World)(B:Nat):qv w B none 0 []:=⟨by simp,by omega,λ_=>rfl,λh=>by simp at h⟩
theorem za.dT {w:World}{g:Nat}{T:nS}{l:Y4}(h:za w g T (l.map b8).toArray)(d:l.length<=9223372036854775807):qv w w.heap.size (K4 ⟨g,0,K3⟩) l.length l :=
 ⟨zG _,d,(λe=>by cases e),λ_=>⟨g,0,rfl,h.lt,λj c=>by
  rw[h.cell]
  simp[c,b8]⟩⟩
theorem Vl (s e:Nat)(z c:Int)(w:World):nK Y3 172 #[Q0 #[Y1 Q6 (s:Int),Y1 Q6 (e:Int),Y1 Q4 z,Y1 Q4 c]] w (GW w (ko s e z c) (Om z c)):=by
 have q:nH w.heap.size w (w.alloc (Q9 #[Y1 Q6 (s:Int),Y1 Q6 (e:Int),Y1 Q4 z,Y1 Q4 c] 173)):=(nF _ w).alloc (zG _) _;have u:=za.new w 173 #[Y1 Q6 (s:Int),Y1 Q6 (e:Int),Y1 Q4 z,Y1 Q4 c];cases d:vl z c with
 | false =>
  have H:=KH s e z c (w.alloc (Q9 #[Y1 Q6 (s:Int),Y1 Q6 (e:Int),Y1 Q4 z,Y1 Q4 c] 173));rw[d] at H;have h1:ko s e z c=[]:=by simp[ko,d]
  have h2:Om z c=2:=by simp[Om,d]
  rw[h1,h2];clear h1 h2 d
  go_enter func172,ntmps172
  go_wp2_with (first
   |(go_at_call 227;refine H.mono ?_;rintro x M ⟨rfl,p⟩)
   |(refine yp yv u ?_))
  refine nT (nj rfl _ _ _) rfl ?_;exact⟨none,0,rfl,qv.mt _ _,q.trans (p.mono q.size)⟩
 | true =>
  obtain⟨⟨U,V⟩,S,T⟩:=(Xr z c).1 d;obtain⟨zn,rfl⟩:∃zn:Nat,z=zn:=⟨z.toNat,by omega⟩;obtain⟨cn,rfl⟩:∃cn:Nat,c=cn:=⟨c.toNat,by omega⟩;have H:=KH s e zn cn (w.alloc (Q9 #[Y1 Q6 (s:Int),Y1 Q6 (e:Int),Y1 Q4 zn,Y1 Q4 cn] 173));rw[d] at H;have h1:ko s e zn cn=vM s e zn cn:=by simp[ko,d]
  have h2:Om zn cn=0:=by simp[Om,d]
  rw[h1,h2];clear h1 h2 d;have A:=jK s e zn cn;have F:=λW=>Hz s e zn cn K5 K5 W
  generalize vM s e zn cn=L at *;have j:=nI A;have N:yw Y3 317 (L.map b8).toArray.size:=by
   have:(L.map b8).toArray.size=64:=by simp[A]
   rw[this];exact jn
  clear A
  go_enter func172,ntmps172
  go_wp2_with (first
   |(go_at_call 227;refine H.mono ?_;rintro x M ⟨rfl,p⟩;have O:=u.below p u.lt;have C:=q.trans (p.mono q.size);clear H u)
   |(go_at_call 228;refine(F _).mono ?_;rintro x h ⟨rfl,G⟩;have v:=C.trans (G.mono C.size))
   |(refine yp (g:=w.heap.size) yv (by assumption) ?_)
   |(refine zt rfl 317 (.tmp 4) (.tmp 9) rfl h.heap.size rfl rfl jn (za.new h 317 XH) J0 (by have:=j.out;simp;omega) (Zt _) ?_))
  have K:=(za.new h 317 XH).setRow (L.map b8).toArray;have I:nH w.heap.size w ((h.alloc (Q9 XH 317)).setRow h.heap.size (L.map b8).toArray):=zf (v.alloc v.size _) v.size _;have E:=K.dT (by rw[j.out];omega);rw[j.out] at E;refine nT (nj rfl _ _ _) rfl ?_;exact⟨_,64,by rw[j.out];rfl,E,I⟩
theorem qv.grown {w w':World}{B:Nat}{A:Y5}{c:Nat}{l:Y4}{row:Option Nat}(h:qv w B A c l)(hB:B<=w.heap.size)(d:w.grownBy w' row)(g:∀r,row=some r->B<=r):qv w' B A c l :=
 h.pR λp j=>nW (d.block p.block K5 (λe=>by have:=g _ e.symm;omega))
theorem Oc (w:World)(A:Y5)(k:Nat)(y:Y4)(ls:List Y4)(u:Value)(X:qv w w.heap.size A k y)(hu:xy ls u w)(hm:ls.length<=1000)(I:ls.flatten.length=25)(hy:y.length<=100000):nK Y3 299 #[X1 A y.length k,u] w λx w'=>x=.returned (Q0 ((vc ls.flatten y).map b8).toArray)/\nH w.heap.size w w':=by
 have c:nH w.heap.size w (w.alloc (Q9 XH 317)):=(nF _ w).alloc (zG _) _;have F:za (w.alloc (Q9 XH 317)) w.heap.size 317 ((zP 64 (0:UInt8)).map b8).toArray:=za.new w 317 XH;have V:=jY (xi ls u w _ hu c) hm (by rw[I];omega);have Z:=(X.below c).more c.size;generalize ls.flatten=p at *;have s:=nI I;clear I hu hm X
 go_enter func299,ntmps299
 go_wp2_with fail
 refine V.mono ?_;rintro x W2 ⟨v2,rfl,own2,hB⟩;obtain⟨K,c2,rfl,aA⟩:=own2.inB;have T:=c.trans (hB.mono c.size);have W:=F.below hB F.lt;have aK:=(Z.below hB).more hB.size;clear hB c F Z V own2
 go_wp2_with fail
 have N:=Lb W2.drew K A c2 k p y aA.drew aK.drew;have s2:=T.size;obtain⟨S,E⟩:∃S,Ro (p++y)=S:=⟨_,rfl⟩;rw[E] at N;have HS:=nI E;clear E;obtain⟨d,hd⟩:∃d,p++qb 4 S=d:=⟨_,rfl⟩;have M:=nI hd;clear hd
 go_region_held3 (λ_=>True) (trivial) (first
  |(go_at_call 291;refine N.mono ?_;rintro x W3 ⟨rfl,e⟩;have G:=W.drew.below e W.lt;have aD:=(aA.drew.below e).more e.size)
  |(go_at_call 82;refine(xt _ _).mono ?_;rintro x W4 ⟨v4,rfl,aG,g⟩;have H:=G.below g G.lt;have aE:=(aD.below g).more g.size;obtain⟨A4,c4,rfl,aB⟩:=aG.inB;have q:=XB W4 K A4 c2 c4 p (qb 4 S) aE aB (by rw[s.out,yZ];omega);rw[M.out] at q)
  |(go_at_call 185;refine q.mono ?_;rintro x W5 ⟨v5,rfl,aH,v⟩;have h:=H.below v H.lt;obtain⟨A5,c5,rfl,aC⟩:=aH.inB)
  |(revert h;intro h;refine Gk J0 (.tmp 8) (.tmp 16) J0 w.heap.size 0 (zP 64 0) d A5 c5 _ 64 64 J0 J0 h aC K9 ?_))
 have aF:yu (zP 64 0) 0 64 d=vc p y:=by have:=s.out;rw[<-M.out];simp only[yu,vc,HS.out,List.take_zero,zQ,qA,fV,zH,yZ];rw[qE (by simp[yZ];omega),fj K5,this]
 rw[aF];have j:=h.setRow ((vc p y).map b8).toArray;have U:nH w.heap.size w W5:=T.drew.trans ((e.trans ((g.trans (v.mono g.size)).mono e.size)).mono s2);have aI:nH w.heap.size w (W5.setRow w.heap.size ((vc p y).map b8).toArray):=zf U (zG _) _;generalize W5.setRow w.heap.size ((vc p y).map b8).toArray=W6 at *;clear h v aC aH aF q U H g aE aG aB G e aD;have O:((vc p y).map b8).toArray.size=64:=by have:=s.out;simp[Qe];omega
 have C:yw Y3 317 ((vc p y).map b8).toArray.size:=by rw[O];exact jn
 clear O
 go_wp2_with (first
  |(refine yp C j ?_)
  |(refine zt rfl 317 (.tmp 4) (.tmp 18) rfl w.heap.size rfl rfl C j rfl rfl (Zt _) ?_))
 have aJ:W6.setRow w.heap.size ((vc p y).map b8).toArray=W6:=setRow_self W6 _ _ _ _ j;rw[aJ];exact nu (yL 4 rfl rfl C j rfl) rfl ⟨rfl,aI⟩
def zr (e:Nat)(i p:Int)(f:Bool)(z:Int)(n:Nat)(A:Y5)(len k:Nat):Y7:=#[Y1 Q6 (e:Int),Y1 Q4 i,Y1 Q4 p,X3 f,Y1 Q4 z,Y1 Q7 (n:Int),X1 A len k]
def KG (len:Nat)(i p:Int)(f:Bool)(z:Int):Bool:=decide (len=512)&&YF 0 2000 [i]&&YF 0 2000 [p,z]&&(f||z==0)
theorem Kw (len:Nat)(i p:Int)(f:Bool)(z:Int):KG len i p f z=true↔len=512/\(0<=i/\i<=2000)/\(0<=p/\p<=2000)/\(0<=z/\z<=2000)/\(f=true\/z=0):=by
 simp[KG,Hv,AQ,and_assoc]
theorem kH:yw Y3 261 7:=⟨⟨_,underlying261,rfl⟩,by kernel_rfl⟩
theorem wg.two (W:World)(x y:Int):wg (W.alloc (Q9 #[Y1 Q4 x,Y1 Q4 y] 3)) (K4 ⟨W.heap.size,0,K3⟩) [x,y]:=⟨λ_=>⟨_,_,rfl,λj c=>by
 rw[(za.new W 3 #[Y1 Q4 x,Y1 Q4 y]).cell]
 rcases(show j=0\/j=1 from by simp at c;omega) with rfl|rfl<;>rfl⟩⟩
theorem Uo (W:World)(lo hi x y:Int):nK Y3 289 #[Y1 Q4 lo,Y1 Q4 hi,X1 W.heap.size 2 2] (W.alloc (Q9 #[Y1 Q4 x,Y1 Q4 y] 3)) λe w'=>e=Y0 (.bool (YF lo hi [x,y]))/\nH W.heap.size W w' :=
 (KW (W.alloc (Q9 #[Y1 Q4 x,Y1 Q4 y] 3)) (K4 ⟨W.heap.size,0,K3⟩) 2 [x,y] (wg.two W x y) (λg o e=>by injection e with e;injection e with e1;subst e1;simp) K9 lo hi).mono λe w' ⟨c,hB⟩ =>
  ⟨c,((nF _ W).alloc (zG _) _).trans (hB.mono K9)⟩
theorem TS (e:Nat)(i p:Int)(f:Bool)(z:Int)(n:Nat)(A:Y5)(len k:Nat)(w:World):nK Y3 238 #[Q0 (zr e i p f z n A len k)] w λx w'=>x=.returned (.bool (KG len i p f z))/\nH w.heap.size w w':=by
 have E:=za.new w 261 (zr e i p f z n A len k);have u:nH w.heap.size w (w.alloc (Q9 (zr e i p f z n A len k) 261)):=(nF _ w).alloc (zG _) _;have s:=vZ (w.alloc (Q9 (zr e i p f z n A len k) 261)) 0 2000 i;rw[nG] at s;obtain⟨v,N⟩:=Z9 (KG len i p f z);rw[<-N];unfold KG at N;have C:=nI N;clear N;unfold zr at *
 by_cases hl:len=512
 .have hq:((len:Int)==512)=true:=by simp;omega
  generalize V:YF 0 2000 [i]=b1 at *;cases b1 with
  | false =>
   have d:v=false:=by rw[C.out];simp
   subst d;clear C hl
   go_enter func238,ntmps238
   go_wp2_with (go_at_call 289;refine s.mono ?_;rintro x j ⟨rfl,hB⟩)
   go_ret;exact⟨rfl,u.trans (hB.mono K9)⟩
  | true =>
   have d:v=(YF 0 2000 [p,z]&&(f||z==0)):=by rw[C.out];simp[hl]
   clear C hl;generalize T:YF 0 2000 [p,z]=b2 at *;have H:=λW=>Uo W 0 2000 p z
   rw[T] at H;clear V T;have G:=nI d;clear d;cases b2 with
   | false =>
    have d:v=false:=by rw[G.out];simp
    subst d;clear G
    go_enter func238,ntmps238
    go_wp2_with fail
    refine s.mono ?_;rintro x j ⟨rfl,hB⟩;have c:=E.below hB K9;have g:=u.trans (hB.mono K9);have K:j.cell? ⟨w.heap.size,2,K3⟩=K4 (Y1 Q4 p):=by rw[c.cell];rfl
    have M:j.cell? ⟨w.heap.size,4,K3⟩=K4 (Y1 Q4 z):=by rw[c.cell];rfl
    clear hB E c u s
    go_wp2_with (go_at_call 289;refine(H _).mono ?_;rintro x F ⟨rfl,hB⟩)
    go_ret;exact⟨rfl,g.trans (hB.mono g.size)⟩
   | true =>
    have d:v=(f||z==0):=by rw[G.out];simp
    clear G;have S:f=false->∃q,(z==0)=q/\v=q:=λh=>⟨_,rfl,by rw[d,h];rfl⟩
    cases f with
    | true =>
     replace d:v=true:=by rw[d];rfl
     subst d;clear S
     go_enter func238,ntmps238
     go_wp2_with fail
     refine s.mono ?_;rintro x j ⟨rfl,hB⟩;have c:=E.below hB K9;have g:=u.trans (hB.mono K9);have K:j.cell? ⟨w.heap.size,2,K3⟩=K4 (Y1 Q4 p):=by rw[c.cell];rfl
     have M:j.cell? ⟨w.heap.size,4,K3⟩=K4 (Y1 Q4 z):=by rw[c.cell];rfl
     clear hB E u s
     go_wp2_with fail
     refine(H _).mono ?_;rintro x F ⟨rfl,hB⟩;have I:=c.below hB c.lt;have O:=g.trans (hB.mono g.size);have U:F.cell? ⟨w.heap.size,3,K3⟩=some (X3 true):=by rw[I.cell];rfl
     clear hB c g K M;go_wp2;go_ret;exact⟨rfl,O⟩
    | false =>
     obtain⟨q,X,rfl⟩:=S rfl;clear d S
     go_enter func238,ntmps238
     go_wp2_with fail
     refine s.mono ?_;rintro x j ⟨rfl,hB⟩;have c:=E.below hB K9;have g:=u.trans (hB.mono K9);have K:j.cell? ⟨w.heap.size,2,K3⟩=K4 (Y1 Q4 p):=by rw[c.cell];rfl
     have M:j.cell? ⟨w.heap.size,4,K3⟩=K4 (Y1 Q4 z):=by rw[c.cell];rfl
     clear hB E u s
     go_wp2_with fail
     refine(H _).mono ?_;rintro x F ⟨rfl,hB⟩;have I:=c.below hB c.lt;have O:=g.trans (hB.mono g.size);have U:F.cell? ⟨w.heap.size,3,K3⟩=some (X3 false):=by rw[I.cell];rfl
     have M:F.cell? ⟨w.heap.size,4,K3⟩=K4 (Y1 Q4 z):=by rw[I.cell];rfl
     clear hB c g K;go_wp2;go_ret;exact⟨rfl,O⟩
 .have hq:((len:Int)==512)=false:=by simp;omega
  have d:v=false:=by rw[C.out];simp[hl]
  subst d;clear C hl
  go_enter func238,ntmps238
  go_wp2;go_ret;exact⟨rfl,u⟩
theorem UX (w:World)(c:UInt8):nK Y3 330 #[Y1 Q5 (c.toNat:Int)] w λx w'=>x=.returned (.func (.func 331) #[] #[Y9 w.heap.size])/\w'=w.alloc (Q9 #[Y1 Q5 (c.toNat:Int)] 5):=by
 go_enter func330,ntmps330
 go_wp2;go_ret;exact⟨rfl,rfl⟩
theorem FZ (w:World)(g:Nat)(c:UInt8)(d:za w g 5 #[Y1 Q5 (c.toNat:Int)]):nK Y3 331 #[Y9 g] w (yV w [c]):=by
 have hc:=d.boxed
 go_enter func331,ntmps331
 go_wp2;go_ret;refine⟨_,rfl,?_,(nF _ _).alloc (zG _) _⟩;exact lA w #[Y1 Q5 (c.toNat:Int)] 1 (zG _) (by unfold gP;omega) rfl
def Qm (w:World)(v:Value):Prop:=∃r g0 g1 clock,v=Q1 (some r)/\qa w r #[⟨X3 false,.func (.func 331) #[] #[Y9 (K4 ⟨g0,0,K3⟩)],0⟩,⟨X3 true,.func (.func 331) #[] #[Y9 (K4 ⟨g1,0,K3⟩)],1⟩] clock /\
 za w g0 5 #[Y1 Q5 0]/\za w g1 5 #[Y1 Q5 1]
theorem Qm.below {w w':World}{v:Value}(h:Qm w v)(hB:nH w.heap.size w w'):Qm w' v:=by
 obtain⟨r,d,e,clock,g,h1,h2,c⟩:=h;exact⟨r,d,e,clock,g,h1.below hB h1.lt,h2.below hB h2.lt,c.below hB c.lt⟩
theorem Kt (b:Bool):gz .bool (X3 b):=trivial
theorem PZ (w:World):nK Y3 300 #[] w λx w'=>∃v,x=.returned v/\Qm w' v/\nH w.heap.size w w':=by
 have G:∀W,nK Y3 330 #[Y1 Q5 0] W λx w'=>x=.returned (.func (.func 331) #[] #[Y9 W.heap.size])/\w'=W.alloc (Q9 #[Y1 Q5 0] 5):=λW=>UX W 0
 have H:∀W,nK Y3 330 #[Y1 Q5 1] W λx w'=>x=.returned (.func (.func 331) #[] #[Y9 W.heap.size])/\w'=W.alloc (Q9 #[Y1 Q5 1] 5):=λW=>UX W 1
 have hu:=underlying371;have C:=underlying4
 go_enter func300,ntmps300
 go_wp2_with (first
  |(refine Qv rfl rfl ?_;intro g;have j:nH w.heap.size w (w.alloc (.map #[] 0)):=(nF _ w).alloc (zG _) _)
  |(go_at_call 330;(with_reducible refine(G _).mono ?_);rintro x T ⟨rfl,rfl⟩;have c:=g.below ((nF _ _).alloc (zG _) (Q9 #[Y1 Q5 0] 5)) g.lt;have u:=za.new (w.alloc (.map #[] 0)) 5 #[Y1 Q5 0];have p:=j.alloc j.size (Q9 #[Y1 Q5 0] 5))
  |(go_at_call 330;(with_reducible refine(H _).mono ?_);rintro x U ⟨rfl,rfl⟩;have d:=E.below ((nF _ _).alloc (zG _) (Q9 #[Y1 Q5 1] 5)) E.lt;have M:=K.alloc (Q9 #[Y1 Q5 1] 5);have O:=za.new w3 5 #[Y1 Q5 1];have s:=q.alloc q.size (Q9 #[Y1 Q5 1] 5))
  |(revert c;intro c;refine Xe J0 (.tmp 2) (.const (X3 false)) (.tmp 4) (.inl J0) hu C (Kt false) J0 J0 J0 c J0 ?_;intro w3 E F;have K:=u.pk c F;have q:nH w.heap.size w w3:=p.trans (zo F p.size (λr e=>by injection e with e;omega));clear g c u)
  |(revert d;intro d;refine Xe J0 (.tmp 2) (.const (X3 true)) (.tmp 6) (.inl J0) hu C (Kt true) J0 J0 J0 d J0 ?_;intro w5 N h;have A:=M.pk d h;have S:=O.pk d h;have I:nH w.heap.size w w5:=s.trans (zo h s.size (λr e=>by injection e with e;omega))))
 go_ret;rw[nG] at A;exact⟨_,rfl,⟨_,_,_,_,rfl,N,A,S⟩,I⟩
namespace Qu
variable {P:gF}{ops:Array nh}
inductive Src where
 | slot (t:eQ)
 | given (v:Value)
structure Stage where
 i:Option Nat
 s:Src
 p:Value->World->Prop
 b:Value->Option Nat
 st:∀v w w',p v w->(∀k,b v=some k->w'.heap[k]?=w.heap[k]?)->p v w'
 lt:∀v w k,p v w->b v=some k->k<w.heap.size
abbrev Ghost:=Nat->Option Nat
def upd (g:Ghost)(k:Nat)(b:Option Nat):Ghost:=λj=>if j=k then b else g j
def Lt (g:Ghost)(w:World):Prop:=∀k b,g k=some b->b<w.heap.size
def edge (ops:Array nh)(i j:Nat):Bool:=match ops[i]? with|some o=>o.after.toList.any λe=>gI .any e&&e.on==j|none=>false
end Qu
namespace Qu
variable {P:gF}{ops:Array nh}
section rules
variable {a0:gh}{FS:Ghost->eQ->Value->World->Prop}{B:Nat}{w00:World}{cs:List (List Stage)}{i:Nat}{o:nh}
def behind (ops:Array nh)(i:Nat):Option Nat->Bool
 | none=>true
 | some j=>edge ops i j
end rules
end Qu
namespace Qu
variable {L:List (Nat×vh)}{ops:Array nh}{w0:World}{o:nh}{P:gF}
theorem l_loadV (x:nO)(p:nN)(T:nS)(v:Value)(e:o.op=.load T x)(g:Has ops (xD L) o x (Y9 (some p)))(d:∀w,yK w0 w->(loadVar T p).run P w=.ok v w)(hd:FD L o.dst=.val v):RunOk P ops (xD L) w0 o :=
 l_run1W x (.val v) _ g (λρ w c h=>⟨v,w,by simp only[nQ,e,h,Instr.loadAt,Instr.sureAddr,gJ,ny,nc,d w c],yK.refl _,rfl⟩) hd
theorem l_s2a (x:nO)(g q n c:Nat)(hn:64<=n)(e:o.op=.sliceToArrayPointer 317 x)(j:Has ops (xD L) o x (X1 (K4 ⟨g,q,K3⟩) n c))(hd:FD L o.dst=.val (Y9 (K4 ⟨g,q,K3⟩))):RunOk Y3 ops (xD L) w0 o:=by
 refine run1 x j (λρ w h => ?_) λ_=>fsd hd rfl
 have d:¬ n<64:=K5
 simp[nQ,e,h,go_sem,Instr.arrayAt,gK underlying317,nM,d]
theorem l_eqArr (x y:nO)(T:nS)(xs c:Y4)(j:xs.length=64)(q:c.length=64)(e:o.op=.binOp .eql 317 x y T)(h:Has ops (xD L) o x (Q0 (xs.map b8).toArray))(p:Has ops (xD L) o y (Q0 (c.map b8).toArray))(hd:FD L o.dst=.val (.bool (xs==c))):RunOk Y3 ops (xD L) w0 o:=by
 refine run2 x y h p (λρ w h1 h2 => ?_) λ_=>fsd hd rfl
 have g:(binOp .eql 317 (Q0 (xs.map b8).toArray) (Q0 (c.map b8).toArray)).run Y3 w=.ok (.bool (xs==c)) w :=
  run_eql_bytes w 317 5 64 underlying317 underlying5 (λw=>by simp[go_sem]) xs c j q
 have d:Y3.eqGuardType Y3.depth 317=false:=K6
 simp only[nQ,e,h1,h2,gJ,run_eqGuard_agg w .eql 317 x y _ _ d,nc,g,ny]
end Qu
namespace Qu
inductive GFact where
 | val (v:Value)
 | any
 | gp (p:Ghost->Value->World->Prop) (h1:∀g v w w',p g v w->yK w w'->p g v w') (h2:∀g k gb v w w',Lt g w->w.grownBy w' (g k)->(gb=g k\/∀b,gb=some b->w.heap.size<=b)->p g v w->p (upd g k gb) v w')
def resX (l:Y4)(g:Ghost)(v:Value)(w:World):Prop:=∃A c,v=X1 A l.length c/\qv w w.heap.size A c l/\∀ad,A=some ad->ad.block<w.heap.size/\∀k,g k≠some ad.block
theorem resX_grow (l:Y4):∀g v w w',resX l g v w->yK w w'->resX l g v w':=by
 rintro g v w w' ⟨A,c,rfl,h,ha⟩ d;exact⟨A,c,rfl,(h.below d).more d.size,λj e=>⟨zO (ha j e).1 d.size,(ha j e).2⟩⟩
theorem resX_stage (l:Y4):∀g k gb v w w',Lt g w->w.grownBy w' (g k)->(gb=g k\/∀b,gb=some b->w.heap.size<=b)->resX l g v w->resX l (upd g k gb) v w':=by
 rintro g k gb v w w' H q p ⟨A,c,rfl,h,ha⟩;refine⟨A,c,rfl,⟨h.le,h.max,h.nil,λE => ?_⟩,λd e=>⟨zO (ha d e).1 q.size,λj => ?_⟩⟩
 .obtain⟨b,o,s,u,hc⟩:=h.pO E;refine⟨b,o,s,zO u q.size,λj F => ?_⟩;rw[<-hc j F];exact nW (q.block b u (λe=>(ha _ s).2 k e.symm))
 .unfold upd;split
  .rcases p with rfl|p
   .exact(ha d e).2 k
   .intro C;have G:=p _ C;have:=(ha d e).1;omega
  .exact(ha d e).2 j
abbrev GFact.res (l:Y4):GFact:=.gp (resX l) (resX_grow l) (resX_stage l)
section rules
variable {ops:Array nh}{a0:gh}{GL:List (Nat×GFact)}{B:Nat}{w00:World}{cs:List (List Stage)}{i:Nat}{o:nh}{P:gF}
end rules
end Qu
namespace Qu
variable {P:gF}{ops:Array nh}
def tailOk (ops:Array nh)(m:Nat):Bool:=(mi ops.size).all λi=>decide (i<m)||(mi i).all λj=>edge ops i j
theorem tail_edge {m i j:Nat}(h:tailOk ops m=true)(hi:i<ops.size)(d:m<=i)(c:j<i):edge ops i j=true:=by
 unfold tailOk at h;rw[yF] at h;have:=h i (by simpa using hi);simp only[Bool.or_eq_true,decide_eq_true_eq,yF] at this;rcases this with h|h
 .omega
 .exact h j (by simpa using c)
theorem listed_of_edge {i j:Nat}{o:nh}{listed:Array Bool}(c:edge ops i j=true)(p:ops[i]?=some o)(g:∀e∈o.after.toList,gI .any e=true->listed.getD e.on false=true):listed.getD j false=true:=by
 simp only[edge,p,fA,gN,beq_iff_eq] at c;obtain⟨e,h,d,rfl⟩:=c;exact g e h d
def StepQ (P:gF)(ops:Array nh)(Q:mh->gh->World->Prop)(Inv:Array Bool->gh->World->Prop)(i:Nat)(o:nh):Prop :=
 ∀(listed:Array Bool) (a:gh) (w:World) (K:gh->World->Prop),listed.size=ops.size->listed.getD i true=false->(∀e∈o.after.toList,gI .any e=true->listed.getD e.on false=true) ->
  Inv listed a w->(∀a' w',Inv (listed.setIfInBounds i true) a' w'->K a' w') ->
  (if gS o (fy ops a.tmps) then o.wp P a w K Q\/(o.asks P a w/\LetsOut Q) else K (a.put o.dst gQ) w)
theorem region_invQ (K:P.follows .mixedOrders=true)(E:backs ops=true){T:Nat}{a0:gh}{w0:World}{Q:mh->gh->World->Prop}(Inv:Array Bool->gh->World->Prop)
  (v:Inv (mI ops.size false) a0 w0.drew) (O:∀i o,ops[i]?=some o->StepQ P ops Q Inv i o)
  (H:∀listed a w,listed.size=ops.size->(∀i,i<ops.size->listed.getD i true=true)->Inv listed a w->Q .normal a w) :
  (lV T ops true).wp P Q a0 w0:=by
 refine wp_region_any K ?_;have key:∀(d:Nat) (listed:Array Bool) (a:gh) (w:World),listed.size=ops.size->left listed<=d->Inv listed a w->wpAny P .any ops Q d listed a w:=by
  intro d;have s:∀(listed:Array Bool) (a:gh) (w:World),listed.size=ops.size->Inv listed a w->nw .any ops listed=[]->Q .normal a w:=by
   intro listed a w hs g h;refine H listed a w hs ?_ g;intro i
   induction i using Nat.strongRecOn with
   | _ i ih =>
    intro hi;cases hl:listed.getD i true with
    | true=>rfl
    | false =>
     exfalso;have:i∈nw .any ops listed:=by
      unfold nw;simp only[yD,List.mem_range,gN,Bool.not_eq_true'];refine⟨hi,hl,?_⟩;have c:ops[i]?=some ops[i]:=gr hi;simp only[c,gv,fX];rw[lH];intro e F;have hc:=backs_spec E c e (Array.mem_toList_iff.2 F);cases C:gI .any e with
      | false=>simp
      | true =>
       have I:=hc C;have h1:=ih e.on I K5;have h2:e.on<listed.size:=K5
       simp only[mS,h2,dif_pos] at h1 ⊢;simpa using h1
     rw[h] at this;cases this
  induction d with
  | zero =>
   intro listed a w hs hf g;have h:nw .any ops listed=[]:=by
    rcases h:nw .any ops listed with _|⟨i,r⟩
    .rfl
    .exfalso;obtain⟨o,c,hl,_⟩:=ready_mem (ops:=ops) (listed:=listed) (i:=i) (by rw[h];simp);have hi:i<listed.size:=by rw[hs];exact(zI.1 c).1
     have M:listed[i]∈listed.toList.filter (! ·):=by
      rw[yD];refine⟨by simp,?_⟩;have q:listed[i]=false:=by simpa[mS,hi] using hl
      simp[q]
     have:0<left listed:=List.length_pos_of_mem M;omega
   exact⟨h,s listed a w hs g h⟩
  | succ d ih =>
   intro listed a w hs hf g;refine⟨s listed a w hs g,λi hi => ?_⟩;obtain⟨o,c,hl,G⟩:=ready_mem hi;have p:i<listed.size:=by rw[hs];exact(zI.1 c).1
   have N:∀j w',Inv (listed.setIfInBounds i true) j w'->wpAny P .any ops Q d (listed.setIfInBounds i true) j w':=by
    intro j w' S;refine ih _ _ _ (by simpa using hs) ?_ S;have q:listed[i]=false:=by simpa[mS,p] using hl
    have:left (listed.setIfInBounds i true)<left listed:=by
     unfold left;rw[Array.toList_setIfInBounds];have u:listed.toList=listed.toList.take i++false::listed.toList.drop (i+1):=by
      have A:listed.toList[i]'(by simpa using p)=false:=by simpa using q
      conv=>lhs;rw[<-qK i listed.toList,qS (by simpa using p),A]
     rw[List.set_eq_take_append_cons_drop,if_pos (by simpa using p)]
     conv=>rhs;rw[u]
     simp
    omega
   have:=O i o c listed a w (λj w'=>wpAny P .any ops Q d (listed.setIfInBounds i true) j w') hs hl G g N;unfold wpOp;simp only[c];exact this
 refine key ops.size _ a0 _ K9 ?_ v;unfold left;simp
def Rest (P:gF)(ops:Array nh)(Q:mh->gh->World->Prop)(i:Nat)(a:gh)(w:World):Prop:=mX P ops Q (ops.toList.drop i) a w
theorem region_tail (hm:P.follows .mixedOrders=true)(aN:backs ops=true){id:Nat}{a0:gh}{w0:World}{Q:mh->gh->World->Prop}(n:Nat)(hn:a0.tmps.size=n)(Z:Zr ops n=true)(m:Nat)(a5:m<=ops.size)(ht:tailOk ops m=true)(aG:((ops.toList.drop m).all λo=>o.guard.isNone)=true)(D:List Nat)(W:dstsAre (ops.extract 0 m) D=true)
  (FS:eQ->Value->World->Prop) (aL:∀t v w w',FS t v w->yK w w'->FS t v w') (aD:(ops.toList.take m).all (λo=>(o.looksAt ops).all (ahead ops o))=true)
  (a1:∀t,(∀o∈ops.toList.take m,o.dst≠some t)->FS t (a0.eval (.tmp t)) w0) (aW:AllOk P ops FS w0 (ops.toList.take m))
  (aQ:∀a w,a.tmps.size=n->a.defers=a0.defers->yK w0 w->(∀t,FS t (a.eval (.tmp t)) w)->(∀t,D.contains t=false->a.eval (.tmp t)=a0.eval (.tmp t))->Rest P ops Q m a w) :
  (lV id ops true).wp P Q a0 w0:=by
 have aP:∀o∈ops.toList,∀d,o.dst=some d->d<n:=by intro o s d hd;unfold Zr at Z;rw[yF] at Z;have:=Z o s;simpa[hd] using this
 have aM:∀(i:Nat) (o:nh),i<m->ops[i]?=some o->∀d,o.dst=some d->D.contains d=true:=by
  intro i o H s d hd;unfold dstsAre at W;rw[yF] at W;have C:o∈(ops.extract 0 m).toList:=by
   simp only[Array.toList_extract,List.extract_eq_take_drop,fD,Nat.sub_zero];have:(ops.toList.take m)[i]?=some o:=by rw[yI,if_pos H];simpa using s
   exact mq this
  have:=W o C;simpa[hd] using this
 let J1:Array Bool->gh->World->Prop:=λlisted a w=>a.tmps.size=n/\a.defers=a0.defers/\yK w0 w/\(∀t,(∀(j:Nat) (p:nh),j<m->ops[j]?=some p->p.dst=some t->listed.getD j true=true)->FS t (a.eval (.tmp t)) w)/\(∀t,D.contains t=false->a.eval (.tmp t)=a0.eval (.tmp t))
 let Inv:Array Bool->gh->World->Prop:=λlisted a w=>((∀j,m<=j->j<ops.size->listed.getD j true=false)/\J1 listed a w)\/∃i,m<i/\i<=ops.size/\(∀j,j<i->listed.getD j true=true)/\(∀j,i<=j->j<ops.size->listed.getD j true=false)/\Rest P ops Q i a w
 have aK:∀listed a w,(∀j,j<m->listed.getD j true=true)->J1 listed a w->Rest P ops Q m a w:=by rintro listed a w u ⟨h1,h2,I,M,N⟩;exact aQ a w h1 h2 I (λt=>M t λj p g _ _=>u j g) N
 refine region_invQ hm aN Inv ?_ ?_ ?_
 .left;refine⟨λj _ g=>by simp[mS,g],hn,rfl,yK.drew w0,?_,λ_ _=>rfl⟩;intro t ht;refine aL t _ w0 _ (a1 t ?_) (yK.drew w0);intro o s hd;obtain⟨i,hi,rfl⟩:=yG s;have aA:i<m/\i<ops.size:=by simp at hi;omega
  have:=ht i ops[i] aA.1 (gr aA.2) (by simpa using hd);simp[mS,aA.2] at this
 .intro i o s listed a w K hs hl aE aC hK;have aI:i<ops.size:=(zI.1 s).1;have aS:i<listed.size:=K5
  have aX:o∈ops.toList:=mq (by simpa using s);have aF:∀j,j<ops.size->(listed.getD j true=true↔listed.getD j false=true):=by
   intro j g;have:j<listed.size:=K5
   simp[mS,this]
  have U:∀j,j<ops.size->j≠i->(listed.setIfInBounds i true).getD j true=listed.getD j true:=by intro j _ aB;simp[zX,Ne.symm aB]
  have aZ:(listed.setIfInBounds i true).getD i true=true:=by simp[zX,aS]
  by_cases H:i<m
  .rcases aC with⟨E,h1,h2,I,M,N⟩|⟨q,hq,_,u,_⟩
   .have aT:∀t,(o.looksAt ops).contains t=true->FS t (a.eval (.tmp t)) w:=by
     intro t a3;refine M t ?_;intro j p g A hd;have C:o∈ops.toList.take m:=by
      have:(ops.toList.take m)[i]?=some o:=by rw[yI,if_pos H];simpa using s
      exact mq this
     rw[yF] at aD;have h6:=aD o C;rw[yF] at h6;obtain⟨e,he,hb,rfl⟩:=ahead_spec (h6 t (by simpa using a3)) A hd;rw[aF _ (zI.1 A).1];exact aE e he hb
    have C:o∈ops.toList.take m:=by
     have:(ops.toList.take m)[i]?=some o:=by rw[yI,if_pos H];simpa using s
     exact mq this
    refine AllOk.get aW o C a w K Q I aT ?_;intro v w' T hv;refine hK _ w' (.inl ⟨?_,?_,?_,I.trans T,?_,?_⟩)
    .intro j aV g;rw[U j g K5];exact E j aV g
    .cases hd:o.dst with
     | none=>simpa[nJ] using h1
     | some d=>simpa[nJ] using h1
    .cases hd:o.dst with
     | none=>simpa[nJ] using h2
     | some d=>simpa[nJ] using h2
    .intro t a2
     by_cases S:o.dst=some t
     .rw[S] at hv ⊢;rw[eval_put_same (by rw[h1];exact aP o aX t S)];exact hv
     .have:=aL t _ w w' (M t λj p g A hd=>by
       have h7:=a2 j p g A hd;have aB:j≠i:=by
        intro e;subst e;rw[s] at A;injection A with A
        subst A;exact S hd
       rw[U j (zI.1 A).1 aB] at h7
       exact h7) T
      cases hd:o.dst with
      | none=>simpa[nJ] using this
      | some d =>
       rw[eval_put_other (by intro e;subst e;exact S hd)];exact this
    .intro t V;cases hd:o.dst with
     | none=>simpa[nJ] using N t V
     | some d =>
      rw[eval_put_other (by intro e;subst e;rw[aM i o H s t hd] at V;cases V)];exact N t V
   .exfalso;rw[u i K5] at hl;cases hl
  .have aU:m<=i:=K5
   have O:∀j,j<i->listed.getD j true=true:=by intro j g;rw[aF j K5];exact listed_of_edge (tail_edge ht aI aU g) s aE
   have c:Rest P ops Q i a w/\(∀j,i<=j->j<ops.size->listed.getD j true=false):=by
    rcases aC with⟨E,X⟩|⟨q,hq,aY,u,F,c⟩
    .have:i=m:=by
      rcases mw m i with h|h
      .have G:=O m h;rw[E m (zG _) K5] at G;cases G
      .omega
     subst this;exact⟨aK listed a w O X,E⟩
    .have:i=q:=by
      rcases Nat.lt_trichotomy i q with h|h|h
      .rw[u i h] at hl;cases hl
      .exact h
      .have G:=O q h;rw[F q (zG _) K5] at G;cases G
     subst this;exact⟨c,F⟩
   obtain⟨c,F⟩:=c;have aO:ops.toList.drop i=o::ops.toList.drop (i+1):=by
    have aH:i<ops.toList.length:=by simpa using aI
    rw[qS aH];congr 1;have:ops.toList[i]?=some o:=by simpa using s
    rw[zM aH] at this;injection this
   unfold Rest at c;rw[aO] at c;have aR:o.guard=none:=by
    rw[yF] at aG;have C:o∈ops.toList.drop m:=by
     have:(ops.toList.drop m)[i-m]?=some o:=by rw[List.getElem?_drop,show m+(i-m)=i from by omega];simpa using s
     exact mq this
    have:=aG o C;cases T:o.guard with
    | none=>rfl
    | some x=>rw[T] at this;cases this
   have hw:gS o (fy ops a.tmps)=true:=by simp[gS,aR]
   simp only[mX,hw,if_true] at c;rw[if_pos hw];refine Or.imp ?_ (λx=>x) c;refine Oper.wp_mono ?_;intro a' w' h9;refine hK a' w' (.inr ⟨i+1,by omega,by omega,?_,?_,h9⟩)
   .intro j g
    by_cases e:j=i
    .subst e;exact aZ
    .rw[U j K5 e];exact O j K5
   .intro j g aJ;rw[U j aJ K5];exact F j K5 aJ
 .rintro listed a w hs u (⟨E,X⟩|⟨q,hq,aY,a4,F,c⟩)
  .have c:=aK listed a w (λj g=>u j K5) X;rcases mw m ops.size with h|h
   .have:=u m h;rw[E m (zG _) h] at this;cases this
   .unfold Rest at c;rw[me (by simpa using h)] at c;exact c
  .rcases mw q ops.size with h|h
   .have:=u q h;rw[F q (zG _) h] at this;cases this
   .unfold Rest at c;rw[me (by simpa using h)] at c;exact c
theorem region_tail_facts (v:P.follows .mixedOrders=true)(j:backs ops=true){F:Nat}{a0:gh}{w0:World}{Q:mh->gh->World->Prop}(n:Nat)(hn:a0.tmps.size=n)(q:Zr ops n=true)(m:Nat)(A:m<=ops.size)(ht:tailOk ops m=true)(u:((ops.toList.drop m).all λo=>o.guard.isNone)=true)(D:List Nat)(c:dstsAre (ops.extract 0 m) D=true)
  (V W:List (Nat×vh)) (d:StartOk a0 w0 V) (e:(W.all λp=>KU (ops.extract 0 m) p.1)=true) (g:(ops.toList.take m).all (λo=>(o.looksAt ops).all (ahead ops o))=true) (E:AllOk P ops (xD (V++W)) w0 (ops.toList.take m))
  (s:∀a w,a.tmps.size=n->a.defers=a0.defers->yK w0 w->(∀t,xD (V++W) t (a.eval (.tmp t)) w)->(∀t,D.contains t=false->a.eval (.tmp t)=a0.eval (.tmp t))->Rest P ops Q m a w) :
  (lV F ops true).wp P Q a0 w0:=by
 refine region_tail v j n hn q m A ht u D c (xD (V++W)) (xD.ph _) g ?_ E s;intro t h;refine start_fact (ops:=ops.extract 0 m) V W d e t ?_;intro o C;refine h o ?_;simpa[Array.toList_extract,List.extract_eq_take_drop] using C
end Qu
namespace Qu
variable {L:List (Nat×vh)}{ops:Array nh}{w0:World}{o:nh}
theorem l_build6 (t1 c t3 t4 t5 d:eQ)(e g h j p q:Y4)(ho:o.op=.buildSlice 142 6 #[(0,.tmp t1),(1,.tmp c),(2,.tmp t3),(3,.tmp t4),(4,.tmp t5),(5,.tmp d)])
  (c1:(o.looksAt ops).contains t1=true) (c2:(o.looksAt ops).contains c=true) (c3:(o.looksAt ops).contains t3=true) (c4:(o.looksAt ops).contains t4=true) (c5:(o.looksAt ops).contains t5=true) (W:(o.looksAt ops).contains d=true)
  (f1:qu L t1=.res e) (f2:qu L c=.res g) (f3:qu L t3=.res h) (f4:qu L t4=.res j) (f5:qu L t5=.res p) (f6:qu L d=.res q) (hd:FD L o.dst=.pred (xy [e,g,h,j,p,q]) (xi _)):RunOk Y3 ops (xD L) w0 o:=by
 intro a w K Q hG hl hK;have M:(qu L t1).holds (a.eval (.tmp t1)) w:=hl t1 c1;have N:(qu L c).holds (a.eval (.tmp c)) w:=hl c c2;have O:(qu L t3).holds (a.eval (.tmp t3)) w:=hl t3 c3;have S:(qu L t4).holds (a.eval (.tmp t4)) w:=hl t4 c4;have T:(qu L t5).holds (a.eval (.tmp t5)) w:=hl t5 c5;have U:(qu L d).holds (a.eval (.tmp d)) w:=hl d W;rw[f1] at M;obtain⟨s,k1,X,h1⟩:=M;rw[f2] at N;obtain⟨u,k2,Z,h2⟩:=N;rw[f3] at O;obtain⟨v,k3,e3,F⟩:=O;rw[f4] at S;obtain⟨A,k4,e4,G⟩:=S;rw[f5] at T;obtain⟨C,k5,e5,H⟩:=T;rw[f6] at U;obtain⟨E,k6,e6,I⟩:=U
 have hN:=xy.new (w:=w) [((s,k1),e),((u,k2),g),((v,k3),h),((A,k4),j),((C,k5),p),((E,k6),q)] (by
  intro x V;simp only[qN,List.not_mem_nil,or_false] at V;rcases V with rfl|rfl|rfl|rfl|rfl|rfl
  .exact h1
  .exact h2
  .exact F
  .exact G
  .exact H
  .exact I)
 have key:∀ρ:nO->Value,ρ (.tmp t1)=X1 s e.length k1->ρ (.tmp c)=X1 u g.length k2->ρ (.tmp t3)=X1 v h.length k3->ρ (.tmp t4)=X1 A j.length k4->ρ (.tmp t5)=X1 C p.length k5->ρ (.tmp d)=X1 E q.length k6 ->
   (nQ ρ o).run Y3 w=.ok (.value (X1 w.heap.size 6 6)) (w.alloc (Q9 #[X1 s e.length k1,X1 u g.length k2,X1 v h.length k3,X1 A j.length k4,X1 C p.length k5,X1 E q.length k6] 129)) :=
  λρ h1 h2 F G H I=>by simp[nQ,ho,h1,h2,F,G,H,I,go_sem,nM]
 unfold mW;rw[key _ X Z e3 e4 e5 e6];exact hK _ _ (yK.alloc _ _) (fsd hd hN)
theorem l_callVP {P:gF}(f:FuncId)(x:nO)(t:eQ)(v1:Value)(p:Value->World->Prop)(G:∀v w w',p v w->yK w w'->p v w')(M:Array nS)(F:o.op=.call {callee:=.value (.func f),args:=#[x,.tmp t],argTypes:=M})(C:∀args w,(callFunc f args).run P w=.ok (.enter f args) w)
  (g:vh) (I:Has ops (xD L) o x v1) (hc:(o.looksAt ops).contains t=true) (hF:qu L t=.pred p G)
  (q:∀w u,yK w0 w->p u w->nK P f #[v1,u] w λe w'=>∃v,e=Y0 v/\yK w w'/\g.holds v w') (hd:FD L o.dst=g):RunOk P ops (xD L) w0 o:=by
 intro a w K Q s hl A;have c:(qu L t).holds (a.eval (.tmp t)) w:=hl t hc;rw[hF] at c;have d:=I a w hl;have H:(nQ a.eval o).run P w=.ok (.enter f #[v1,a.eval (.tmp t)]) w:=by have j:a.eval (.func f)=.func (.func f) #[] #[]:=rfl;have h:=C #[v1,a.eval (.tmp t)] w;simp[nQ,F,resolve,d,j,lP,invoke,h]
 unfold mW;rw[H,Oper.upon_enter];refine(q w _ s c).mono ?_;rintro e w' ⟨v,rfl,E,hf⟩;exact A v w' E (fsd hd hf)
theorem l_runP (t:eQ)(y:nO)(p:Value->World->Prop)(q:∀v w w',p v w->yK w w'->p v w')(d:Value)(g:vh)(hc:(o.looksAt ops).contains t=true)(hF:qu L t=.pred p q)(u:Has ops (xD L) o y d){P:gF}
  (s:∀(ρ:nO->Value) (w:World),yK w0 w->p (ρ (.tmp t)) w->ρ y=d->∃r w',(nQ ρ o).run P w=.ok (.value r) w'/\yK w w'/\g.holds r w') (hd:FD L o.dst=g):RunOk P ops (xD L) w0 o:=by
 intro a w K Q h hl j;have c:(qu L t).holds (a.eval (.tmp t)) w:=hl t hc;rw[hF] at c;obtain⟨r,w',h1,h2,e⟩:=s a.eval w h c (u a w hl);unfold mW;rw[h1];exact j r w' h2 (fsd hd e)
def FlagFn (f:Bool)(v:Value)(w:World):Prop:=∃g,v=.func (.func 331) #[] #[Y9 (K4 ⟨g,0,K3⟩)]/\za w g 5 #[Y1 Q5 (((if f then 1 else 0:UInt8)).toNat:Int)]
theorem flagFn_stable (f:Bool):∀v w w',FlagFn f v w->yK w w'->FlagFn f v w':=by
 rintro v w w' ⟨g,rfl,h⟩ c;exact⟨g,rfl,h.below c h.lt⟩
theorem flagsAt_stable:∀v w w',Qm w v->yK w w'->Qm w' v:=λ_ _ _ h c=>h.below c
theorem run_flag (f:Bool){ρ:nO->Value}{w:World}{t:eQ}{y:nO}(c:o.op=.lookup 371 (.tmp t) y false)(h:Qm w (ρ (.tmp t)))(e:ρ y=X3 f):∃r,(nQ ρ o).run Y3 w=.ok (.value r) w/\FlagFn f r w:=by
 obtain⟨r,g,j,clock,d,h1,h2,p⟩:=h;cases f with
 | false =>
  have:=Rq (P:=Y3) underlying371 underlying4 (Kt false) h1 (i:=0) rfl;exact⟨_,by simp[nQ,c,d,e,this,nM],g,rfl,h2⟩
 | true =>
  have:=Rq (P:=Y3) underlying371 underlying4 (Kt true) h1 (i:=1) rfl;exact⟨_,by simp[nQ,c,d,e,this,nM],j,rfl,p⟩
theorem l_callFlag (f:Bool)(t:eQ)(A:Array nS)(q:o.op=.call {callee:=.value (.tmp t),args:=#[],argTypes:=A})(hc:(o.looksAt ops).contains t=true)(hF:qu L t=.pred (FlagFn f) (flagFn_stable f))(hd:FD L o.dst=.res [if f then 1 else 0]):RunOk Y3 ops (xD L) w0 o:=by
 intro a w K Q C hl d;have c:(qu L t).holds (a.eval (.tmp t)) w:=hl t hc;rw[hF] at c;obtain⟨g,u,j⟩:=c;have s:(nQ a.eval o).run Y3 w=.ok (.enter 331 #[Y9 g]) w:=by have h:=mc func331 K6 rfl #[Y9 g] w;simp[nQ,q,resolve,u,lP,invoke,h]
 unfold mW;rw[s,Oper.upon_enter];refine(gives_res (FZ w g _ j)).mono ?_;rintro e w' ⟨v,rfl,p,hf⟩;exact d v w' p (fsd hd hf)
end Qu
theorem PT (e i p z n:Nat)(f:Bool)(A:Y5)(k:Nat)(y:Y4)(w:World)(hi:i<=2000)(hp:p<=2000)(hz:z<=2000)(aJ:qv w w.heap.size A k y)(hy:y.length=512):nK Y3 239 #[Q0 (zr e i p f z n A y.length k)] w λx w'=>x=.returned (Q0 ((vc (YC e i p f z n) y).map b8).toArray)/\nH w.heap.size w w':=by
 have V:=Qt i K5;have Z:=Qt p K5;have aC:=Qt z K5;have d:=(za.new w 261 (zr e i p f z n A y.length k)).alloc (Q9 XH 317);have q:=za.new (w.alloc (Q9 (zr e i p f z n A y.length k) 261)) 317 XH;rw[nG] at q;have j:nH w.heap.size w ((w.alloc (Q9 (zr e i p f z n A y.length k) 261)).alloc (Q9 XH 317)):=((nF _ w).alloc (zG _) _).alloc K9 _;unfold zr at *;have aE:=nI hy;clear hy
 go_enter func239,ntmps239
 go_wp2_with fail
 generalize (w.alloc (Q9 #[Y1 Q6 (e:Int),Y1 Q4 (i:Int),Y1 Q4 (p:Int),X3 f,Y1 Q4 (z:Int),Y1 Q7 (n:Int),X1 A y.length k] 261)).alloc (Q9 XH 317)=g at *;have I:∀w',yK g w'->w'.cell? w.heap.size=K4 (Y1 Q6 e):=λw' c=>(c.cell (p:=⟨w.heap.size,0,K3⟩) d.lt).trans (by rw[d.cell];rfl)
 have K:∀w',yK g w'->w'.cell? ⟨w.heap.size,1,K3⟩=K4 (Y1 Q4 i):=λw' c=>(c.cell (p:=⟨w.heap.size,1,K3⟩) d.lt).trans (by rw[d.cell];rfl)
 have M:∀w',yK g w'->w'.cell? ⟨w.heap.size,2,K3⟩=K4 (Y1 Q4 p):=λw' c=>(c.cell (p:=⟨w.heap.size,2,K3⟩) d.lt).trans (by rw[d.cell];rfl)
 have N:∀w',yK g w'->w'.cell? ⟨w.heap.size,3,K3⟩=some (X3 f):=λw' c=>(c.cell (p:=⟨w.heap.size,3,K3⟩) d.lt).trans (by rw[d.cell];rfl)
 have O:∀w',yK g w'->w'.cell? ⟨w.heap.size,4,K3⟩=K4 (Y1 Q4 z):=λw' c=>(c.cell (p:=⟨w.heap.size,4,K3⟩) d.lt).trans (by rw[d.cell];rfl)
 have S:∀w',yK g w'->w'.cell? ⟨w.heap.size,5,K3⟩=K4 (Y1 Q7 n):=λw' c=>(c.cell (p:=⟨w.heap.size,5,K3⟩) d.lt).trans (by rw[d.cell];rfl)
 have T:∀w',yK g w'->w'.cell? ⟨w.heap.size,6,K3⟩=some (X1 A y.length k):=λw' c=>(c.cell (p:=⟨w.heap.size,6,K3⟩) d.lt).trans (by rw[d.cell];rfl)
 have W:=(aJ.below j).more j.size;have X:∀w' u,yK g w'->xy [qb 8 e,qb 4 i,qb 4 p,[if f then 1 else 0],qb 4 z,qb 4 n] u w'->nK Y3 299 #[X1 A y.length k,u] w' λx w2=>x=.returned (Q0 ((vc [qb 8 e,qb 4 i,qb 4 p,[if f then 1 else 0],qb 4 z,qb 4 n].flatten y).map b8).toArray)/\nH w'.heap.size w' w2:=λw' u c hu =>
  Oc w' A k y _ u ((W.below c).more c.size) hu K9 (Qg e i p f z n) (by rw[aE.out];omega)
 open Qu in
 refine region_tail_facts K6 K6 30 rfl K6 27 K7 K6 K6 [3,4,5,6,7,8,9,10,11,12,13,14,15,16,17,18,19,20,21,22,23,24,25,26,27,28,29] K6
  [(1,.val (Y9 w.heap.size))]
  [(3,.val (Y9 (K4 ⟨w.heap.size,6,K3⟩))),(4,.val (X1 A y.length k)),(5,.val (Y9 w.heap.size)),(6,.val (Y1 Q6 (e:Int))),(7,.res (qb 8 e)),(8,.val (Y9 (K4 ⟨w.heap.size,1,K3⟩))),(9,.val (Y1 Q4 (i:Int))),(10,.val (Y1 Q7 (i:Int))),(11,.res (qb 4 i)),(12,.val (Y9 (K4 ⟨w.heap.size,2,K3⟩))),(13,.val (Y1 Q4 (p:Int))),(14,.val (Y1 Q7 (p:Int))),(15,.res (qb 4 p)),(16,.pred ((λv w=>Qm w v)) (flagsAt_stable)),(17,.val (Y9 (K4 ⟨w.heap.size,3,K3⟩))),(18,.val (X3 f)),(19,.pred (FlagFn f) (flagFn_stable f)),(20,.res ([if f then 1 else 0])),(21,.val (Y9 (K4 ⟨w.heap.size,4,K3⟩))),(22,.val (Y1 Q4 (z:Int))),(23,.val (Y1 Q7 (z:Int))),(24,.res (qb 4 z)),(25,.val (Y9 (K4 ⟨w.heap.size,5,K3⟩))),(26,.val (Y1 Q7 (n:Int))),(27,.res (qb 4 n)),(28,.pred (xy [qb 8 e,qb 4 i,qb 4 p,[if f then 1 else 0],qb 4 z,qb 4 n]) (xi _)),(29,.val (Q0 ((vc [qb 8 e,qb 4 i,qb 4 p,[if f then 1 else 0],qb 4 z,qb 4 n].flatten y).map b8).toArray))]
  ⟨rfl,trivial⟩ K6 K6
  (allOk_cons (ok_none rfl (l_run1 (.tmp 1) (Y9 w.heap.size) (Y9 (K4 ⟨w.heap.size,6,K3⟩)) (hs 1 _ K6 K6) (λρ w h=>by simp[nQ,h,go_sem,nM]) K6))
  <| allOk_cons (ok_none rfl (l_load (.tmp 3) (⟨w.heap.size,6,K3⟩) _ (X1 A y.length k) (by intro w;simp[go_sem]) rfl (hs 3 (Y9 (K4 ⟨w.heap.size,6,K3⟩)) K6 K6) (λw c=>T w c) K6))
  <| allOk_cons (ok_none rfl (l_run1 (.tmp 1) (Y9 w.heap.size) (Y9 w.heap.size) (hs 1 _ K6 K6) (λρ w h=>by simp[nQ,h,go_sem,nM]) K6))
  <| allOk_cons (ok_none rfl (l_load (.tmp 5) (⟨w.heap.size,0,K3⟩) _ (Y1 Q6 (e:Int)) (by intro w;simp[go_sem]) rfl (hs 5 (Y9 w.heap.size) K6 K6) (λw c=>I w c) K6))
  <| allOk_cons (ok_none rfl (l_call 290 _ _ rfl (mc func290 K6 rfl) #[Y1 Q6 (e:Int)] (.res (qb 8 e)) (args1 (hs 6 (Y1 Q6 (e:Int)) K6 K6)) (λw c=>gives_res (Zq e w)) K6))
  <| allOk_cons (ok_none rfl (l_run1 (.tmp 1) (Y9 w.heap.size) (Y9 (K4 ⟨w.heap.size,1,K3⟩)) (hs 1 _ K6 K6) (λρ w h=>by simp[nQ,h,go_sem,nM]) K6))
  <| allOk_cons (ok_none rfl (l_load (.tmp 8) (⟨w.heap.size,1,K3⟩) _ (Y1 Q4 (i:Int)) (by intro w;simp[go_sem]) rfl (hs 8 (Y9 (K4 ⟨w.heap.size,1,K3⟩)) K6 K6) (λw c=>K w c) K6))
  <| allOk_cons (ok_none rfl (l_convS (.tmp 9) _ _ (Y1 Q4 (i:Int)) (Y1 Q7 (i:Int)) rfl (hs 9 (Y1 Q4 (i:Int)) K6 K6) (λw c=>V w) K6))
  <| allOk_cons (ok_none rfl (l_call 82 _ _ rfl (mc func82 K6 rfl) #[Y1 Q7 (i:Int)] (.res (qb 4 i)) (args1 (hs 10 (Y1 Q7 (i:Int)) K6 K6)) (λw c=>gives_res (xt i w)) K6))
  <| allOk_cons (ok_none rfl (l_run1 (.tmp 1) (Y9 w.heap.size) (Y9 (K4 ⟨w.heap.size,2,K3⟩)) (hs 1 _ K6 K6) (λρ w h=>by simp[nQ,h,go_sem,nM]) K6))
  <| allOk_cons (ok_none rfl (l_load (.tmp 12) (⟨w.heap.size,2,K3⟩) _ (Y1 Q4 (p:Int)) (by intro w;simp[go_sem]) rfl (hs 12 (Y9 (K4 ⟨w.heap.size,2,K3⟩)) K6 K6) (λw c=>M w c) K6))
  <| allOk_cons (ok_none rfl (l_convS (.tmp 13) _ _ (Y1 Q4 (p:Int)) (Y1 Q7 (p:Int)) rfl (hs 13 (Y1 Q4 (p:Int)) K6 K6) (λw c=>Z w) K6))
  <| allOk_cons (ok_none rfl (l_call 82 _ _ rfl (mc func82 K6 rfl) #[Y1 Q7 (p:Int)] (.res (qb 4 p)) (args1 (hs 14 (Y1 Q7 (p:Int)) K6 K6)) (λw c=>gives_res (xt p w)) K6))
  <| allOk_cons (ok_none rfl (l_call 300 _ _ rfl (mc func300 K6 rfl) #[] (.pred ((λv w=>Qm w v)) (flagsAt_stable)) (λ_ _ _=>by simp) (λw c=>(PZ w).mono (λ_ _ ⟨v,he,h1,h2⟩=>⟨v,he,h2,h1⟩)) K6))
  <| allOk_cons (ok_none rfl (l_run1 (.tmp 1) (Y9 w.heap.size) (Y9 (K4 ⟨w.heap.size,3,K3⟩)) (hs 1 _ K6 K6) (λρ w h=>by simp[nQ,h,go_sem,nM]) K6))
  <| allOk_cons (ok_none rfl (l_load (.tmp 17) (⟨w.heap.size,3,K3⟩) _ (X3 f) (by intro w;simp[go_sem]) rfl (hs 17 (Y9 (K4 ⟨w.heap.size,3,K3⟩)) K6 K6) (λw c=>N w c) K6))
  <| allOk_cons (ok_none rfl (l_runP 16 (.tmp 18) _ flagsAt_stable (X3 f) (.pred (FlagFn f) (flagFn_stable f)) K6 K6 (hs 18 _ K6 K6) (λρ w c h1 h2=>let ⟨r,q1,q2⟩:=run_flag f rfl h1 h2;⟨r,w,q1,yK.refl _,q2⟩) K6))
  <| allOk_cons (ok_none rfl (l_callFlag f 19 _ rfl K6 K6 K6))
  <| allOk_cons (ok_none rfl (l_run1 (.tmp 1) (Y9 w.heap.size) (Y9 (K4 ⟨w.heap.size,4,K3⟩)) (hs 1 _ K6 K6) (λρ w h=>by simp[nQ,h,go_sem,nM]) K6))
  <| allOk_cons (ok_none rfl (l_load (.tmp 21) (⟨w.heap.size,4,K3⟩) _ (Y1 Q4 (z:Int)) (by intro w;simp[go_sem]) rfl (hs 21 (Y9 (K4 ⟨w.heap.size,4,K3⟩)) K6 K6) (λw c=>O w c) K6))
  <| allOk_cons (ok_none rfl (l_convS (.tmp 22) _ _ (Y1 Q4 (z:Int)) (Y1 Q7 (z:Int)) rfl (hs 22 (Y1 Q4 (z:Int)) K6 K6) (λw c=>aC w) K6))
  <| allOk_cons (ok_none rfl (l_call 82 _ _ rfl (mc func82 K6 rfl) #[Y1 Q7 (z:Int)] (.res (qb 4 z)) (args1 (hs 23 (Y1 Q7 (z:Int)) K6 K6)) (λw c=>gives_res (xt z w)) K6))
  <| allOk_cons (ok_none rfl (l_run1 (.tmp 1) (Y9 w.heap.size) (Y9 (K4 ⟨w.heap.size,5,K3⟩)) (hs 1 _ K6 K6) (λρ w h=>by simp[nQ,h,go_sem,nM]) K6))
  <| allOk_cons (ok_none rfl (l_load (.tmp 25) (⟨w.heap.size,5,K3⟩) _ (Y1 Q7 (n:Int)) (by intro w;simp[go_sem]) rfl (hs 25 (Y9 (K4 ⟨w.heap.size,5,K3⟩)) K6 K6) (λw c=>S w c) K6))
  <| allOk_cons (ok_none rfl (l_call 82 _ _ rfl (mc func82 K6 rfl) #[Y1 Q7 (n:Int)] (.res (qb 4 n)) (args1 (hs 26 (Y1 Q7 (n:Int)) K6 K6)) (λw c=>gives_res (xt n w)) K6))
  <| allOk_cons (ok_none rfl (l_build6 7 11 15 20 24 27 (qb 8 e) (qb 4 i) (qb 4 p) [if f then 1 else 0] (qb 4 z) (qb 4 n) rfl K6 K6 K6 K6 K6 K6 K6 K6 K6 K6 K6 K6 K6))
  <| allOk_cons (ok_none rfl (l_callVP 299 (.tmp 4) 28 (X1 A y.length k) (xy [qb 8 e,qb 4 i,qb 4 p,[if f then 1 else 0],qb 4 z,qb 4 n]) (xi _) _ rfl (mc func299 K6 rfl) (.val (Q0 ((vc [qb 8 e,qb 4 i,qb 4 p,[if f then 1 else 0],qb 4 z,qb 4 n].flatten y).map b8).toArray)) (hs 4 _ K6 K6) K6 K6 (λw u c hu=>gives_grow (X w u c hu)) K6))
  <| allOk_nil) ?_
 intro a W3 aB U F hF H;have E:a.eval (.tmp 29)=Q0 ((vc [qb 8 e,qb 4 i,qb 4 p,[if f then 1 else 0],qb 4 z,qb 4 n].flatten y).map b8).toArray:=hF 29;have ha:=Qu.acts_eq [3,4,5,6,7,8,9,10,11,12,13,14,15,16,17,18,19,20,21,22,23,24,25,26,27,28,29] aB U H;clear hF H U;simp only[mR,eB,E] at ha;clear E aB;generalize a.eval (.tmp 3)=v3 at *;generalize a.eval (.tmp 4)=v4 at *;generalize a.eval (.tmp 5)=v5 at *;generalize a.eval (.tmp 6)=v6 at *;generalize a.eval (.tmp 7)=v7 at *;generalize a.eval (.tmp 8)=v8 at *;generalize a.eval (.tmp 9)=v9 at *;generalize a.eval (.tmp 10)=aL at *;generalize a.eval (.tmp 11)=aM at *;generalize a.eval (.tmp 12)=aN at *;generalize a.eval (.tmp 13)=aO at *;generalize a.eval (.tmp 14)=aP at *;generalize a.eval (.tmp 15)=aQ at *;generalize a.eval (.tmp 16)=aR at *;generalize a.eval (.tmp 17)=aS at *;generalize a.eval (.tmp 18)=aT at *;generalize a.eval (.tmp 19)=aU at *;generalize a.eval (.tmp 20)=aV at *;generalize a.eval (.tmp 21)=aW at *;generalize a.eval (.tmp 22)=v22 at *;generalize a.eval (.tmp 23)=v23 at *;generalize a.eval (.tmp 24)=v24 at *;generalize a.eval (.tmp 25)=v25 at *;generalize a.eval (.tmp 26)=v26 at *;generalize a.eval (.tmp 27)=v27 at *;generalize a.eval (.tmp 28)=v28 at *;simp only[nJ,zA,zE,zF] at ha;subst ha;simp only[Qu.Rest,List.drop_succ_cons,fD];have C:=q.below F q.lt;have aF:nH w.heap.size w W3:=j.trans (F.mono j.size);have aA:[qb 8 e,qb 4 i,qb 4 p,[if f then 1 else 0],qb 4 z,qb 4 n].flatten=YC e i p f z n:=rfl;have aK:=Qg e i p f z n;rw[aA];clear X I K M N O S T d q W aA V Z aC;generalize G:YC e i p f z n=P at *;have aD:=nI G;clear G;have s:((vc P y).map b8).toArray.size=64:=by simp[Qe];omega
 have aH:yw Y3 317 ((vc P y).map b8).toArray.size:=by rw[s];exact jn
 refine zt rfl 317 (.tmp 2) (.tmp 29) rfl (w.heap.size+1) rfl rfl jn C K9 (by rw[s];simp) (Zt _) ?_;have aI:=C.setRow ((vc P y).map b8).toArray;have aG:nH w.heap.size w (W3.setRow (w.heap.size+1) ((vc P y).map b8).toArray):=zf aF K5 _;generalize W3.setRow (w.heap.size+1) ((vc P y).map b8).toArray=W4 at *;clear s C aK;simp only[mX,nJ,Exit.then];refine ‹∀(a:gh) (w:World),Code.wp Y3 Code.ret _ a w->_› _ W4 ?_;refine wp_ret (nu (yL 2 rfl rfl aH aI rfl) rfl ⟨?_,aG⟩);rw[aD.out]
def Ow (e:Nat)(i p:Int)(f:Bool)(z:Int)(n:Nat)(y:Y4):Y4:=if KG y.length i p f z then Vg (YC e i.toNat p.toNat f z.toNat n) y else []
def Ov (i p:Int)(f:Bool)(z:Int)(y:Y4):Int:=if KG y.length i p f z then 0 else 2
theorem ue {e i p:Nat}{f:Bool}{z n:Nat}{y:Y4}(h:KG y.length i p f z=true):Ow e i p f z n y=Vg (YC e i p f z n) y/\Ov i p f z y=0:=by simp[Ow,Ov,h]
theorem Fb (e:Nat)(i p:Int)(f:Bool)(z:Int)(n:Nat)(A:Y5)(k:Nat)(y:Y4)(w:World)(aD:qv w w.heap.size A k y):nK Y3 252 #[Q0 (zr e i p f z n A y.length k)] w (GW w (Ow e i p f z n y) (Ov i p f z y)):=by
 have G:=za.new w 261 (zr e i p f z n A y.length k);have v:nH w.heap.size w (w.alloc (Q9 (zr e i p f z n A y.length k) 261)):=(nF _ w).alloc (zG _) _;have H:=TS e i p f z n A y.length k (w.alloc (Q9 (zr e i p f z n A y.length k) 261));cases j:KG y.length i p f z with
 | false =>
  have h1:Ow e i p f z n y=[]:=by simp[Ow,j]
  have h2:Ov i p f z y=2:=by simp[Ov,j]
  rw[h1,h2];rw[j] at H;clear h1 h2 j;unfold zr at *
  go_enter func252,ntmps252
  go_wp2_with (first
   |(go_at_call 238;refine H.mono ?_;rintro x w2 ⟨rfl,u⟩)
   |(refine yp kH G ?_))
  exact nT (nj rfl _ _ _) rfl ⟨none,0,rfl,qv.mt _ _,v.trans (u.mono v.size)⟩
 | true =>
  obtain⟨V,⟨aQ,aR⟩,⟨aS,aT⟩,⟨aU,aV⟩,_⟩:=(Kw _ _ _ _ _).1 j;obtain⟨i,rfl⟩:∃q:Nat,i=q:=⟨i.toNat,by omega⟩;obtain⟨p,rfl⟩:∃q:Nat,p=q:=⟨p.toNat,by omega⟩;obtain⟨z,rfl⟩:∃q:Nat,z=q:=⟨z.toNat,by omega⟩;rw[j] at H;obtain⟨h1,h2⟩:=ue (e:=e) (n:=n) j;rw[h1,h2];have aE:=(aD.below v).more v.size;have X:=λW (h:qv W W.heap.size A k y)=>PT e i p z n f A k y W K5 K5 K5 h V
  have aG:=Qg e i p f z n;have aC:Vg (YC e i p f z n) y=vc (YC e i p f z n) y++y:=rfl;have U:(vc (YC e i p f z n) y).length=64:=by rw[Qe,aG]
  rw[aC];generalize vc (YC e i p f z n) y=s at *;have C:=nI U;have aJ:=nI V;have aP:yw Y3 317 (s.map b8).toArray.size:=by
   have:(s.map b8).toArray.size=64:=by simp[U]
   rw[this];exact jn
  clear h1 h2 j aD aC aG U V;unfold zr at *
  go_enter func252,ntmps252
  go_wp2_with (first
   |(go_at_call 238;refine H.mono ?_;rintro x w2 ⟨rfl,u⟩;have N:=G.below u G.lt;have I:=v.trans (u.mono v.size);have T:=(aE.below u).more u.size;clear H G aE)
   |(go_at_call 239;refine(X _ T).mono ?_;rintro x c ⟨rfl,E⟩;have O:=N.below E N.lt;have K:=I.trans (E.mono I.size);have aF:=(T.below E).more E.size;clear X N T)
   |(refine yp (g:=w.heap.size) kH (by assumption) ?_)
   |(refine zt rfl 317 (.tmp 4) (.tmp 9) rfl c.heap.size rfl rfl jn (za.new c 317 XH) J0 (by have:=C.out;simp;omega) (Zt _) ?_))
  have aA:=(za.new c 317 XH).setRow (s.map b8).toArray;have F:nH c.heap.size c ((c.alloc (Q9 XH 317)).setRow c.heap.size (s.map b8).toArray):=zf ((nF _ c).alloc (zG _) _) (zG _) _;have Z:nH w.heap.size w ((c.alloc (Q9 XH 317)).setRow c.heap.size (s.map b8).toArray):=K.trans (F.mono K.size);have aB:=O.below F O.lt;have aM:=(aF.below F).more F.size;have aI:=aA.dT (by rw[C.out];omega);rw[C.out] at aI;clear aA O aF F K I u E;generalize aL:(c.alloc (Q9 XH 317)).setRow c.heap.size (s.map b8).toArray=d at *;generalize c.heap.size=g3 at *;clear aL;simp only[nJ];have S:d.cell? ⟨w.heap.size,6,K3⟩=some (X1 A y.length k):=by rw[aB.cell];rfl
  have hC:=XB d.drew (K4 ⟨g3,0,K3⟩) A 64 k s y aI.drew aM.drew (by rw[C.out,aJ.out];omega);rw[C.out] at hC;have aH:=aB.lt
  go_region_held3 (λW=>nH d.heap.size d W/\W.cell? ⟨w.heap.size,6,K3⟩=some (X1 A y.length k)) (first|exact⟨(nF _ _).drew,S⟩|exact⟨((nF _ d).drew).alloc (zG _) _,(nW (mT d.drew _ _ aH)).trans S⟩|exact⟨M,(M.cell (p:=⟨w.heap.size,6,K3⟩) aH).trans S⟩)
   (first
    |(go_at_call 185;refine hC.mono ?_;rintro x W5 ⟨v5,rfl,aO,aK⟩;have M:nH d.heap.size d W5:=(nF _ d).drew.trans aK))
  go_wp2;obtain⟨A5,c5,rfl,aN⟩:=aO.inB;exact nT (nj rfl _ _ _) rfl ⟨A5,c5,rfl,aN,Z.trans (M.mono Z.size)⟩
theorem UW (w:World)(g o:Nat)(A:Y5)(len c n:Nat)(j:len<=c)(h:c<=9223372036854775807)(hn:n<=len)(hc:w.cell? ⟨g,o,K3⟩=some (X1 A len c))(hf:w.frozen? ⟨g,o,K3⟩=false):nK Y3 237 #[Y9 (K4 ⟨g,o,K3⟩),Y1 Q4 n] w λe w'=>e=Y0 (X1 A n n)/\w.setCell ⟨g,o,K3⟩ (.slice (ku A c n) (len-n) (c-n))=w':=by
 by_cases d:c=n
 .obtain rfl:len=c:=K5
  subst d
  go_enter func237,ntmps237
  go_wp2;go_ret;refine⟨rfl,?_⟩;simp[ku]
 .go_enter func237,ntmps237
  go_wp2;go_ret;refine⟨rfl,?_⟩;simp[ku,d]
structure Zv (w:World)(g:Nat)(A:Y5)(c:Nat)(l:Y4):Prop where
 blk:za w g 311 #[X1 A l.length c]
 dP:qv w g A c l
theorem Zv.below {w w':World}{g:Nat}{A:Y5}{c:Nat}{l:Y4}(h:Zv w g A c l)(hB:nH w.heap.size w w'):Zv w' g A c l :=
 ⟨h.blk.below hB h.blk.lt,h.dP.below (hB.mono (mL h.blk.lt))⟩
theorem Zv.cut {w:World}{g:Nat}{A:Y5}{c:Nat}{l:Y4}(h:Zv w g A c l)(n:Nat)(hn:n<=l.length):Zv (w.setCell g (.slice (ku A c n) (l.length-n) (c-n))) g (ku A c n) (c-n) (l.drop n):=by
 refine⟨?_,(h.dP.drop n hn).pR λp d=>World.cell?_setCell_other w _ p _ (λe=>by subst e;simp at d)⟩;have:=h.blk.set 0 (.slice (ku A c n) (l.length-n) (c-n));rw[qF];exact this
theorem Zf (w:World)(g:Nat)(A:Y5)(c:Nat)(l:Y4)(h:Zv w g A c l)(hl:8<=l.length):nK Y3 224 #[Y9 g,Y1 Q4 8,.func (.func 225) #[] #[]] w λe w'=>e=Y0 (Y1 Q6 (xH (l.take 8):Int))/\Zv w' g (ku A c 8) (c-8) (l.drop 8)/\nH g w w':=by
 have C:=h.dP.le;have F:=h.dP.max;have T:=UW w g 0 A l.length c 8 C F hl (by rw[h.blk.cell];rfl) (h.blk.free 0);have d:=h.cut 8 hl;have j:nH g w (w.setCell g (.slice (ku A c 8) (l.length-8) (c-8))):=(nF g w).setCell (p:=⟨g,0,K3⟩) (zG g) _;have u:=h.dP.below j;clear h;generalize w.setCell g (.slice (ku A c 8) (l.length-8) (c-8))=G at *;have ht:=u.take 8 8 hl (zG _) K5;have E:=Us G A 8 (l.take 8) (ht.more (mL d.blk.lt));have v:(l.take 8).length=8:=by simp;omega
 rw[Fa K5,v,mU,Nat.min_self] at E;have s:=d.blk.lt
 go_enter func224,ntmps224
 go_wp2_with (first|(go_at_call 237;refine T.mono ?_;rintro e w' ⟨rfl,rfl⟩)|(go_at_call 225;refine E.mono ?_;rintro e w' ⟨rfl,q⟩))
 go_ret;exact⟨rfl,d.below q,j.trans (q.mono (mL s))⟩
theorem Zg (w:World)(g:Nat)(A:Y5)(c:Nat)(l:Y4)(h:Zv w g A c l)(hl:4<=l.length):nK Y3 226 #[Y9 g,Y1 Q4 4,.func (.func 120) #[] #[]] w λe w'=>e=Y0 (Y1 Q7 (xH (l.take 4):Int))/\Zv w' g (ku A c 4) (c-4) (l.drop 4)/\nH g w w':=by
 have C:=h.dP.le;have F:=h.dP.max;have T:=UW w g 0 A l.length c 4 C F hl (by rw[h.blk.cell];rfl) (h.blk.free 0);have d:=h.cut 4 hl;have j:nH g w (w.setCell g (.slice (ku A c 4) (l.length-4) (c-4))):=(nF g w).setCell (p:=⟨g,0,K3⟩) (zG g) _;have u:=h.dP.below j;clear h;generalize w.setCell g (.slice (ku A c 4) (l.length-4) (c-4))=G at *;have ht:=u.take 4 4 hl (zG _) K5;have E:=YB G A 4 (l.take 4) (ht.more (mL d.blk.lt));have v:(l.take 4).length=4:=by simp;omega
 rw[Vi K5,v,mU,Nat.min_self] at E;have s:=d.blk.lt
 go_enter func226,ntmps226
 go_wp2_with (first|(go_at_call 237;refine T.mono ?_;rintro e w' ⟨rfl,rfl⟩)|(go_at_call 120;refine E.mono ?_;rintro e w' ⟨rfl,q⟩))
 go_ret;exact⟨rfl,d.below q,j.trans (q.mono (mL s))⟩
def DN (l:Y4):Value:=if kn l then Q2 #[Q0 #[Y1 Q6 (Cp l:Int),Y1 Q6 (ub l:Int),Y1 Q4 (CH l:Int),Y1 Q4 (CI l:Int)],Y1 Q4 0] else Q2 #[Q0 #[Y1 Q6 0,Y1 Q6 0,Y1 Q4 0,Y1 Q4 0],Y1 Q4 150]
theorem Pg {l:Y4}(h:kn l=false):DN l=Q2 #[Q0 #[Y1 Q6 0,Y1 Q6 0,Y1 Q4 0,Y1 Q4 0],Y1 Q4 150]:=by simp[DN,h]
theorem YA (l:Y4):xH (l.take 4)<4294967296:=by
 have h1:=GG (l.take 4);have h2:256^(l.take 4).length<=256^4:=Nat.pow_le_pow_right K5 (by simp;omega);omega
theorem Xb:∀v∈(#[Y1 Q6 0,Y1 Q6 0,Y1 Q4 0,Y1 Q4 0]:Y7).toList,v.oneCell'=true:=by
 intro v c;simp at c;rcases c with rfl|rfl<;>rfl
theorem AY (s e z c:Int):∀v∈(#[Y1 Q6 s,Y1 Q6 e,Y1 Q4 z,Y1 Q4 c]:Y7).toList,v.oneCell'=true:=by
 intro v d;simp at d;rcases d with rfl|rfl|rfl|rfl<;>rfl
theorem DM (w:World)(A:Y5)(c:Nat)(l:Y4)(h:qv w w.heap.size A c l)(hl:l.length≠64):nK Y3 165 #[X1 A l.length c] w λx w'=>x=.returned (DN l)/\nH w.heap.size w w':=by
 have d:=za.new w 173 #[Y1 Q6 0,Y1 Q6 0,Y1 Q4 0,Y1 Q4 0];have g:nH w.heap.size w (w.alloc (Q9 #[Y1 Q6 0,Y1 Q6 0,Y1 Q4 0,Y1 Q4 0] 173)):=(nF _ w).alloc (zG _) _;have e:kn l=false:=by cases hi:kn l;rfl;exact absurd ((KB l).1 hi).1 hl
 rw[Pg e];have hq:((l.length:Int)==64)=false:=by simp;omega
 clear e hl
 go_enter func165,ntmps165
 go_wp2_with (refine zt rfl 173 (.tmp 2) (.tmp 35) rfl w.heap.size rfl rfl yv d J0 J0 Xb ?_)
 refine nu (vq 2 3 rfl rfl rfl yv (d.setRow _) J0) rfl ⟨rfl,zf g (zG _) _⟩
theorem MO (w:World)(A:Y5)(c:Nat)(l:Y4)(h:qv w w.heap.size A c l)(H:l.length=64):nK Y3 165 #[X1 A 64 c] w λx w'=>x=.returned (DN l)/\nH w.heap.size w w':=by
 obtain⟨g,o,rfl,p,bG⟩:=h.pO K5;have aH:=(za.new w 173 #[Y1 Q6 0,Y1 Q6 0,Y1 Q4 0,Y1 Q4 0]).alloc (Q9 #[X1 (K4 ⟨g,o,K3⟩) 64 c] 311);have X:nH w.heap.size w ((w.alloc (Q9 #[Y1 Q6 0,Y1 Q6 0,Y1 Q4 0,Y1 Q4 0] 173)).alloc (Q9 #[X1 (K4 ⟨g,o,K3⟩) 64 c] 311)):=((nF _ w).alloc (zG _) _).alloc K9 _;have aQ:Zv ((w.alloc (Q9 #[Y1 Q6 0,Y1 Q6 0,Y1 Q4 0,Y1 Q4 0] 173)).alloc (Q9 #[X1 (K4 ⟨g,o,K3⟩) 64 c] 311)) (w.heap.size+1) (K4 ⟨g,o,K3⟩) c l:=by refine⟨?_,(h.below X).more K5⟩;have:=za.new (w.alloc (Q9 #[Y1 Q6 0,Y1 Q6 0,Y1 Q4 0,Y1 Q4 0] 173)) 311 #[X1 (K4 ⟨g,o,K3⟩) 64 c];rw[nG] at this;rw[H];exact this
 have C:=nI H;clear H
 go_enter func165,ntmps165
 go_wp2_with fail
 generalize (w.alloc (Q9 #[Y1 Q6 0,Y1 Q6 0,Y1 Q4 0,Y1 Q4 0] 173)).alloc (Q9 #[X1 (K4 ⟨g,o,K3⟩) 64 c] 311)=W1 at *;refine(Zf W1 _ _ c l aQ (by have:=C.out;omega)).mono ?_;rintro x W2 ⟨rfl,aR,aI⟩
 go_wp2_with fail
 refine(Zf W2 _ _ _ _ aR (by have:=C.out;simp;omega)).mono ?_;rintro x W3 ⟨rfl,aD,aJ⟩;rw[fB] at aD
 go_wp2_with fail
 refine(Zg W3 _ _ _ _ aD (by have:=C.out;simp;omega)).mono ?_;rintro x W4 ⟨rfl,aE,aK⟩;rw[fB] at aE;have hz:=YA (l.drop (8+8));have a9:IntKind.i64.wrap (xH ((l.drop (8+8)).take 4):Int)=(xH ((l.drop (8+8)).take 4):Int):=zg _
 go_wp2_with fail
 refine(Zg W4 _ _ _ _ aE (by have:=C.out;simp;omega)).mono ?_;rintro x W5 ⟨rfl,a7,aL⟩;have aV:=YA (l.drop (8+8+4));have aW:IntKind.i64.wrap (xH ((l.drop (8+8+4)).take 4):Int)=(xH ((l.drop (8+8+4)).take 4):Int):=zg _
 go_wp2_with fail
 have aB:nH (w.heap.size+1) W1 W5:=((aI.trans aJ).trans aK).trans aL;have Z:nH w.heap.size w W5:=X.trans (aB.mono K5);have a8:=aH.below aB K5;have aY:=h.below Z;have aT:=Z.size;have eS:xH (l.take 8)=Cp l:=rfl;have eE:xH ((l.drop 8).take 8)=ub l:=rfl;have eZ:xH ((l.drop 16).take 4)=CH l:=rfl;have eC:xH ((l.drop 20).take 4)=CI l:=rfl;have bI:CH l<4294967296:=YA _;have bF:CI l<4294967296:=YA _;have aO:kn l=(vl (CH l) (CI l)&&(vM (Cp l) (ub l) (CH l) (CI l)==l)):=by
  rw[Bool.eq_iff_iff,KB,gN,Xr,beq_iff_eq];constructor
  .rintro⟨_,a1,a2,a3⟩;exact⟨by omega,a3⟩
  .rintro⟨a1,a2⟩;exact⟨C.out,by omega,by omega,a2⟩
 rw[eS,eE,eZ,eC];have aM:DN l=if kn l then Q2 #[Q0 #[Y1 Q6 (Cp l:Int),Y1 Q6 (ub l:Int),Y1 Q4 (CH l:Int),Y1 Q4 (CI l:Int)],Y1 Q4 0] else Q2 #[Q0 #[Y1 Q6 0,Y1 Q6 0,Y1 Q4 0,Y1 Q4 0],Y1 Q4 150]:=rfl
 clear eS eE eZ eC hz aV a9 aW aQ aR aD aE a7 aI aJ aK aL aB X aH;generalize Cp l=s at *;generalize ub l=e at *;generalize CH l=z at *;generalize CI l=d at *;have HI:=nI aO;have W:=nI aM;clear aO aM;have aA:nH w.heap.size w (W5.alloc (Q9 #[Y1 Q6 (s:Int),Y1 Q6 (e:Int),Y1 Q4 (z:Int),Y1 Q4 (d:Int)] 173)):=Z.alloc aT _;have V:=a8.alloc (Q9 #[Y1 Q6 (s:Int),Y1 Q6 (e:Int),Y1 Q4 (z:Int),Y1 Q4 (d:Int)] 173);have U:=za.new W5 173 #[Y1 Q6 (s:Int),Y1 Q6 (e:Int),Y1 Q4 (z:Int),Y1 Q4 (d:Int)];have aZ:qv (W5.alloc (Q9 #[Y1 Q6 (s:Int),Y1 Q6 (e:Int),Y1 Q4 (z:Int),Y1 Q4 (d:Int)] 173)) w.heap.size (K4 ⟨g,o,K3⟩) c l:=aY.below ((nF _ W5).alloc aT _);generalize aU:W5.alloc (Q9 #[Y1 Q6 (s:Int),Y1 Q6 (e:Int),Y1 Q4 (z:Int),Y1 Q4 (d:Int)] 173)=W6 at *;clear aU;have aF:=aA.size;have aC:∀w',yK W6 w'->(loadVar 173 ⟨W5.heap.size,0,K3⟩).run Y3 w'=.ok (Q0 #[Y1 Q6 (s:Int),Y1 Q6 (e:Int),Y1 Q4 (z:Int),Y1 Q4 (d:Int)]) w':=λw' hG=>Qo yv (U.below hG U.lt)
 have a5:∀w',yK W6 w'->(loadVar 317 ⟨g,o,K3⟩).run Y3 w'=.ok (Q0 (l.map b8).toArray) w':=λw' hG=>by
  have hi:=(aZ.more aF).below hG;refine run_loadVar_mid (P:=Y3) w' g o 317 (l.map b8) _ ?_ underlying317 rfl (by simp only[qH];rw[C.out];kernel_rfl);intro j v hj;have aP:j<l.length:=by have:=(qM.1 hj).1;simpa using this
  obtain⟨g',o',I,_,hc⟩:=hi.pO K5;injection I with I
  injection I with I e2
  subst I e2;rw[hc j aP];rw[List.getElem?_map,zM aP] at hj;simpa[b8] using hj
 have aN:=KH s e z d;generalize W5.heap.size=u at *;cases G:vl z d with
 | false =>
  have O:=aN;rw[G] at O;have a6:kn l=false:=by rw[HI.out,G];rfl
  open Qu in
  refine region_acts K6 K6 36 rfl K6 [24,25,26,27,28,29,30,31,32,33] K6
   [(5,.val (Y9 u)),(0,.val (X1 (K4 ⟨g,o,K3⟩) 64 c))]
   [(24,.val (Q0 #[Y1 Q6 (s:Int),Y1 Q6 (e:Int),Y1 Q4 (z:Int),Y1 Q4 (d:Int)])),(25,.val (X3 false)),(26,.val (X3 false)),(27,.any),(28,.any),(29,.any),(30,.any),(31,.any),(32,.any),(33,.val ((ez false)))]
   ⟨rfl,rfl,trivial⟩ K6
   (allOk_cons (ok_none rfl (l_loadV (.tmp 5) (⟨u,0,K3⟩) 173 (Q0 #[Y1 Q6 (s:Int),Y1 Q6 (e:Int),Y1 Q4 (z:Int),Y1 Q4 (d:Int)]) rfl (hs 5 (Y9 u) K6 K6) (λw p=>aC w p) K6))
   <| allOk_cons (ok_none rfl (l_call 227 _ _ rfl (mc func227 K6 rfl) #[Q0 #[Y1 Q6 (s:Int),Y1 Q6 (e:Int),Y1 Q4 (z:Int),Y1 Q4 (d:Int)]] (.val (X3 false)) (args1 (hs 24 (Q0 #[Y1 Q6 (s:Int),Y1 Q6 (e:Int),Y1 Q4 (z:Int),Y1 Q4 (d:Int)]) K6 K6)) (λw p=>gives_grow (O w)) K6))
   <| allOk_cons (ok_none rfl (l_mvF 25 (.val (X3 false)) (.inl rfl) K6 K6 K6))
   <| allOk_cons (okg_not 2 true 26 rfl K6 K6 K6 K6)
   <| allOk_cons (okg_not 2 true 26 rfl K6 K6 K6 K6)
   <| allOk_cons (okg_not 2 true 26 rfl K6 K6 K6 K6)
   <| allOk_cons (okg_not 2 true 26 rfl K6 K6 K6 K6)
   <| allOk_cons (okg_not 2 true 26 rfl K6 K6 K6 K6)
   <| allOk_cons (okg_not 2 true 26 rfl K6 K6 K6 K6)
   <| allOk_cons (ok_none rfl (l_pickF (.tmp 26) (.tmp 32) (.const (ez false)) ((ez false)) rfl (hs 26 (X3 false) K6 K6) (hc _) K6))
   <| allOk_nil) ?_
  intro a W7 S N F hF M;have K:a.eval (.tmp 33)=(ez false):=hF 33;have ha:=Qu.acts_eq [24,25,26,27,28,29,30,31,32,33] S N M;clear hF M N;simp only[mR,eB,K] at ha;clear K S;generalize a.eval (.tmp 24)=v24 at *;generalize a.eval (.tmp 25)=v25 at *;generalize a.eval (.tmp 26)=v26 at *;generalize a.eval (.tmp 27)=v27 at *;generalize a.eval (.tmp 28)=v28 at *;generalize a.eval (.tmp 29)=bA at *;generalize a.eval (.tmp 30)=bB at *;generalize a.eval (.tmp 31)=bC at *;generalize a.eval (.tmp 32)=bD at *;simp only[nJ,zA,zE,zF] at ha;subst ha;simp only[Exit.then];refine ‹∀(a:gh) (w:World),Code.wp Y3 _ _ a w->_› _ W7 ?_;have E:=V.below F V.lt;have T:nH w.heap.size w W7:=aA.trans (F.mono aF)
  go_wp2_with (refine zt rfl 173 (.tmp 2) (.tmp 35) rfl w.heap.size rfl rfl yv E J0 J0 Xb ?_)
  refine nu (vq 2 3 rfl rfl rfl yv (E.setRow _) J0) rfl ⟨?_,zf T (zG _) _⟩;rw[W.out,a6];rfl
 | true =>
  obtain⟨⟨_,bH⟩,_,bE⟩:=(Xr _ _).1 G;have O:=aN;rw[G] at O;have aS:kn l=(vM s e z d==l):=by rw[HI.out,G];rfl
  have aX:=Hz s e z d K5 K5;have aG:=jK s e z d;have H:=C.out;generalize vM s e z d=q at *;have HY:=nI aS;clear aS G
  open Qu in
  refine region_acts K6 K6 36 rfl K6 [24,25,26,27,28,29,30,31,32,33] K6
   [(5,.val (Y9 u)),(0,.val (X1 (K4 ⟨g,o,K3⟩) 64 c))]
   [(24,.val (Q0 #[Y1 Q6 (s:Int),Y1 Q6 (e:Int),Y1 Q4 (z:Int),Y1 Q4 (d:Int)])),(25,.val (X3 true)),(26,.val (X3 true)),(27,.val (Q0 #[Y1 Q6 (s:Int),Y1 Q6 (e:Int),Y1 Q4 (z:Int),Y1 Q4 (d:Int)])),(28,.val (Q0 (q.map b8).toArray)),(29,.val (X1 (K4 ⟨g,o,K3⟩) 64 c)),(30,.val (Y9 (K4 ⟨g,o,K3⟩))),(31,.val (Q0 (l.map b8).toArray)),(32,.val (.bool (q==l))),(33,.val (.bool (q==l)))]
   ⟨rfl,rfl,trivial⟩ K6
   (allOk_cons (ok_none rfl (l_loadV (.tmp 5) (⟨u,0,K3⟩) 173 (Q0 #[Y1 Q6 (s:Int),Y1 Q6 (e:Int),Y1 Q4 (z:Int),Y1 Q4 (d:Int)]) rfl (hs 5 (Y9 u) K6 K6) (λw p=>aC w p) K6))
   <| allOk_cons (ok_none rfl (l_call 227 _ _ rfl (mc func227 K6 rfl) #[Q0 #[Y1 Q6 (s:Int),Y1 Q6 (e:Int),Y1 Q4 (z:Int),Y1 Q4 (d:Int)]] (.val (X3 true)) (args1 (hs 24 (Q0 #[Y1 Q6 (s:Int),Y1 Q6 (e:Int),Y1 Q4 (z:Int),Y1 Q4 (d:Int)]) K6 K6)) (λw p=>gives_grow (O w)) K6))
   <| allOk_cons (ok_none rfl (l_mvF 25 (.val (X3 true)) (.inl rfl) K6 K6 K6))
   <| allOk_cons (okg 2 true 26 rfl K6 K6 K6 (l_loadV (.tmp 5) (⟨u,0,K3⟩) 173 (Q0 #[Y1 Q6 (s:Int),Y1 Q6 (e:Int),Y1 Q4 (z:Int),Y1 Q4 (d:Int)]) rfl (hs 5 (Y9 u) K6 K6) (λw p=>aC w p) K6))
   <| allOk_cons (okg 2 true 26 rfl K6 K6 K6 (l_call 228 _ _ rfl (mc func228 K6 rfl) #[Q0 #[Y1 Q6 (s:Int),Y1 Q6 (e:Int),Y1 Q4 (z:Int),Y1 Q4 (d:Int)]] (.val (Q0 (q.map b8).toArray)) (args1 (hs 27 (Q0 #[Y1 Q6 (s:Int),Y1 Q6 (e:Int),Y1 Q4 (z:Int),Y1 Q4 (d:Int)]) K6 K6)) (λw p=>gives_grow (aX w)) K6))
   <| allOk_cons (okg 2 true 26 rfl K6 K6 K6 (l_mvF 0 (.val (X1 (K4 ⟨g,o,K3⟩) 64 c)) (.inl rfl) K6 K6 K6))
   <| allOk_cons (okg 2 true 26 rfl K6 K6 K6 (l_s2a (.tmp 29) g o 64 c K7 rfl (hs 29 _ K6 K6) K6))
   <| allOk_cons (okg 2 true 26 rfl K6 K6 K6 (l_loadV (.tmp 30) (⟨g,o,K3⟩) 317 (Q0 (l.map b8).toArray) rfl (hs 30 (Y9 (K4 ⟨g,o,K3⟩)) K6 K6) (λw p=>a5 w p) K6))
   <| allOk_cons (okg 2 true 26 rfl K6 K6 K6 (l_eqArr (.tmp 28) (.tmp 31) _ q l aG H rfl (hs 28 _ K6 K6) (hs 31 _ K6 K6) K6))
   <| allOk_cons (ok_none rfl (l_pickT (.tmp 26) (.tmp 32) (.const (ez false)) (.bool (q==l)) rfl (hs 26 (X3 true) K6 K6) (hs 32 (.bool (q==l)) K6 K6) K6))
   <| allOk_nil) ?_
  intro a W7 S N F hF M;have K:a.eval (.tmp 33)=.bool (q==l):=hF 33;have ha:=Qu.acts_eq [24,25,26,27,28,29,30,31,32,33] S N M;clear hF M N;simp only[mR,eB,K] at ha;clear K S;generalize a.eval (.tmp 24)=v24 at *;generalize a.eval (.tmp 25)=v25 at *;generalize a.eval (.tmp 26)=v26 at *;generalize a.eval (.tmp 27)=v27 at *;generalize a.eval (.tmp 28)=v28 at *;generalize a.eval (.tmp 29)=bA at *;generalize a.eval (.tmp 30)=bB at *;generalize a.eval (.tmp 31)=bC at *;generalize a.eval (.tmp 32)=bD at *;simp only[nJ,zA,zE,zF] at ha;subst ha;simp only[Exit.then];refine ‹∀(a:gh) (w:World),Code.wp Y3 _ _ a w->_› _ W7 ?_;have E:=V.below F V.lt;have a4:=U.below F U.lt;have T:nH w.heap.size w W7:=aA.trans (F.mono aF);clear H aG;cases hq:(q==l) with
  | false =>
   go_wp2_with (refine zt rfl 173 (.tmp 2) (.tmp 35) rfl w.heap.size rfl rfl yv E J0 J0 Xb ?_)
   refine nu (vq 2 3 rfl rfl rfl yv (E.setRow _) J0) rfl ⟨?_,zf T (zG _) _⟩;rw[W.out,HY.out,hq];rfl
  | true =>
   go_wp2_with (first
    |(refine yp yv a4 ?_)
    |(refine zt rfl 173 (.tmp 2) (.tmp 34) rfl w.heap.size rfl rfl yv E J0 J0 (AY _ _ _ _) ?_))
   refine nu (vq 2 3 rfl rfl rfl yv (E.setRow _) J0) rfl ⟨?_,zf T (zG _) _⟩;rw[W.out,HY.out,hq];rfl
theorem Vn (w:World)(A:Y5)(c:Nat)(l:Y4)(h:qv w w.heap.size A c l):nK Y3 165 #[X1 A l.length c] w λx w'=>x=.returned (DN l)/\nH w.heap.size w w':=by
 by_cases hl:l.length=64
 .rw[hl];exact MO w A c l h hl
 .exact DM w A c l h hl


theorem Qz {P:gF}(w:World)(t e:nS)(A:Y5)(n c:Nat)(ht:P.underlying t=some (.slice e)):(binOp .eql t (X1 A n c) (X1 none 0 0)).run P w=.ok (X3 A.isNone) w:=by
 have d:binOp .eql t (X1 A n c) (X1 none 0 0)=(do pure (.bool (<-fE (9999+1) t (X1 A n c) (X1 none 0 0)))):=rfl;have h:(fE (9999+1) t (X1 A n c) (X1 none 0 0)).run P w=.ok A.isNone w:=by unfold fE;cases A<;>simp[gK ht]
 rw[d];simp only[gJ,h,nM,ny]
theorem Yl (w:World)(A:Y5)(c:Nat)(l:Y4)(h:qv w w.heap.size A c l)(hl:l.length<=100000000000):nK Y3 112 #[X1 A l.length c] w (yV w l):=by
 have q:=h.le;rcases A with _|e
 .have hc:=h.nil rfl;subst hc;obtain rfl:l=[]:=qI K5;have hq:=λW=>Qz (P:=Y3) W 129 5 none 0 0 underlying129
  go_enter func112,ntmps112
  go_wp2;go_ret;exact⟨_,rfl,yY.nil _ _,nF _ _⟩
 .have g:yY (w.alloc (Q9 #[] 5)) w.heap.size (X1 w.heap.size 0 0) []:=lA w #[] 0 (zG _) (by unfold gP;omega) rfl;have d:nH w.heap.size w (w.alloc (Q9 #[] 5)):=(nF _ w).alloc (zG _) _;have h1:=h.below d;have hq:=λW=>Qz (P:=Y3) W 129 5 (some e) l.length c underlying129
  go_enter func112,ntmps112
  go_wp2_with (at_builtin;refine GF rfl (.tmp 5) (.tmp 6) rfl w.heap.size (X1 w.heap.size 0 0) [] rfl g _ (some e) c l rfl h1 (by simp;omega) K9 ?_;intro v1 s j p)
  go_ret;rw[zQ] at j;exact⟨_,rfl,j,d.trans (zo p d.size g.oh)⟩
def ta:Y7:=#[Y1 Q6 0,Y1 Q4 0,Y1 Q4 0,X3 false,Y1 Q4 0,Y1 Q7 0,X1 none 0 0]
theorem QK (e:Nat)(i p:Int)(f:Bool)(z:Int)(n:Nat)(A:Y5)(len k:Nat):∀v∈(zr e i p f z n A len k).toList,v.oneCell'=true:=by
 intro v c;simp[zr] at c;rcases c with rfl|rfl|rfl|rfl|rfl|rfl|rfl<;>rfl
namespace Qu
variable {L:List (Nat×vh)}{ops:Array nh}{w0:World}{o:nh}{P:gF}
end Qu
theorem je (w:World)(p:nN)(u:Value):w.grownBy (w.setCell p u) (some p.block):=⟨rfl,rfl,rfl,by simp,λk _ c=>nU w p u k (λe=>c (by rw[e]))⟩
theorem yY.apart {w w':World}{base:Nat}{v:Value}{l:Y4}(h:yY w base v l){r:Nat}(d:w.grownBy w' (some r))(g:r<base):yY w' base v l :=
 World.ownsRow.kept h d (by
  cases c:v.ownBlock with
  | none=>exact .inl rfl
  | some b=>exact .inr (λe=>by injection e with e;have:=h.oh b c;omega))
def qy:Y4:=zP 64 0
@[reducible] def Qx (l:Y4):Value:=Q0 (l.map b8).toArray
structure YR (es:Array nZ)(f:Nat->Option Y4):Prop where
 keys:∀(i:Nat) e,es[i]?=some e->∃k l,f k=some l/\e.key=Y1 Q4 (k:Int)/\e.val=Qx l
 all:∀k l,f k=some l->∃(i:Nat) (e:nZ),es[i]?=some e/\e.key=Y1 Q4 (k:Int)/\e.val=Qx l
 inj:∀(i j:Nat) e e',es[i]?=some e->es[j]?=some e'->e.key=e'.key->i=j
theorem YR.empty:YR #[] (λ_=>none):=⟨λi e h=>by simp at h,λk l h=>by simp at h,λi j e c h=>by simp at h⟩
theorem Ks {k m:Nat}(h:Value.int .i64 (k:Int)=Y1 Q4 (m:Int)):k=m:=by injection h with _ h;omega
def QR (f:Nat->Option Y4)(k:Nat)(x:Option Y4):Nat->Option Y4:=λm=>if m=k then x else f m
section
variable {es:Array nZ}{f:Nat->Option Y4}
theorem YR.find (h:YR es f)(k:Nat):(lT (.int .i64) (Y1 Q4 (k:Int)) es.toList 0=some none/\f k=none) \/
  ∃j e l,lT (.int .i64) (Y1 Q4 (k:Int)) es.toList 0=some (some (j,e.val))/\es[j]?=some e/\e.key=Y1 Q4 (k:Int)/\f k=some l/\e.val=Qx l:=by
 have u:gz (.int .i64) (Y1 Q4 (k:Int)):=rfl;have s:∀x∈es.toList,gz (.int .i64) x.key:=by intro x v;obtain⟨i,hi,rfl⟩:=yG v;obtain⟨g,l,_,h2,_⟩:=h.keys i es.toList[i] (by rw[<-Array.getElem?_toList];exact zM hi);rw[h2];rfl
 rcases MapKept.findNow_spec u es.toList 0 s with⟨h1,h2⟩|⟨j,e,h1,h2,h3⟩
 .left;refine⟨h1,?_⟩;cases hf:f k with
  | none=>rfl
  | some l =>
   obtain⟨i,e,c,d,_⟩:=h.all k l hf;exact absurd d (h2 e (Array.mem_toList_iff.2 (Array.mem_of_getElem? c)))
 .right;have c:es[j]?=some e:=by rw[<-Array.getElem?_toList];exact h2
  obtain⟨g,l,d,p,q⟩:=h.keys j e c;have:g=k:=Ks (p.symm.trans h3);subst this;exact⟨j,e,l,by simpa using h1,c,h3,d,q⟩
theorem YR.push (h:YR es f){k:Nat}(A:f k=none)(l:Y4)(born:Nat):YR (es.push {key:=Y1 Q4 (k:Int),val:=Qx l,born:=born}) (QR f k (some l)):=by
 refine⟨λi e c => ?_,λm s p => ?_,λi j e g hi d v => ?_⟩
 .rw[lr] at c;split at c
  .injection c with c
   subst c;exact⟨k,l,by simp[QR],rfl,rfl⟩
  .obtain⟨m,s,h1,h2,u⟩:=h.keys i e c;refine⟨m,s,?_,h2,u⟩;have:m≠k:=λe=>by subst e;rw[A] at h1;cases h1
   simp[QR,this,h1]
 .by_cases e:m=k
  .subst e;simp[QR] at p;subst p;exact⟨es.size,{key:=Y1 Q4 (m:Int),val:=Qx l,born:=born},by simp,rfl,rfl⟩
  .simp only[QR,if_neg e] at p;obtain⟨i,g,h1,h2,u⟩:=h.all m s p;refine⟨i,g,?_,h2,u⟩;have:=(zI.1 h1).1;rw[lr,if_neg K5];exact h1
 .rw[lr] at hi d;have C:∀(q:Nat) (e:nZ),es[q]?=some e->e.key≠Y1 Q4 (k:Int):=λq e c hq=>by obtain⟨m,s,h1,h2,_⟩:=h.keys q e c;have:=Ks (h2.symm.trans hq);subst this;rw[A] at h1;cases h1
  split at hi
  .split at d
   .omega
   .injection hi with hi
    subst hi;exact absurd v.symm (C j g d)
  .split at d
   .injection d with d
    subst d;exact absurd v (C i e hi)
   .exact h.inj i j e g hi d v
theorem YR.modify (h:YR es f){k i:Nat}{e:nZ}(s:es[i]?=some e)(C:e.key=Y1 Q4 (k:Int))(l:Y4):YR (es.modify i λe => {e with key:=Y1 Q4 (k:Int),val:=Qx l}) (QR f k (some l)):=by
 have u:∀j,(es.modify i λe => {e with key:=Y1 Q4 (k:Int),val:=Qx l})[j]?=if i=j then some {e with key:=Y1 Q4 (k:Int),val:=Qx l} else es[j]?:=λj=>by
  rw[mE];split
  .rename_i c
   subst c;rw[s];rfl
  .rfl
 refine⟨λj p d => ?_,λm E v => ?_,λa b g H ha I K => ?_⟩
 .rw[u] at d;split at d
  .injection d with d
   subst d;exact⟨k,l,by simp[QR],rfl,rfl⟩
  .rename_i c
   obtain⟨m,E,h1,h2,A⟩:=h.keys j p d;refine⟨m,E,?_,h2,A⟩;have:m≠k:=λq=>by subst q;exact c (h.inj i j e p s d (by rw[C,h2]))
   simp[QR,this,h1]
 .by_cases q:m=k
  .subst q;simp[QR] at v;subst v;exact⟨i,_,by rw[u,if_pos rfl],rfl,rfl⟩
  .simp only[QR,if_neg q] at v;obtain⟨j,p,h1,h2,A⟩:=h.all m E v;have c:i≠j:=λc=>by
    subst c;rw[s] at h1;injection h1 with h1
    subst h1;exact q (Ks (h2.symm.trans C))
   exact⟨j,p,by rw[u,if_neg c];exact h1,h2,A⟩
 .have G:∀(a:Nat) (g:nZ),(es.modify i λe => {e with key:=Y1 Q4 (k:Int),val:=Qx l})[a]?=some g->∃F:nZ,es[a]?=some F/\F.key=g.key:=λa g ha=>by
   rw[u] at ha;split at ha
   .rename_i hia
    subst hia;injection ha with ha
    subst ha;exact⟨e,s,C⟩
   .exact⟨g,ha,rfl⟩
  obtain⟨x,M,N⟩:=G a g ha;obtain⟨y,O,S⟩:=G b H I;exact h.inj a b x y M O (by rw[N,S,K])
theorem YR.erase (h:YR es f){k i:Nat}{e:nZ}(u:es[i]?=some e)(G:e.key=Y1 Q4 (k:Int)):YR (es.eraseIdxIfInBounds i) (QR f k none):=by
 have hi:=(zI.1 u).1;have v:∀j,(es.eraseIdxIfInBounds i)[j]?=if j<i then es[j]? else es[j+1]?:=λj=>by unfold Array.eraseIdxIfInBounds;rw[dif_pos hi];rw[<-Array.getElem?_toList,Array.toList_eraseIdx,List.getElem?_eraseIdx];split<;>rw[Array.getElem?_toList]
 have s:∀j c,(es.eraseIdxIfInBounds i)[j]?=some c->∃d,d≠i/\es[d]?=some c/\(j<i->d=j)/\(¬ j<i->d=j+1):=λj c g=>by
  rw[v] at g;split at g
  .exact⟨j,by omega,g,λ_=>rfl,λh=>by omega⟩
  .exact⟨j+1,by omega,g,λh=>by omega,λ_=>rfl⟩
 refine⟨λj c g => ?_,λm C A => ?_,λa b E F ha T V => ?_⟩
 .obtain⟨d,X,I,_⟩:=s j c g;obtain⟨m,C,h1,h2,p⟩:=h.keys d c I;refine⟨m,C,?_,h2,p⟩;have:m≠k:=λq=>by subst q;exact X (h.inj d i c e I u (by rw[G,h2]))
  simp[QR,this,h1]
 .by_cases q:m=k
  .subst q;simp[QR] at A
  .simp only[QR,if_neg q] at A;obtain⟨j,c,h1,h2,p⟩:=h.all m C A;have H:j≠i:=λH=>by
    subst H;rw[u] at h1;injection h1 with h1
    subst h1;exact q (Ks (h2.symm.trans G))
   by_cases W:j<i
   .exact⟨j,c,by rw[v,if_pos W];exact h1,h2,p⟩
   .exact⟨j-1,c,by rw[v,if_neg K5,show j-1+1=j by omega];exact h1,h2,p⟩
 .obtain⟨N,_,S,K,M⟩:=s a E ha;obtain⟨O,_,U,q1,q2⟩:=s b F T;have:=h.inj N O E F S U V
  by_cases c1:a<i<;>by_cases c2:b<i
  .have:=K c1;have:=q1 c2;omega
  .have:=K c1;have:=q2 c2;omega
  .have:=M c1;have:=q1 c2;omega
  .have:=M c1;have:=q2 c2;omega
end
def Uq (g:Nat->Y4):Nat->Option Y4:=λk=>if g k=qy then none else some (g k)
structure kv (w:World)(r:Nat)(g:Nat->Y4):Prop where
 len:∀k,(g k).length=64
 pO:∃es clock,qa w r es clock/\YR es (Uq g)/\nY es clock
def KD (g:Nat->Y4)(k:Nat)(l:Y4):Nat->Y4:=λm=>if m=k then l else g m
theorem kv.lt {w:World}{r:Nat}{g:Nat->Y4}(h:kv w r g):r<w.heap.size:=by obtain⟨es,c,d,_⟩:=h.pO;exact d.lt
theorem kv.pR {w w':World}{r:Nat}{g:Nat->Y4}(h:kv w r g)(e:w'.heap[r]?=w.heap[r]?):kv w' r g:=by
 obtain⟨es,c,j,d⟩:=h.pO;exact⟨h.len,es,c,e.trans j,d⟩
theorem kv.below {w w':World}{B r:Nat}{g:Nat->Y4}(h:kv w r g)(hB:nH B w w')(c:r<B):kv w' r g:=h.pR (hB.block r c)
theorem kv.grow {w w':World}{r:Nat}{g:Nat->Y4}(h:kv w r g)(hB:nH w.heap.size w w'):kv w' r g:=h.below hB h.lt
theorem kv.setCell {w:World}{r:Nat}{g:Nat->Y4}(h:kv w r g)(p:nN)(v:Value):kv (w.setCell p v) r g:=by
 by_cases d:p.block=r
 .obtain⟨es,c,q,j⟩:=h.pO;refine⟨h.len,es,c,?_,j⟩;have s:w.heap[r]?=some (.map es c):=q;subst d;unfold qa World.setCell;simp[mE,s]
 .exact h.pR (nU w p v r (λe=>d e.symm))
theorem jH:yw Y3 341 64:=⟨⟨_,underlying341,rfl⟩,by kernel_rfl⟩
section
variable {P:gF}{w w':World}{ops:Array nh}{rest:List nh}{o:nh}{a:gh}{Q:mh->gh->World->Prop}
theorem zp {v:Value}(d:o.guard=none)(e:(nQ a.eval o).run P w=.ok (.value v) w')(h:mX P ops Q rest (a.put o.dst v) w'):mX P ops Q (o::rest) a w :=
 fO d λ_ c=>by unfold mW;rw[e];exact c _ _ h
theorem SZ (d:o.guard=none)(e:(nQ a.eval o).run P w=.ok .skip w')(h:mX P ops Q rest (a.put o.dst gQ) w'):mX P ops Q (o::rest) a w :=
 fO d λ_ c=>by unfold mW;rw[e];exact c _ _ h
end
section
variable {ρ:nO->Value}{w:World}{o:nh}{x y z:nO}
theorem Ea {xs c:Y4}(h:xs.length=64)(j:c.length=64){T:nS}(e:o.op=.binOp .eql 341 x y T)(h1:ρ x=Qx xs)(h2:ρ y=Qx c):(nQ ρ o).run Y3 w=.ok (.value (.bool (xs==c))) w:=by
 unfold Qx at h1 h2;have g:(binOp .eql 341 (Q0 (xs.map b8).toArray) (Q0 (c.map b8).toArray)).run Y3 w=.ok (.bool (xs==c)) w :=
  run_eql_bytes w 341 5 64 underlying341 underlying5 (λw=>by simp[go_sem]) xs c h j
 have d:Y3.eqGuardType Y3.depth 341=false:=K6
 simp only[nQ,e,h1,h2,gJ,run_eqGuard_agg w .eql 341 x y _ _ d,nc,g,ny]
theorem MV (c:o.op=.build 341 #[]):(nQ ρ o).run Y3 w=.ok (.value (Qx qy)) w:=by
 simp[nQ,c,go_sem,nM]
 kernel_rfl
section
variable {r k clock:Nat}{es:Array nZ}{f:Nat->Option Y4}{l:Y4}
theorem Lh {w:Value}(h:nY es clock){j:Nat}{e:nZ}(g:es[j]?=some e)(d:e.key=w)(v:Value):nY (es.modify j λe => {e with key:=w,val:=v}) clock :=
 MapKept.stamped_modify h j (λe => {e with key:=w,val:=v}) (λe _=>rfl) (λp _ c=>by rw[g] at c;injection c with c;subst c;exact d.symm)
theorem rj (c:YR es f)(q:nY es clock)(u:qa w r es clock)(p:o.op=.mapUpdate 111 x y z)(h1:ρ x=Q1 (some r))(h2:ρ y=Y1 Q4 (k:Int))(g:ρ z=Qx l):∃es' clock',(nQ ρ o).run Y3 w=.ok .skip (setMap w r es' clock')/\YR es' (QR f k (some l))/\nY es' clock':=by
 have h:gz (.int .i64) (Y1 Q4 (k:Int)):=rfl;have hc:(lW false 10000 3 (Y1 Q4 (k:Int))).run Y3 w=.ok () w:=mY underlying3 h false 9999;have d:w.heap[r]?=some (.map es clock):=u;rcases c.find k with⟨hf,hn⟩|⟨j,e,l0,hf,hj,hek,_,_⟩
 .refine⟨_,clock+1,?_,c.push hn l clock,MapKept.stamped_push q λx v s=>by
   obtain⟨i,hi,rfl⟩:=yG v;obtain⟨m,A,h1,h2,_⟩:=c.keys i es.toList[i] (by rw[<-Array.getElem?_toList];exact zM hi);have:=Ks (h2.symm.trans s);subst this;rw[hn] at h1
   cases h1⟩
  simp[nQ,p,h1,h2,g,lj,gK underlying111,gL d,hc,ga underlying3 hf,mK _ d,nM,setMap]
 .refine⟨_,clock,?_,c.modify hj hek l,Lh q hj hek (Qx l)⟩;simp[nQ,p,h1,h2,g,lj,gK underlying111,gL d,hc,ga underlying3 hf,hj,hek,MapKept.run_keyThatStays h,mK _ d,nM,setMap]
theorem rl (d:YR es f)(h:nY es clock)(q:qa w r es clock)(g:o.op=.call {callee:=.builtin .delete,args:=#[x,y],argTypes:=#[111,3]})(h1:ρ x=Q1 (some r))(h2:ρ y=Y1 Q4 (k:Int)):∃es',(nQ ρ o).run Y3 w=.ok (.value (Q2 #[])) (setMap w r es' clock)/\YR es' (QR f k none)/\nY es' clock:=by
 have p:gz (.int .i64) (Y1 Q4 (k:Int)):=rfl;have hc:(lW es.isEmpty 10000 3 (Y1 Q4 (k:Int))).run Y3 w=.ok () w:=mY underlying3 p _ 9999;have c:w.heap[r]?=some (.map es clock):=q;rcases d.find k with⟨hf,hn⟩|⟨j,e,l0,hf,hj,hek,_,_⟩
 .refine⟨es,?_,?_⟩
  .simp[nQ,g,h1,h2,resolve,invoke,builtin,Builtin.delete_,gK underlying111,gL c,hc,ga underlying3 hf,mK _ c,nM,setMap]
  .have:QR f k none=f:=by
    funext m
    unfold QR;split
    .rename_i e
     rw[e,hn]
    .rfl
   rw[this];exact⟨d,h⟩
 .refine⟨_,?_,d.erase hj hek,MapKept.stamped_erase h j⟩;simp[nQ,g,h1,h2,resolve,invoke,builtin,Builtin.delete_,gK underlying111,gL c,hc,ga underlying3 hf,mK _ c,nM,setMap]
theorem Cw {g:Nat->Y4}(h:kv w r g)(d:o.op=.lookup 111 x y false)(h1:ρ x=Q1 (some r))(h2:ρ y=Y1 Q4 (k:Int)):(nQ ρ o).run Y3 w=.ok (.value (Qx (g k))) w:=by
 obtain⟨es,clock,u,p,_⟩:=h.pO;have s:gz (.int .i64) (Y1 Q4 (k:Int)):=rfl;have hc:(lW es.isEmpty 10000 3 (Y1 Q4 (k:Int))).run Y3 w=.ok () w:=mY underlying3 s _ 9999;have c:w.heap[r]?=some (.map es clock):=u;rcases p.find k with⟨hf,hn⟩|⟨j,e,l0,hf,hj,hek,hfk,hv⟩
 .have v:g k=qy:=by
   unfold Uq at hn;split at hn
   .assumption
   .cases hn
  rw[v];have A:(zeroValue 341).run Y3 w=.ok (Qx qy) w:=by
   simp[go_sem]
   kernel_rfl
  simp[nQ,d,h1,h2,lU,gK underlying111,gL c,hc,ga underlying3 hf,A,nM]
 .have q:l0=g k:=by
   unfold Uq at hfk;split at hfk
   .cases hfk
   .injection hfk with hfk
    exact hfk.symm
  subst q;rw[<-hv];simp[nQ,d,h1,h2,lU,gK underlying111,gL c,hc,ga underlying3 hf,nM]
end
end
section
variable {w:World}{ops:Array nh}{rest:List nh}{o:nh}{a:gh}{Q:mh->gh->World->Prop}{r k clock:Nat}{es:Array nZ}{f:Nat->Option Y4}{l:Y4}
theorem Eb (j:o.guard=none)(x y z:nO)(q:o.op=.mapUpdate 111 x y z)(h1:a.eval x=Q1 (some r))(h2:a.eval y=Y1 Q4 (k:Int))(d:a.eval z=Qx l)(e:YR es f)(v:nY es clock)(p:qa w r es clock)
  (h:∀es' c,YR es' (QR f k (some l))->nY es' c->mX Y3 ops Q rest (a.put o.dst gQ) (setMap w r es' c)):mX Y3 ops Q (o::rest) a w:=by
 obtain⟨es',c,s,g,u⟩:=rj e v p q h1 h2 d;exact SZ j s (h _ _ g u)
theorem uA (e:o.guard=none)(x y:nO)(j:o.op=.call {callee:=.builtin .delete,args:=#[x,y],argTypes:=#[111,3]})(h1:a.eval x=Q1 (some r))(h2:a.eval y=Y1 Q4 (k:Int))(c:YR es f)(s:nY es clock)(g:qa w r es clock)
  (h:∀es',YR es' (QR f k none)->nY es' clock->mX Y3 ops Q rest (a.put o.dst (Q2 #[])) (setMap w r es' clock)):mX Y3 ops Q (o::rest) a w:=by
 obtain⟨es',p,d,q⟩:=rl c s g j h1 h2;exact zp e p (h _ d q)
end
theorem BR {g:Nat->Y4}{k:Nat}{l:Y4}(h:l≠qy):QR (Uq g) k (some l)=Uq (KD g k l):=by
 funext m
 unfold QR Uq KD
 by_cases e:m=k<;>simp[e,h]
theorem BS {g:Nat->Y4}{k:Nat}(x:Option Y4):QR (QR (Uq g) k x) k none=Uq (KD g k qy):=by
 funext m
 unfold QR Uq KD
 by_cases e:m=k<;>simp[e]
section
variable {P:gF}(w:World)
theorem QQ (t k e:nS)(p:Option Nat)(h:P.underlying t=some (.map k e)):(binOp .eql t (.map p) (.map none)).run P w=.ok (X3 p.isNone) w:=by
 have c:binOp .eql t (.map p) (.map none)=(do pure (.bool (<-fE (9999+1) t (.map p) (.map none)))):=rfl;have h1:(fE (9999+1) t (.map p) (.map none)).run P w=.ok p.isNone w:=by unfold fE;cases p<;>simp[gK h]
 rw[c];simp only[gJ,h1,nM,ny]
theorem Jn (t c k e:nS)(v:Value)(h:P.underlying t=some (.map k e)):(Instr.typeAssert (.iface t v) c t false).run P w=.ok v w:=by
 simp[Instr.typeAssert,gK h,go_sem,nM]
theorem Lp {r:Nat}{es:Array nZ}{clock:Nat}(t:nS)(c:w.heap[r]?=some (.map es clock)):(eU #[.iface t (Q1 (some r))]).run P w=.ok (.iface t (Q1 (some w.heap.size))) (w.alloc (.map es clock)):=by
 have e:eU #[.iface t (Q1 (some r))]=(getObj r >>= λo=>match o with
   | .map entries clock=>(newObj (.map entries clock) >>= λn=>pure (.iface t (Q1 (some n))))
   | _ => stuck "maps.clone: a map expected") := rfl
 rw[e];simp[gL c,nM,go_sem]
end
theorem NH (w:World)(r k:Nat)(g:Nat->Y4)(l:Y4)(hl:l.length=64)(h:kv w r g):nK Y3 295 #[Q1 (some r),Y1 Q4 (k:Int),Qx l] w λe w'=>(∃v,e=Y0 v)/\kv w' r (KD g k l)/\w.grownBy w' (some r):=by
 obtain⟨es,clock,O,K,S⟩:=h.pO;have I:=za.new w 341 (l.map b8).toArray;have M:w.grownBy (w.alloc (Q9 (l.map b8).toArray 341)) (some r):=⟨rfl,rfl,rfl,by simp,λj Z _=>mT w _ j Z⟩;have p:qa (w.alloc (Q9 (l.map b8).toArray 341)) r es clock:=(mT w _ r O.lt).trans O;have N:∀m,(KD g k l m).length=64:=λm=>by unfold KD;split;exact hl;exact h.len m
 have T:(l.map b8).toArray.size=64:=by simp[hl]
 have H:yw Y3 341 (l.map b8).toArray.size:=by rw[T];exact jH
 have G:=nI hl;have U:qy.length=64:=K7
 clear hl T
 go_enter func295,ntmps295
 by_cases q:l=qy
 .have hq:(l==qy)=true:=by simpa using q
  have u:=nI q;clear q
  go_wp2_with (first
   |(refine yp (g:=w.heap.size) H (by with_reducible assumption) ?_)
   |(refine Eb rfl (.tmp 6) (.tmp 7) (.tmp 8) rfl rfl rfl rfl K S p ?_;intro d c C F;have s:=p.set d c;have E:=qe M (vP p d c);have V:=I.dD p d c)
   |(refine zp rfl (MV rfl) ?_)
   |(refine zp rfl (Ea G.out U rfl rfl rfl) ?_;rw[hq])
   |(refine uA rfl (.tmp 12) (.tmp 13) rfl rfl rfl C F s ?_;intro A W aB;have aA:=s.set A c;have X:=qe E (vP s A c)))
  go_end0;refine⟨⟨_,rfl⟩,⟨N,A,c,aA,?_,aB⟩,X⟩;rw[u.out,<-BS (some l)];exact W
 .have hq:(l==qy)=false:=by simpa using q
  have u:=nI q;clear q
  go_wp2_with (first
   |(refine yp (g:=w.heap.size) H (by with_reducible assumption) ?_)
   |(refine Eb rfl (.tmp 6) (.tmp 7) (.tmp 8) rfl rfl rfl rfl K S p ?_;intro d c C F;have s:=p.set d c;have E:=qe M (vP p d c);have V:=I.dD p d c)
   |(refine zp rfl (MV rfl) ?_)
   |(refine zp rfl (Ea G.out U rfl rfl rfl) ?_;rw[hq]))
  go_end0;refine⟨⟨_,rfl⟩,⟨N,d,c,s,?_,F⟩,E⟩;rw[<-BR u.out];exact C
theorem FM (w:World)(r:Nat)(g:Nat->Y4)(h:kv w r g):nK Y3 294 #[Q1 (some r)] w λe w'=>e=Y0 (Q1 (some w.heap.size))/\kv w' w.heap.size g/\nH w.heap.size w w':=by
 obtain⟨es,clock,d,c⟩:=h.pO;have j:w.heap[r]?=some (.map es clock):=d;have p:kv (w.alloc (.map es clock)) w.heap.size g:=⟨h.len,es,clock,heap_alloc_new w _,c⟩;have hB:nH w.heap.size w (w.alloc (.map es clock)):=(nF _ _).alloc (zG _) _
 go_enter func294,ntmps294
 have hq:=λW=>QQ (P:=Y3) W 111 _ _ (some r) underlying111
 go_wp2_with fail
 rw[run_callFunc_extern func329 K6 K6 K6 (e:=eU) K6,Lp w 111 j];simp only[nM];rw[lq];go_wp2;rw[Jn _ 111 20 _ _ _ underlying111];simp only[nM];rw[lq];go_wp2;go_ret;exact⟨rfl,p,hB⟩
def kV (x:Nat×Y4):Y8:=Y1 Q4 (x.1:Int)::x.2.map b8
def VN (xs:List (Nat×Y4)):Y8:=(xs.map kV).flatten
def Pw (xs:List (Nat×Y4)):Prop:=∀x∈xs,x.2.length=64
theorem vT {x:Nat×Y4}(h:x.2.length=64):(kV x).length=65:=by simp[kV,h]
theorem Oq {xs:List (Nat×Y4)}(h:Pw xs):(VN xs).length=xs.length*65:=by
 induction xs with
 | nil=>rfl
 | cons x xs ih =>
  have h1:=ih (λy c=>h y (by simp[c]));have h2:=vT (h x K9);have e:VN (x::xs)=kV x++VN xs:=rfl;rw[e,zH,h1,h2,zK];omega
theorem DE (xs ys:List (Nat×Y4)):VN (xs++ys)=VN xs++VN ys:=by simp[VN]
theorem Al {xs:List (Nat×Y4)}(h:Pw xs)(j:Nat)(c:j<xs.length):((VN xs).drop (j*65)).take 65=kV xs[j]:=by
 have e:VN xs=VN (xs.take j)++(kV xs[j]++VN (xs.drop (j+1))):=by have d:kV xs[j]++VN (xs.drop (j+1))=VN (xs[j] :: xs.drop (j+1)):=rfl;rw[d,<-DE,<-qS c,qK]
 have hl:(VN (xs.take j)).length=j*65:=by rw[Oq (λx g=>h x (List.mem_of_mem_take g)),qB];congr 1;omega
 rw[e,<-hl,fC];have p:=vT (h xs[j] (qJ c));rw[mG K5,qE K5]
theorem Kl (x:Nat×Y4):∀v∈kV x,v.oneCell'=true:=by
 intro v c;simp[kV] at c;rcases c with rfl|⟨y,_,rfl⟩<;>rfl
theorem ud (xs:List (Nat×Y4)):∀v∈VN xs,v.oneCell'=true:=by
 intro v c;unfold VN at c;obtain⟨l,hl,c⟩:=List.mem_flatten.1 c;obtain⟨x,_,rfl⟩:=qR.1 hl;exact Kl _ v c
def Cr:Value:=Q0 (kV (0,qy)).toArray
theorem Kc:yw Y3 366 65:=⟨⟨_,underlying366,rfl⟩,by kernel_rfl⟩
theorem Fe:ZQ 112 366 65 72 Cr:=⟨underlying112,by kernel_rfl,by kernel_rfl,by decide⟩
def SK (w:World)(B:Nat)(A:Y5)(c:Nat)(xs:List (Nat×Y4)):Prop:=Pw xs/\yl w B 65 A xs.length c (VN xs)
theorem SK.grow {w w':World}{A:Y5}{c:Nat}{xs:List (Nat×Y4)}(h:SK w w.heap.size A c xs)(d:nH w.heap.size w w'):SK w' w'.heap.size A c xs:=⟨h.1,h.2.grow d⟩
theorem SK.mt (w:World)(B:Nat):SK w B none 0 []:=⟨λx h=>by simp at h,yl.mt _ _ _⟩
theorem SK.elem {w:World}{B g o c:Nat}{xs:List (Nat×Y4)}(h:SK w B (K4 ⟨g,o,K3⟩) c xs)(j:Nat)(d:j<xs.length):w.rangeAt g (o+j*65) (kV xs[j]):=by
 have:=h.2.elem j d;rw[Al h.1 j d] at this;exact this
end
end Go.Proofs.YtohmkffoojdahaaGreat
