/- Texts that the proof of WalkHolds leans on, part 2. -/
import Derived.Lib.SlBytesConst
import Derived.LoopN
import Derived.Stop.BytesEq
import Derived.Laws.Externs
import Derived.Test.YtohmkffoojdahaaGreatWalkHoldsB1
open List renaming replicate->zP
open Array renaming getD_eq_getD_getElem?->zV
set_option linter.unusedVariables false
set_option linter.unusedSimpArgs false
set_option maxRecDepth 100000
set_option maxHeartbeats 8000000

open Array renaming replicate->dO,getD->dZ
open Go renaming Calls->pr,Addr->px,Operand->py,execOp->oB,TypeId->oD,MapEntry->oJ,Oper->oM,Program->oV,maxLen->oo,undef->ou,Act->oy,wpList->df,Exit->nF,yielded->mR,Tmp->mr
open Go.Act renaming put->pj
open Go.Code renaming region->gF
open Go.Deferred renaming ofValue->nh
open Go.Extern.MapsClone renaming clone->mh
open Go.Instr renaming findNow->ny,lookup->gE,checkKey->gG,mapUpdate->gM
open Go.MapKept renaming Stamped->oH,IsKey->dJ
open Go.Op renaming equalIn->mT
open Go.Oper renaming wp->de
open Go.Region renaming ready->oP,binds->oT,wanted->og
open Go.Result renaming andThen->pv
open Go.RowKit renaming Below->ph
open Go.Value renaming oneCell'->mq,bool->mv
open List renaming range->dv,mem_of_getElem?->dz,drop_replicate->mD,foldl_nil->mS
open Go.Proofs.Tryz renaming prog->Y3
open Go.Proofs.Tryz
namespace Go.Proofs.YtohmkffoojdahaaGreat
section
abbrev Yq:Y7:=#[.int .u8 0,.int .u8 0,.int .u8 0,.int .u8 0,.int .u8 0,.int .u8 0,.int .u8 0,.int .u8 0,.int .u8 0,.int .u8 0,.int .u8 0,.int .u8 0,.int .u8 0,.int .u8 0,.int .u8 0,.int .u8 0,.int .u8 0,.int .u8 0,.int .u8 0,.int .u8 0,.int .u8 0,.int .u8 0,.int .u8 0,.int .u8 0,.int .u8 0,.int .u8 0,.int .u8 0,.int .u8 0,.int .u8 0,.int .u8 0,.int .u8 0,.int .u8 0,.int .u8 0,.int .u8 0,.int .u8 0,.int .u8 0,.int .u8 0,.int .u8 0,.int .u8 0,.int .u8 0,.int .u8 0,.int .u8 0,.int .u8 0,.int .u8 0,.int .u8 0,.int .u8 0,.int .u8 0,.int .u8 0,.int .u8 0,.int .u8 0,.int .u8 0,.int .u8 0,.int .u8 0,.int .u8 0,.int .u8 0,.int .u8 0,.int .u8 0,.int .u8 0,.int .u8 0,.int .u8 0,.int .u8 0,.int .u8 0,.int .u8 0,.int .u8 0]
open Go Go.RowKit vA
namespace Qp
variable {P:oV}{ops:Array oM}
abbrev WInv:=Array Bool->oy->World->Prop
structure J2 (ops:Array oM)(FS:mr->Value->World->Prop)(a0:oy)(D:List Nat)(WI:WInv)(listed:Array Bool)(a:oy)(w:World):Prop where
 size:a.tmps.size=a0.tmps.size
 defers:a.defers=a0.defers
 facts:∀t,Known ops listed t->FS t (a.eval (.tmp t)) w
 wi:WI listed a w
 rest:∀t,D.contains t=false->a.eval (.tmp t)=a0.eval (.tmp t)
 old:∀t,(∀(j:Nat) (p:oM),ops[j]?=some p->p.dst=some t->listed.getD j true=false)->a.eval (.tmp t)=a0.eval (.tmp t)
 closed:∀(j:Nat) (p:oM),ops[j]?=some p->listed.getD j true=true->∀e∈p.after.toList,oT .any e=true->listed.getD e.on false=true
def Op2 (P:oV)(ops:Array oM)(a0:oy)(FS:mr->Value->World->Prop)(WI:WInv)(i:Nat)(o:oM):Prop :=
 ∀(listed:Array Bool) (a:oy) (w:World) (K:oy->World->Prop) (Q:nF->oy->World->Prop),listed.size=ops.size->listed.getD i true=false->(∀e∈o.after.toList,oT .any e=true->listed.getD e.on false=true) ->
  WI listed a w->(∀t,(o.looksAt ops).contains t=true->ahead ops o t=true->FS t (a.eval (.tmp t)) w)->(∀t,waits ops i t=true->a.eval (.tmp t)=a0.eval (.tmp t)) ->
  (∀v w',(∀t u,FS t u w->FS t u w')->FSd FS o.dst v w'->WI (listed.setIfInBounds i true) (a.put o.dst v) w'->K (a.put o.dst v) w') ->
  (if og o (mR ops a.tmps) then o.wp P a w K Q∨(o.asks P a w/\LetsOut Q) else K (a.put o.dst ou) w)
def AllOp2 (P:oV)(ops:Array oM)(a0:oy)(FS:mr->Value->World->Prop)(WI:WInv):Nat->List oM->Prop
 | _,[]=>True
 | k,o::r=>Op2 P ops a0 FS WI k o/\AllOp2 P ops a0 FS WI (k+1) r
theorem AllOp2.get {a0:oy}{FS:mr->Value->World->Prop}{c:WInv}:∀{l:List oM} {k:Nat},AllOp2 P ops a0 FS c k l->∀i o,l[i]?=some o->Op2 P ops a0 FS c (k+i) o
 | [],_,_,i,o,h=>by simp at h
 | x::r,k,h,0,o,ho=>by simp at ho;subst ho;exact h.1
 | x::r,k,h,i+1,o,ho=>by have:=AllOp2.get h.2 i o (by simpa using ho);rw[show k+(i+1)=k+1+i from by omega];exact this
theorem op2_of {a0:oy}{FS:mr->Value->World->Prop}{c:WInv}{i:Nat}{o:oM}(A:∀t v w w',FS t v w->qz w w'->FS t v w')(h:∀w0,OpOk P ops FS w0 o)(d:((o.looksAt ops).all (ahead ops o))=true)
  (q:∀listed a v w w',c listed a w->qz w w'->c (listed.setIfInBounds i true) (a.put o.dst v) w'):Op2 P ops a0 FS c i o:=by
 intro listed a w K Q hs hl E C s _ j
 exact h w a w K Q (qz.refl w) (λt ht=>s t ht (by
  rw[yC] at d
  exact d t (by simpa using ht))) (λv w' e hf=>j v w' (λt u hu=>A t u w w' hu e) hf (q _ _ _ _ _ C e))
theorem region2 (hm:P.follows .mixedOrders=true)(aB:backs ops=true){id:Nat}{a0:oy}{w0:World}{Q:nF->oy->World->Prop}(n:Nat)(hn:a0.tmps.size=n)(G:ZY ops n=true)(D:List Nat)(F:dstsAre ops D=true)
  (FS:mr->Value->World->Prop) (E:WInv) (aM:∀t,(∀o∈ops.toList,o.dst≠some t)->FS t (a0.eval (.tmp t)) w0.drew) (Z:E (dO ops.size false) a0 w0.drew)
  (aJ:AllOp2 P ops a0 FS E 0 ops.toList)
  (aD:∀listed a w,(∀i,i<ops.size->listed.getD i true=true)->J2 ops FS a0 D E listed a w->(∀t,FS t (a.eval (.tmp t)) w)->Q .normal a w) :
  (gF id ops true).wp P Q a0 w0:=by
 have aA:∀o∈ops.toList,∀d,o.dst=some d->D.contains d=true:=by intro o s d hd;unfold dstsAre at F;rw[yC] at F;have:=F o s;simpa[hd] using this
 have aC:∀o∈ops.toList,∀d,o.dst=some d->d<n:=by intro o s d hd;unfold ZY at G;rw[yC] at G;have:=G o s;simpa[hd] using this
 refine region_inv hm aB (J2 ops FS a0 D E) ⟨rfl,rfl,?_,Z,λ_ _=>rfl,λ_ _=>rfl,λj p c h=>by
  have hj:=(zK.1 c).1
  simp[dZ,hj] at h⟩ ?_ ?_
 ·intro t ht;refine aM t ?_;intro o s hd;obtain⟨i,hi,rfl⟩:=yG s;have S:i<ops.size:=by simpa using hi
  have:=ht i ops[i] (dE S) (by simpa using hd);simp[dZ,S] at this
 ·intro i o s listed a w K X hs hl H q hK;have T:o∈ops.toList:=by obtain⟨h1,h2⟩:=zK.1 s;subst h2;simp
  have I:i<listed.size:=by rw[hs];exact(zK.1 s).1
  have aK:∀t,waits ops i t=true->a.eval (.tmp t)=a0.eval (.tmp t):=by
   intro t ht;refine q.old t ?_;intro j p c hd;obtain⟨e,C,A,rfl⟩:=waits_spec ht c hd;cases aF:listed.getD j true with
   | false=>rfl
   | true =>
    have:=q.closed j p c aF e C A;simp only[dZ,I,dif_pos] at this hl;rw[hl] at this;cases this
  have aH:∀t,(o.looksAt ops).contains t=true->ahead ops o t=true->FS t (a.eval (.tmp t)) w:=by
   intro t _ ht;refine q.facts t ?_;intro j p c hd;obtain⟨e,C,A,rfl⟩:=ahead_spec ht c hd;have:=H e C A;have aI:e.on<listed.size:=by rw[hs];exact(zK.1 c).1
   simp only[dZ,aI,dif_pos] at this ⊢;exact this
  have U:=aJ.get i o (by simpa using s);rw[qC] at U;refine U listed a w K X hs hl H q.wi aH aK ?_;intro v w' aL W aN;refine hK v w' ⟨?_,?_,?_,aN,?_,?_,?_⟩
  ·cases hd:o.dst with
   | none=>simpa[pj] using q.size
   | some d=>simpa[pj] using q.size
  ·cases hd:o.dst with
   | none=>simpa[pj] using q.defers
   | some d=>simpa[pj] using q.defers
  ·intro t ht
   by_cases u:o.dst=some t
   ·rw[u] at W ⊢;rw[eval_put_same (by rw[q.size,hn];exact aC o T t u)];exact W
   ·have M:Known ops listed t:=by
     intro j p c hd;have:=ht j p c hd
     by_cases e:i=j
     ·subst e;rw[s] at c;injection c with c
      subst c;exact absurd hd u
     ·simpa[zV,zS,e] using this
    have:=aL t _ (q.facts t M);cases hd:o.dst with
    | none=>simpa[pj] using this
    | some d =>
     rw[eval_put_other (by intro e;subst e;exact u hd)];exact this
  ·intro t ht;cases hd:o.dst with
   | none=>simpa[pj] using q.rest t ht
   | some d =>
    rw[eval_put_other (by intro e;subst e;rw[aA o T t hd] at ht;cases ht)];exact q.rest t ht
  ·intro t ht;have u:o.dst≠some t:=by intro hd;have:=ht i o s hd;simp[zV,I] at this
   have:=q.old t (λj p c hd=>by
    have h2:=ht j p c hd;have aE:i≠j:=by
     intro e;subst e;rw[s] at c;injection c with c
     subst c;exact u hd
    simpa[zV,zS,aE] using h2)
   cases hd:o.dst with
   | none=>simpa[pj] using this
   | some d =>
    rw[eval_put_other (by intro e;subst e;exact u hd)];exact this
  ·intro j p c aG e C A;have V:∀k,listed.getD k false=true->(listed.setIfInBounds i true).getD k false=true:=by
    intro k M
    by_cases e:i=k
    ·subst e;simp[zV,I]
    ·simpa[zV,zS,e] using M
   by_cases N:i=j
   ·subst N;rw[s] at c;injection c with c
    subst c;exact V _ (H e C A)
   ·refine V _ (q.closed j p c ?_ e C A);simpa[zV,zS,N] using aG
 ·intro listed a w hs O q;refine aD listed a w O q (λt=>q.facts t ?_);intro j p c _;exact O j (zK.1 c).1
theorem region2_facts {P:oV}{ops:Array oM}(v:P.follows .mixedOrders=true)(q:backs ops=true){C:Nat}{a0:oy}{w0:World}{Q:nF->oy->World->Prop}(n:Nat)(hn:a0.tmps.size=n)(s:ZY ops n=true)(D:List Nat)(e:dstsAre ops D=true)
  (V W:List (Nat×vd)) (h:StartOk a0 w0.drew V) (j:(W.all λp=>KC ops p.1)=true) (c:WInv) (d:c (dO ops.size false) a0 w0.drew)
  (A:AllOp2 P ops a0 (xE (V++W)) c 0 ops.toList)
  (u:∀listed a w,(∀i,i<ops.size->listed.getD i true=true)->J2 ops (xE (V++W)) a0 D c listed a w->(∀t,xE (V++W) t (a.eval (.tmp t)) w)->Q .normal a w) :
  (gF C ops true).wp P Q a0 w0 :=
 region2 v q n hn s D e (xE (V++W)) c (λt ht=>start_fact V W h j t ht) d A u
theorem op2_mv_old {a0:oy}{FS:mr->Value->World->Prop}{d:WInv}{i:Nat}{o:oM}(t:mr)(s:o.guard=none)(c:o.op=.move (.tmp t)∨o.op=.assign (.tmp t))(A:waits ops i t=true)(hd:∀w,FSd FS o.dst (a0.eval (.tmp t)) w)
  (q:∀listed a v w w',d listed a w->qz w w'->d (listed.setIfInBounds i true) (a.put o.dst v) w'):Op2 P ops a0 FS d i o:=by
 intro listed a w K Q hs hl E C _ u j;have e:=u t A;rw[if_pos (by simp[og,s])];left;unfold de oB;rcases c with c|c<;>simp only[c,oU,Oper.upon_value,e]<;>exact j _ w (λ_ _ h=>h) (hd w) (q _ _ _ _ _ C (qz.refl w))
def allVal:List (Nat×vd)->Bool
 | []=>true
 | (_,.val _)::r=>allVal r
 | (_,.any)::r=>allVal r
 | _=>false
theorem factOf_val:∀{L:List (Nat×vd)},allVal L=true->∀t v w w',(qu L t).holds v w->(qu L t).holds v w'
 | [],_,t,v,w,w',h=>h
 | (k,.val x)::r,hv,t,v,w,w',h=>by
  simp only[qu] at h ⊢;split
  ·rename_i e
   rw[if_pos e] at h;exact h
  ·rename_i e
   rw[if_neg e] at h;exact factOf_val (L:=r) hv t v w w' h
 | (k,.any)::r,hv,t,v,w,w',h=>by
  simp only[qu] at h ⊢;split
  ·trivial
  ·rename_i e
   rw[if_neg e] at h;exact factOf_val (L:=r) hv t v w w' h
 | (k,.res l)::r,hv,_,_,_,_,_=>by cases hv
 | (k,.pred p q)::r,hv,_,_,_,_,_=>by cases hv
end Qp
theorem TX (n b:Nat)(c:b<=31)(w:World):pr Y3 134 #[.int .u32 n,.int .i64 b] w λe w'=>e=Y0 (.int .u8 ((n / 2^b%256:Nat):Int))/\w=w':=by
 go_enter func134,ntmps134
 go_wp2;go_ret;exact⟨by simp,rfl⟩
theorem Rp (n b:Nat)(c:b<=63)(w:World):pr Y3 325 #[.int .u64 n,.int .i64 b] w λe w'=>e=Y0 (.int .u8 ((n / 2^b%256:Nat):Int))/\w=w':=by
 go_enter func325,ntmps325
 go_wp2;go_ret;exact⟨by simp,rfl⟩
def Zh (m n k:Nat)(pre:Y4):Prop:=pre++zx k n=zx m n/\pre.length+k=m
theorem Zh.start (m n:Nat):Zh m n m []:=⟨rfl,by simp⟩
theorem Zh.next {m n k:Nat}{c:Y4}(h:Zh m n (k+1) c):Zh m n k (c++[dR (n / 2^(8*k)%256)]):=by
 refine⟨?_,by have:=h.2;simp;omega⟩;rw[<-h.1,MQ,qO,List.singleton_append];congr 2;apply UInt8.toNat_inj.1;rw[show (256:Nat)^k=2^(8*k) from by rw[Nat.pow_mul]];simp[UInt8.toNat_ofNat']
theorem Zh.last {m n:Nat}{c:Y4}(h:Zh m n 0 c):c=zx m n:=by
 have:=h.1;simpa[zx] using this
theorem Dj (m n:Nat)(O:m<=4)(w:World):pr Y3 133 #[.int .u32 n,.int .i64 m,.func (.func 134) #[] #[]] w (yU w (zx m n)):=by
 obtain⟨M,G,H,I,K⟩:=info_parts Yj
 go_enter func133,ntmps133
 go_wp2_with fail
 go_loopw [6,7] (λv i wr=>∃(k:Nat) (c:Y4),Hid (Zh m n k c)/\c.length<=m/\k<=m/\i=.int .i64 ((k:Int)-1)/\yZ wr w.heap.size v c/\ph w.heap.size w wr)
  (λ_ i _=>(intOf i+1).toNat)
 case atStart=>exact⟨m,[],pk (Zh.start m n),by simp,by omega,rfl,yZ.nil _ _,pf _ _⟩
 case round =>
  obtain⟨k,c,hF,hl,q,rfl,h,hB⟩:=hrel;have A:=hB.size;rcases k with _|k
  ·have N:((0:Nat):Int)-1<0:=by omega
   go_wp2_with fail
   go_ret;have e:=hF.out.last;subst e;exact⟨_,rfl,h,hB⟩
  ·have j:(((k+1:Nat):Int)-1)=(k:Int):=by omega
   rw[j];clear j
   go_wp2_with fail
   rw[show (8*(k:Int))=((8*k:Nat):Int) from by omega];refine(TX n (8*k) (by omega) _).mono ?_;rintro e w' ⟨rfl,rfl⟩;have E:n / 2^(8*k)%256<256:=by omega
   generalize u:n / 2^(8*k)%256=x at *;have C:=pk u;clear u
   go_wp2_with (at_builtin;refine gv _ rfl _ _ 129 rfl w.heap.size 5 M (.int .u8 0) 1 1 underlying129 G H I K rfl (by decide) _ _ _ rfl (mY h _) ⟨wr.heap.size,0,none⟩ 1 1 _ rfl rfl (cell_one_new _ _ _) (by simp[mq]) (by unfold oo;omega) (by omega) (by simp;omega) ?_;intro S T s F _)
   have d:=hF.out.next;rw[C.out] at d;rw[YT c x E] at s;refine⟨⟨k,c++[dR x],pk d,?_,by omega,rfl,?_,(hB.alloc A _).grown F (by simp;omega) (λk q=>(mH h k q).1)⟩,by simp[intOf]⟩
   ·have:=d.2;omega
   ·unfold yZ;simpa using s
theorem Di (m n:Nat)(O:m<=8)(w:World):pr Y3 324 #[.int .u64 n,.int .i64 m,.func (.func 325) #[] #[]] w (yU w (zx m n)):=by
 obtain⟨M,G,H,I,K⟩:=info_parts Yj
 go_enter func324,ntmps324
 go_wp2_with fail
 go_loopw [6,7] (λv i wr=>∃(k:Nat) (c:Y4),Hid (Zh m n k c)/\c.length<=m/\k<=m/\i=.int .i64 ((k:Int)-1)/\yZ wr w.heap.size v c/\ph w.heap.size w wr)
  (λ_ i _=>(intOf i+1).toNat)
 case atStart=>exact⟨m,[],pk (Zh.start m n),by simp,by omega,rfl,yZ.nil _ _,pf _ _⟩
 case round =>
  obtain⟨k,c,hF,hl,q,rfl,h,hB⟩:=hrel;have A:=hB.size;rcases k with _|k
  ·have N:((0:Nat):Int)-1<0:=by omega
   go_wp2_with fail
   go_ret;have e:=hF.out.last;subst e;exact⟨_,rfl,h,hB⟩
  ·have j:(((k+1:Nat):Int)-1)=(k:Int):=by omega
   rw[j];clear j
   go_wp2_with fail
   rw[show (8*(k:Int))=((8*k:Nat):Int) from by omega];refine(Rp n (8*k) (by omega) _).mono ?_;rintro e w' ⟨rfl,rfl⟩;have E:n / 2^(8*k)%256<256:=by omega
   generalize u:n / 2^(8*k)%256=x at *;have C:=pk u;clear u
   go_wp2_with (at_builtin;refine gv _ rfl _ _ 129 rfl w.heap.size 5 M (.int .u8 0) 1 1 underlying129 G H I K rfl (by decide) _ _ _ rfl (mY h _) ⟨wr.heap.size,0,none⟩ 1 1 _ rfl rfl (cell_one_new _ _ _) (by simp[mq]) (by unfold oo;omega) (by omega) (by simp;omega) ?_;intro S T s F _)
   have d:=hF.out.next;rw[C.out] at d;rw[YT c x E] at s;refine⟨⟨k,c++[dR x],pk d,?_,by omega,rfl,?_,(hB.alloc A _).grown F (by simp;omega) (λk q=>(mH h k q).1)⟩,by simp[intOf]⟩
   ·have:=d.2;omega
   ·unfold yZ;simpa using s
theorem xt (n:Nat)(w:World):pr Y3 82 #[.int .u32 n] w (yU w (zx 4 n)):=by
 go_enter func82,ntmps82
 go_wp2_with fail
 refine(Dj 4 n (by omega) _).mono ?_;rintro e w' ⟨v,rfl,h1,h2⟩;go_wp2;go_ret;exact⟨v,rfl,h1,h2⟩
theorem ZX (n:Nat)(w:World):pr Y3 290 #[.int .u64 n] w (yU w (zx 8 n)):=by
 go_enter func290,ntmps290
 go_wp2_with fail
 refine(Di 8 n (by omega) _).mono ?_;rintro e w' ⟨v,rfl,h1,h2⟩;go_wp2;go_ret;exact⟨v,rfl,h1,h2⟩




theorem za.pW {w:World}{g base:Nat}{l:Y4}(h:za w g 5 (l.map b8).toArray)(c:base<=g)(d:l.length<=9223372036854775807):yZ w base (.slice (some ⟨g,0,none⟩) l.length l.length) l :=
 ⟨by simp,.inr ⟨g,l.length,(l.map b8).toArray,rfl,c,h,zG _,by unfold oo;omega,by simp,by simp[qB]⟩⟩
theorem BN {ρ:py->Value}{w:World}{o:oM}{x y:py}{g n m:Nat}(h:o.op=.slice 129 x (some y) none none)(h1:ρ x=.slice (some ⟨g,0,none⟩) n n)(h2:ρ y=.int .i64 (m:Int))(j:m<n):(oB ρ o).run Y3 w=.ok (.value (.slice (some ⟨g,m,none⟩) (n-m) (n-m))) w:=by
 have ht:Y3.underlying 129=some (.slice (Y3.elem 129)):=by kernel_rfl
 have e:¬ n=m:=by omega
 have c:m<=n:=by omega
 have d:(⟨g,0,none⟩:px).add m=⟨g,m,none⟩:=by cases m<;>simp[Addr.add]
 simp[oB,h,h1,h2,go_sem,run_sliceAt_slice _ _ _ _ _ _ ht,pv,e,c,d]
theorem uZ {ρ:py->Value}{w:World}{o:oM}{x y:py}{g n m:Nat}(d:o.op=.slice 129 x none (some y) none)(h1:ρ x=.slice (some ⟨g,0,none⟩) n n)(h2:ρ y=.int .i64 (m:Int))(e:m<n):(oB ρ o).run Y3 w=.ok (.value (.slice (some ⟨g,0,none⟩) m n)) w:=by
 have ht:Y3.underlying 129=some (.slice (Y3.elem 129)):=by kernel_rfl
 have c:m<=n:=by omega
 simp[oB,d,h1,h2,go_sem,run_sliceAt_slice _ _ _ _ _ _ ht,pv,c]
theorem DR (w:World)(A:Y5)(c:Nat)(l:Y4)(h:qq w w.heap.size A c l)(hl:0<l.length)(hm:l.length<30000):pr Y3 292 #[.slice A l.length c,.int .i64 2] w (yU w (l++l)):=by
 have H:=IX l.length 2 (by omega) (by omega) w;have e1:IntKind.u64.wrap (l.length:Int)=(l.length:Int):=by
  show (l.length:Int)%18446744073709551616=_
  omega
 have e2:IntKind.i64.wrap ((l.length*2:Nat):Int)=((l.length*2:Nat):Int):=zg _;obtain⟨n,hn⟩:=Z9 (l.length*2);rw[<-hn] at H e2;have q:=pk hn;have aT:n<60000:=by omega
 clear hn
 go_enter func292,ntmps292
 go_wp2_with fail
 refine H.mono ?_;rintro e w' ⟨rfl,rfl⟩
 go_wp2_with (first
  | (at_make;refine Fe rfl (.tmp 29) (.tmp 29) rfl w.heap.size .i64 .i64 n rfl rfl (by omega) (zG _) ?_;intro w1 aF aA;have M:ph w.heap.size w w1:=(pf _ w).grown aA (zG _) (λk hk=>by cases hk);obtain⟨O,_⟩:=yZ.blk (l:=zP n 0) (by rw[List.length_replicate];exact aF))
  | (refine Fg rfl (.tmp 31) (.tmp 32) rfl w.heap.size 0 (zP n 0) l A c _ n n rfl rfl O (h.below M) (by simp) ?_))
 have aE:min l.length n=l.length:=by have:=q.out;omega
 have aG:yv (zP n 0) 0 n l=l++zP l.length 0:=by have:=q.out;subst this;simp only[yv,List.take_zero,zQ,qC,mD];rw[qB (by omega),mK (by omega)];congr 2;omega
 rw[aG];have Z:=O.setRow ((l++zP l.length 0).map b8).toArray;have aH:=zf M (zG _) (g:=w.heap.size) ((l++zP l.length 0).map b8).toArray;generalize w1.setRow w.heap.size ((l++zP l.length 0).map b8).toArray=w2 at *;rw[aE];clear M O aF aA aE aG;have aS:(l.length:Int)<(n:Int):=by have:=q.out;omega
 refine wp_loop_rounds 2 ?_;rw[rounds_succ]
 go_wp2_with fail
 have aR:qq w2 (w.heap.size+1) (some ⟨w.heap.size,0,none⟩) n l:=⟨by have:=q.out;omega,by omega,(λe=>by cases e),λ_=>⟨_,0,rfl,by omega,λj S=>by
  rw[Z.cell]
  simp[b8,ow,S]⟩⟩
 have aM:l.length+(n-l.length)<=(l++zP l.length (0:UInt8)).length:=by have:=q.out;simp;omega
 have aC:l.length<n:=by omega
 have aJ:IntKind.i64.wrap ((l.length:Int)+(l.length:Int))=(n:Int):=by have:=q.out;rw[zg _];omega
 let E:Qp.WInv:=λlisted _ W=>za W w.heap.size 5 ((if listed.getD 7 false then l++l else l++zP l.length 0).map b8).toArray/\ph w.heap.size w W
 have s:∀i,i≠7->∀(listed:Array Bool) (a T:oy) (W W':World),E listed a W->qz W W'->E (listed.setIfInBounds i true) T W':=by
  intro i hi listed a T W W' h d;have e:(listed.setIfInBounds i true).getD 7 false=listed.getD 7 false:=by simp[zV,hi]
  refine⟨?_,h.2.trans (d.mono h.2.size)⟩;rw[e];exact h.1.below d h.1.lt
 have aQ:∀(m:Nat) (a:oy),E (dO m false) a w2.drew:=by
  intro m a;have e:(dO m false).getD 7 false=false:=by simp[dZ]
  refine⟨?_,aH.drew⟩;rw[e];exact Z.drew
 have aO:yv (l++zP l.length 0) l.length (n-l.length) l=l++l:=by
  have e:n-l.length=l.length:=by have:=q.out;omega
  rw[e];simp[yv]
 have aL:∀(ops:Array oM) (a0:oy) (L:List (Nat×vd)) (o:oM),o.guard=none->o.op=.call {callee:=.builtin .copy,args:=#[.tmp 41,.tmp 44],argTypes:=#[129,129]}->o.dst=some 45->7<ops.size ->
   (o.looksAt ops).contains 41=true->(o.looksAt ops).contains 44=true->Qp.ahead ops o 41=true->Qp.ahead ops o 44=true->qu L 41=.val (.slice (some ⟨w.heap.size,l.length,none⟩) (n-l.length) (n-l.length))->qu L 44=.val (.slice (some ⟨w.heap.size,0,none⟩) l.length n) ->
   qu L 45=.val (.int .i64 (l.length:Int))->Qp.allVal L=true->Qp.Op2 Y3 ops a0 (xE L) E 7 o:=by
  intro ops a0 L o d ho hd aU c1 c2 h1 h2 f1 f2 f3 hv listed a W K Q hs hl _ aP aD _ hK;rw[if_pos (by simp[og,d])];left;have U:(qu L 41).holds (a.eval (.tmp 41)) W:=aD 41 c1 h1;have V:(qu L 44).holds (a.eval (.tmp 44)) W:=aD 44 c2 h2;rw[f1] at U;rw[f2] at V;have e7:listed.getD 7 false=false:=by
   have F:7<listed.size:=by omega
   simpa[dZ,F] using hl
  obtain⟨I,hB⟩:=aP;rw[e7] at I
  have aN:qq W (w.heap.size+1) (some ⟨w.heap.size,0,none⟩) n l:=⟨by omega,by omega,(λe=>by cases e),λ_=>⟨_,0,rfl,by omega,λj S=>by
   rw[I.cell]
   simp[b8,ow,S]⟩⟩
  refine Je (.tmp 41) (.tmp 44) ho w.heap.size l.length (l++zP l.length 0) l (some ⟨w.heap.size,0,none⟩) n (w.heap.size+1) (n-l.length) (n-l.length) U V I aN aM ?_;rw[aO,show min l.length (n-l.length)=l.length from by have:=q.out;omega];refine hK _ _ (λt u h=>Qp.factOf_val hv t u _ _ h) ?_ ?_
  ·rw[hd];show (qu L 45).holds _ _
   rw[f3];rfl
  ·refine⟨?_,zf hB (zG _) _⟩;have G:(listed.setIfInBounds 7 true).getD 7 false=true:=by
    have F:7<listed.size:=by omega
    simp[zV,F]
   rw[G];exact I.setRow _
 open Qp in
 refine region2_facts (by kernel_rfl) (by kernel_rfl) 48 rfl (by kernel_rfl) [38,39,40,41,42,43,44,45,46,8] (by kernel_rfl)
  [(7,.val (.slice (some ⟨w.heap.size,0,none⟩) n n))]
  [(38,.val (.int .i64 (l.length:Int))),(39,.val (.slice (some ⟨w.heap.size,0,none⟩) n n)),(40,.val (.int .i64 (l.length:Int))),(41,.val (.slice (some ⟨w.heap.size,l.length,none⟩) (n-l.length) (n-l.length))),(42,.val (.slice (some ⟨w.heap.size,0,none⟩) n n)),(43,.val (.int .i64 (l.length:Int))),(44,.val (.slice (some ⟨w.heap.size,0,none⟩) l.length n)),(45,.val (.int .i64 (l.length:Int))),(46,.val (.int .i64 (n:Int))),(8,.val (.int .i64 (n:Int)))]
  ⟨rfl,trivial⟩ (by kernel_rfl) (E) (aQ _ {tmps:=#[],defers:=[]})
  (⟨op2_mv_old 8 rfl (.inl rfl) (by kernel_rfl) (λw=>fsd (f:=.val (.int .i64 (l.length:Int))) (by kernel_rfl) rfl) (λlisted a v w w1 h d=>s 0 (by decide) listed a a w w1 h d),
  ⟨op2_of (xE.rN _) (λ_=>ok_none rfl (l_mvF 7 (.val (.slice (some ⟨w.heap.size,0,none⟩) n n)) (.inl rfl) (by kernel_rfl) (by kernel_rfl) (by kernel_rfl))) (by kernel_rfl) (λlisted a v w w1 h d=>s 1 (by decide) listed a a w w1 h d),
  ⟨op2_mv_old 8 rfl (.inl rfl) (by kernel_rfl) (λw=>fsd (f:=.val (.int .i64 (l.length:Int))) (by kernel_rfl) rfl) (λlisted a v w w1 h d=>s 2 (by decide) listed a a w w1 h d),
  ⟨op2_of (xE.rN _) (λ_=>ok_none rfl (l_run2W (.tmp 39) (.tmp 40) (.val (.slice (some ⟨w.heap.size,l.length,none⟩) (n-l.length) (n-l.length))) (.slice (some ⟨w.heap.size,0,none⟩) n n) (.int .i64 (l.length:Int)) (hs 39 _ (by kernel_rfl) (by kernel_rfl)) (hs 40 _ (by kernel_rfl) (by kernel_rfl)) (λρ w d h1 h2=>⟨_,w,BN rfl h1 h2 aC,qz.refl _,rfl⟩) (by kernel_rfl))) (by kernel_rfl) (λlisted a v w w1 h d=>s 3 (by decide) listed a a w w1 h d),
  ⟨op2_of (xE.rN _) (λ_=>ok_none rfl (l_mvF 7 (.val (.slice (some ⟨w.heap.size,0,none⟩) n n)) (.inl rfl) (by kernel_rfl) (by kernel_rfl) (by kernel_rfl))) (by kernel_rfl) (λlisted a v w w1 h d=>s 4 (by decide) listed a a w w1 h d),
  ⟨op2_mv_old 8 rfl (.inl rfl) (by kernel_rfl) (λw=>fsd (f:=.val (.int .i64 (l.length:Int))) (by kernel_rfl) rfl) (λlisted a v w w1 h d=>s 5 (by decide) listed a a w w1 h d),
  ⟨op2_of (xE.rN _) (λ_=>ok_none rfl (l_run2W (.tmp 42) (.tmp 43) (.val (.slice (some ⟨w.heap.size,0,none⟩) l.length n)) (.slice (some ⟨w.heap.size,0,none⟩) n n) (.int .i64 (l.length:Int)) (hs 42 _ (by kernel_rfl) (by kernel_rfl)) (hs 43 _ (by kernel_rfl) (by kernel_rfl)) (λρ w d h1 h2=>⟨_,w,uZ rfl h1 h2 aC,qz.refl _,rfl⟩) (by kernel_rfl))) (by kernel_rfl) (λlisted a v w w1 h d=>s 6 (by decide) listed a a w w1 h d),
  ⟨aL _ _ _ _ rfl rfl rfl (by decide) (by kernel_rfl) (by kernel_rfl) (by kernel_rfl) (by kernel_rfl) (by kernel_rfl) (by kernel_rfl) (by kernel_rfl) (by kernel_rfl),
  ⟨op2_of (xE.rN _) (λ_=>ok_none rfl (run2 (.tmp 38) (.tmp 45) (hs 38 (.int .i64 (l.length:Int)) (by kernel_rfl) (by kernel_rfl)) (hs 45 (.int .i64 (l.length:Int)) (by kernel_rfl) (by kernel_rfl)) (λρ w h1 h2=>by simp[oB,h1,h2,go_sem,aJ]) (λ_=>fsd (f:=.val (.int .i64 (n:Int))) (by kernel_rfl) rfl))) (by kernel_rfl) (λlisted a v w w1 h d=>s 8 (by decide) listed a a w w1 h d),
  ⟨op2_of (xE.rN _) (λ_=>ok_none rfl (l_mvF 46 (.val (.int .i64 (n:Int))) (.inr rfl) (by kernel_rfl) (by kernel_rfl) (by kernel_rfl))) (by kernel_rfl) (λlisted a v w w1 h d=>s 9 (by decide) listed a a w w1 h d),
  trivial⟩⟩⟩⟩⟩⟩⟩⟩⟩⟩) ?_
 intro listed a w3 N C hF;have G:a.eval (.tmp 8)=.int .i64 (n:Int):=hF 8;have ha:=Qp.acts_eq [38,39,40,41,42,43,44,45,46,8] C.size C.defers C.rest;obtain⟨aK,aI⟩:za w3 w.heap.size 5 ((l++l).map b8).toArray/\ph w.heap.size w w3:=by
  have F:=N 7 (by decide);have hs:listed.getD 7 false=true:=by
   cases X:listed[7]? with
   | none =>
    exfalso;have h9:=C.closed 9 _ rfl (N 9 (by decide)) ⟨7,.chain⟩ (by simp) (by decide);simp[zV,X] at h9
   | some b=>simpa[zV,X] using F
  have hw:=C.wi;refine⟨?_,hw.2⟩;have:=hw.1;rw[hs] at this;exact this
 clear hF C N;simp only[dY,mS,G] at ha;clear G;generalize a.eval (.tmp 38)=aV at ha;generalize a.eval (.tmp 39)=v39 at ha;generalize a.eval (.tmp 40)=aW at ha;generalize a.eval (.tmp 41)=aX at ha;generalize a.eval (.tmp 42)=aY at ha;generalize a.eval (.tmp 43)=aZ at ha;generalize a.eval (.tmp 44)=a1 at ha;generalize a.eval (.tmp 45)=v45 at ha;generalize a.eval (.tmp 46)=v46 at ha;simp only[pj,zA,zE,zF] at ha;subst ha;simp only[Exit.inBlock,Exit.then];rw[rounds_succ];go_wp2;go_ret;refine⟨_,rfl,?_,aI⟩;have aB:(l++l).length=n:=by have:=q.out;simp;omega
 rw[<-aB];exact aK.pW (zG _) (by rw[aB];omega)
end
section
open vA
def QR (s e z c:Nat):Y4:=[zx 8 s,zx 8 e,zx 4 z,zx 4 c].flatten
theorem TQ (s e z c:Nat):QR s e z c=zx 8 s++(zx 8 e++(zx 4 z++zx 4 c)):=by simp[QR]
theorem Xa (s e z c:Nat):(QR s e z c).length=24:=by
 rw[TQ];simp only[zH,ya]
def JL (b:Y4):Y4:=b++zx 4 (RA b)
theorem KQ (b:Y4):(JL b).length=b.length+4:=by simp[JL,ya]
def QK (b:Y4):Y4:=JL b++JL b++zP 8 0
theorem JE (b:Y4):(QK b).length=2*b.length+16:=by simp[QK,KQ];omega
def vJ (s e z c:Nat):Y4:=QK (QR s e z c)
theorem jE (s e z c:Nat):(vJ s e z c).length=64:=by simp[vJ,JE,Xa]
theorem kF {k n:Nat}(h:n<256^k):xI (zx k n)=n:=by rw[Ep,Nat.mod_eq_of_lt h]
theorem Lm {s e z c:Nat}(hs:s<2^64)(C:e<2^64)(E:z<2^32)(hc:c<2^32)(r:Y4):xI ((QR s e z c++r).take 8)=s/\xI (((QR s e z c++r).drop 8).take 8)=e/\xI (((QR s e z c++r).drop 16).take 4)=z/\xI (((QR s e z c++r).drop 20).take 4)=c:=by
 have h:∀n,(zx 8 n).length=8:=ya 8;have d:∀n,(zx 4 n).length=4:=ya 4;have q:∀n (r:Y4),(zx 8 n++r).take 8=zx 8 n:=λn r=>by rw[dM (by rw[h];omega)];rw[qB (by rw[h];omega)]
 have t4:∀n (r:Y4),(zx 4 n++r).take 4=zx 4 n:=λn r=>by rw[dM (by rw[d];omega)];rw[qB (by rw[d];omega)]
 have j:∀n (r:Y4),(zx 8 n++r).drop 8=r:=λn r=>by have:=gU (l₁:=zx 8 n) (l₂:=r);rw[h] at this;exact this
 have u:∀n (r:Y4),(zx 4 n++r).drop 4=r:=λn r=>by have:=gU (l₁:=zx 4 n) (l₂:=r);rw[d] at this;exact this
 have v:∀(l:Y4),l.drop 16=(l.drop 8).drop 8:=λl=>by rw[gT]
 have A:∀(l:Y4),l.drop 20=((l.drop 8).drop 8).drop 4:=λl=>by rw[gT,gT]
 rw[TQ];simp only[qO];rw[A,v,q,j,q,j,t4,u,t4];exact⟨kF (by omega),kF (by omega),kF (by omega),kF (by omega)⟩
def Ng (b:Y4):Nat:=xI (b.take 8)
def Ag (b:Y4):Nat:=xI ((b.drop 8).take 8)
def Iz (b:Y4):Nat:=xI ((b.drop 16).take 4)
def NA (b:Y4):Nat:=xI ((b.drop 20).take 4)
def ke (b:Y4):Bool:=decide (b.length=64)&&decide (Iz b<=2000)&&decide (NA b<=2000)&&decide (vJ (Ng b) (Ag b) (Iz b) (NA b)=b)
theorem Jm (b:Y4):ke b=true↔b.length=64/\Iz b<=2000/\NA b<=2000/\vJ (Ng b) (Ag b) (Iz b) (NA b)=b:=by
 simp[ke,and_assoc]
theorem TO (s e z c:Nat):∃r,vJ s e z c=QR s e z c++r:=⟨_,by unfold vJ QK JL;simp only[qO];rfl⟩
theorem Ll {s e z c:Nat}(hs:s<2^64)(d:e<2^64)(j:z<=2000)(hc:c<=2000):Ng (vJ s e z c)=s/\Ag (vJ s e z c)=e/\Iz (vJ s e z c)=z/\NA (vJ s e z c)=c:=by
 obtain⟨r,h⟩:=TO s e z c;unfold Ng Ag Iz NA;rw[h];exact Lm hs d (by omega) (by omega) r
theorem RX {s e z c:Nat}(hs:s<2^64)(q:e<2^64)(d:z<=2000)(hc:c<=2000):ke (vJ s e z c)=true:=by
 obtain⟨h1,h2,h,j⟩:=Ll hs q d hc;rw[Jm,h1,h2,h,j];exact⟨jE _ _ _ _,d,hc,rfl⟩
def Qx (e i p:Nat)(f:Bool)(z l:Nat):Y4:=[zx 8 e,zx 4 i,zx 4 p,[if f then 1 else 0],zx 4 z,zx 4 l].flatten
theorem Cd (e i p:Nat)(f:Bool)(z l:Nat):Qx e i p f z l=zx 8 e++(zx 4 i++(zx 4 p++((if f then 1 else 0)::(zx 4 z++zx 4 l)))):=by simp[Qx]
theorem QZ (e i p:Nat)(f:Bool)(z l:Nat):(Qx e i p f z l).length=25:=by
 rw[Cd];simp only[zH,zL,ya]
def vY (p y:Y4):Y4:=p++zx 4 (RA (p++y))++zP 35 0
theorem QX (p y:Y4):(vY p y).length=p.length+39:=by simp[vY,ya]
def VL (p y:Y4):Y4:=vY p y++y
end
section
open Go Go.RowKit vA
theorem Qo (r:Nat)(h:r<4294967296)(w:World):(convert 3 148 (.int .i64 r)).run Y3 w=.ok (.int .u32 r) w:=by
 have e:IntKind.u32.wrap (r:Int)=r:=by
  show (r:Int)%4294967296=r
  omega
 have k:Y3.intKind 148=.u32:=by kernel_rfl
 have h:=run_convert_int (P:=Y3) (w:=w) 3 148 .i64 r (by kernel_rfl) (by kernel_rfl);rw[k,e] at h;exact h
theorem Gz (s e z c:Nat)(hz:z<=2000)(hc:c<=2000)(w:World):pr Y3 228 #[.agg #[.int .u64 (s:Int),.int .u64 (e:Int),.int .i64 (z:Int),.int .i64 (c:Int)]] w λx w'=>x=.returned (.agg ((vJ s e z c).map b8).toArray)/\ph w.heap.size w w':=by
 have aZ:=Qo z (by omega);have aJ:=Qo c (by omega);have aK:∀w u,xN [zx 8 s,zx 8 e,zx 4 z,zx 4 c] u w->pr Y3 185 #[u] w λe' w'=>∃v,e'=.returned v/\qz w w'/\(vd.res (QR s e z c)).holds v w':=λw u hu =>
  Qp.gives_res (jV hu (by simp) (by have:=Xa s e z c;unfold QR at this;omega))
 have aD:ph w.heap.size w ((w.alloc (.cells #[.int .u64 (s:Int),.int .u64 (e:Int),.int .i64 (z:Int),.int .i64 (c:Int)] 173)).alloc (.cells Yq 317)):=((pf _ w).alloc (zG _) _).alloc (by simp) _;have q:za ((w.alloc (.cells #[.int .u64 (s:Int),.int .u64 (e:Int),.int .i64 (z:Int),.int .i64 (c:Int)] 173)).alloc (.cells Yq 317)) w.heap.size 173 #[.int .u64 (s:Int),.int .u64 (e:Int),.int .i64 (z:Int),.int .i64 (c:Int)]:=(za.new w 173 _).alloc _;have U:za ((w.alloc (.cells #[.int .u64 (s:Int),.int .u64 (e:Int),.int .i64 (z:Int),.int .i64 (c:Int)] 173)).alloc (.cells Yq 317)) (w.heap.size+1) 317 ((zP 64 (0:UInt8)).map b8).toArray:=by have h:=za.new (w.alloc (.cells #[.int .u64 (s:Int),.int .u64 (e:Int),.int .i64 (z:Int),.int .i64 (c:Int)] 173)) 317 Yq;rw[pq] at h;exact h
 go_enter func228,ntmps228
 go_wp2_with fail
 generalize (w.alloc (.cells #[.int .u64 (s:Int),.int .u64 (e:Int),.int .i64 (z:Int),.int .i64 (c:Int)] 173)).alloc (.cells Yq 317)=H at *;have aG:∀w',qz H w'->w'.cell? ⟨w.heap.size,0,none⟩=some (.int .u64 s):=λw' j=>(j.cell (p:=⟨w.heap.size,0,none⟩) q.lt).trans (by rw[q.cell];rfl)
 have aH:∀w',qz H w'->w'.cell? ⟨w.heap.size,1,none⟩=some (.int .u64 e):=λw' j=>(j.cell (p:=⟨w.heap.size,1,none⟩) q.lt).trans (by rw[q.cell];rfl)
 have C:∀w',qz H w'->w'.cell? ⟨w.heap.size,2,none⟩=some (.int .i64 z):=λw' j=>(j.cell (p:=⟨w.heap.size,2,none⟩) q.lt).trans (by rw[q.cell];rfl)
 have aI:∀w',qz H w'->w'.cell? ⟨w.heap.size,3,none⟩=some (.int .i64 c):=λw' j=>(j.cell (p:=⟨w.heap.size,3,none⟩) q.lt).trans (by rw[q.cell];rfl)
 open Qp in
 refine region_acts (by kernel_rfl) (by kernel_rfl) 33 rfl (by kernel_rfl) [5,6,7,8,9,10,11,12,13,14,15,16,17,18,19,20,3] (by kernel_rfl)
  [(1,.val (.pointer (some ⟨w.heap.size,0,none⟩)))]
  [(5,.val (.pointer (some ⟨w.heap.size,0,none⟩))),(6,.val (.int .u64 (s:Int))),(7,.res (zx 8 s)),(8,.val (.pointer (some ⟨w.heap.size,1,none⟩))),(9,.val (.int .u64 (e:Int))),(10,.res (zx 8 e)),(11,.val (.pointer (some ⟨w.heap.size,2,none⟩))),(12,.val (.int .i64 (z:Int))),(13,.val (.int .u32 (z:Int))),(14,.res (zx 4 z)),(15,.val (.pointer (some ⟨w.heap.size,3,none⟩))),(16,.val (.int .i64 (c:Int))),(17,.val (.int .u32 (c:Int))),(18,.res (zx 4 c)),(19,.pred (xN [zx 8 s,zx 8 e,zx 4 z,zx 4 c]) (xi _)),(20,.res (QR s e z c)),(3,.res (QR s e z c))]
  ⟨rfl,trivial⟩ (by kernel_rfl)
  (allOk_cons (ok_none rfl (l_run1 (.tmp 1) (.pointer (some ⟨w.heap.size,0,none⟩)) (.pointer (some ⟨w.heap.size,0,none⟩)) (hs 1 _ (by kernel_rfl) (by kernel_rfl)) (λρ w h=>by simp[oB,h,go_sem,pv]) (by kernel_rfl)))
  <| allOk_cons (ok_none rfl (l_load (.tmp 5) (⟨w.heap.size,0,none⟩) _ (.int .u64 (s:Int)) (by intro w;simp[go_sem]) rfl (hs 5 (.pointer (some ⟨w.heap.size,0,none⟩)) (by kernel_rfl) (by kernel_rfl)) (λw j=>aG w j) (by kernel_rfl)))
  <| allOk_cons (ok_none rfl (l_call 290 _ _ rfl (dj func290 (by kernel_rfl) rfl) #[.int .u64 (s:Int)] (.res (zx 8 s)) (args1 (hs 6 (.int .u64 (s:Int)) (by kernel_rfl) (by kernel_rfl))) (λw j=>gives_res (ZX s w)) (by kernel_rfl)))
  <| allOk_cons (ok_none rfl (l_run1 (.tmp 1) (.pointer (some ⟨w.heap.size,0,none⟩)) (.pointer (some ⟨w.heap.size,1,none⟩)) (hs 1 _ (by kernel_rfl) (by kernel_rfl)) (λρ w h=>by simp[oB,h,go_sem,pv]) (by kernel_rfl)))
  <| allOk_cons (ok_none rfl (l_load (.tmp 8) (⟨w.heap.size,1,none⟩) _ (.int .u64 (e:Int)) (by intro w;simp[go_sem]) rfl (hs 8 (.pointer (some ⟨w.heap.size,1,none⟩)) (by kernel_rfl) (by kernel_rfl)) (λw j=>aH w j) (by kernel_rfl)))
  <| allOk_cons (ok_none rfl (l_call 290 _ _ rfl (dj func290 (by kernel_rfl) rfl) #[.int .u64 (e:Int)] (.res (zx 8 e)) (args1 (hs 9 (.int .u64 (e:Int)) (by kernel_rfl) (by kernel_rfl))) (λw j=>gives_res (ZX e w)) (by kernel_rfl)))
  <| allOk_cons (ok_none rfl (l_run1 (.tmp 1) (.pointer (some ⟨w.heap.size,0,none⟩)) (.pointer (some ⟨w.heap.size,2,none⟩)) (hs 1 _ (by kernel_rfl) (by kernel_rfl)) (λρ w h=>by simp[oB,h,go_sem,pv]) (by kernel_rfl)))
  <| allOk_cons (ok_none rfl (l_load (.tmp 11) (⟨w.heap.size,2,none⟩) _ (.int .i64 (z:Int)) (by intro w;simp[go_sem]) rfl (hs 11 (.pointer (some ⟨w.heap.size,2,none⟩)) (by kernel_rfl) (by kernel_rfl)) (λw j=>C w j) (by kernel_rfl)))
  <| allOk_cons (ok_none rfl (l_convS (.tmp 12) _ _ (.int .i64 (z:Int)) (.int .u32 (z:Int)) rfl (hs 12 (.int .i64 (z:Int)) (by kernel_rfl) (by kernel_rfl)) (λw j=>aZ w) (by kernel_rfl)))
  <| allOk_cons (ok_none rfl (l_call 82 _ _ rfl (dj func82 (by kernel_rfl) rfl) #[.int .u32 (z:Int)] (.res (zx 4 z)) (args1 (hs 13 (.int .u32 (z:Int)) (by kernel_rfl) (by kernel_rfl))) (λw j=>gives_res (xt z w)) (by kernel_rfl)))
  <| allOk_cons (ok_none rfl (l_run1 (.tmp 1) (.pointer (some ⟨w.heap.size,0,none⟩)) (.pointer (some ⟨w.heap.size,3,none⟩)) (hs 1 _ (by kernel_rfl) (by kernel_rfl)) (λρ w h=>by simp[oB,h,go_sem,pv]) (by kernel_rfl)))
  <| allOk_cons (ok_none rfl (l_load (.tmp 15) (⟨w.heap.size,3,none⟩) _ (.int .i64 (c:Int)) (by intro w;simp[go_sem]) rfl (hs 15 (.pointer (some ⟨w.heap.size,3,none⟩)) (by kernel_rfl) (by kernel_rfl)) (λw j=>aI w j) (by kernel_rfl)))
  <| allOk_cons (ok_none rfl (l_convS (.tmp 16) _ _ (.int .i64 (c:Int)) (.int .u32 (c:Int)) rfl (hs 16 (.int .i64 (c:Int)) (by kernel_rfl) (by kernel_rfl)) (λw j=>aJ w) (by kernel_rfl)))
  <| allOk_cons (ok_none rfl (l_call 82 _ _ rfl (dj func82 (by kernel_rfl) rfl) #[.int .u32 (c:Int)] (.res (zx 4 c)) (args1 (hs 17 (.int .u32 (c:Int)) (by kernel_rfl) (by kernel_rfl))) (λw j=>gives_res (xt c w)) (by kernel_rfl)))
  <| allOk_cons (ok_none rfl (l_build4 7 10 14 18 (zx 8 s) (zx 8 e) (zx 4 z) (zx 4 c) rfl (by kernel_rfl) (by kernel_rfl) (by kernel_rfl) (by kernel_rfl) (by kernel_rfl) (by kernel_rfl) (by kernel_rfl) (by kernel_rfl) (by kernel_rfl)))
  <| allOk_cons (ok_none rfl (l_callP 185 19 (xN [zx 8 s,zx 8 e,zx 4 z,zx 4 c]) (xi _) _ rfl (dj func185 (by kernel_rfl) rfl) (.res (QR s e z c)) (by kernel_rfl) (by kernel_rfl) (λw u j hu=>aK w u hu) (by kernel_rfl)))
  <| allOk_cons (ok_none rfl (l_mvF 20 (.res (QR s e z c)) (.inr rfl) (by kernel_rfl) (by kernel_rfl) (by kernel_rfl)))
  <| allOk_nil) ?_
 intro a w3 aY aL aE hF hU;obtain⟨A3,c3,e3,V⟩:=hF 3;have ha:=Qp.acts_eq [5,6,7,8,9,10,11,12,13,14,15,16,17,18,19,20,3] aY aL hU;clear hF hU aL;simp only[dY,mS,e3] at ha;clear e3 aY;generalize a.eval (.tmp 5)=v5 at *;generalize a.eval (.tmp 6)=v6 at *;generalize a.eval (.tmp 7)=v7 at *;generalize a.eval (.tmp 8)=v8 at *;generalize a.eval (.tmp 9)=v9 at *;generalize a.eval (.tmp 10)=a3 at *;generalize a.eval (.tmp 11)=a4 at *;generalize a.eval (.tmp 12)=a5 at *;generalize a.eval (.tmp 13)=a6 at *;generalize a.eval (.tmp 14)=a7 at *;generalize a.eval (.tmp 15)=a8 at *;generalize a.eval (.tmp 16)=a9 at *;generalize a.eval (.tmp 17)=bA at *;generalize a.eval (.tmp 18)=bB at *;generalize a.eval (.tmp 19)=bC at *;generalize a.eval (.tmp 20)=bD at *;simp only[pj,zA,zE,zF] at ha;subst ha;simp only[Exit.then];refine ‹∀(a:oy) (w:World),Code.wp Y3 _ _ a w->_› _ w3 ?_;have W:=U.below aE U.lt;have E:ph w.heap.size w w3:=aD.trans (aE.mono aD.size);have aQ:=Xa s e z c;generalize aF:QR s e z c=b at *;have HB:=pk aF;clear aF;have I:=pk aQ;clear aQ aK aZ aJ aG aH C aI q U
 go_wp2_with fail
 refine(PX w3 A3 c3 b V).mono ?_;rintro e4 w4 ⟨rfl,A⟩;have aM:=(V.below A).more A.size;have X:=W.below A W.lt
 go_wp2_with fail
 refine(xt _ _).mono ?_;rintro e5 w5 ⟨v,rfl,aT,F⟩;obtain⟨A5,k5,rfl,aN⟩:=aT.inB;have C:=Yl w5 A3 A5 c3 k5 b _ ((aM.below F).more F.size) aN (by have:=I.out;simp[ya];omega);rw[ya] at C;have Z:=X.below F X.lt;have N:ph w.heap.size w w5:=(E.trans (A.mono E.size)).trans (F.mono (E.trans (A.mono E.size)).size);rw[ya]
 go_wp2_with fail
 refine C.mono ?_;rintro e6 w6 ⟨v6,rfl,aU,O⟩;obtain⟨A6,k6,rfl,aO⟩:=aU.inB;have aW:=Z.below O Z.lt;have aC:ph w.heap.size w w6:=N.trans (O.mono N.size);have aS:b++zx 4 (RA b)=JL b:=rfl;rw[aS] at aO ⊢;have aR:(JL b).length=28:=by rw[KQ,I.out]
 have K:=pk aR;clear aR aS W X Z E A F N V aM aN aT aU C O
 go_wp2_with fail
 have M:=DR w6.drew A6 k6 (JL b) aO.drew (by have:=K.out;omega) (by have:=K.out;omega);obtain⟨d,hd⟩:∃d,JL b++JL b=d:=⟨_,rfl⟩;rw[hd] at M;have HD:=pk hd;clear hd
 go_region_held3 (λ_=>True) (trivial) (first
  | (go_at_call 292;refine M.mono ?_;rintro e7 w7 ⟨v7,rfl,aV,S⟩;obtain⟨A7,k7,rfl,aP⟩:=aV.inB;have aA:=aW.drew.below S aW.lt)
  | (refine GK (by rfl) (.tmp 28) (.tmp 30) (by rfl) (w.heap.size+1) 0 (zP 64 0) d A7 k7 _ 64 64 (by rfl) (by rfl) aA aP (by simp) ?_))
 have aX:yv (zP 64 0) 0 64 d=QK b:=by have:=K.out;rw[<-HD.out];simp only[yv,QK,List.take_zero,zQ,qC,mD,zH];rw[qB (by simp;omega),mK (by omega),this]
 rw[aX];have G:=aA.setRow ((QK b).map b8).toArray;have a1:ph w.heap.size w (w7.setRow (w.heap.size+1) ((QK b).map b8).toArray):=zf (aC.drew.trans (S.mono aC.size)) (by omega) _;generalize w7.setRow (w.heap.size+1) ((QK b).map b8).toArray=w8 at *;clear aA S aP aV M aX;have aB:((QK b).map b8).toArray.size=64:=by have:=I.out;simp[JE];omega
 have T:yx Y3 317 ((QK b).map b8).toArray.size:=by rw[aB];exact jj
 clear aB
 go_wp2_with (first
  | (refine xA T G ?_)
  | (refine zt rfl 317 (.tmp 2) (.tmp 32) rfl (w.heap.size+1) rfl rfl T G rfl rfl (Zb _) ?_))
 have a2:w8.setRow (w.heap.size+1) ((QK b).map b8).toArray=w8:=setRow_self w8 _ _ _ _ G;rw[a2];refine oQ (yM 2 rfl rfl T G rfl) rfl ⟨?_,a1⟩;unfold vJ;rw[HB.out]
def Uu (w0:World)(l:Y4)(n:Int)(e:Ending)(w':World):Prop :=
 ∃A c,e=Y0 (.tuple #[.slice A l.length c,.int .i64 n])/\qq w' w'.heap.size A c l/\ph w0.heap.size w0 w'
def kg (s e:Nat)(z c:Int):Y4:=if vf z c then vJ s e z.toNat c.toNat else []
def Ln (z c:Int):Int:=if vf z c then 0 else 2
theorem qq.mt (w:World)(B:Nat):qq w B none 0 []:=⟨by simp,by omega,λ_=>rfl,λh=>by simp at h⟩
theorem za.pA {w:World}{g:Nat}{T:oD}{l:Y4}(h:za w g T (l.map b8).toArray)(d:l.length<=9223372036854775807):qq w w.heap.size (some ⟨g,0,none⟩) l.length l :=
 ⟨zG _,d,(λe=>by cases e),λ_=>⟨g,0,rfl,h.lt,λj c=>by
  rw[h.cell]
  simp[c,b8]⟩⟩
theorem VP (s e:Nat)(z c:Int)(w:World):pr Y3 172 #[.agg #[.int .u64 (s:Int),.int .u64 (e:Int),.int .i64 z,.int .i64 c]] w (Uu w (kg s e z c) (Ln z c)):=by
 have u:ph w.heap.size w (w.alloc (.cells #[.int .u64 (s:Int),.int .u64 (e:Int),.int .i64 z,.int .i64 c] 173)):=(pf _ w).alloc (zG _) _;have v:=za.new w 173 #[.int .u64 (s:Int),.int .u64 (e:Int),.int .i64 z,.int .i64 c];cases d:vf z c with
 | false =>
  have H:=Jr s e z c (w.alloc (.cells #[.int .u64 (s:Int),.int .u64 (e:Int),.int .i64 z,.int .i64 c] 173));rw[d] at H;have h1:kg s e z c=[]:=by simp[kg,d]
  have h2:Ln z c=2:=by simp[Ln,d]
  rw[h1,h2];clear h1 h2 d
  go_enter func172,ntmps172
  go_wp2_with (first
   | (go_at_call 227;refine H.mono ?_;rintro x N ⟨rfl,q⟩)
   | (refine xA yw v ?_))
  refine oE (oN rfl _ _ _) rfl ?_;exact⟨none,0,rfl,qq.mt _ _,u.trans (q.mono u.size)⟩
 | true =>
  obtain⟨⟨V,X⟩,T,U⟩:=(XZ z c).1 d;obtain⟨zn,rfl⟩:∃zn:Nat,z=zn:=⟨z.toNat,by omega⟩;obtain⟨cn,rfl⟩:∃cn:Nat,c=cn:=⟨c.toNat,by omega⟩;have H:=Jr s e zn cn (w.alloc (.cells #[.int .u64 (s:Int),.int .u64 (e:Int),.int .i64 zn,.int .i64 cn] 173));rw[d] at H;have h1:kg s e zn cn=vJ s e zn cn:=by simp[kg,d]
  have h2:Ln zn cn=0:=by simp[Ln,d]
  rw[h1,h2];clear h1 h2 d;have C:=jE s e zn cn;have G:=λW=>Gz s e zn cn (by omega) (by omega) W
  generalize vJ s e zn cn=L at *;have j:=pk C;have O:yx Y3 317 (L.map b8).toArray.size:=by
   have:(L.map b8).toArray.size=64:=by simp[C]
   rw[this];exact jj
  clear C
  go_enter func172,ntmps172
  go_wp2_with (first
   | (go_at_call 227;refine H.mono ?_;rintro x N ⟨rfl,q⟩;have S:=v.below q v.lt;have E:=u.trans (q.mono u.size);clear H v)
   | (go_at_call 228;refine(G _).mono ?_;rintro x h ⟨rfl,I⟩;have A:=E.trans (I.mono E.size))
   | (refine xA (g:=w.heap.size) yw (by assumption) ?_)
   | (refine zt rfl 317 (.tmp 4) (.tmp 9) rfl h.heap.size rfl rfl jj (za.new h 317 Yq) (by rfl) (by have:=j.out;simp;omega) (Zb _) ?_))
  have M:=(za.new h 317 Yq).setRow (L.map b8).toArray;have K:ph w.heap.size w ((h.alloc (.cells Yq 317)).setRow h.heap.size (L.map b8).toArray):=zf (A.alloc A.size _) A.size _;have F:=M.pA (by rw[j.out];omega);rw[j.out] at F;refine oE (oN rfl _ _ _) rfl ?_;exact⟨_,64,by rw[j.out];rfl,F,K⟩
theorem qq.grown {w w':World}{B:Nat}{A:Y5}{c:Nat}{l:Y4}{row:Option Nat}(h:qq w B A c l)(hB:B<=w.heap.size)(d:w.grownBy w' row)(j:∀r,row=some r->B<=r):qq w' B A c l :=
 h.rE λp q=>oG (d.block p.block (by omega) (λe=>by have:=j _ e.symm;omega))
theorem La (w:World)(A:Y5)(k:Nat)(y:Y4)(ls:List Y4)(u:Value)(Z:qq w w.heap.size A k y)(hu:xN ls u w)(hm:ls.length<=1000)(K:ls.flatten.length=25)(hy:y.length<=100000):pr Y3 299 #[.slice A y.length k,u] w λx w'=>x=.returned (.agg ((vY ls.flatten y).map b8).toArray)/\ph w.heap.size w w':=by
 have c:ph w.heap.size w (w.alloc (.cells Yq 317)):=(pf _ w).alloc (zG _) _;have G:za (w.alloc (.cells Yq 317)) w.heap.size 317 ((zP 64 (0:UInt8)).map b8).toArray:=za.new w 317 Yq;have W:=jV (xi ls u w _ hu c) hm (by rw[K];omega);have aA:=(Z.below c).more c.size;generalize ls.flatten=p at *;have v:=pk K;clear K hu hm Z
 go_enter func299,ntmps299
 go_wp2_with fail
 refine W.mono ?_;rintro x W2 ⟨v2,rfl,own2,hB⟩;obtain⟨M,c2,rfl,aB⟩:=own2.inB;have U:=c.trans (hB.mono c.size);have X:=G.below hB G.lt;have aL:=(aA.below hB).more hB.size;clear hB c G aA W own2
 go_wp2_with fail
 have O:=PW W2.drew M A c2 k p y aB.drew aL.drew;have s2:=U.size;obtain⟨S,F⟩:∃S,RA (p++y)=S:=⟨_,rfl⟩;rw[F] at O;have HS:=pk F;clear F;obtain⟨d,hd⟩:∃d,p++zx 4 S=d:=⟨_,rfl⟩;have N:=pk hd;clear hd
 go_region_held3 (λ_=>True) (trivial) (first
  | (go_at_call 291;refine O.mono ?_;rintro x W3 ⟨rfl,e⟩;have H:=X.drew.below e X.lt;have aE:=(aB.drew.below e).more e.size)
  | (go_at_call 82;refine(xt _ _).mono ?_;rintro x W4 ⟨v4,rfl,aH,h⟩;have I:=H.below h H.lt;have aF:=(aE.below h).more h.size;obtain⟨A4,c4,rfl,aC⟩:=aH.inB;have s:=Yl W4 M A4 c2 c4 p (zx 4 S) aF aC (by rw[v.out,ya];omega);rw[N.out] at s)
  | (go_at_call 185;refine s.mono ?_;rintro x W5 ⟨v5,rfl,aI,C⟩;have j:=I.below C I.lt;obtain⟨A5,c5,rfl,aD⟩:=aI.inB)
  | (revert j;intro j;refine GK (by rfl) (.tmp 8) (.tmp 16) (by rfl) w.heap.size 0 (zP 64 0) d A5 c5 _ 64 64 (by rfl) (by rfl) j aD (by simp) ?_))
 have aG:yv (zP 64 0) 0 64 d=vY p y:=by have:=v.out;rw[<-N.out];simp only[yv,vY,HS.out,List.take_zero,zQ,qC,mD,zH,ya];rw[qB (by simp[ya];omega),mK (by omega),this]
 rw[aG];have q:=j.setRow ((vY p y).map b8).toArray;have V:ph w.heap.size w W5:=U.drew.trans ((e.trans ((h.trans (C.mono h.size)).mono e.size)).mono s2);have aJ:ph w.heap.size w (W5.setRow w.heap.size ((vY p y).map b8).toArray):=zf V (zG _) _;generalize W5.setRow w.heap.size ((vY p y).map b8).toArray=W6 at *;clear j C aD aI aG s V I h aF aH aC H e aE;have T:((vY p y).map b8).toArray.size=64:=by have:=v.out;simp[QX];omega
 have E:yx Y3 317 ((vY p y).map b8).toArray.size:=by rw[T];exact jj
 clear T
 go_wp2_with (first
  | (refine xA E q ?_)
  | (refine zt rfl 317 (.tmp 4) (.tmp 18) rfl w.heap.size rfl rfl E q rfl rfl (Zb _) ?_))
 have aK:W6.setRow w.heap.size ((vY p y).map b8).toArray=W6:=setRow_self W6 _ _ _ _ q;rw[aK];exact oQ (yM 4 rfl rfl E q rfl) rfl ⟨rfl,aJ⟩
def zq (e:Nat)(i p:Int)(f:Bool)(z:Int)(n:Nat)(A:Y5)(len k:Nat):Y7:=#[.int .u64 (e:Int),.int .i64 i,.int .i64 p,.bool f,.int .i64 z,.int .u32 (n:Int),.slice A len k]
def Jq (len:Nat)(i p:Int)(f:Bool)(z:Int):Bool:=decide (len=512)&&YA 0 2000 [i]&&YA 0 2000 [p,z]&&(f||z==0)
theorem Kb (len:Nat)(i p:Int)(f:Bool)(z:Int):Jq len i p f z=true↔len=512/\(0<=i/\i<=2000)/\(0<=p/\p<=2000)/\(0<=z/\z<=2000)/\(f=true∨z=0):=by
 simp[Jq,Gw,Cv,and_assoc]
theorem kE:yx Y3 261 7:=⟨⟨_,underlying261,rfl⟩,by kernel_rfl⟩
theorem Br.two (W:World)(x y:Int):Br (W.alloc (.cells #[.int .i64 x,.int .i64 y] 3)) (some ⟨W.heap.size,0,none⟩) [x,y]:=⟨λ_=>⟨_,_,rfl,λj c=>by
 rw[(za.new W 3 #[.int .i64 x,.int .i64 y]).cell]
 rcases(show j=0∨j=1 from by simp at c;omega) with rfl|rfl<;>rfl⟩⟩
theorem UR (W:World)(d c x y:Int):pr Y3 289 #[.int .i64 d,.int .i64 c,.slice (some ⟨W.heap.size,0,none⟩) 2 2] (W.alloc (.cells #[.int .i64 x,.int .i64 y] 3)) λe w'=>e=Y0 (.bool (YA d c [x,y]))/\ph W.heap.size W w' :=
 (KE (W.alloc (.cells #[.int .i64 x,.int .i64 y] 3)) (some ⟨W.heap.size,0,none⟩) 2 [x,y] (Br.two W x y) (λg o e=>by injection e with e;injection e with e1;subst e1;simp) (by simp) d c).mono λe w' ⟨h,hB⟩ =>
  ⟨h,((pf _ W).alloc (zG _) _).trans (hB.mono (by simp))⟩
theorem SO (e:Nat)(i p:Int)(f:Bool)(z:Int)(n:Nat)(A:Y5)(len k:Nat)(w:World):pr Y3 238 #[.agg (zq e i p f z n A len k)] w λx w'=>x=.returned (.bool (Jq len i p f z))/\ph w.heap.size w w':=by
 have F:=za.new w 261 (zq e i p f z n A len k);have C:ph w.heap.size w (w.alloc (.cells (zq e i p f z n A len k) 261)):=(pf _ w).alloc (zG _) _;have u:=vX (w.alloc (.cells (zq e i p f z n A len k) 261)) 0 2000 i;rw[pq] at u;obtain⟨v,O⟩:=Z9 (Jq len i p f z);rw[<-O];unfold Jq at O;have E:=pk O;clear O;unfold zq at *
 by_cases hl:len=512
 ·have hq:((len:Int)==512)=true:=by simp;omega
  generalize aA:YA 0 2000 [i]=V at *;cases V with
  | false =>
   have d:v=false:=by rw[E.out];simp
   subst d;clear E hl
   go_enter func238,ntmps238
   go_wp2_with (go_at_call 289;refine u.mono ?_;rintro x s ⟨rfl,hB⟩)
   go_ret;exact⟨rfl,C.trans (hB.mono (by simp))⟩
  | true =>
   have d:v=(YA 0 2000 [p,z]&&(f||z==0)):=by rw[E.out];simp[hl]
   clear E hl;generalize U:YA 0 2000 [p,z]=X at *;have I:=λW=>UR W 0 2000 p z
   rw[U] at I;clear aA U;have H:=pk d;clear d;cases X with
   | false =>
    have d:v=false:=by rw[H.out];simp
    subst d;clear H
    go_enter func238,ntmps238
    go_wp2_with fail
    refine u.mono ?_;rintro x s ⟨rfl,hB⟩;have c:=F.below hB (by simp);have j:=C.trans (hB.mono (by simp));have M:s.cell? ⟨w.heap.size,2,none⟩=some (.int .i64 p):=by rw[c.cell];rfl
    have N:s.cell? ⟨w.heap.size,4,none⟩=some (.int .i64 z):=by rw[c.cell];rfl
    clear hB F c C u
    go_wp2_with (go_at_call 289;refine(I _).mono ?_;rintro x G ⟨rfl,hB⟩)
    go_ret;exact⟨rfl,j.trans (hB.mono j.size)⟩
   | true =>
    have d:v=(f||z==0):=by rw[H.out];simp
    clear H;have T:f=false->∃q,(z==0)=q/\v=q:=λh=>⟨_,rfl,by rw[d,h];rfl⟩
    cases f with
    | true =>
     replace d:v=true:=by rw[d];rfl
     subst d;clear T
     go_enter func238,ntmps238
     go_wp2_with fail
     refine u.mono ?_;rintro x s ⟨rfl,hB⟩;have c:=F.below hB (by simp);have j:=C.trans (hB.mono (by simp));have M:s.cell? ⟨w.heap.size,2,none⟩=some (.int .i64 p):=by rw[c.cell];rfl
     have N:s.cell? ⟨w.heap.size,4,none⟩=some (.int .i64 z):=by rw[c.cell];rfl
     clear hB F C u
     go_wp2_with fail
     refine(I _).mono ?_;rintro x G ⟨rfl,hB⟩;have K:=c.below hB c.lt;have S:=j.trans (hB.mono j.size);have Z:G.cell? ⟨w.heap.size,3,none⟩=some (.bool true):=by rw[K.cell];rfl
     clear hB c j M N;go_wp2;go_ret;exact⟨rfl,S⟩
    | false =>
     obtain⟨q,aB,rfl⟩:=T rfl;clear d T
     go_enter func238,ntmps238
     go_wp2_with fail
     refine u.mono ?_;rintro x s ⟨rfl,hB⟩;have c:=F.below hB (by simp);have j:=C.trans (hB.mono (by simp));have M:s.cell? ⟨w.heap.size,2,none⟩=some (.int .i64 p):=by rw[c.cell];rfl
     have N:s.cell? ⟨w.heap.size,4,none⟩=some (.int .i64 z):=by rw[c.cell];rfl
     clear hB F C u
     go_wp2_with fail
     refine(I _).mono ?_;rintro x G ⟨rfl,hB⟩;have K:=c.below hB c.lt;have S:=j.trans (hB.mono j.size);have Z:G.cell? ⟨w.heap.size,3,none⟩=some (.bool false):=by rw[K.cell];rfl
     have N:G.cell? ⟨w.heap.size,4,none⟩=some (.int .i64 z):=by rw[K.cell];rfl
     clear hB c j M;go_wp2;go_ret;exact⟨rfl,S⟩
 ·have hq:((len:Int)==512)=false:=by simp;omega
  have d:v=false:=by rw[E.out];simp[hl]
  subst d;clear E hl
  go_enter func238,ntmps238
  go_wp2;go_ret;exact⟨rfl,C⟩
theorem UB (w:World)(c:UInt8):pr Y3 330 #[.int .u8 (c.toNat:Int)] w λx w'=>x=.returned (.func (.func 331) #[] #[.pointer (some ⟨w.heap.size,0,none⟩)])/\w'=w.alloc (.cells #[.int .u8 (c.toNat:Int)] 5):=by
 go_enter func330,ntmps330
 go_wp2;go_ret;exact⟨rfl,rfl⟩
theorem Rf (w:World)(g:Nat)(c:UInt8)(d:za w g 5 #[.int .u8 (c.toNat:Int)]):pr Y3 331 #[.pointer (some ⟨g,0,none⟩)] w (yU w [c]):=by
 have hc:=d.boxed
 go_enter func331,ntmps331
 go_wp2;go_ret;refine⟨_,rfl,?_,(pf _ _).alloc (zG _) _⟩;exact nM w #[.int .u8 (c.toNat:Int)] 1 (zG _) (by unfold oo;omega) rfl
def Qf (w:World)(v:Value):Prop:=∃r g0 g1 clock,v=.map (some r)/\zw w r #[⟨.bool false,.func (.func 331) #[] #[.pointer (some ⟨g0,0,none⟩)],0⟩,⟨.bool true,.func (.func 331) #[] #[.pointer (some ⟨g1,0,none⟩)],1⟩] clock /\
 za w g0 5 #[.int .u8 0]/\za w g1 5 #[.int .u8 1]
theorem Qf.below {w w':World}{v:Value}(h:Qf w v)(hB:ph w.heap.size w w'):Qf w' v:=by
 obtain⟨r,d,e,clock,j,h1,h2,c⟩:=h;exact⟨r,d,e,clock,j,h1.below hB h1.lt,h2.below hB h2.lt,c.below hB c.lt⟩
theorem KX (b:Bool):dJ .bool (.bool b):=trivial
theorem TZ (w:World):pr Y3 300 #[] w λx w'=>∃v,x=.returned v/\Qf w' v/\ph w.heap.size w w':=by
 have I:∀W,pr Y3 330 #[.int .u8 0] W λx w'=>x=.returned (.func (.func 331) #[] #[.pointer (some ⟨W.heap.size,0,none⟩)])/\w'=W.alloc (.cells #[.int .u8 0] 5):=λW=>UB W 0
 have K:∀W,pr Y3 330 #[.int .u8 1] W λx w'=>x=.returned (.func (.func 331) #[] #[.pointer (some ⟨W.heap.size,0,none⟩)])/\w'=W.alloc (.cells #[.int .u8 1] 5):=λW=>UB W 1
 have hu:=underlying371;have F:=underlying4
 go_enter func300,ntmps300
 go_wp2_with (first
  | (refine Qq rfl rfl ?_;intro h;have q:ph w.heap.size w (w.alloc (.map #[] 0)):=(pf _ w).alloc (zG _) _)
  | (go_at_call 330;(with_reducible refine(I _).mono ?_);rintro x V ⟨rfl,rfl⟩;have c:=h.below ((pf _ _).alloc (zG _) (.cells #[.int .u8 0] 5)) h.lt;have C:=za.new (w.alloc (.map #[] 0)) 5 #[.int .u8 0];have s:=q.alloc q.size (.cells #[.int .u8 0] 5))
  | (go_at_call 330;(with_reducible refine(K _).mono ?_);rintro x X ⟨rfl,rfl⟩;have d:=G.below ((pf _ _).alloc (zG _) (.cells #[.int .u8 1] 5)) G.lt;have O:=N.alloc (.cells #[.int .u8 1] 5);have T:=za.new w3 5 #[.int .u8 1];have A:=u.alloc u.size (.cells #[.int .u8 1] 5))
  | (revert c;intro c;refine XO (by rfl) (.tmp 2) (.const (.bool false)) (.tmp 4) (.inl (by rfl)) hu F (KX false) (by rfl) (by rfl) (by rfl) c (by rfl) ?_;intro w3 G H;have N:=C.rS c H;have u:ph w.heap.size w w3:=s.trans (zl H s.size (λr e=>by injection e with e;omega));clear h c C)
  | (revert d;intro d;refine XO (by rfl) (.tmp 2) (.const (.bool true)) (.tmp 6) (.inl (by rfl)) hu F (KX true) (by rfl) (by rfl) (by rfl) d (by rfl) ?_;intro w5 S j;have E:=O.rS d j;have U:=T.rS d j;have M:ph w.heap.size w w5:=A.trans (zl j A.size (λr e=>by injection e with e;omega))))
 go_ret;rw[pq] at E;exact⟨_,rfl,⟨_,_,_,_,rfl,S,E,U⟩,M⟩
namespace Qp
variable {P:oV}{ops:Array oM}
inductive Src where
 | slot (t:mr)
 | given (v:Value)
structure Stage where
 i:Option Nat
 s:Src
 p:Value->World->Prop
 b:Value->Option Nat
 st:∀v w w',p v w->(∀k,b v=some k->w'.heap[k]?=w.heap[k]?)->p v w'
 lt:∀v w k,p v w->b v=some k->k<w.heap.size
abbrev Ghost:=Nat->Option Nat
def upd (g:Ghost)(k:Nat)(b:Option Nat):Ghost:=λj=>if j=k then b else g j
def Lt (g:Ghost)(w:World):Prop:=∀k b,g k=some b->b<w.heap.size
def edge (ops:Array oM)(i j:Nat):Bool:=match ops[i]? with|some o=>o.after.toList.any λe=>oT .any e&&e.on==j|none=>false
end Qp
namespace Qp
variable {P:oV}{ops:Array oM}
section rules
variable {a0:oy}{FS:Ghost->mr->Value->World->Prop}{B:Nat}{w00:World}{cs:List (List Stage)}{i:Nat}{o:oM}
def behind (ops:Array oM)(i:Nat):Option Nat->Bool
 | none=>true
 | some j=>edge ops i j
end rules
end Qp
namespace Qp
variable {L:List (Nat×vd)}{ops:Array oM}{w0:World}{o:oM}{P:oV}
theorem l_loadV (x:py)(p:px)(T:oD)(v:Value)(e:o.op=.load T x)(j:Has ops (xE L) o x (.pointer (some p)))(d:∀w,qz w0 w->(loadVar T p).run P w=.ok v w)(hd:FD L o.dst=.val v):RunOk P ops (xE L) w0 o :=
 l_run1W x (.val v) _ j (λρ w c h=>⟨v,w,by simp only[oB,e,h,Instr.loadAt,Instr.sureAddr,oY,oU,oO,d w c],qz.refl _,rfl⟩) hd
theorem l_s2a (x:py)(g q n c:Nat)(hn:64<=n)(e:o.op=.sliceToArrayPointer 317 x)(j:Has ops (xE L) o x (.slice (some ⟨g,q,none⟩) n c))(hd:FD L o.dst=.val (.pointer (some ⟨g,q,none⟩))):RunOk Y3 ops (xE L) w0 o:=by
 refine run1 x j (λρ w h => ?_) λ_=>fsd hd rfl
 have d:¬ n<64:=by omega
 simp[oB,e,h,go_sem,Instr.arrayAt,om underlying317,pv,d]
theorem l_eqArr (x y:py)(T:oD)(xs c:Y4)(q:xs.length=64)(u:c.length=64)(e:o.op=.binOp .eql 317 x y T)(j:Has ops (xE L) o x (.agg (xs.map b8).toArray))(s:Has ops (xE L) o y (.agg (c.map b8).toArray))(hd:FD L o.dst=.val (.bool (xs==c))):RunOk Y3 ops (xE L) w0 o:=by
 refine run2 x y j s (λρ w h1 h2 => ?_) λ_=>fsd hd rfl
 have h:(binOp .eql 317 (.agg (xs.map b8).toArray) (.agg (c.map b8).toArray)).run Y3 w=.ok (.bool (xs==c)) w :=
  run_eql_bytes w 317 5 64 underlying317 underlying5 (λw=>by simp[go_sem]) xs c q u
 have d:Y3.eqGuardType Y3.depth 317=false:=by kernel_rfl
 simp only[oB,e,h1,h2,oY,run_eqGuard_agg w .eql 317 x y _ _ d,oO,h,oU]
end Qp
namespace Qp
inductive GFact where
 | val (v:Value)
 | any
 | gp (p:Ghost->Value->World->Prop) (h1:∀g v w w',p g v w->qz w w'->p g v w') (h2:∀g k gb v w w',Lt g w->w.grownBy w' (g k)->(gb=g k∨∀b,gb=some b->w.heap.size<=b)->p g v w->p (upd g k gb) v w')
def resX (l:Y4)(g:Ghost)(v:Value)(w:World):Prop:=∃A c,v=.slice A l.length c/\qq w w.heap.size A c l/\∀ad,A=some ad->ad.block<w.heap.size/\∀k,g k≠some ad.block
theorem resX_grow (l:Y4):∀g v w w',resX l g v w->qz w w'->resX l g v w':=by
 rintro g v w w' ⟨A,c,rfl,h,ha⟩ d;exact⟨A,c,rfl,(h.below d).more d.size,λj e=>⟨zO (ha j e).1 d.size,(ha j e).2⟩⟩
theorem resX_stage (l:Y4):∀g k gb v w w',Lt g w->w.grownBy w' (g k)->(gb=g k∨∀b,gb=some b->w.heap.size<=b)->resX l g v w->resX l (upd g k gb) v w':=by
 rintro g k gb v w w' I s q ⟨A,c,rfl,h,ha⟩;refine⟨A,c,rfl,⟨h.le,h.max,h.nil,λF => ?_⟩,λd e=>⟨zO (ha d e).1 s.size,λj => ?_⟩⟩
 ·obtain⟨b,o,u,C,hc⟩:=h.rC F;refine⟨b,o,u,zO C s.size,λj G => ?_⟩;rw[<-hc j G];exact oG (s.block b C (λe=>(ha _ u).2 k e.symm))
 ·unfold upd;split
  ·rcases q with rfl|q
   ·exact(ha d e).2 k
   ·intro E;have H:=q _ E;have:=(ha d e).1;omega
  ·exact(ha d e).2 j
abbrev GFact.res (l:Y4):GFact:=.gp (resX l) (resX_grow l) (resX_stage l)
section rules
variable {ops:Array oM}{a0:oy}{GL:List (Nat×GFact)}{B:Nat}{w00:World}{cs:List (List Stage)}{i:Nat}{o:oM}{P:oV}
end rules
end Qp
namespace Qp
variable {P:oV}{ops:Array oM}
def tailOk (ops:Array oM)(m:Nat):Bool:=(dv ops.size).all λi=>decide (i<m)||(dv i).all λj=>edge ops i j
theorem tail_edge {m i j:Nat}(h:tailOk ops m=true)(c:i<ops.size)(e:m<=i)(d:j<i):edge ops i j=true:=by
 unfold tailOk at h;rw[yC] at h;have:=h i (by simpa using c);simp only[Bool.or_eq_true,decide_eq_true_eq,yC] at this;rcases this with h|h
 ·omega
 ·exact h j (by simpa using d)
theorem listed_of_edge {i j:Nat}{o:oM}{listed:Array Bool}(c:edge ops i j=true)(s:ops[i]?=some o)(h:∀e∈o.after.toList,oT .any e=true->listed.getD e.on false=true):listed.getD j false=true:=by
 simp only[edge,s,List.any_eq_true,oZ,beq_iff_eq] at c;obtain⟨e,q,d,rfl⟩:=c;exact h e q d
def StepQ (P:oV)(ops:Array oM)(Q:nF->oy->World->Prop)(Inv:Array Bool->oy->World->Prop)(i:Nat)(o:oM):Prop :=
 ∀(listed:Array Bool) (a:oy) (w:World) (K:oy->World->Prop),listed.size=ops.size->listed.getD i true=false->(∀e∈o.after.toList,oT .any e=true->listed.getD e.on false=true) ->
  Inv listed a w->(∀a' w',Inv (listed.setIfInBounds i true) a' w'->K a' w') ->
  (if og o (mR ops a.tmps) then o.wp P a w K Q∨(o.asks P a w/\LetsOut Q) else K (a.put o.dst ou) w)
theorem region_invQ (O:P.follows .mixedOrders=true)(H:backs ops=true){W:Nat}{a0:oy}{w0:World}{Q:nF->oy->World->Prop}(Inv:Array Bool->oy->World->Prop)
  (E:Inv (dO ops.size false) a0 w0.drew) (U:∀i o,ops[i]?=some o->StepQ P ops Q Inv i o)
  (M:∀listed a w,listed.size=ops.size->(∀i,i<ops.size->listed.getD i true=true)->Inv listed a w->Q .normal a w) :
  (gF W ops true).wp P Q a0 w0:=by
 refine wp_region_any O ?_;have key:∀(d:Nat) (listed:Array Bool) (a:oy) (w:World),listed.size=ops.size->left listed<=d->Inv listed a w->wpAny P .any ops Q d listed a w:=by
  intro d;have A:∀(listed:Array Bool) (a:oy) (w:World),listed.size=ops.size->Inv listed a w->oP .any ops listed=[]->Q .normal a w:=by
   intro listed a w hs h q;refine M listed a w hs ?_ h;intro i
   induction i using Nat.strongRecOn with
   | _ i ih =>
    intro j;cases hl:listed.getD i true with
    | true=>rfl
    | false =>
     exfalso;have:i∈oP .any ops listed:=by
      unfold oP;simp only[yB,List.mem_range,oZ,Bool.not_eq_true'];refine⟨j,hl,?_⟩;have c:ops[i]?=some ops[i]:=dE j;simp only[c,Option.map_some,Option.getD_some];rw[Array.all_eq_true_iff_forall_mem];intro e I;have hc:=backs_spec H c e (Array.mem_toList_iff.2 I);cases G:oT .any e with
      | false=>simp
      | true =>
       have N:=hc G;have h1:=ih e.on N (by omega);have h2:e.on<listed.size:=by omega
       simp only[dZ,h2,dif_pos] at h1 ⊢;simpa using h1
     rw[q] at this;cases this
  induction d with
  | zero =>
   intro listed a w hs hf h;have q:oP .any ops listed=[]:=by
    rcases q:oP .any ops listed with _|⟨i,r⟩
    ·rfl
    ·exfalso;obtain⟨o,c,hl,_⟩:=ready_mem (ops:=ops) (listed:=listed) (i:=i) (by rw[q];simp);have j:i<listed.size:=by rw[hs];exact(zK.1 c).1
     have S:listed[i]∈listed.toList.filter (! ·):=by
      rw[yB];refine⟨by simp,?_⟩;have v:listed[i]=false:=by simpa[dZ,j] using hl
      simp[v]
     have:0<left listed:=List.length_pos_of_mem S;omega
   exact⟨q,A listed a w hs h q⟩
  | succ d ih =>
   intro listed a w hs hf h;refine⟨A listed a w hs h,λi j => ?_⟩;obtain⟨o,c,hl,K⟩:=ready_mem j;have u:i<listed.size:=by rw[hs];exact(zK.1 c).1
   have T:∀s w',Inv (listed.setIfInBounds i true) s w'->wpAny P .any ops Q d (listed.setIfInBounds i true) s w':=by
    intro s w' V;refine ih _ _ _ (by simpa using hs) ?_ V;have v:listed[i]=false:=by simpa[dZ,u] using hl
    have:left (listed.setIfInBounds i true)<left listed:=by
     unfold left;rw[Array.toList_setIfInBounds];have C:listed.toList=listed.toList.take i++false::listed.toList.drop (i+1):=by
      have F:listed.toList[i]'(by simpa using u)=false:=by simpa using v
      conv=>lhs;rw[<-qJ i listed.toList,qR (by simpa using u),F]
     rw[List.set_eq_take_append_cons_drop,if_pos (by simpa using u)]
     conv=>rhs;rw[C]
     simp
    omega
   have:=U i o c listed a w (λs w'=>wpAny P .any ops Q d (listed.setIfInBounds i true) s w') hs hl K h T;unfold wpOp;simp only[c];exact this
 refine key ops.size _ a0 _ (by simp) ?_ E;unfold left;simp
def Rest (P:oV)(ops:Array oM)(Q:nF->oy->World->Prop)(i:Nat)(a:oy)(w:World):Prop:=df P ops Q (ops.toList.drop i) a w
theorem region_tail (hm:P.follows .mixedOrders=true)(aO:backs ops=true){id:Nat}{a0:oy}{w0:World}{Q:nF->oy->World->Prop}(n:Nat)(hn:a0.tmps.size=n)(aA:ZY ops n=true)(m:Nat)(a6:m<=ops.size)(ht:tailOk ops m=true)(aH:((ops.toList.drop m).all λo=>o.guard.isNone)=true)(D:List Nat)(X:dstsAre (ops.extract 0 m) D=true)
  (FS:mr->Value->World->Prop) (aM:∀t v w w',FS t v w->qz w w'->FS t v w') (aE:(ops.toList.take m).all (λo=>(o.looksAt ops).all (ahead ops o))=true)
  (a2:∀t,(∀o∈ops.toList.take m,o.dst≠some t)->FS t (a0.eval (.tmp t)) w0) (aX:AllOk P ops FS w0 (ops.toList.take m))
  (aR:∀a w,a.tmps.size=n->a.defers=a0.defers->qz w0 w->(∀t,FS t (a.eval (.tmp t)) w)->(∀t,D.contains t=false->a.eval (.tmp t)=a0.eval (.tmp t))->Rest P ops Q m a w) :
  (gF id ops true).wp P Q a0 w0:=by
 have aQ:∀o∈ops.toList,∀d,o.dst=some d->d<n:=by intro o u d hd;unfold ZY at aA;rw[yC] at aA;have:=aA o u;simpa[hd] using this
 have aN:∀(i:Nat) (o:oM),i<m->ops[i]?=some o->∀d,o.dst=some d->D.contains d=true:=by
  intro i o I u d hd;unfold dstsAre at X;rw[yC] at X;have E:o∈(ops.extract 0 m).toList:=by
   simp only[Array.toList_extract,List.extract_eq_take_drop,ga,Nat.sub_zero];have:(ops.toList.take m)[i]?=some o:=by rw[yH,if_pos I];simpa using u
   exact dz this
  have:=X o E;simpa[hd] using this
 let J1:Array Bool->oy->World->Prop:=λlisted a w=>a.tmps.size=n/\a.defers=a0.defers/\qz w0 w/\(∀t,(∀(j:Nat) (p:oM),j<m->ops[j]?=some p->p.dst=some t->listed.getD j true=true)->FS t (a.eval (.tmp t)) w)/\(∀t,D.contains t=false->a.eval (.tmp t)=a0.eval (.tmp t))
 let Inv:Array Bool->oy->World->Prop:=λlisted a w=>((∀j,m<=j->j<ops.size->listed.getD j true=false)/\J1 listed a w)∨∃i,m<i/\i<=ops.size/\(∀j,j<i->listed.getD j true=true)/\(∀j,i<=j->j<ops.size->listed.getD j true=false)/\Rest P ops Q i a w
 have aL:∀listed a w,(∀j,j<m->listed.getD j true=true)->J1 listed a w->Rest P ops Q m a w:=by rintro listed a w A ⟨h1,h2,M,N,O⟩;exact aR a w h1 h2 M (λt=>N t λj p s _ _=>A j s) O
 refine region_invQ hm aO Inv ?_ ?_ ?_
 ·left;refine⟨λj _ s=>by simp[dZ,s],hn,rfl,qz.drew w0,?_,λ_ _=>rfl⟩;intro t ht;refine aM t _ w0 _ (a2 t ?_) (qz.drew w0);intro o u hd;obtain⟨i,hi,rfl⟩:=yG u;have aB:i<m/\i<ops.size:=by simp at hi;omega
  have:=ht i ops[i] aB.1 (dE aB.2) (by simpa using hd);simp[dZ,aB.2] at this
 ·intro i o u listed a w K hs hl aF aD hK;have aJ:i<ops.size:=(zK.1 u).1;have aT:i<listed.size:=by omega
  have aY:o∈ops.toList:=dz (by simpa using u);have aG:∀j,j<ops.size->(listed.getD j true=true↔listed.getD j false=true):=by
   intro j s;have:j<listed.size:=by omega
   simp[dZ,this]
  have V:∀j,j<ops.size->j≠i->(listed.setIfInBounds i true).getD j true=listed.getD j true:=by intro j _ aC;simp[zV,Ne.symm aC]
  have a1:(listed.setIfInBounds i true).getD i true=true:=by simp[zV,aT]
  by_cases I:i<m
  ·rcases aD with⟨F,h1,h2,M,N,O⟩|⟨q,hq,_,A,_⟩
   ·have aU:∀t,(o.looksAt ops).contains t=true->FS t (a.eval (.tmp t)) w:=by
     intro t a4;refine N t ?_;intro j p s C hd;have E:o∈ops.toList.take m:=by
      have:(ops.toList.take m)[i]?=some o:=by rw[yH,if_pos I];simpa using u
      exact dz this
     rw[yC] at aE;have h6:=aE o E;rw[yC] at h6;obtain⟨e,he,hb,rfl⟩:=ahead_spec (h6 t (by simpa using a4)) C hd;rw[aG _ (zK.1 C).1];exact aF e he hb
    have E:o∈ops.toList.take m:=by
     have:(ops.toList.take m)[i]?=some o:=by rw[yH,if_pos I];simpa using u
     exact dz this
    refine AllOk.get aX o E a w K Q M aU ?_;intro v w' U hv;refine hK _ w' (.inl ⟨?_,?_,?_,M.trans U,?_,?_⟩)
    ·intro j aW s;rw[V j s (by omega)];exact F j aW s
    ·cases hd:o.dst with
     | none=>simpa[pj] using h1
     | some d=>simpa[pj] using h1
    ·cases hd:o.dst with
     | none=>simpa[pj] using h2
     | some d=>simpa[pj] using h2
    ·intro t a3
     by_cases T:o.dst=some t
     ·rw[T] at hv ⊢;rw[eval_put_same (by rw[h1];exact aQ o aY t T)];exact hv
     ·have:=aM t _ w w' (N t λj p s C hd=>by
       have h7:=a3 j p s C hd;have aC:j≠i:=by
        intro e;subst e;rw[u] at C;injection C with C
        subst C;exact T hd
       rw[V j (zK.1 C).1 aC] at h7
       exact h7) U
      cases hd:o.dst with
      | none=>simpa[pj] using this
      | some d =>
       rw[eval_put_other (by intro e;subst e;exact T hd)];exact this
    ·intro t W;cases hd:o.dst with
     | none=>simpa[pj] using O t W
     | some d =>
      rw[eval_put_other (by intro e;subst e;rw[aN i o I u t hd] at W;cases W)];exact O t W
   ·exfalso;rw[A i (by omega)] at hl;cases hl
  ·have aV:m<=i:=by omega
   have S:∀j,j<i->listed.getD j true=true:=by intro j s;rw[aG j (by omega)];exact listed_of_edge (tail_edge ht aJ aV s) u aF
   have c:Rest P ops Q i a w/\(∀j,i<=j->j<ops.size->listed.getD j true=false):=by
    rcases aD with⟨F,Z⟩|⟨q,hq,aZ,A,G,c⟩
    ·have:i=m:=by
      rcases nG m i with h|h
      ·have H:=S m h;rw[F m (zG _) (by omega)] at H;cases H
      ·omega
     subst this;exact⟨aL listed a w S Z,F⟩
    ·have:i=q:=by
      rcases Nat.lt_trichotomy i q with h|h|h
      ·rw[A i h] at hl;cases hl
      ·exact h
      ·have H:=S q h;rw[G q (zG _) (by omega)] at H;cases H
     subst this;exact⟨c,G⟩
   obtain⟨c,G⟩:=c;have aP:ops.toList.drop i=o::ops.toList.drop (i+1):=by
    have aI:i<ops.toList.length:=by simpa using aJ
    rw[qR aI];congr 1;have:ops.toList[i]?=some o:=by simpa using u
    rw[zM aI] at this;injection this
   unfold Rest at c;rw[aP] at c;have aS:o.guard=none:=by
    rw[yC] at aH;have E:o∈ops.toList.drop m:=by
     have:(ops.toList.drop m)[i-m]?=some o:=by rw[List.getElem?_drop,show m+(i-m)=i from by omega];simpa using u
     exact dz this
    have:=aH o E;cases U:o.guard with
    | none=>rfl
    | some x=>rw[U] at this;cases this
   have hw:og o (mR ops a.tmps)=true:=by simp[og,aS]
   simp only[df,hw,if_true] at c;rw[if_pos hw];refine Or.imp ?_ (λx=>x) c;refine Oper.wp_mono ?_;intro a' w' h9;refine hK a' w' (.inr ⟨i+1,by omega,by omega,?_,?_,h9⟩)
   ·intro j s
    by_cases e:j=i
    ·subst e;exact a1
    ·rw[V j (by omega) e];exact S j (by omega)
   ·intro j s aK;rw[V j aK (by omega)];exact G j (by omega) aK
 ·rintro listed a w hs A (⟨F,Z⟩|⟨q,hq,aZ,a5,G,c⟩)
  ·have c:=aL listed a w (λj s=>A j (by omega)) Z;rcases nG m ops.size with h|h
   ·have:=A m h;rw[F m (zG _) h] at this;cases this
   ·unfold Rest at c;rw[dm (by simpa using h)] at c;exact c
  ·rcases nG q ops.size with h|h
   ·have:=A q h;rw[G q (zG _) h] at this;cases this
   ·unfold Rest at c;rw[dm (by simpa using h)] at c;exact c
theorem region_tail_facts (A:P.follows .mixedOrders=true)(q:backs ops=true){G:Nat}{a0:oy}{w0:World}{Q:nF->oy->World->Prop}(n:Nat)(hn:a0.tmps.size=n)(s:ZY ops n=true)(m:Nat)(C:m<=ops.size)(ht:tailOk ops m=true)(v:((ops.toList.drop m).all λo=>o.guard.isNone)=true)(D:List Nat)(c:dstsAre (ops.extract 0 m) D=true)
  (V W:List (Nat×vd)) (d:StartOk a0 w0 V) (e:(W.all λp=>KC (ops.extract 0 m) p.1)=true) (j:(ops.toList.take m).all (λo=>(o.looksAt ops).all (ahead ops o))=true) (F:AllOk P ops (xE (V++W)) w0 (ops.toList.take m))
  (u:∀a w,a.tmps.size=n->a.defers=a0.defers->qz w0 w->(∀t,xE (V++W) t (a.eval (.tmp t)) w)->(∀t,D.contains t=false->a.eval (.tmp t)=a0.eval (.tmp t))->Rest P ops Q m a w) :
  (gF G ops true).wp P Q a0 w0:=by
 refine region_tail A q n hn s m C ht v D c (xE (V++W)) (xE.rN _) j ?_ F u;intro t h;refine start_fact (ops:=ops.extract 0 m) V W d e t ?_;intro o E;refine h o ?_;simpa[Array.toList_extract,List.extract_eq_take_drop] using E
end Qp
namespace Qp
variable {L:List (Nat×vd)}{ops:Array oM}{w0:World}{o:oM}
theorem l_build6 (t1 c t3 t4 t5 d:mr)(e h j q s u:Y4)(ho:o.op=.buildSlice 142 6 #[(0,.tmp t1),(1,.tmp c),(2,.tmp t3),(3,.tmp t4),(4,.tmp t5),(5,.tmp d)])
  (c1:(o.looksAt ops).contains t1=true) (c2:(o.looksAt ops).contains c=true) (c3:(o.looksAt ops).contains t3=true) (Z:(o.looksAt ops).contains t4=true) (c5:(o.looksAt ops).contains t5=true) (c6:(o.looksAt ops).contains d=true)
  (f1:qu L t1=.res e) (f2:qu L c=.res h) (f3:qu L t3=.res j) (f4:qu L t4=.res q) (f5:qu L t5=.res s) (f6:qu L d=.res u) (hd:FD L o.dst=.pred (xN [e,h,j,q,s,u]) (xi _)):RunOk Y3 ops (xE L) w0 o:=by
 intro a w K Q hG hl hK;have O:(qu L t1).holds (a.eval (.tmp t1)) w:=hl t1 c1;have S:(qu L c).holds (a.eval (.tmp c)) w:=hl c c2;have T:(qu L t3).holds (a.eval (.tmp t3)) w:=hl t3 c3;have U:(qu L t4).holds (a.eval (.tmp t4)) w:=hl t4 Z;have V:(qu L t5).holds (a.eval (.tmp t5)) w:=hl t5 c5;have W:(qu L d).holds (a.eval (.tmp d)) w:=hl d c6;rw[f1] at O;obtain⟨v,k1,e1,h1⟩:=O;rw[f2] at S;obtain⟨A,k2,e2,h2⟩:=S;rw[f3] at T;obtain⟨C,k3,e3,H⟩:=T;rw[f4] at U;obtain⟨E,k4,e4,I⟩:=U;rw[f5] at V;obtain⟨F,k5,e5,M⟩:=V;rw[f6] at W;obtain⟨G,k6,e6,N⟩:=W
 have hN:=xN.new (w:=w) [((v,k1),e),((A,k2),h),((C,k3),j),((E,k4),q),((F,k5),s),((G,k6),u)] (by
  intro x X;simp only[qM,List.not_mem_nil,or_false] at X;rcases X with rfl|rfl|rfl|rfl|rfl|rfl
  ·exact h1
  ·exact h2
  ·exact H
  ·exact I
  ·exact M
  ·exact N)
 have key:∀ρ:py->Value,ρ (.tmp t1)=.slice v e.length k1->ρ (.tmp c)=.slice A h.length k2->ρ (.tmp t3)=.slice C j.length k3->ρ (.tmp t4)=.slice E q.length k4->ρ (.tmp t5)=.slice F s.length k5->ρ (.tmp d)=.slice G u.length k6 ->
   (oB ρ o).run Y3 w=.ok (.value (.slice (some ⟨w.heap.size,0,none⟩) 6 6)) (w.alloc (.cells #[.slice v e.length k1,.slice A h.length k2,.slice C j.length k3,.slice E q.length k4,.slice F s.length k5,.slice G u.length k6] 129)) :=
  λρ h1 h2 H I M N=>by simp[oB,ho,h1,h2,H,I,M,N,go_sem,pv]
 unfold de;rw[key _ e1 e2 e3 e4 e5 e6];exact hK _ _ (qz.alloc _ _) (fsd hd hN)
theorem l_callVP {P:oV}(f:FuncId)(x:py)(t:mr)(v1:Value)(p:Value->World->Prop)(G:∀v w w',p v w->qz w w'->p v w')(M:Array oD)(F:o.op=.call {callee:=.value (.func f),args:=#[x,.tmp t],argTypes:=M})(C:∀args w,(callFunc f args).run P w=.ok (.enter f args) w)
  (g:vd) (I:Has ops (xE L) o x v1) (hc:(o.looksAt ops).contains t=true) (hF:qu L t=.pred p G)
  (q:∀w u,qz w0 w->p u w->pr P f #[v1,u] w λe w'=>∃v,e=Y0 v/\qz w w'/\g.holds v w') (hd:FD L o.dst=g):RunOk P ops (xE L) w0 o:=by
 intro a w K Q s hl A;have c:(qu L t).holds (a.eval (.tmp t)) w:=hl t hc;rw[hF] at c;have d:=I a w hl;have H:(oB a.eval o).run P w=.ok (.enter f #[v1,a.eval (.tmp t)]) w:=by have j:a.eval (.func f)=.func (.func f) #[] #[]:=rfl;have h:=C #[v1,a.eval (.tmp t)] w;simp[oB,F,resolve,d,j,nh,invoke,h]
 unfold de;rw[H,Oper.upon_enter];refine(q w _ s c).mono ?_;rintro e w' ⟨v,rfl,E,hf⟩;exact A v w' E (fsd hd hf)
theorem l_runP (t:mr)(y:py)(p:Value->World->Prop)(q:∀v w w',p v w->qz w w'->p v w')(d:Value)(g:vd)(hc:(o.looksAt ops).contains t=true)(hF:qu L t=.pred p q)(u:Has ops (xE L) o y d){P:oV}
  (s:∀(ρ:py->Value) (w:World),qz w0 w->p (ρ (.tmp t)) w->ρ y=d->∃r w',(oB ρ o).run P w=.ok (.value r) w'/\qz w w'/\g.holds r w') (hd:FD L o.dst=g):RunOk P ops (xE L) w0 o:=by
 intro a w K Q h hl j;have c:(qu L t).holds (a.eval (.tmp t)) w:=hl t hc;rw[hF] at c;obtain⟨r,w',h1,h2,e⟩:=s a.eval w h c (u a w hl);unfold de;rw[h1];exact j r w' h2 (fsd hd e)
def FlagFn (f:Bool)(v:Value)(w:World):Prop:=∃g,v=.func (.func 331) #[] #[.pointer (some ⟨g,0,none⟩)]/\za w g 5 #[.int .u8 (((if f then 1 else 0:UInt8)).toNat:Int)]
theorem flagFn_stable (f:Bool):∀v w w',FlagFn f v w->qz w w'->FlagFn f v w':=by
 rintro v w w' ⟨g,rfl,h⟩ c;exact⟨g,rfl,h.below c h.lt⟩
theorem flagsAt_stable:∀v w w',Qf w v->qz w w'->Qf w' v:=λ_ _ _ h c=>h.below c
theorem run_flag (f:Bool){ρ:py->Value}{w:World}{t:mr}{y:py}(c:o.op=.lookup 371 (.tmp t) y false)(h:Qf w (ρ (.tmp t)))(e:ρ y=.bool f):∃r,(oB ρ o).run Y3 w=.ok (.value r) w/\FlagFn f r w:=by
 obtain⟨r,j,q,clock,d,h1,h2,s⟩:=h;cases f with
 | false =>
  have:=RC (P:=Y3) underlying371 underlying4 (KX false) h1 (i:=0) rfl;exact⟨_,by simp[oB,c,d,e,this,pv],j,rfl,h2⟩
 | true =>
  have:=RC (P:=Y3) underlying371 underlying4 (KX true) h1 (i:=1) rfl;exact⟨_,by simp[oB,c,d,e,this,pv],q,rfl,s⟩
theorem l_callFlag (f:Bool)(t:mr)(C:Array oD)(s:o.op=.call {callee:=.value (.tmp t),args:=#[],argTypes:=C})(hc:(o.looksAt ops).contains t=true)(hF:qu L t=.pred (FlagFn f) (flagFn_stable f))(hd:FD L o.dst=.res [if f then 1 else 0]):RunOk Y3 ops (xE L) w0 o:=by
 intro a w K Q E hl d;have c:(qu L t).holds (a.eval (.tmp t)) w:=hl t hc;rw[hF] at c;obtain⟨g,A,j⟩:=c;have u:(oB a.eval o).run Y3 w=.ok (.enter 331 #[.pointer (some ⟨g,0,none⟩)]) w:=by have h:=dj func331 (by kernel_rfl) rfl #[.pointer (some ⟨g,0,none⟩)] w;simp[oB,s,resolve,A,nh,invoke,h]
 unfold de;rw[u,Oper.upon_enter];refine(gives_res (Rf w g _ j)).mono ?_;rintro e w' ⟨v,rfl,q,hf⟩;exact d v w' q (fsd hd hf)
end Qp
theorem TV (e i p z n:Nat)(f:Bool)(A:Y5)(k:Nat)(y:Y4)(w:World)(hi:i<=2000)(hp:p<=2000)(hz:z<=2000)(aK:qq w w.heap.size A k y)(hy:y.length=512):pr Y3 239 #[.agg (zq e i p f z n A y.length k)] w λx w'=>x=.returned (.agg ((vY (Qx e i p f z n) y).map b8).toArray)/\ph w.heap.size w w':=by
 have W:=Qo i (by omega);have aA:=Qo p (by omega);have aD:=Qo z (by omega);have d:=(za.new w 261 (zq e i p f z n A y.length k)).alloc (.cells Yq 317);have s:=za.new (w.alloc (.cells (zq e i p f z n A y.length k) 261)) 317 Yq;rw[pq] at s;have q:ph w.heap.size w ((w.alloc (.cells (zq e i p f z n A y.length k) 261)).alloc (.cells Yq 317)):=((pf _ w).alloc (zG _) _).alloc (by simp) _;unfold zq at *;have aF:=pk hy;clear hy
 go_enter func239,ntmps239
 go_wp2_with fail
 generalize (w.alloc (.cells #[.int .u64 (e:Int),.int .i64 (i:Int),.int .i64 (p:Int),.bool f,.int .i64 (z:Int),.int .u32 (n:Int),.slice A y.length k] 261)).alloc (.cells Yq 317)=j at *;have K:∀w',qz j w'->w'.cell? ⟨w.heap.size,0,none⟩=some (.int .u64 e):=λw' c=>(c.cell (p:=⟨w.heap.size,0,none⟩) d.lt).trans (by rw[d.cell];rfl)
 have M:∀w',qz j w'->w'.cell? ⟨w.heap.size,1,none⟩=some (.int .i64 i):=λw' c=>(c.cell (p:=⟨w.heap.size,1,none⟩) d.lt).trans (by rw[d.cell];rfl)
 have N:∀w',qz j w'->w'.cell? ⟨w.heap.size,2,none⟩=some (.int .i64 p):=λw' c=>(c.cell (p:=⟨w.heap.size,2,none⟩) d.lt).trans (by rw[d.cell];rfl)
 have O:∀w',qz j w'->w'.cell? ⟨w.heap.size,3,none⟩=some (.bool f):=λw' c=>(c.cell (p:=⟨w.heap.size,3,none⟩) d.lt).trans (by rw[d.cell];rfl)
 have S:∀w',qz j w'->w'.cell? ⟨w.heap.size,4,none⟩=some (.int .i64 z):=λw' c=>(c.cell (p:=⟨w.heap.size,4,none⟩) d.lt).trans (by rw[d.cell];rfl)
 have T:∀w',qz j w'->w'.cell? ⟨w.heap.size,5,none⟩=some (.int .u32 n):=λw' c=>(c.cell (p:=⟨w.heap.size,5,none⟩) d.lt).trans (by rw[d.cell];rfl)
 have U:∀w',qz j w'->w'.cell? ⟨w.heap.size,6,none⟩=some (.slice A y.length k):=λw' c=>(c.cell (p:=⟨w.heap.size,6,none⟩) d.lt).trans (by rw[d.cell];rfl)
 have X:=(aK.below q).more q.size;have Z:∀w' u,qz j w'->xN [zx 8 e,zx 4 i,zx 4 p,[if f then 1 else 0],zx 4 z,zx 4 n] u w'->pr Y3 299 #[.slice A y.length k,u] w' λx w2=>x=.returned (.agg ((vY [zx 8 e,zx 4 i,zx 4 p,[if f then 1 else 0],zx 4 z,zx 4 n].flatten y).map b8).toArray)/\ph w'.heap.size w' w2:=λw' u c hu =>
  La w' A k y _ u ((X.below c).more c.size) hu (by simp) (QZ e i p f z n) (by rw[aF.out];omega)
 open Qp in
 refine region_tail_facts (by kernel_rfl) (by kernel_rfl) 30 rfl (by kernel_rfl) 27 (by decide) (by kernel_rfl) (by kernel_rfl) [3,4,5,6,7,8,9,10,11,12,13,14,15,16,17,18,19,20,21,22,23,24,25,26,27,28,29] (by kernel_rfl)
  [(1,.val (.pointer (some ⟨w.heap.size,0,none⟩)))]
  [(3,.val (.pointer (some ⟨w.heap.size,6,none⟩))),(4,.val (.slice A y.length k)),(5,.val (.pointer (some ⟨w.heap.size,0,none⟩))),(6,.val (.int .u64 (e:Int))),(7,.res (zx 8 e)),(8,.val (.pointer (some ⟨w.heap.size,1,none⟩))),(9,.val (.int .i64 (i:Int))),(10,.val (.int .u32 (i:Int))),(11,.res (zx 4 i)),(12,.val (.pointer (some ⟨w.heap.size,2,none⟩))),(13,.val (.int .i64 (p:Int))),(14,.val (.int .u32 (p:Int))),(15,.res (zx 4 p)),(16,.pred ((λv w=>Qf w v)) (flagsAt_stable)),(17,.val (.pointer (some ⟨w.heap.size,3,none⟩))),(18,.val (.bool f)),(19,.pred (FlagFn f) (flagFn_stable f)),(20,.res ([if f then 1 else 0])),(21,.val (.pointer (some ⟨w.heap.size,4,none⟩))),(22,.val (.int .i64 (z:Int))),(23,.val (.int .u32 (z:Int))),(24,.res (zx 4 z)),(25,.val (.pointer (some ⟨w.heap.size,5,none⟩))),(26,.val (.int .u32 (n:Int))),(27,.res (zx 4 n)),(28,.pred (xN [zx 8 e,zx 4 i,zx 4 p,[if f then 1 else 0],zx 4 z,zx 4 n]) (xi _)),(29,.val (.agg ((vY [zx 8 e,zx 4 i,zx 4 p,[if f then 1 else 0],zx 4 z,zx 4 n].flatten y).map b8).toArray))]
  ⟨rfl,trivial⟩ (by kernel_rfl) (by kernel_rfl)
  (allOk_cons (ok_none rfl (l_run1 (.tmp 1) (.pointer (some ⟨w.heap.size,0,none⟩)) (.pointer (some ⟨w.heap.size,6,none⟩)) (hs 1 _ (by kernel_rfl) (by kernel_rfl)) (λρ w h=>by simp[oB,h,go_sem,pv]) (by kernel_rfl)))
  <| allOk_cons (ok_none rfl (l_load (.tmp 3) (⟨w.heap.size,6,none⟩) _ (.slice A y.length k) (by intro w;simp[go_sem]) rfl (hs 3 (.pointer (some ⟨w.heap.size,6,none⟩)) (by kernel_rfl) (by kernel_rfl)) (λw c=>U w c) (by kernel_rfl)))
  <| allOk_cons (ok_none rfl (l_run1 (.tmp 1) (.pointer (some ⟨w.heap.size,0,none⟩)) (.pointer (some ⟨w.heap.size,0,none⟩)) (hs 1 _ (by kernel_rfl) (by kernel_rfl)) (λρ w h=>by simp[oB,h,go_sem,pv]) (by kernel_rfl)))
  <| allOk_cons (ok_none rfl (l_load (.tmp 5) (⟨w.heap.size,0,none⟩) _ (.int .u64 (e:Int)) (by intro w;simp[go_sem]) rfl (hs 5 (.pointer (some ⟨w.heap.size,0,none⟩)) (by kernel_rfl) (by kernel_rfl)) (λw c=>K w c) (by kernel_rfl)))
  <| allOk_cons (ok_none rfl (l_call 290 _ _ rfl (dj func290 (by kernel_rfl) rfl) #[.int .u64 (e:Int)] (.res (zx 8 e)) (args1 (hs 6 (.int .u64 (e:Int)) (by kernel_rfl) (by kernel_rfl))) (λw c=>gives_res (ZX e w)) (by kernel_rfl)))
  <| allOk_cons (ok_none rfl (l_run1 (.tmp 1) (.pointer (some ⟨w.heap.size,0,none⟩)) (.pointer (some ⟨w.heap.size,1,none⟩)) (hs 1 _ (by kernel_rfl) (by kernel_rfl)) (λρ w h=>by simp[oB,h,go_sem,pv]) (by kernel_rfl)))
  <| allOk_cons (ok_none rfl (l_load (.tmp 8) (⟨w.heap.size,1,none⟩) _ (.int .i64 (i:Int)) (by intro w;simp[go_sem]) rfl (hs 8 (.pointer (some ⟨w.heap.size,1,none⟩)) (by kernel_rfl) (by kernel_rfl)) (λw c=>M w c) (by kernel_rfl)))
  <| allOk_cons (ok_none rfl (l_convS (.tmp 9) _ _ (.int .i64 (i:Int)) (.int .u32 (i:Int)) rfl (hs 9 (.int .i64 (i:Int)) (by kernel_rfl) (by kernel_rfl)) (λw c=>W w) (by kernel_rfl)))
  <| allOk_cons (ok_none rfl (l_call 82 _ _ rfl (dj func82 (by kernel_rfl) rfl) #[.int .u32 (i:Int)] (.res (zx 4 i)) (args1 (hs 10 (.int .u32 (i:Int)) (by kernel_rfl) (by kernel_rfl))) (λw c=>gives_res (xt i w)) (by kernel_rfl)))
  <| allOk_cons (ok_none rfl (l_run1 (.tmp 1) (.pointer (some ⟨w.heap.size,0,none⟩)) (.pointer (some ⟨w.heap.size,2,none⟩)) (hs 1 _ (by kernel_rfl) (by kernel_rfl)) (λρ w h=>by simp[oB,h,go_sem,pv]) (by kernel_rfl)))
  <| allOk_cons (ok_none rfl (l_load (.tmp 12) (⟨w.heap.size,2,none⟩) _ (.int .i64 (p:Int)) (by intro w;simp[go_sem]) rfl (hs 12 (.pointer (some ⟨w.heap.size,2,none⟩)) (by kernel_rfl) (by kernel_rfl)) (λw c=>N w c) (by kernel_rfl)))
  <| allOk_cons (ok_none rfl (l_convS (.tmp 13) _ _ (.int .i64 (p:Int)) (.int .u32 (p:Int)) rfl (hs 13 (.int .i64 (p:Int)) (by kernel_rfl) (by kernel_rfl)) (λw c=>aA w) (by kernel_rfl)))
  <| allOk_cons (ok_none rfl (l_call 82 _ _ rfl (dj func82 (by kernel_rfl) rfl) #[.int .u32 (p:Int)] (.res (zx 4 p)) (args1 (hs 14 (.int .u32 (p:Int)) (by kernel_rfl) (by kernel_rfl))) (λw c=>gives_res (xt p w)) (by kernel_rfl)))
  <| allOk_cons (ok_none rfl (l_call 300 _ _ rfl (dj func300 (by kernel_rfl) rfl) #[] (.pred ((λv w=>Qf w v)) (flagsAt_stable)) (λ_ _ _=>by simp) (λw c=>(TZ w).mono (λ_ _ ⟨v,he,h1,h2⟩=>⟨v,he,h2,h1⟩)) (by kernel_rfl)))
  <| allOk_cons (ok_none rfl (l_run1 (.tmp 1) (.pointer (some ⟨w.heap.size,0,none⟩)) (.pointer (some ⟨w.heap.size,3,none⟩)) (hs 1 _ (by kernel_rfl) (by kernel_rfl)) (λρ w h=>by simp[oB,h,go_sem,pv]) (by kernel_rfl)))
  <| allOk_cons (ok_none rfl (l_load (.tmp 17) (⟨w.heap.size,3,none⟩) _ (.bool f) (by intro w;simp[go_sem]) rfl (hs 17 (.pointer (some ⟨w.heap.size,3,none⟩)) (by kernel_rfl) (by kernel_rfl)) (λw c=>O w c) (by kernel_rfl)))
  <| allOk_cons (ok_none rfl (l_runP 16 (.tmp 18) _ flagsAt_stable (.bool f) (.pred (FlagFn f) (flagFn_stable f)) (by kernel_rfl) (by kernel_rfl) (hs 18 _ (by kernel_rfl) (by kernel_rfl)) (λρ w c h1 h2=>let ⟨r,q1,q2⟩:=run_flag f rfl h1 h2;⟨r,w,q1,qz.refl _,q2⟩) (by kernel_rfl)))
  <| allOk_cons (ok_none rfl (l_callFlag f 19 _ rfl (by kernel_rfl) (by kernel_rfl) (by kernel_rfl)))
  <| allOk_cons (ok_none rfl (l_run1 (.tmp 1) (.pointer (some ⟨w.heap.size,0,none⟩)) (.pointer (some ⟨w.heap.size,4,none⟩)) (hs 1 _ (by kernel_rfl) (by kernel_rfl)) (λρ w h=>by simp[oB,h,go_sem,pv]) (by kernel_rfl)))
  <| allOk_cons (ok_none rfl (l_load (.tmp 21) (⟨w.heap.size,4,none⟩) _ (.int .i64 (z:Int)) (by intro w;simp[go_sem]) rfl (hs 21 (.pointer (some ⟨w.heap.size,4,none⟩)) (by kernel_rfl) (by kernel_rfl)) (λw c=>S w c) (by kernel_rfl)))
  <| allOk_cons (ok_none rfl (l_convS (.tmp 22) _ _ (.int .i64 (z:Int)) (.int .u32 (z:Int)) rfl (hs 22 (.int .i64 (z:Int)) (by kernel_rfl) (by kernel_rfl)) (λw c=>aD w) (by kernel_rfl)))
  <| allOk_cons (ok_none rfl (l_call 82 _ _ rfl (dj func82 (by kernel_rfl) rfl) #[.int .u32 (z:Int)] (.res (zx 4 z)) (args1 (hs 23 (.int .u32 (z:Int)) (by kernel_rfl) (by kernel_rfl))) (λw c=>gives_res (xt z w)) (by kernel_rfl)))
  <| allOk_cons (ok_none rfl (l_run1 (.tmp 1) (.pointer (some ⟨w.heap.size,0,none⟩)) (.pointer (some ⟨w.heap.size,5,none⟩)) (hs 1 _ (by kernel_rfl) (by kernel_rfl)) (λρ w h=>by simp[oB,h,go_sem,pv]) (by kernel_rfl)))
  <| allOk_cons (ok_none rfl (l_load (.tmp 25) (⟨w.heap.size,5,none⟩) _ (.int .u32 (n:Int)) (by intro w;simp[go_sem]) rfl (hs 25 (.pointer (some ⟨w.heap.size,5,none⟩)) (by kernel_rfl) (by kernel_rfl)) (λw c=>T w c) (by kernel_rfl)))
  <| allOk_cons (ok_none rfl (l_call 82 _ _ rfl (dj func82 (by kernel_rfl) rfl) #[.int .u32 (n:Int)] (.res (zx 4 n)) (args1 (hs 26 (.int .u32 (n:Int)) (by kernel_rfl) (by kernel_rfl))) (λw c=>gives_res (xt n w)) (by kernel_rfl)))
  <| allOk_cons (ok_none rfl (l_build6 7 11 15 20 24 27 (zx 8 e) (zx 4 i) (zx 4 p) [if f then 1 else 0] (zx 4 z) (zx 4 n) rfl (by kernel_rfl) (by kernel_rfl) (by kernel_rfl) (by kernel_rfl) (by kernel_rfl) (by kernel_rfl) (by kernel_rfl) (by kernel_rfl) (by kernel_rfl) (by kernel_rfl) (by kernel_rfl) (by kernel_rfl) (by kernel_rfl)))
  <| allOk_cons (ok_none rfl (l_callVP 299 (.tmp 4) 28 (.slice A y.length k) (xN [zx 8 e,zx 4 i,zx 4 p,[if f then 1 else 0],zx 4 z,zx 4 n]) (xi _) _ rfl (dj func299 (by kernel_rfl) rfl) (.val (.agg ((vY [zx 8 e,zx 4 i,zx 4 p,[if f then 1 else 0],zx 4 z,zx 4 n].flatten y).map b8).toArray)) (hs 4 _ (by kernel_rfl) (by kernel_rfl)) (by kernel_rfl) (by kernel_rfl) (λw u c hu=>gives_grow (Z w u c hu)) (by kernel_rfl)))
  <| allOk_nil) ?_
 intro a W3 aC V G hF I;have F:a.eval (.tmp 29)=.agg ((vY [zx 8 e,zx 4 i,zx 4 p,[if f then 1 else 0],zx 4 z,zx 4 n].flatten y).map b8).toArray:=hF 29;have ha:=Qp.acts_eq [3,4,5,6,7,8,9,10,11,12,13,14,15,16,17,18,19,20,21,22,23,24,25,26,27,28,29] aC V I;clear hF I V;simp only[dY,mS,F] at ha;clear F aC;generalize a.eval (.tmp 3)=v3 at *;generalize a.eval (.tmp 4)=v4 at *;generalize a.eval (.tmp 5)=v5 at *;generalize a.eval (.tmp 6)=v6 at *;generalize a.eval (.tmp 7)=v7 at *;generalize a.eval (.tmp 8)=v8 at *;generalize a.eval (.tmp 9)=v9 at *;generalize a.eval (.tmp 10)=aM at *;generalize a.eval (.tmp 11)=aN at *;generalize a.eval (.tmp 12)=aO at *;generalize a.eval (.tmp 13)=aP at *;generalize a.eval (.tmp 14)=aQ at *;generalize a.eval (.tmp 15)=aR at *;generalize a.eval (.tmp 16)=aS at *;generalize a.eval (.tmp 17)=aT at *;generalize a.eval (.tmp 18)=aU at *;generalize a.eval (.tmp 19)=aV at *;generalize a.eval (.tmp 20)=aW at *;generalize a.eval (.tmp 21)=aX at *;generalize a.eval (.tmp 22)=v22 at *;generalize a.eval (.tmp 23)=v23 at *;generalize a.eval (.tmp 24)=v24 at *;generalize a.eval (.tmp 25)=v25 at *;generalize a.eval (.tmp 26)=v26 at *;generalize a.eval (.tmp 27)=v27 at *;generalize a.eval (.tmp 28)=v28 at *;simp only[pj,zA,zE,zF] at ha;subst ha;simp only[Qp.Rest,List.drop_succ_cons,ga];have E:=s.below G s.lt;have aG:ph w.heap.size w W3:=q.trans (G.mono q.size);have aB:[zx 8 e,zx 4 i,zx 4 p,[if f then 1 else 0],zx 4 z,zx 4 n].flatten=Qx e i p f z n:=rfl;have aL:=QZ e i p f z n;rw[aB];clear Z K M N O S T U d s X aB W aA aD;generalize H:Qx e i p f z n=P at *;have aE:=pk H;clear H;have C:((vY P y).map b8).toArray.size=64:=by simp[QX];omega
 have aI:yx Y3 317 ((vY P y).map b8).toArray.size:=by rw[C];exact jj
 refine zt rfl 317 (.tmp 2) (.tmp 29) rfl (w.heap.size+1) rfl rfl jj E (by simp) (by rw[C];simp) (Zb _) ?_;have aJ:=E.setRow ((vY P y).map b8).toArray;have aH:ph w.heap.size w (W3.setRow (w.heap.size+1) ((vY P y).map b8).toArray):=zf aG (by omega) _;generalize W3.setRow (w.heap.size+1) ((vY P y).map b8).toArray=W4 at *;clear C E aL;simp only[df,pj,Exit.then];refine ‹∀(a:oy) (w:World),Code.wp Y3 Code.ret _ a w->_› _ W4 ?_;refine wp_ret (oQ (yM 2 rfl rfl aI aJ rfl) rfl ⟨?_,aH⟩);rw[aE.out]
def Lv (e:Nat)(i p:Int)(f:Bool)(z:Int)(n:Nat)(y:Y4):Y4:=if Jq y.length i p f z then VL (Qx e i.toNat p.toNat f z.toNat n) y else []
def Lu (i p:Int)(f:Bool)(z:Int)(y:Y4):Int:=if Jq y.length i p f z then 0 else 2
theorem An {e i p:Nat}{f:Bool}{z n:Nat}{y:Y4}(h:Jq y.length i p f z=true):Lv e i p f z n y=VL (Qx e i p f z n) y/\Lu i p f z y=0:=by simp[Lv,Lu,h]
theorem Rj (e:Nat)(i p:Int)(f:Bool)(z:Int)(n:Nat)(A:Y5)(k:Nat)(y:Y4)(w:World)(aD:qq w w.heap.size A k y):pr Y3 252 #[.agg (zq e i p f z n A y.length k)] w (Uu w (Lv e i p f z n y) (Lu i p f z y)):=by
 have G:=za.new w 261 (zq e i p f z n A y.length k);have v:ph w.heap.size w (w.alloc (.cells (zq e i p f z n A y.length k) 261)):=(pf _ w).alloc (zG _) _;have H:=SO e i p f z n A y.length k (w.alloc (.cells (zq e i p f z n A y.length k) 261));cases j:Jq y.length i p f z with
 | false =>
  have h1:Lv e i p f z n y=[]:=by simp[Lv,j]
  have h2:Lu i p f z y=2:=by simp[Lu,j]
  rw[h1,h2];rw[j] at H;clear h1 h2 j;unfold zq at *
  go_enter func252,ntmps252
  go_wp2_with (first
   | (go_at_call 238;refine H.mono ?_;rintro x w2 ⟨rfl,u⟩)
   | (refine xA kE G ?_))
  exact oE (oN rfl _ _ _) rfl ⟨none,0,rfl,qq.mt _ _,v.trans (u.mono v.size)⟩
 | true =>
  obtain⟨V,⟨aQ,aR⟩,⟨aS,aT⟩,⟨aU,aV⟩,_⟩:=(Kb _ _ _ _ _).1 j;obtain⟨i,rfl⟩:∃q:Nat,i=q:=⟨i.toNat,by omega⟩;obtain⟨p,rfl⟩:∃q:Nat,p=q:=⟨p.toNat,by omega⟩;obtain⟨z,rfl⟩:∃q:Nat,z=q:=⟨z.toNat,by omega⟩;rw[j] at H;obtain⟨h1,h2⟩:=An (e:=e) (n:=n) j;rw[h1,h2];have aE:=(aD.below v).more v.size;have X:=λW (h:qq W W.heap.size A k y)=>TV e i p z n f A k y W (by omega) (by omega) (by omega) h V
  have aG:=QZ e i p f z n;have aC:VL (Qx e i p f z n) y=vY (Qx e i p f z n) y++y:=rfl;have U:(vY (Qx e i p f z n) y).length=64:=by rw[QX,aG]
  rw[aC];generalize vY (Qx e i p f z n) y=s at *;have C:=pk U;have aJ:=pk V;have aP:yx Y3 317 (s.map b8).toArray.size:=by
   have:(s.map b8).toArray.size=64:=by simp[U]
   rw[this];exact jj
  clear h1 h2 j aD aC aG U V;unfold zq at *
  go_enter func252,ntmps252
  go_wp2_with (first
   | (go_at_call 238;refine H.mono ?_;rintro x w2 ⟨rfl,u⟩;have N:=G.below u G.lt;have I:=v.trans (u.mono v.size);have T:=(aE.below u).more u.size;clear H G aE)
   | (go_at_call 239;refine(X _ T).mono ?_;rintro x c ⟨rfl,E⟩;have O:=N.below E N.lt;have K:=I.trans (E.mono I.size);have aF:=(T.below E).more E.size;clear X N T)
   | (refine xA (g:=w.heap.size) kE (by assumption) ?_)
   | (refine zt rfl 317 (.tmp 4) (.tmp 9) rfl c.heap.size rfl rfl jj (za.new c 317 Yq) (by rfl) (by have:=C.out;simp;omega) (Zb _) ?_))
  have aA:=(za.new c 317 Yq).setRow (s.map b8).toArray;have F:ph c.heap.size c ((c.alloc (.cells Yq 317)).setRow c.heap.size (s.map b8).toArray):=zf ((pf _ c).alloc (zG _) _) (zG _) _;have Z:ph w.heap.size w ((c.alloc (.cells Yq 317)).setRow c.heap.size (s.map b8).toArray):=K.trans (F.mono K.size);have aB:=O.below F O.lt;have aM:=(aF.below F).more F.size;have aI:=aA.pA (by rw[C.out];omega);rw[C.out] at aI;clear aA O aF F K I u E;generalize aL:(c.alloc (.cells Yq 317)).setRow c.heap.size (s.map b8).toArray=d at *;generalize c.heap.size=g3 at *;clear aL;simp only[pj];have S:d.cell? ⟨w.heap.size,6,none⟩=some (.slice A y.length k):=by rw[aB.cell];rfl
  have hC:=Yl d.drew (some ⟨g3,0,none⟩) A 64 k s y aI.drew aM.drew (by rw[C.out,aJ.out];omega);rw[C.out] at hC;have aH:=aB.lt
  go_region_held3 (λW=>ph d.heap.size d W/\W.cell? ⟨w.heap.size,6,none⟩=some (.slice A y.length k)) (first|exact⟨(pf _ _).drew,S⟩|exact⟨((pf _ d).drew).alloc (zG _) _,(oG (nE d.drew _ _ aH)).trans S⟩|exact⟨M,(M.cell (p:=⟨w.heap.size,6,none⟩) aH).trans S⟩)
   (first
    | (go_at_call 185;refine hC.mono ?_;rintro x W5 ⟨v5,rfl,aO,aK⟩;have M:ph d.heap.size d W5:=(pf _ d).drew.trans aK))
  go_wp2;obtain⟨A5,c5,rfl,aN⟩:=aO.inB;exact oE (oN rfl _ _ _) rfl ⟨A5,c5,rfl,aN,Z.trans (M.mono Z.size)⟩
theorem UA (w:World)(g o:Nat)(A:Y5)(len c n:Nat)(j:len<=c)(h:c<=9223372036854775807)(hn:n<=len)(hc:w.cell? ⟨g,o,none⟩=some (.slice A len c))(hf:w.frozen? ⟨g,o,none⟩=false):pr Y3 237 #[.pointer (some ⟨g,o,none⟩),.int .i64 n] w λe w'=>e=Y0 (.slice A n n)/\w.setCell ⟨g,o,none⟩ (.slice (kh A c n) (len-n) (c-n))=w':=by
 by_cases d:c=n
 ·obtain rfl:len=c:=by omega
  subst d
  go_enter func237,ntmps237
  go_wp2;go_ret;refine⟨rfl,?_⟩;simp[kh]
 ·go_enter func237,ntmps237
  go_wp2;go_ret;refine⟨rfl,?_⟩;simp[kh,d]
structure Ze (w:World)(g:Nat)(A:Y5)(c:Nat)(l:Y4):Prop where
 blk:za w g 311 #[.slice A l.length c]
 su:qq w g A c l
theorem Ze.below {w w':World}{g:Nat}{A:Y5}{c:Nat}{l:Y4}(h:Ze w g A c l)(hB:ph w.heap.size w w'):Ze w' g A c l :=
 ⟨h.blk.below hB h.blk.lt,h.su.below (hB.mono (dQ h.blk.lt))⟩
theorem Ze.cut {w:World}{g:Nat}{A:Y5}{c:Nat}{l:Y4}(h:Ze w g A c l)(n:Nat)(hn:n<=l.length):Ze (w.setCell ⟨g,0,none⟩ (.slice (kh A c n) (l.length-n) (c-n))) g (kh A c n) (c-n) (l.drop n):=by
 refine⟨?_,(h.su.drop n hn).rE λp d=>dh w _ p _ (λe=>by subst e;simp at d)⟩;have:=h.blk.set 0 (.slice (kh A c n) (l.length-n) (c-n));rw[qD];exact this
theorem ZO (w:World)(g:Nat)(A:Y5)(c:Nat)(l:Y4)(h:Ze w g A c l)(hl:8<=l.length):pr Y3 224 #[.pointer (some ⟨g,0,none⟩),.int .i64 8,.func (.func 225) #[] #[]] w λe w'=>e=Y0 (.int .u64 (xI (l.take 8):Int))/\Ze w' g (kh A c 8) (c-8) (l.drop 8)/\ph g w w':=by
 have C:=h.su.le;have F:=h.su.max;have T:=UA w g 0 A l.length c 8 C F hl (by rw[h.blk.cell];rfl) (h.blk.free 0);have d:=h.cut 8 hl;have j:ph g w (w.setCell ⟨g,0,none⟩ (.slice (kh A c 8) (l.length-8) (c-8))):=(pf g w).setCell (p:=⟨g,0,none⟩) (zG g) _;have u:=h.su.below j;clear h;generalize w.setCell ⟨g,0,none⟩ (.slice (kh A c 8) (l.length-8) (c-8))=G at *;have ht:=u.take 8 8 hl (zG _) (by omega);have E:=UW G A 8 (l.take 8) (ht.more (dQ d.blk.lt));have v:(l.take 8).length=8:=by simp;omega
 rw[Rg (by omega),v,db,Nat.min_self] at E;have s:=d.blk.lt
 go_enter func224,ntmps224
 go_wp2_with (first|(go_at_call 237;refine T.mono ?_;rintro e w' ⟨rfl,rfl⟩)|(go_at_call 225;refine E.mono ?_;rintro e w' ⟨rfl,q⟩))
 go_ret;exact⟨rfl,d.below q,j.trans (q.mono (dQ s))⟩
theorem ZP (w:World)(g:Nat)(A:Y5)(c:Nat)(l:Y4)(h:Ze w g A c l)(hl:4<=l.length):pr Y3 226 #[.pointer (some ⟨g,0,none⟩),.int .i64 4,.func (.func 120) #[] #[]] w λe w'=>e=Y0 (.int .u32 (xI (l.take 4):Int))/\Ze w' g (kh A c 4) (c-4) (l.drop 4)/\ph g w w':=by
 have C:=h.su.le;have F:=h.su.max;have T:=UA w g 0 A l.length c 4 C F hl (by rw[h.blk.cell];rfl) (h.blk.free 0);have d:=h.cut 4 hl;have j:ph g w (w.setCell ⟨g,0,none⟩ (.slice (kh A c 4) (l.length-4) (c-4))):=(pf g w).setCell (p:=⟨g,0,none⟩) (zG g) _;have u:=h.su.below j;clear h;generalize w.setCell ⟨g,0,none⟩ (.slice (kh A c 4) (l.length-4) (c-4))=G at *;have ht:=u.take 4 4 hl (zG _) (by omega);have E:=Qw G A 4 (l.take 4) (ht.more (dQ d.blk.lt));have v:(l.take 4).length=4:=by simp;omega
 rw[VN (by omega),v,db,Nat.min_self] at E;have s:=d.blk.lt
 go_enter func226,ntmps226
 go_wp2_with (first|(go_at_call 237;refine T.mono ?_;rintro e w' ⟨rfl,rfl⟩)|(go_at_call 120;refine E.mono ?_;rintro e w' ⟨rfl,q⟩))
 go_ret;exact⟨rfl,d.below q,j.trans (q.mono (dQ s))⟩
def Hk (l:Y4):Value:=if ke l then .tuple #[.agg #[.int .u64 (Ng l:Int),.int .u64 (Ag l:Int),.int .i64 (Iz l:Int),.int .i64 (NA l:Int)],.int .i64 0] else .tuple #[.agg #[.int .u64 0,.int .u64 0,.int .i64 0,.int .i64 0],.int .i64 150]
theorem Tf {l:Y4}(h:ke l=false):Hk l=.tuple #[.agg #[.int .u64 0,.int .u64 0,.int .i64 0,.int .i64 0],.int .i64 150]:=by simp[Hk,h]
theorem Qv (l:Y4):xI (l.take 4)<4294967296:=by
 have h1:=Uh (l.take 4);have h2:256^(l.take 4).length<=256^4:=Nat.pow_le_pow_right (by omega) (by simp;omega);omega
theorem XK:∀v∈(#[.int .u64 0,.int .u64 0,.int .i64 0,.int .i64 0]:Y7).toList,v.oneCell'=true:=by
 intro v c;simp at c;rcases c with rfl|rfl<;>rfl
theorem BC (s e z c:Int):∀v∈(#[.int .u64 s,.int .u64 e,.int .i64 z,.int .i64 c]:Y7).toList,v.oneCell'=true:=by
 intro v d;simp at d;rcases d with rfl|rfl|rfl|rfl<;>rfl
theorem Hj (w:World)(A:Y5)(c:Nat)(l:Y4)(h:qq w w.heap.size A c l)(hl:l.length≠64):pr Y3 165 #[.slice A l.length c] w λx w'=>x=.returned (Hk l)/\ph w.heap.size w w':=by
 have d:=za.new w 173 #[.int .u64 0,.int .u64 0,.int .i64 0,.int .i64 0];have j:ph w.heap.size w (w.alloc (.cells #[.int .u64 0,.int .u64 0,.int .i64 0,.int .i64 0] 173)):=(pf _ w).alloc (zG _) _;have e:ke l=false:=by cases q:ke l;rfl;exact absurd ((Jm l).1 q).1 hl
 rw[Tf e];have hq:((l.length:Int)==64)=false:=by simp;omega
 clear e hl
 go_enter func165,ntmps165
 go_wp2_with (refine zt rfl 173 (.tmp 2) (.tmp 35) rfl w.heap.size rfl rfl yw d (by rfl) (by rfl) XK ?_)
 refine oQ (vi 2 3 rfl rfl rfl yw (d.setRow _) (by rfl)) rfl ⟨rfl,zf j (zG _) _⟩
theorem Dk (w:World)(A:Y5)(c:Nat)(l:Y4)(h:qq w w.heap.size A c l)(I:l.length=64):pr Y3 165 #[.slice A 64 c] w λx w'=>x=.returned (Hk l)/\ph w.heap.size w w':=by
 obtain⟨g,o,rfl,q,bH⟩:=h.rC (by omega);have aI:=(za.new w 173 #[.int .u64 0,.int .u64 0,.int .i64 0,.int .i64 0]).alloc (.cells #[.slice (some ⟨g,o,none⟩) 64 c] 311);have Z:ph w.heap.size w ((w.alloc (.cells #[.int .u64 0,.int .u64 0,.int .i64 0,.int .i64 0] 173)).alloc (.cells #[.slice (some ⟨g,o,none⟩) 64 c] 311)):=((pf _ w).alloc (zG _) _).alloc (by simp) _;have aR:Ze ((w.alloc (.cells #[.int .u64 0,.int .u64 0,.int .i64 0,.int .i64 0] 173)).alloc (.cells #[.slice (some ⟨g,o,none⟩) 64 c] 311)) (w.heap.size+1) (some ⟨g,o,none⟩) c l:=by refine⟨?_,(h.below Z).more (by omega)⟩;have:=za.new (w.alloc (.cells #[.int .u64 0,.int .u64 0,.int .i64 0,.int .i64 0] 173)) 311 #[.slice (some ⟨g,o,none⟩) 64 c];rw[pq] at this;rw[I];exact this
 have E:=pk I;clear I
 go_enter func165,ntmps165
 go_wp2_with fail
 generalize (w.alloc (.cells #[.int .u64 0,.int .u64 0,.int .i64 0,.int .i64 0] 173)).alloc (.cells #[.slice (some ⟨g,o,none⟩) 64 c] 311)=W1 at *;refine(ZO W1 _ _ c l aR (by have:=E.out;omega)).mono ?_;rintro x W2 ⟨rfl,aS,aJ⟩
 go_wp2_with fail
 refine(ZO W2 _ _ _ _ aS (by have:=E.out;simp;omega)).mono ?_;rintro x W3 ⟨rfl,aE,aK⟩;rw[gT] at aE
 go_wp2_with fail
 refine(ZP W3 _ _ _ _ aE (by have:=E.out;simp;omega)).mono ?_;rintro x W4 ⟨rfl,aF,aL⟩;rw[gT] at aF;have hz:=Qv (l.drop (8+8));have bA:IntKind.i64.wrap (xI ((l.drop (8+8)).take 4):Int)=(xI ((l.drop (8+8)).take 4):Int):=zg _
 go_wp2_with fail
 refine(ZP W4 _ _ _ _ aF (by have:=E.out;simp;omega)).mono ?_;rintro x W5 ⟨rfl,a8,aM⟩;have aW:=Qv (l.drop (8+8+4));have aX:IntKind.i64.wrap (xI ((l.drop (8+8+4)).take 4):Int)=(xI ((l.drop (8+8+4)).take 4):Int):=zg _
 go_wp2_with fail
 have aC:ph (w.heap.size+1) W1 W5:=((aJ.trans aK).trans aL).trans aM;have aA:ph w.heap.size w W5:=Z.trans (aC.mono (by omega));have a9:=aI.below aC (by omega);have aZ:=h.below aA;have aU:=aA.size;have eS:xI (l.take 8)=Ng l:=rfl;have eE:xI ((l.drop 8).take 8)=Ag l:=rfl;have eZ:xI ((l.drop 16).take 4)=Iz l:=rfl;have eC:xI ((l.drop 20).take 4)=NA l:=rfl;have bJ:Iz l<4294967296:=Qv _;have bG:NA l<4294967296:=Qv _;have aP:ke l=(vf (Iz l) (NA l)&&(vJ (Ng l) (Ag l) (Iz l) (NA l)==l)):=by
  rw[Bool.eq_iff_iff,Jm,oZ,XZ,beq_iff_eq];constructor
  ·rintro⟨_,a1,a2,a3⟩;exact⟨by omega,a3⟩
  ·rintro⟨a1,a2⟩;exact⟨E.out,by omega,by omega,a2⟩
 rw[eS,eE,eZ,eC];have aN:Hk l=if ke l then .tuple #[.agg #[.int .u64 (Ng l:Int),.int .u64 (Ag l:Int),.int .i64 (Iz l:Int),.int .i64 (NA l:Int)],.int .i64 0] else .tuple #[.agg #[.int .u64 0,.int .u64 0,.int .i64 0,.int .i64 0],.int .i64 150]:=rfl
 clear eS eE eZ eC hz aW bA aX aR aS aE aF a8 aJ aK aL aM aC Z aI;generalize Ng l=s at *;generalize Ag l=e at *;generalize Iz l=z at *;generalize NA l=d at *;have HI:=pk aP;have X:=pk aN;clear aP aN;have aB:ph w.heap.size w (W5.alloc (.cells #[.int .u64 (s:Int),.int .u64 (e:Int),.int .i64 (z:Int),.int .i64 (d:Int)] 173)):=aA.alloc aU _;have W:=a9.alloc (.cells #[.int .u64 (s:Int),.int .u64 (e:Int),.int .i64 (z:Int),.int .i64 (d:Int)] 173);have V:=za.new W5 173 #[.int .u64 (s:Int),.int .u64 (e:Int),.int .i64 (z:Int),.int .i64 (d:Int)];have a4:qq (W5.alloc (.cells #[.int .u64 (s:Int),.int .u64 (e:Int),.int .i64 (z:Int),.int .i64 (d:Int)] 173)) w.heap.size (some ⟨g,o,none⟩) c l:=aZ.below ((pf _ W5).alloc aU _);generalize aV:W5.alloc (.cells #[.int .u64 (s:Int),.int .u64 (e:Int),.int .i64 (z:Int),.int .i64 (d:Int)] 173)=W6 at *;clear aV;have aG:=aB.size;have aD:∀w',qz W6 w'->(loadVar 173 ⟨W5.heap.size,0,none⟩).run Y3 w'=.ok (.agg #[.int .u64 (s:Int),.int .u64 (e:Int),.int .i64 (z:Int),.int .i64 (d:Int)]) w':=λw' hG=>Qi yw (V.below hG V.lt)
 have a6:∀w',qz W6 w'->(loadVar 317 ⟨g,o,none⟩).run Y3 w'=.ok (.agg (l.map b8).toArray) w':=λw' hG=>by
  have hi:=(a4.more aG).below hG;refine run_loadVar_mid (P:=Y3) w' g o 317 (l.map b8) _ ?_ underlying317 rfl (by simp only[qE];rw[E.out];kernel_rfl);intro j v hj;have aQ:j<l.length:=by have:=(qQ.1 hj).1;simpa using this
  obtain⟨g',o',K,_,hc⟩:=hi.rC (by omega);injection K with K
  injection K with K e2
  subst K e2;rw[hc j aQ];rw[List.getElem?_map,zM aQ] at hj;simpa[b8] using hj
 have aO:=Jr s e z d;generalize W5.heap.size=C at *;cases H:vf z d with
 | false =>
  have S:=aO;rw[H] at S;have a7:ke l=false:=by rw[HI.out,H];rfl
  open Qp in
  refine region_acts (by kernel_rfl) (by kernel_rfl) 36 rfl (by kernel_rfl) [24,25,26,27,28,29,30,31,32,33] (by kernel_rfl)
   [(5,.val (.pointer (some ⟨C,0,none⟩))),(0,.val (.slice (some ⟨g,o,none⟩) 64 c))]
   [(24,.val (.agg #[.int .u64 (s:Int),.int .u64 (e:Int),.int .i64 (z:Int),.int .i64 (d:Int)])),(25,.val (.bool false)),(26,.val (.bool false)),(27,.any),(28,.any),(29,.any),(30,.any),(31,.any),(32,.any),(33,.val ((mv false)))]
   ⟨rfl,rfl,trivial⟩ (by kernel_rfl)
   (allOk_cons (ok_none rfl (l_loadV (.tmp 5) (⟨C,0,none⟩) 173 (.agg #[.int .u64 (s:Int),.int .u64 (e:Int),.int .i64 (z:Int),.int .i64 (d:Int)]) rfl (hs 5 (.pointer (some ⟨C,0,none⟩)) (by kernel_rfl) (by kernel_rfl)) (λw q=>aD w q) (by kernel_rfl)))
   <| allOk_cons (ok_none rfl (l_call 227 _ _ rfl (dj func227 (by kernel_rfl) rfl) #[.agg #[.int .u64 (s:Int),.int .u64 (e:Int),.int .i64 (z:Int),.int .i64 (d:Int)]] (.val (.bool false)) (args1 (hs 24 (.agg #[.int .u64 (s:Int),.int .u64 (e:Int),.int .i64 (z:Int),.int .i64 (d:Int)]) (by kernel_rfl) (by kernel_rfl))) (λw q=>gives_grow (S w)) (by kernel_rfl)))
   <| allOk_cons (ok_none rfl (l_mvF 25 (.val (.bool false)) (.inl rfl) (by kernel_rfl) (by kernel_rfl) (by kernel_rfl)))
   <| allOk_cons (okg_not 2 true 26 rfl (by kernel_rfl) (by kernel_rfl) (by kernel_rfl) (by kernel_rfl))
   <| allOk_cons (okg_not 2 true 26 rfl (by kernel_rfl) (by kernel_rfl) (by kernel_rfl) (by kernel_rfl))
   <| allOk_cons (okg_not 2 true 26 rfl (by kernel_rfl) (by kernel_rfl) (by kernel_rfl) (by kernel_rfl))
   <| allOk_cons (okg_not 2 true 26 rfl (by kernel_rfl) (by kernel_rfl) (by kernel_rfl) (by kernel_rfl))
   <| allOk_cons (okg_not 2 true 26 rfl (by kernel_rfl) (by kernel_rfl) (by kernel_rfl) (by kernel_rfl))
   <| allOk_cons (okg_not 2 true 26 rfl (by kernel_rfl) (by kernel_rfl) (by kernel_rfl) (by kernel_rfl))
   <| allOk_cons (ok_none rfl (l_pickF (.tmp 26) (.tmp 32) (.const (mv false)) ((mv false)) rfl (hs 26 (.bool false) (by kernel_rfl) (by kernel_rfl)) (hc _) (by kernel_rfl)))
   <| allOk_nil) ?_
  intro a W7 T O G hF N;have M:a.eval (.tmp 33)=(mv false):=hF 33;have ha:=Qp.acts_eq [24,25,26,27,28,29,30,31,32,33] T O N;clear hF N O;simp only[dY,mS,M] at ha;clear M T;generalize a.eval (.tmp 24)=v24 at *;generalize a.eval (.tmp 25)=v25 at *;generalize a.eval (.tmp 26)=v26 at *;generalize a.eval (.tmp 27)=v27 at *;generalize a.eval (.tmp 28)=v28 at *;generalize a.eval (.tmp 29)=bB at *;generalize a.eval (.tmp 30)=bC at *;generalize a.eval (.tmp 31)=bD at *;generalize a.eval (.tmp 32)=bE at *;simp only[pj,zA,zE,zF] at ha;subst ha;simp only[Exit.then];refine ‹∀(a:oy) (w:World),Code.wp Y3 _ _ a w->_› _ W7 ?_;have F:=W.below G W.lt;have U:ph w.heap.size w W7:=aB.trans (G.mono aG)
  go_wp2_with (refine zt rfl 173 (.tmp 2) (.tmp 35) rfl w.heap.size rfl rfl yw F (by rfl) (by rfl) XK ?_)
  refine oQ (vi 2 3 rfl rfl rfl yw (F.setRow _) (by rfl)) rfl ⟨?_,zf U (zG _) _⟩;rw[X.out,a7];rfl
 | true =>
  obtain⟨⟨_,bI⟩,_,bF⟩:=(XZ _ _).1 H;have S:=aO;rw[H] at S;have aT:ke l=(vJ s e z d==l):=by rw[HI.out,H];rfl
  have aY:=Gz s e z d (by omega) (by omega);have aH:=jE s e z d;have I:=E.out;generalize vJ s e z d=u at *;have HY:=pk aT;clear aT H
  open Qp in
  refine region_acts (by kernel_rfl) (by kernel_rfl) 36 rfl (by kernel_rfl) [24,25,26,27,28,29,30,31,32,33] (by kernel_rfl)
   [(5,.val (.pointer (some ⟨C,0,none⟩))),(0,.val (.slice (some ⟨g,o,none⟩) 64 c))]
   [(24,.val (.agg #[.int .u64 (s:Int),.int .u64 (e:Int),.int .i64 (z:Int),.int .i64 (d:Int)])),(25,.val (.bool true)),(26,.val (.bool true)),(27,.val (.agg #[.int .u64 (s:Int),.int .u64 (e:Int),.int .i64 (z:Int),.int .i64 (d:Int)])),(28,.val (.agg (u.map b8).toArray)),(29,.val (.slice (some ⟨g,o,none⟩) 64 c)),(30,.val (.pointer (some ⟨g,o,none⟩))),(31,.val (.agg (l.map b8).toArray)),(32,.val (.bool (u==l))),(33,.val (.bool (u==l)))]
   ⟨rfl,rfl,trivial⟩ (by kernel_rfl)
   (allOk_cons (ok_none rfl (l_loadV (.tmp 5) (⟨C,0,none⟩) 173 (.agg #[.int .u64 (s:Int),.int .u64 (e:Int),.int .i64 (z:Int),.int .i64 (d:Int)]) rfl (hs 5 (.pointer (some ⟨C,0,none⟩)) (by kernel_rfl) (by kernel_rfl)) (λw q=>aD w q) (by kernel_rfl)))
   <| allOk_cons (ok_none rfl (l_call 227 _ _ rfl (dj func227 (by kernel_rfl) rfl) #[.agg #[.int .u64 (s:Int),.int .u64 (e:Int),.int .i64 (z:Int),.int .i64 (d:Int)]] (.val (.bool true)) (args1 (hs 24 (.agg #[.int .u64 (s:Int),.int .u64 (e:Int),.int .i64 (z:Int),.int .i64 (d:Int)]) (by kernel_rfl) (by kernel_rfl))) (λw q=>gives_grow (S w)) (by kernel_rfl)))
   <| allOk_cons (ok_none rfl (l_mvF 25 (.val (.bool true)) (.inl rfl) (by kernel_rfl) (by kernel_rfl) (by kernel_rfl)))
   <| allOk_cons (okg 2 true 26 rfl (by kernel_rfl) (by kernel_rfl) (by kernel_rfl) (l_loadV (.tmp 5) (⟨C,0,none⟩) 173 (.agg #[.int .u64 (s:Int),.int .u64 (e:Int),.int .i64 (z:Int),.int .i64 (d:Int)]) rfl (hs 5 (.pointer (some ⟨C,0,none⟩)) (by kernel_rfl) (by kernel_rfl)) (λw q=>aD w q) (by kernel_rfl)))
   <| allOk_cons (okg 2 true 26 rfl (by kernel_rfl) (by kernel_rfl) (by kernel_rfl) (l_call 228 _ _ rfl (dj func228 (by kernel_rfl) rfl) #[.agg #[.int .u64 (s:Int),.int .u64 (e:Int),.int .i64 (z:Int),.int .i64 (d:Int)]] (.val (.agg (u.map b8).toArray)) (args1 (hs 27 (.agg #[.int .u64 (s:Int),.int .u64 (e:Int),.int .i64 (z:Int),.int .i64 (d:Int)]) (by kernel_rfl) (by kernel_rfl))) (λw q=>gives_grow (aY w)) (by kernel_rfl)))
   <| allOk_cons (okg 2 true 26 rfl (by kernel_rfl) (by kernel_rfl) (by kernel_rfl) (l_mvF 0 (.val (.slice (some ⟨g,o,none⟩) 64 c)) (.inl rfl) (by kernel_rfl) (by kernel_rfl) (by kernel_rfl)))
   <| allOk_cons (okg 2 true 26 rfl (by kernel_rfl) (by kernel_rfl) (by kernel_rfl) (l_s2a (.tmp 29) g o 64 c (by decide) rfl (hs 29 _ (by kernel_rfl) (by kernel_rfl)) (by kernel_rfl)))
   <| allOk_cons (okg 2 true 26 rfl (by kernel_rfl) (by kernel_rfl) (by kernel_rfl) (l_loadV (.tmp 30) (⟨g,o,none⟩) 317 (.agg (l.map b8).toArray) rfl (hs 30 (.pointer (some ⟨g,o,none⟩)) (by kernel_rfl) (by kernel_rfl)) (λw q=>a6 w q) (by kernel_rfl)))
   <| allOk_cons (okg 2 true 26 rfl (by kernel_rfl) (by kernel_rfl) (by kernel_rfl) (l_eqArr (.tmp 28) (.tmp 31) _ u l aH I rfl (hs 28 _ (by kernel_rfl) (by kernel_rfl)) (hs 31 _ (by kernel_rfl) (by kernel_rfl)) (by kernel_rfl)))
   <| allOk_cons (ok_none rfl (l_pickT (.tmp 26) (.tmp 32) (.const (mv false)) (.bool (u==l)) rfl (hs 26 (.bool true) (by kernel_rfl) (by kernel_rfl)) (hs 32 (.bool (u==l)) (by kernel_rfl) (by kernel_rfl)) (by kernel_rfl)))
   <| allOk_nil) ?_
  intro a W7 T O G hF N;have M:a.eval (.tmp 33)=.bool (u==l):=hF 33;have ha:=Qp.acts_eq [24,25,26,27,28,29,30,31,32,33] T O N;clear hF N O;simp only[dY,mS,M] at ha;clear M T;generalize a.eval (.tmp 24)=v24 at *;generalize a.eval (.tmp 25)=v25 at *;generalize a.eval (.tmp 26)=v26 at *;generalize a.eval (.tmp 27)=v27 at *;generalize a.eval (.tmp 28)=v28 at *;generalize a.eval (.tmp 29)=bB at *;generalize a.eval (.tmp 30)=bC at *;generalize a.eval (.tmp 31)=bD at *;generalize a.eval (.tmp 32)=bE at *;simp only[pj,zA,zE,zF] at ha;subst ha;simp only[Exit.then];refine ‹∀(a:oy) (w:World),Code.wp Y3 _ _ a w->_› _ W7 ?_;have F:=W.below G W.lt;have a5:=V.below G V.lt;have U:ph w.heap.size w W7:=aB.trans (G.mono aG);clear I aH;cases hq:(u==l) with
  | false =>
   go_wp2_with (refine zt rfl 173 (.tmp 2) (.tmp 35) rfl w.heap.size rfl rfl yw F (by rfl) (by rfl) XK ?_)
   refine oQ (vi 2 3 rfl rfl rfl yw (F.setRow _) (by rfl)) rfl ⟨?_,zf U (zG _) _⟩;rw[X.out,HY.out,hq];rfl
  | true =>
   go_wp2_with (first
    | (refine xA yw a5 ?_)
    | (refine zt rfl 173 (.tmp 2) (.tmp 34) rfl w.heap.size rfl rfl yw F (by rfl) (by rfl) (BC _ _ _ _) ?_))
   refine oQ (vi 2 3 rfl rfl rfl yw (F.setRow _) (by rfl)) rfl ⟨?_,zf U (zG _) _⟩;rw[X.out,HY.out,hq];rfl
theorem VR (w:World)(A:Y5)(c:Nat)(l:Y4)(h:qq w w.heap.size A c l):pr Y3 165 #[.slice A l.length c] w λx w'=>x=.returned (Hk l)/\ph w.heap.size w w':=by
 by_cases hl:l.length=64
 ·rw[hl];exact Dk w A c l h hl
 ·exact Hj w A c l h hl


theorem Qu {P:oV}(w:World)(t e:oD)(A:Y5)(n c:Nat)(ht:P.underlying t=some (.slice e)):(binOp .eql t (.slice A n c) (.slice none 0 0)).run P w=.ok (.bool A.isNone) w:=by
 have d:binOp .eql t (.slice A n c) (.slice none 0 0)=(do pure (.bool (<-mT (9999+1) t (.slice A n c) (.slice none 0 0)))):=rfl;have h:(mT (9999+1) t (.slice A n c) (.slice none 0 0)).run P w=.ok A.isNone w:=by unfold mT;cases A<;>simp[om ht]
 rw[d];simp only[oY,h,pv,oU]
theorem YZ (w:World)(A:Y5)(c:Nat)(l:Y4)(h:qq w w.heap.size A c l)(hl:l.length<=100000000000):pr Y3 112 #[.slice A l.length c] w (yU w l):=by
 have u:=h.le;rcases A with _|e
 ·have hc:=h.nil rfl;subst hc;obtain rfl:l=[]:=qF (by omega);have hq:=λW=>Qu (P:=Y3) W 129 5 none 0 0 underlying129
  go_enter func112,ntmps112
  go_wp2;go_ret;exact⟨_,rfl,yZ.nil _ _,pf _ _⟩
 ·have j:yZ (w.alloc (.cells #[] 5)) w.heap.size (.slice (some ⟨w.heap.size,0,none⟩) 0 0) []:=nM w #[] 0 (zG _) (by unfold oo;omega) rfl;have d:ph w.heap.size w (w.alloc (.cells #[] 5)):=(pf _ w).alloc (zG _) _;have h1:=h.below d;have hq:=λW=>Qu (P:=Y3) W 129 5 (some e) l.length c underlying129
  go_enter func112,ntmps112
  go_wp2_with (at_builtin;refine Ug rfl (.tmp 5) (.tmp 6) rfl w.heap.size (.slice (some ⟨w.heap.size,0,none⟩) 0 0) [] rfl j _ (some e) c l rfl h1 (by simp;omega) (by simp) ?_;intro v1 v q s)
  go_ret;rw[zQ] at q;exact⟨_,rfl,q,d.trans (zl s d.size j.sL)⟩
def wv:Y7:=#[.int .u64 0,.int .i64 0,.int .i64 0,.bool false,.int .i64 0,.int .u32 0,.slice none 0 0]
theorem QF (e:Nat)(i p:Int)(f:Bool)(z:Int)(n:Nat)(A:Y5)(len k:Nat):∀v∈(zq e i p f z n A len k).toList,v.oneCell'=true:=by
 intro v c;simp[zq] at c;rcases c with rfl|rfl|rfl|rfl|rfl|rfl|rfl<;>rfl
namespace Qp
variable {L:List (Nat×vd)}{ops:Array oM}{w0:World}{o:oM}{P:oV}
end Qp
theorem ja (w:World)(p:px)(u:Value):w.grownBy (w.setCell p u) (some p.block):=⟨rfl,rfl,rfl,by simp,λk _ c=>oI w p u k (λe=>c (by rw[e]))⟩
theorem yZ.apart {w w':World}{base:Nat}{v:Value}{l:Y4}(h:yZ w base v l){r:Nat}(d:w.grownBy w' (some r))(j:r<base):yZ w' base v l :=
 World.ownsRow.kept h d (by
  cases c:v.ownBlock with
  | none=>exact .inl rfl
  | some b=>exact .inr (λe=>by injection e with e;have:=h.sL b c;omega))
def qx:Y4:=zP 64 0
@[reducible] def Qs (l:Y4):Value:=.agg (l.map b8).toArray
structure YI (es:Array oJ)(f:Nat->Option Y4):Prop where
 keys:∀(i:Nat) e,es[i]?=some e->∃k l,f k=some l/\e.key=.int .i64 (k:Int)/\e.val=Qs l
 all:∀k l,f k=some l->∃(i:Nat) (e:oJ),es[i]?=some e/\e.key=.int .i64 (k:Int)/\e.val=Qs l
 inj:∀(i j:Nat) e e',es[i]?=some e->es[j]?=some e'->e.key=e'.key->i=j
theorem YI.empty:YI #[] (λ_=>none):=⟨λi e h=>by simp at h,λk l h=>by simp at h,λi j e c h=>by simp at h⟩
theorem KW {k m:Nat}(h:Value.int .i64 (k:Int)=.int .i64 (m:Int)):k=m:=by injection h with _ h;omega
def QM (f:Nat->Option Y4)(k:Nat)(x:Option Y4):Nat->Option Y4:=λm=>if m=k then x else f m
section
variable {es:Array oJ}{f:Nat->Option Y4}
theorem YI.find (h:YI es f)(k:Nat):(ny (.int .i64) (.int .i64 (k:Int)) es.toList 0=some none/\f k=none) ∨
  ∃j e l,ny (.int .i64) (.int .i64 (k:Int)) es.toList 0=some (some (j,e.val))/\es[j]?=some e/\e.key=.int .i64 (k:Int)/\f k=some l/\e.val=Qs l:=by
 have C:dJ (.int .i64) (.int .i64 (k:Int)):=rfl;have v:∀x∈es.toList,dJ (.int .i64) x.key:=by intro x E;obtain⟨i,A,rfl⟩:=yG E;obtain⟨q,l,_,h2,_⟩:=h.keys i es.toList[i] (by rw[<-yD];exact zM A);rw[h2];rfl
 rcases MapKept.findNow_spec C es.toList 0 v with⟨h1,h2⟩|⟨j,e,h1,h2,h3⟩
 ·left;refine⟨h1,?_⟩;cases hf:f k with
  | none=>rfl
  | some l =>
   obtain⟨i,e,c,d,_⟩:=h.all k l hf;exact absurd d (h2 e (Array.mem_toList_iff.2 (Array.mem_of_getElem? c)))
 ·right;have c:es[j]?=some e:=by rw[<-yD];exact h2
  obtain⟨q,l,d,s,u⟩:=h.keys j e c;have:q=k:=KW (s.symm.trans h3);subst this;exact⟨j,e,l,by simpa using h1,c,h3,d,u⟩
theorem YI.push (h:YI es f){k:Nat}(F:f k=none)(l:Y4)(born:Nat):YI (es.push {key:=.int .i64 (k:Int),val:=Qs l,born:=born}) (QM f k (some l)):=by
 refine⟨λi e c => ?_,λm A v => ?_,λi j e u s d E => ?_⟩
 ·rw[gO] at c;split at c
  ·injection c with c
   subst c;exact⟨k,l,by simp[QM],rfl,rfl⟩
  ·obtain⟨m,A,h1,h2,C⟩:=h.keys i e c;refine⟨m,A,?_,h2,C⟩;have:m≠k:=λe=>by subst e;rw[F] at h1;cases h1
   simp[QM,this,h1]
 ·by_cases e:m=k
  ·subst e;simp[QM] at v;subst v;exact⟨es.size,{key:=.int .i64 (m:Int),val:=Qs l,born:=born},by simp,rfl,rfl⟩
  ·simp only[QM,if_neg e] at v;obtain⟨i,u,h1,h2,C⟩:=h.all m A v;refine⟨i,u,?_,h2,C⟩;have:=(zK.1 h1).1;rw[gO,if_neg (by omega)];exact h1
 ·rw[gO] at s d;have G:∀(q:Nat) (e:oJ),es[q]?=some e->e.key≠.int .i64 (k:Int):=λq e c hq=>by obtain⟨m,A,h1,h2,_⟩:=h.keys q e c;have:=KW (h2.symm.trans hq);subst this;rw[F] at h1;cases h1
  split at s
  ·split at d
   ·omega
   ·injection s with s
    subst s;exact absurd E.symm (G j u d)
  ·split at d
   ·injection d with d
    subst d;exact absurd E (G i e s)
   ·exact h.inj i j e u s d E
theorem YI.modify (h:YI es f){k i:Nat}{e:oJ}(v:es[i]?=some e)(F:e.key=.int .i64 (k:Int))(l:Y4):YI (es.modify i λe => {e with key:=.int .i64 (k:Int),val:=Qs l}) (QM f k (some l)):=by
 have A:∀j,(es.modify i λe => {e with key:=.int .i64 (k:Int),val:=Qs l})[j]?=if i=j then some {e with key:=.int .i64 (k:Int),val:=Qs l} else es[j]?:=λj=>by
  rw[dU];split
  ·rename_i c
   subst c;rw[v];rfl
  ·rfl
 refine⟨λj u d => ?_,λm G C => ?_,λa b s K ha M N => ?_⟩
 ·rw[A] at d;split at d
  ·injection d with d
   subst d;exact⟨k,l,by simp[QM],rfl,rfl⟩
  ·rename_i c
   obtain⟨m,G,h1,h2,E⟩:=h.keys j u d;refine⟨m,G,?_,h2,E⟩;have:m≠k:=λq=>by subst q;exact c (h.inj i j e u v d (by rw[F,h2]))
   simp[QM,this,h1]
 ·by_cases q:m=k
  ·subst q;simp[QM] at C;subst C;exact⟨i,_,by rw[A,if_pos rfl],rfl,rfl⟩
  ·simp only[QM,if_neg q] at C;obtain⟨j,u,h1,h2,E⟩:=h.all m G C;have c:i≠j:=λc=>by
    subst c;rw[v] at h1;injection h1 with h1
    subst h1;exact q (KW (h2.symm.trans F))
   exact⟨j,u,by rw[A,if_neg c];exact h1,h2,E⟩
 ·have I:∀(a:Nat) (s:oJ),(es.modify i λe => {e with key:=.int .i64 (k:Int),val:=Qs l})[a]?=some s->∃H:oJ,es[a]?=some H/\H.key=s.key:=λa s ha=>by
   rw[A] at ha;split at ha
   ·rename_i hia
    subst hia;injection ha with ha
    subst ha;exact⟨e,v,F⟩
   ·exact⟨s,ha,rfl⟩
  obtain⟨x,O,S⟩:=I a s ha;obtain⟨y,T,U⟩:=I b K M;exact h.inj a b x y O T (by rw[S,U,N])
theorem YI.erase (h:YI es f){k i:Nat}{e:oJ}(A:es[i]?=some e)(I:e.key=.int .i64 (k:Int)):YI (es.eraseIdxIfInBounds i) (QM f k none):=by
 have X:=(zK.1 A).1;have C:∀j,(es.eraseIdxIfInBounds i)[j]?=if j<i then es[j]? else es[j+1]?:=λj=>by unfold Array.eraseIdxIfInBounds;rw[dif_pos X];rw[<-yD,Array.toList_eraseIdx,List.getElem?_eraseIdx];split<;>rw[yD]
 have v:∀j c,(es.eraseIdxIfInBounds i)[j]?=some c->∃d,d≠i/\es[d]?=some c/\(j<i->d=j)/\(¬ j<i->d=j+1):=λj c s=>by
  rw[C] at s;split at s
  ·exact⟨j,by omega,s,λ_=>rfl,λh=>by omega⟩
  ·exact⟨j+1,by omega,s,λh=>by omega,λ_=>rfl⟩
 refine⟨λj c s => ?_,λm F E => ?_,λa b G H ha V Z => ?_⟩
 ·obtain⟨d,aB,M,_⟩:=v j c s;obtain⟨m,F,h1,h2,u⟩:=h.keys d c M;refine⟨m,F,?_,h2,u⟩;have:m≠k:=λq=>by subst q;exact aB (h.inj d i c e M A (by rw[I,h2]))
  simp[QM,this,h1]
 ·by_cases q:m=k
  ·subst q;simp[QM] at E
  ·simp only[QM,if_neg q] at E;obtain⟨j,c,h1,h2,u⟩:=h.all m F E;have K:j≠i:=λK=>by
    subst K;rw[A] at h1;injection h1 with h1
    subst h1;exact q (KW (h2.symm.trans I))
   by_cases aA:j<i
   ·exact⟨j,c,by rw[C,if_pos aA];exact h1,h2,u⟩
   ·exact⟨j-1,c,by rw[C,if_neg (by omega),show j-1+1=j by omega];exact h1,h2,u⟩
 ·obtain⟨S,_,U,N,O⟩:=v a G ha;obtain⟨T,_,W,q1,q2⟩:=v b H V;have:=h.inj S T G H U W Z
  by_cases c1:a<i<;>by_cases c2:b<i
  ·have:=N c1;have:=q1 c2;omega
  ·have:=N c1;have:=q2 c2;omega
  ·have:=O c1;have:=q1 c2;omega
  ·have:=O c1;have:=q2 c2;omega
end
def UT (g:Nat->Y4):Nat->Option Y4:=λk=>if g k=qx then none else some (g k)
structure kj (w:World)(r:Nat)(g:Nat->Y4):Prop where
 len:∀k,(g k).length=64
 rC:∃es clock,zw w r es clock/\YI es (UT g)/\oH es clock
def Jn (g:Nat->Y4)(k:Nat)(l:Y4):Nat->Y4:=λm=>if m=k then l else g m
theorem kj.lt {w:World}{r:Nat}{g:Nat->Y4}(h:kj w r g):r<w.heap.size:=by obtain⟨es,c,d,_⟩:=h.rC;exact d.lt
theorem kj.rE {w w':World}{r:Nat}{g:Nat->Y4}(h:kj w r g)(e:w'.heap[r]?=w.heap[r]?):kj w' r g:=by
 obtain⟨es,c,j,d⟩:=h.rC;exact⟨h.len,es,c,e.trans j,d⟩
theorem kj.below {w w':World}{B r:Nat}{g:Nat->Y4}(h:kj w r g)(hB:ph B w w')(c:r<B):kj w' r g:=h.rE (hB.block r c)
theorem kj.grow {w w':World}{r:Nat}{g:Nat->Y4}(h:kj w r g)(hB:ph w.heap.size w w'):kj w' r g:=h.below hB h.lt
theorem kj.setCell {w:World}{r:Nat}{g:Nat->Y4}(h:kj w r g)(p:px)(v:Value):kj (w.setCell p v) r g:=by
 by_cases d:p.block=r
 ·obtain⟨es,c,q,j⟩:=h.rC;refine⟨h.len,es,c,?_,j⟩;have s:w.heap[r]?=some (.map es c):=q;subst d;unfold zw World.setCell;simp[dU,s]
 ·exact h.rE (oI w p v r (λe=>d e.symm))
theorem jC:yx Y3 341 64:=⟨⟨_,underlying341,rfl⟩,by kernel_rfl⟩
section
variable {P:oV}{w w':World}{ops:Array oM}{rest:List oM}{o:oM}{a:oy}{Q:nF->oy->World->Prop}
theorem zr {v:Value}(d:o.guard=none)(e:(oB a.eval o).run P w=.ok (.value v) w')(h:df P ops Q rest (a.put o.dst v) w'):df P ops Q (o::rest) a w :=
 gw d λ_ c=>by unfold de;rw[e];exact c _ _ h
theorem Ff (d:o.guard=none)(e:(oB a.eval o).run P w=.ok .skip w')(h:df P ops Q rest (a.put o.dst ou) w'):df P ops Q (o::rest) a w :=
 gw d λ_ c=>by unfold de;rw[e];exact c _ _ h
end
section
variable {ρ:py->Value}{w:World}{o:oM}{x y z:py}
theorem OY {xs c:Y4}(j:xs.length=64)(q:c.length=64){T:oD}(e:o.op=.binOp .eql 341 x y T)(h1:ρ x=Qs xs)(h2:ρ y=Qs c):(oB ρ o).run Y3 w=.ok (.value (.bool (xs==c))) w:=by
 unfold Qs at h1 h2;have h:(binOp .eql 341 (.agg (xs.map b8).toArray) (.agg (c.map b8).toArray)).run Y3 w=.ok (.bool (xs==c)) w :=
  run_eql_bytes w 341 5 64 underlying341 underlying5 (λw=>by simp[go_sem]) xs c j q
 have d:Y3.eqGuardType Y3.depth 341=false:=by kernel_rfl
 simp only[oB,e,h1,h2,oY,run_eqGuard_agg w .eql 341 x y _ _ d,oO,h,oU]
theorem Ds (c:o.op=.build 341 #[]):(oB ρ o).run Y3 w=.ok (.value (Qs qx)) w:=by
 simp[oB,c,go_sem,pv]
 kernel_rfl
section
variable {r k clock:Nat}{es:Array oJ}{f:Nat->Option Y4}{l:Y4}
theorem Pc {w:Value}(q:oH es clock){j:Nat}{e:oJ}(h:es[j]?=some e)(d:e.key=w)(v:Value):oH (es.modify j λe => {e with key:=w,val:=v}) clock :=
 MapKept.stamped_modify q j (λe => {e with key:=w,val:=v}) (λe _=>rfl) (λs _ c=>by rw[h] at c;injection c with c;subst c;exact d.symm)
theorem uv (c:YI es f)(u:oH es clock)(C:zw w r es clock)(s:o.op=.mapUpdate 111 x y z)(h1:ρ x=.map (some r))(h2:ρ y=.int .i64 (k:Int))(h:ρ z=Qs l):∃es' clock',(oB ρ o).run Y3 w=.ok .skip (setMap w r es' clock')/\YI es' (QM f k (some l))/\oH es' clock':=by
 have q:dJ (.int .i64) (.int .i64 (k:Int)):=rfl;have hc:(gG false 10000 3 (.int .i64 (k:Int))).run Y3 w=.ok () w:=dg underlying3 q false 9999;have d:w.heap[r]?=some (.map es clock):=C;rcases c.find k with⟨hf,hn⟩|⟨j,e,l0,hf,hj,hek,_,_⟩
 ·refine⟨_,clock+1,?_,c.push hn l clock,MapKept.stamped_push u λx E v=>by
   obtain⟨i,A,rfl⟩:=yG E;obtain⟨m,F,h1,h2,_⟩:=c.keys i es.toList[i] (by rw[<-yD];exact zM A);have:=KW (h2.symm.trans v);subst this;rw[hn] at h1
   cases h1⟩
  simp[oB,s,h1,h2,h,gM,om underlying111,oX d,hc,oq underlying3 hf,dP _ d,pv,setMap]
 ·refine⟨_,clock,?_,c.modify hj hek l,Pc u hj hek (Qs l)⟩;simp[oB,s,h1,h2,h,gM,om underlying111,oX d,hc,oq underlying3 hf,hj,hek,MapKept.run_keyThatStays q,dP _ d,pv,setMap]
theorem uw (d:YI es f)(q:oH es clock)(u:zw w r es clock)(h:o.op=.call {callee:=.builtin .delete,args:=#[x,y],argTypes:=#[111,3]})(h1:ρ x=.map (some r))(h2:ρ y=.int .i64 (k:Int)):∃es',(oB ρ o).run Y3 w=.ok (.value (.tuple #[])) (setMap w r es' clock)/\YI es' (QM f k none)/\oH es' clock:=by
 have s:dJ (.int .i64) (.int .i64 (k:Int)):=rfl;have hc:(gG es.isEmpty 10000 3 (.int .i64 (k:Int))).run Y3 w=.ok () w:=dg underlying3 s _ 9999;have c:w.heap[r]?=some (.map es clock):=u;rcases d.find k with⟨hf,hn⟩|⟨j,e,l0,hf,hj,hek,_,_⟩
 ·refine⟨es,?_,?_⟩
  ·simp[oB,h,h1,h2,resolve,invoke,builtin,Builtin.delete_,om underlying111,oX c,hc,oq underlying3 hf,dP _ c,pv,setMap]
  ·have:QM f k none=f:=by
    funext m
    unfold QM;split
    ·rename_i e
     rw[e,hn]
    ·rfl
   rw[this];exact⟨d,q⟩
 ·refine⟨_,?_,d.erase hj hek,MapKept.stamped_erase q j⟩;simp[oB,h,h1,h2,resolve,invoke,builtin,Builtin.delete_,om underlying111,oX c,hc,oq underlying3 hf,dP _ c,pv,setMap]
theorem No {g:Nat->Y4}(h:kj w r g)(d:o.op=.lookup 111 x y false)(h1:ρ x=.map (some r))(h2:ρ y=.int .i64 (k:Int)):(oB ρ o).run Y3 w=.ok (.value (Qs (g k))) w:=by
 obtain⟨es,clock,v,q,_⟩:=h.rC;have u:dJ (.int .i64) (.int .i64 (k:Int)):=rfl;have hc:(gG es.isEmpty 10000 3 (.int .i64 (k:Int))).run Y3 w=.ok () w:=dg underlying3 u _ 9999;have c:w.heap[r]?=some (.map es clock):=v;rcases q.find k with⟨hf,hn⟩|⟨j,e,l0,hf,hj,hek,hfk,hv⟩
 ·have A:g k=qx:=by
   unfold UT at hn;split at hn
   ·assumption
   ·cases hn
  rw[A];have C:(zeroValue 341).run Y3 w=.ok (Qs qx) w:=by
   simp[go_sem]
   kernel_rfl
  simp[oB,d,h1,h2,gE,om underlying111,oX c,hc,oq underlying3 hf,C,pv]
 ·have s:l0=g k:=by
   unfold UT at hfk;split at hfk
   ·cases hfk
   ·injection hfk with hfk
    exact hfk.symm
  subst s;rw[<-hv];simp[oB,d,h1,h2,gE,om underlying111,oX c,hc,oq underlying3 hf,pv]
end
end
section
variable {w:World}{ops:Array oM}{rest:List oM}{o:oM}{a:oy}{Q:nF->oy->World->Prop}{r k clock:Nat}{es:Array oJ}{f:Nat->Option Y4}{l:Y4}
theorem OZ (q:o.guard=none)(x y z:py)(u:o.op=.mapUpdate 111 x y z)(h1:a.eval x=.map (some r))(h2:a.eval y=.int .i64 (k:Int))(d:a.eval z=Qs l)(e:YI es f)(C:oH es clock)(s:zw w r es clock)
  (h:∀es' c,YI es' (QM f k (some l))->oH es' c->df Y3 ops Q rest (a.put o.dst ou) (setMap w r es' c)):df Y3 ops Q (o::rest) a w:=by
 obtain⟨es',c,v,j,A⟩:=uv e C s u h1 h2 d;exact Ff q v (h _ _ j A)
theorem AD (e:o.guard=none)(x y:py)(q:o.op=.call {callee:=.builtin .delete,args:=#[x,y],argTypes:=#[111,3]})(h1:a.eval x=.map (some r))(h2:a.eval y=.int .i64 (k:Int))(c:YI es f)(v:oH es clock)(j:zw w r es clock)
  (h:∀es',YI es' (QM f k none)->oH es' clock->df Y3 ops Q rest (a.put o.dst (.tuple #[])) (setMap w r es' clock)):df Y3 ops Q (o::rest) a w:=by
 obtain⟨es',s,d,u⟩:=uw c v j q h1 h2;exact zr e s (h _ d u)
end
theorem CH {g:Nat->Y4}{k:Nat}{l:Y4}(h:l≠qx):QM (UT g) k (some l)=UT (Jn g k l):=by
 funext m
 unfold QM UT Jn
 by_cases e:m=k<;>simp[e,h]
theorem CI {g:Nat->Y4}{k:Nat}(x:Option Y4):QM (QM (UT g) k x) k none=UT (Jn g k qx):=by
 funext m
 unfold QM UT Jn
 by_cases e:m=k<;>simp[e]
section
variable {P:oV}(w:World)
theorem QL (t k e:oD)(p:Option Nat)(h:P.underlying t=some (.map k e)):(binOp .eql t (.map p) (.map none)).run P w=.ok (.bool p.isNone) w:=by
 have c:binOp .eql t (.map p) (.map none)=(do pure (.bool (<-mT (9999+1) t (.map p) (.map none)))):=rfl;have h1:(mT (9999+1) t (.map p) (.map none)).run P w=.ok p.isNone w:=by unfold mT;cases p<;>simp[om h]
 rw[c];simp only[oY,h1,pv,oU]
theorem Ja (t c k e:oD)(v:Value)(h:P.underlying t=some (.map k e)):(Instr.typeAssert (.iface t v) c t false).run P w=.ok v w:=by
 simp[Instr.typeAssert,om h,go_sem,pv]
theorem Pj {r:Nat}{es:Array oJ}{clock:Nat}(t:oD)(c:w.heap[r]?=some (.map es clock)):(mh #[.iface t (.map (some r))]).run P w=.ok (.iface t (.map (some w.heap.size))) (w.alloc (.map es clock)):=by
 have e:mh #[.iface t (.map (some r))]=(getObj r >>= λo=>match o with
   | .map entries clock=>(newObj (.map entries clock) >>= λn=>pure (.iface t (.map (some n))))
   | _ => stuck "maps.clone: a map expected") := rfl
 rw[e];simp[oX c,pv,go_sem]
end
theorem Ex (w:World)(r k:Nat)(g:Nat->Y4)(l:Y4)(hl:l.length=64)(h:kj w r g):pr Y3 295 #[.map (some r),.int .i64 (k:Int),Qs l] w λe w'=>(∃v,e=Y0 v)/\kj w' r (Jn g k l)/\w.grownBy w' (some r):=by
 obtain⟨es,clock,S,M,T⟩:=h.rC;have K:=za.new w 341 (l.map b8).toArray;have N:w.grownBy (w.alloc (.cells (l.map b8).toArray 341)) (some r):=⟨rfl,rfl,rfl,by simp,λj hj _=>nE w _ j hj⟩;have q:zw (w.alloc (.cells (l.map b8).toArray 341)) r es clock:=(nE w _ r S.lt).trans S;have O:∀m,(Jn g k l m).length=64:=λm=>by unfold Jn;split;exact hl;exact h.len m
 have U:(l.map b8).toArray.size=64:=by simp[hl]
 have I:yx Y3 341 (l.map b8).toArray.size:=by rw[U];exact jC
 have H:=pk hl;have V:qx.length=64:=by decide
 clear hl U
 go_enter func295,ntmps295
 by_cases s:l=qx
 ·have hq:(l==qx)=true:=by simpa using s
  have A:=pk s;clear s
  go_wp2_with (first
   | (refine xA (g:=w.heap.size) I (by with_reducible assumption) ?_)
   | (refine OZ rfl (.tmp 6) (.tmp 7) (.tmp 8) rfl rfl rfl rfl M T q ?_;intro d c E G;have u:=q.set d c;have F:=zz N (vM q d c);have W:=K.sN q d c)
   | (refine zr rfl (Ds rfl) ?_)
   | (refine zr rfl (OY H.out V rfl rfl rfl) ?_;rw[hq])
   | (refine AD rfl (.tmp 12) (.tmp 13) rfl rfl rfl E G u ?_;intro C X aB;have aA:=u.set C c;have Z:=zz F (vM u C c)))
  go_end0;refine⟨⟨_,rfl⟩,⟨O,C,c,aA,?_,aB⟩,Z⟩;rw[A.out,<-CI (some l)];exact X
 ·have hq:(l==qx)=false:=by simpa using s
  have A:=pk s;clear s
  go_wp2_with (first
   | (refine xA (g:=w.heap.size) I (by with_reducible assumption) ?_)
   | (refine OZ rfl (.tmp 6) (.tmp 7) (.tmp 8) rfl rfl rfl rfl M T q ?_;intro d c E G;have u:=q.set d c;have F:=zz N (vM q d c);have W:=K.sN q d c)
   | (refine zr rfl (Ds rfl) ?_)
   | (refine zr rfl (OY H.out V rfl rfl rfl) ?_;rw[hq]))
  go_end0;refine⟨⟨_,rfl⟩,⟨O,d,c,u,?_,G⟩,F⟩;rw[<-CH A.out];exact E
theorem RT (w:World)(r:Nat)(g:Nat->Y4)(h:kj w r g):pr Y3 294 #[.map (some r)] w λe w'=>e=Y0 (.map (some w.heap.size))/\kj w' w.heap.size g/\ph w.heap.size w w':=by
 obtain⟨es,clock,d,c⟩:=h.rC;have j:w.heap[r]?=some (.map es clock):=d;have q:kj (w.alloc (.map es clock)) w.heap.size g:=⟨h.len,es,clock,heap_alloc_new w _,c⟩;have hB:ph w.heap.size w (w.alloc (.map es clock)):=(pf _ _).alloc (zG _) _
 go_enter func294,ntmps294
 have hq:=λW=>QL (P:=Y3) W 111 _ _ (some r) underlying111
 go_wp2_with fail
 rw[run_callFunc_extern func329 (by kernel_rfl) (by kernel_rfl) (by kernel_rfl) (e:=mh) (by kernel_rfl),Pj w 111 j];simp only[pv];rw[Oper.upon_value];go_wp2;rw[Ja _ 111 20 _ _ _ underlying111];simp only[pv];rw[Oper.upon_value];go_wp2;go_ret;exact⟨rfl,q,hB⟩
def kT (x:Nat×Y4):Y8:=.int .i64 (x.1:Int)::x.2.map b8
def Kv (xs:List (Nat×Y4)):Y8:=(xs.map kT).flatten
def Tt (xs:List (Nat×Y4)):Prop:=∀x∈xs,x.2.length=64
theorem vP {x:Nat×Y4}(h:x.2.length=64):(kT x).length=65:=by simp[kT,h]
theorem Lq {xs:List (Nat×Y4)}(h:Tt xs):(Kv xs).length=xs.length*65:=by
 induction xs with
 | nil=>rfl
 | cons x xs ih =>
  have h1:=ih (λy c=>h y (by simp[c]));have h2:=vP (h x (by simp));have e:Kv (x::xs)=kT x++Kv xs:=rfl;rw[e,zH,h1,h2,zL];omega
theorem Hd (xs ys:List (Nat×Y4)):Kv (xs++ys)=Kv xs++Kv ys:=by simp[Kv]
theorem BG {xs:List (Nat×Y4)}(h:Tt xs)(j:Nat)(c:j<xs.length):((Kv xs).drop (j*65)).take 65=kT xs[j]:=by
 have e:Kv xs=Kv (xs.take j)++(kT xs[j]++Kv (xs.drop (j+1))):=by have d:kT xs[j]++Kv (xs.drop (j+1))=Kv (xs[j] :: xs.drop (j+1)):=rfl;rw[d,<-Hd,<-qR c,qJ]
 have hl:(Kv (xs.take j)).length=j*65:=by rw[Lq (λx q=>h x (yI q)),zZ];congr 1;omega
 rw[e,<-hl,gU];have s:=vP (h xs[j] (qI c));rw[dM (by omega),qB (by omega)]
theorem KS (x:Nat×Y4):∀v∈kT x,v.oneCell'=true:=by
 intro v c;simp[kT] at c;rcases c with rfl|⟨y,_,rfl⟩<;>rfl
theorem Al (xs:List (Nat×Y4)):∀v∈Kv xs,v.oneCell'=true:=by
 intro v c;unfold Kv at c;obtain⟨l,hl,c⟩:=List.mem_flatten.1 c;obtain⟨x,_,rfl⟩:=qP.1 hl;exact KS _ v c
def Ni:Value:=.agg (kT (0,qx)).toArray
theorem KJ:yx Y3 366 65:=⟨⟨_,underlying366,rfl⟩,by kernel_rfl⟩
theorem Rm:Zj 112 366 65 72 Ni:=⟨underlying112,by kernel_rfl,by kernel_rfl,by decide⟩
def FQ (w:World)(B:Nat)(A:Y5)(c:Nat)(xs:List (Nat×Y4)):Prop:=Tt xs/\yp w B 65 A xs.length c (Kv xs)
theorem FQ.grow {w w':World}{A:Y5}{c:Nat}{xs:List (Nat×Y4)}(h:FQ w w.heap.size A c xs)(d:ph w.heap.size w w'):FQ w' w'.heap.size A c xs:=⟨h.1,h.2.grow d⟩
theorem FQ.mt (w:World)(B:Nat):FQ w B none 0 []:=⟨λx h=>by simp at h,yp.mt _ _ _⟩
theorem FQ.elem {w:World}{B g o c:Nat}{xs:List (Nat×Y4)}(h:FQ w B (some ⟨g,o,none⟩) c xs)(j:Nat)(d:j<xs.length):w.rangeAt g (o+j*65) (kT xs[j]):=by
 have:=h.2.elem j d;rw[BG h.1 j d] at this;exact this
def wh (r:Nat)(many:Int)(A:Y5)(n c:Nat)(left:Int)(stops:Bool):Y7:=#[.map (some r),.int .i64 many,.slice A n c,.int .i64 left,.bool stops]
structure yR (w:World)(p:Nat)(many:Nat)(g:Nat->Y4)(xs:List (Nat×Y4))(left:Int)(stops:Bool):Prop where
 has:∃r A c,za w p 114 (wh r many A xs.length c left stops)/\kj w r g/\FQ w w.heap.size A c xs
theorem yR.lt {w:World}{p many:Nat}{g:Nat->Y4}{xs:List (Nat×Y4)}{left:Int}{stops:Bool}(h:yR w p many g xs left stops):p<w.heap.size:=by
 obtain⟨r,A,c,d,_⟩:=h.has;exact d.lt
theorem yR.grow {w w':World}{p many:Nat}{g:Nat->Y4}{xs:List (Nat×Y4)}{left:Int}{stops:Bool}(h:yR w p many g xs left stops)(hB:ph w.heap.size w w'):yR w' p many g xs left stops:=by
 obtain⟨r,A,c,d,e,j⟩:=h.has;exact⟨r,A,c,d.below hB d.lt,e.grow hB,j.grow hB⟩
theorem FQ.rT {w:World}{B q g o c:Nat}{xs:List (Nat×Y4)}{cs:Y7}{T:oD}(h:FQ w B (some ⟨g,o,none⟩) c xs)(d:0<xs.length)(j:za w q T cs)(hs:cs.size<=64):g≠q:=by
 intro e;subst e;have s:=h.elem 0 d;have hl:=vP (h.1 xs[0] (qI d));have:=s 64 ((kT xs[0])[64]'(by omega)) (zM (by omega));rw[j.cell] at this;have h2:=(zK.1 this).1;omega
theorem yR.other {w w':World}{p q many:Nat}{g:Nat->Y4}{xs:List (Nat×Y4)}{left:Int}{stops:Bool}(h:yR w p many g xs left stops){cs:Y7}{T:oD}(hq:za w q T cs)(hs:cs.size<=64)(N:p≠q)(s:w.grownBy w' (some q)):yR w' p many g xs left stops:=by
 obtain⟨r,A,c,I,u,F,d⟩:=h.has;have S:r≠q:=λe=>by subst e;obtain⟨es,G,h1,_⟩:=u.rC;have h2:w.heap[r]?=some (.cells cs T (0,0)):=hq;have H:w.heap[r]?=some (.map es G):=h1;rw[H] at h2;cases h2
 refine⟨r,A,c,I.grown s (λe=>N (by injection e)),u.rE (s.block r u.lt (λe=>S (by injection e))),F,?_⟩;refine⟨d.le,d.max,d.nil,d.len,d.one,λC => ?_⟩;obtain⟨b,o,e,E,O⟩:=d.rC C;subst e;have K:b≠q:=FQ.rT (w:=w) (B:=w.heap.size) (c:=c) ⟨F,d⟩ C hq hs;exact⟨b,o,rfl,zO E s.size,λj v M=>(oG (s.block b E (λe=>K (by injection e)))).trans (O j v M)⟩
theorem RW (w:World)(A:Y5)(c:Nat)(xs:List (Nat×Y4))(h:FQ w w.heap.size A c xs)(hl:xs.length<=1000000):pr Y3 298 #[.slice A xs.length c] w λe w'=>∃v,e=Y0 v/\w'.ownsRow w.heap.size 366 65 v xs.length (Kv xs)/\ph w.heap.size w w':=by
 obtain⟨F,j⟩:=h;rcases A with _|q
 ·have hc:=j.nil rfl;subst hc;have E:=j.le;obtain rfl:xs=[]:=qF (by omega);have hq:=λW=>Qu (P:=Y3) W 112 366 none 0 0 underlying112
  go_enter func298,ntmps298
  go_wp2;go_ret;exact⟨_,rfl,World.ownsRow_nil _ _ _ _,pf _ _⟩
 ·have s:(w.alloc (.cells #[] 366)).ownsRow w.heap.size 366 65 (.slice (some ⟨w.heap.size,0,none⟩) 0 0) 0 []:=nM w #[] 0 (zG _) (by unfold oo;omega) rfl;have d:ph w.heap.size w (w.alloc (.cells #[] 366)):=(pf _ w).alloc (zG _) _;have h1:=j.below d;have hq:=λW=>Qu (P:=Y3) W 112 366 (some q) xs.length c underlying112
  go_enter func298,ntmps298
  go_wp2_with (at_builtin;refine xy rfl Rm (.tmp 5) (.tmp 6) rfl w.heap.size (.slice (some ⟨w.heap.size,0,none⟩) 0 0) 0 [] rfl s _ (some q) xs.length c (Kv xs) rfl h1 (by unfold oo;omega) (by omega) (by simp) ?_;intro v1 G u C)
  go_ret;rw[zQ,qC] at u;exact⟨_,rfl,u,d.trans (zl C d.size (zh s))⟩
section
variable (w:World)(p many:Nat)(g:Nat->Y4)(xs:List (Nat×Y4))(left:Int)(stops:Bool)
theorem Jg (h:yR w p many g xs left stops):pr Y3 163 #[.pointer (some ⟨p,0,none⟩)] w λe w'=>e=Y0 (.bool false)/\w=w':=by
 obtain⟨r,A,c,d,j,q⟩:=h.has;have c0:w.cell? ⟨p,0,none⟩=some (.map (some r)):=by rw[d.cell];rfl
 have hq:=λW=>QL (P:=Y3) W 111 _ _ (some r) underlying111
 go_enter func163,ntmps163
 go_wp2;go_ret;exact⟨rfl,rfl⟩
theorem DL (h:yR w p many g xs left stops):pr Y3 293 #[.pointer (some ⟨p,0,none⟩)] w λe w'=>e=Y0 (.bool (stops&&left==0))/\w=w':=by
 have j:=Jg w p many g xs left stops h;obtain⟨r,A,c,d,s,u⟩:=h.has;have c3:w.cell? ⟨p,3,none⟩=some (.int .i64 left):=by rw[d.cell];rfl
 have q:w.cell? ⟨p,4,none⟩=some (.bool stops):=by rw[d.cell];rfl
 cases stops
 all_goals
  go_enter func293,ntmps293
  go_wp2_with (go_at_call 163;refine j.mono ?_;rintro e w' ⟨rfl,rfl⟩)
  go_ret;exact⟨by simp,rfl⟩
theorem Hg (h:yR w p many g xs left stops)(hl : -1000000<=left)(N:left<=9223372036854775807):pr Y3 233 #[.pointer (some ⟨p,0,none⟩)] w λe w'=>(∃v,e=Y0 v)/\yR w' p many g xs (if stops then left-1 else left) stops/\w.grownBy w' (some p)/\w'.cell? ⟨p,2,none⟩=w.cell? ⟨p,2,none⟩:=by
 have E:=h;obtain⟨r,A,c,q,H,d⟩:=h.has;have c3:w.cell? ⟨p,3,none⟩=some (.int .i64 left):=by rw[q.cell];rfl
 have K:w.cell? ⟨p,4,none⟩=some (.bool stops):=by rw[q.cell];rfl
 have M:=q.free 3;have O:IntKind.i64.wrap (left-1)=left-1:=zg _;cases stops with
 | false =>
  go_enter func233,ntmps233
  go_wp2;go_end0;exact⟨⟨_,rfl⟩,E,gh _ _,rfl⟩
 | true =>
  go_enter func233,ntmps233
  go_wp2;go_end0;have C:=ja w ⟨p,3,none⟩ (.int .i64 (left-1));refine⟨⟨_,rfl⟩,⟨r,A,c,q.set 3 _,H.setCell _ _,d.1,?_⟩,C,dh _ _ _ _ (by simp)⟩;refine⟨d.2.le,d.2.max,d.2.nil,d.2.len,d.2.one,λs => ?_⟩;obtain⟨b,o,e,u,I⟩:=d.2.rC s;subst e;have F:b≠p:=FQ.rT d s q (by simp[wh]);exact⟨b,o,rfl,by simpa using u,λj v G=>(oG (C.block b u (λe=>F (by injection e)))).trans (I j v G)⟩
end
end
end Go.Proofs.YtohmkffoojdahaaGreat
