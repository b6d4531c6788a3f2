/- Texts that the proof of TreeNone leans on, part 2. -/
import Derived.Orders
import Derived.RegionTactic
import Derived.Shelf.Abstract
import Derived.ScopeJumps
import Derived.Lib.SlBytesConst
import Derived.LoopN
import Derived.Stop.BytesEq
import Derived.Test.YtpibjkbadnffgaaGreatTreeNoneB1
open List renaming all_eq_true → qJ, nil_append → zV, cons_append → qB, take_succ_eq_append_getElem → zW, getElem_cons_zero → zB, getElem_mem → qF, take_of_length_le → qI, replicate → zR, setIfInBounds_toArray → zA, set_cons_succ → zF, set_cons_zero → zG, length_append → zJ, length_cons → zP
open Nat renaming le_refl → zH, lt_of_lt_of_le → zO, zero_add → qC
open Array renaming getD_eq_getD_getElem? → zS, getElem?_eq_some_iff → zI, getElem?_setIfInBounds → zQ
set_option linter.unusedVariables false
set_option maxRecDepth 100000
set_option maxHeartbeats 8000000

namespace Go.Proofs.YtpibjkbadnffgaaGreat
open Go Go.RowKit
def Grow (w w':World):Prop:=Below w.heap.size w w'
theorem Grow.refl (w:World):Grow w w:=Below.refl _ _
theorem Grow.trans {a b c:World}(h:Grow a b)(k:Grow b c):Grow a c:=Below.trans h (Below.mono k h.size)
theorem Grow.drew (w:World):Grow w w.drew:=(Below.refl _ _).drew
theorem Grow.alloc (w:World)(o:Obj):Grow w (w.alloc o):=(Below.refl _ _).alloc (zH _) o
namespace Reg
variable {P:Program}{ops:Array Oper}{FS:Tmp->Value->World->Prop}
def FSd (FS:Tmp->Value->World->Prop):Option Tmp->Value->World->Prop
 | some d,v,w=>FS d v w
 | none,_,_=>True
def OpOk (P:Program)(ops:Array Oper)(FS:Tmp->Value->World->Prop)(w0:World)(o:Oper):Prop :=
 ∀(a:Act) (w:World) (K:Act->World->Prop) (Q:Exit->Act->World->Prop),Grow w0 w->(∀t,(o.looksAt ops).contains t=true->FS t (a.eval (.tmp t)) w) ->
  (∀v w',Grow w w'->FSd FS o.dst v w'->K (a.put o.dst v) w') ->
  (if Region.wanted o (yielded ops a.tmps) then o.wp P a w K Q∨(o.asks P a w/\LetsOut Q) else K (a.put o.dst undef) w)
def AllOk (P:Program)(ops:Array Oper)(FS:Tmp->Value->World->Prop)(w0:World):List Oper->Prop
 | []=>True
 | o::r=>OpOk P ops FS w0 o/\AllOk P ops FS w0 r
theorem AllOk.get {w0:World}:∀{l:List Oper},AllOk P ops FS w0 l->∀o∈l,OpOk P ops FS w0 o
 | [],_,o,h=>by cases h
 | x::r,h,o,a=>by
  rcases List.mem_cons.1 a with rfl|a
  ·exact h.1
  ·exact AllOk.get h.2 o a
def covered (ops:Array Oper):Bool :=
 ops.toList.zipIdx.all λ(o,i) =>
  (o.after.toList.all λe => !Region.binds .any e || decide (e.on<i)) &&
  (o.looksAt ops).all λt=>ops.toList.zipIdx.all λ(p,j)=>p.dst != some t || (o.after.toList.any λe=>Region.binds .any e && e.on == j)
def Known (ops:Array Oper)(listed:Array Bool)(t:Tmp):Prop:=∀(j:Nat) (p:Oper),ops[j]? = some p->p.dst=some t->listed.getD j true=true
structure J (ops:Array Oper)(FS:Tmp->Value->World->Prop)(w0:World)(n:Nat)(d:List Deferred)(listed:Array Bool)(a:Act)(w:World):Prop where
 size:a.tmps.size=n
 defers:a.defers=d
 grow:Grow w0 w
 facts:∀t,Known ops listed t->FS t (a.eval (.tmp t)) w
theorem eval_put_same {a:Act}{d:Tmp}{v:Value}(h:d<a.tmps.size):(a.put (some d) v).eval (.tmp d)=v:=by
 simp[Act.put,Act.eval,h]
theorem eval_put_other {a:Act}{d t:Tmp}{v:Value}(h:t≠d):(a.put (some d) v).eval (.tmp t)=a.eval (.tmp t):=by
 simp[Act.put,Act.eval,zS,Ne.symm h]
theorem ready_mem {i:Nat}{listed:Array Bool}(h:i∈Region.ready .any ops listed):∃o,ops[i]? = some o/\listed.getD i true=false/\∀e∈o.after.toList,Region.binds .any e=true->listed.getD e.on false=true:=by
 unfold Region.ready at h
 simp only[List.mem_filter,List.mem_range,Bool.and_eq_true,Bool.not_eq_true'] at h
 obtain⟨f,h1,h2⟩:=h
 cases a:ops[i]? with
 | none=>simp[a] at h2
 | some o =>
  refine⟨o,rfl,h1,?_⟩
  simp only[a,Option.map_some,Option.getD_some] at h2
  intro e d c
  rw[Array.all_eq_true_iff_forall_mem] at h2
  have:=h2 e (Array.mem_toList_iff.1 d)
  simpa[c] using this
theorem covered_spec (h:covered ops=true){i:Nat}{o:Oper}(k:ops[i]? = some o) :
  (∀e∈o.after.toList,Region.binds .any e=true->e.on<i) /\
  (∀t,(o.looksAt ops).contains t=true->∀(j:Nat) (p:Oper),ops[j]? = some p->p.dst=some t->∃e∈o.after.toList,Region.binds .any e=true/\e.on=j):=by
 unfold covered at h
 rw[qJ] at h
 have g:(o,i)∈ops.toList.zipIdx:=by
  rw[List.mem_zipIdx_iff_getElem?]
  simpa using k
 have:=h _ g
 simp only[Bool.and_eq_true,qJ] at this
 obtain⟨h1,h2⟩:=this
 constructor
 ·intro e c a
  have:=h1 e c
  simpa[a] using this
 ·intro t ht j p d hd
  have m:(p,j)∈ops.toList.zipIdx:=by
   rw[List.mem_zipIdx_iff_getElem?]
   simpa using d
  have:=h2 t (by simpa using ht) _ m
  simp only[hd,bne_self_eq_false,Bool.false_or,List.any_eq_true,Bool.and_eq_true,beq_iff_eq] at this
  obtain⟨e,c,a,f⟩:=this
  exact⟨e,c,a,f⟩
def left (listed:Array Bool):Nat:=(listed.toList.filter (! ·)).length
theorem region_wpAny (hm:P.follows .mixedOrders=true)(K:covered ops=true){a0:Act}{w0:World}{Q:Exit->Act->World->Prop}(n:Nat)(hn:a0.tmps.size=n)
  (X:∀o∈ops.toList,∀d,o.dst=some d->d<n) (FS:Tmp->Value->World->Prop)
  (F:∀t v w w',FS t v w->Grow w w'->FS t v w')
  (Z:∀t,(∀o∈ops.toList,o.dst≠some t)->FS t (a0.eval (.tmp t)) w0)
  (V:AllOk P ops FS w0 ops.toList)
  (S:∀a w,a.tmps.size=n->a.defers=a0.defers->Grow w0 w->(∀t,FS t (a.eval (.tmp t)) w)->Q .normal a w) :
  wpAny P .any ops Q ops.size (Array.replicate ops.size false) a0 { w0 with drawn:=w0.drawn+1 }:=by
 have key:∀(m:Nat) (listed:Array Bool) (a:Act) (w:World),listed.size=ops.size->left listed<=m->J ops FS w0 n a0.defers listed a w->wpAny P .any ops Q m listed a w:=by
  intro m
  have H:∀(listed:Array Bool) (a:Act) (w:World),listed.size=ops.size->J ops FS w0 n a0.defers listed a w->Region.ready .any ops listed=[]->Q .normal a w:=by
   intro listed a w hs c k
   have aB:∀i,i<ops.size->listed.getD i true=true:=by
    intro i
    induction i using Nat.strongRecOn with
    | _ i ih =>
     intro h
     cases hl:listed.getD i true with
     | true=>rfl
     | false =>
      exfalso
      have:i∈Region.ready .any ops listed:=by
       unfold Region.ready
       simp only[List.mem_filter,List.mem_range,Bool.and_eq_true,Bool.not_eq_true']
       refine⟨h,hl,?_⟩
       have f:ops[i]? = some ops[i]:=Array.getElem?_eq_getElem h
       simp only[f,Option.map_some,Option.getD_some]
       rw[Array.all_eq_true_iff_forall_mem]
       intro e x
       have hc:=(covered_spec K f).1 e (Array.mem_toList_iff.2 x)
       cases z:Region.binds .any e with
       | false=>simp
       | true =>
        have A:=hc z
        have h1:=ih e.on A (by omega)
        have h2:e.on<listed.size:=by omega
        simp only[Array.getD,h2,dif_pos] at h1 ⊢
        simpa using h1
      rw[k] at this
      cases this
   refine S a w c.size c.defers c.grow (λt=>c.facts t ?_)
   intro j p g _
   exact aB j (zI.1 g).1
  induction m with
  | zero =>
   intro listed a w hs hf c
   have k:Region.ready .any ops listed=[]:=by
    rcases k:Region.ready .any ops listed with _|⟨i,r⟩
    ·rfl
    ·exfalso
     obtain⟨o,f,hl,_⟩:=ready_mem (ops:=ops) (listed:=listed) (i:=i) (by rw[k];simp)
     have h:i<listed.size:=by rw[hs];exact(zI.1 f).1
     have U:listed[i]∈listed.toList.filter (! ·):=by
      rw[List.mem_filter]
      refine⟨by simp,?_⟩
      have u:listed[i]=false:=by simpa[Array.getD,h] using hl
      simp[u]
     have:0<left listed:=List.length_pos_of_mem U
     omega
   exact⟨k,H listed a w hs c k⟩
  | succ m ih =>
   intro listed a w hs hf c
   refine⟨H listed a w hs c,λi h => ?_⟩
   obtain⟨o,f,hl,O⟩:=ready_mem h
   have G:o∈ops.toList:=by
    obtain⟨h1,h2⟩:=zI.1 f
    subst h2
    simp
   have q:i<listed.size:=by rw[hs];exact(zI.1 f).1
   have aA:∀t,(o.looksAt ops).contains t=true->FS t (a.eval (.tmp t)) w:=by
    intro t ht
    refine c.facts t ?_
    intro j p g hd
    obtain⟨e,x,z,rfl⟩:=(covered_spec K f).2 t ht j p g hd
    have:=O e x z
    have A:e.on<listed.size:=by rw[hs];exact(zI.1 g).1
    simp only[Array.getD,A,dif_pos] at this ⊢
    exact this
   have W:∀v w',Grow w w'->FSd FS o.dst v w'->wpAny P .any ops Q m (listed.setIfInBounds i true) (a.put o.dst v) w':=by
    intro v w' C I
    refine ih _ _ _ (by simpa using hs) ?_ ⟨?_,?_,c.grow.trans C,?_⟩
    ·have u:listed[i]=false:=by simpa[Array.getD,q] using hl
     have:left (listed.setIfInBounds i true)<left listed:=by
      unfold left
      rw[Array.toList_setIfInBounds]
      have N:listed.toList=listed.toList.take i++false::listed.toList.drop (i+1):=by
       have M:listed.toList[i]'(by simpa using q)=false:=by simpa using u
       conv=>lhs;rw[<-List.take_append_drop i listed.toList,List.drop_eq_getElem_cons (by simpa using q),M]
      rw[List.set_eq_take_append_cons_drop,if_pos (by simpa using q)]
      conv=>rhs;rw[N]
      simp
     omega
    ·cases hd:o.dst with
     | none=>simpa[Act.put] using c.size
     | some d=>simpa[Act.put] using c.size
    ·cases hd:o.dst with
     | none=>simpa[Act.put] using c.defers
     | some d=>simpa[Act.put] using c.defers
    ·intro t ht
     by_cases s:o.dst=some t
     ·rw[s] at I ⊢
      rw[eval_put_same (by rw[c.size];exact X o G t s)]
      exact I
     ·have T:Known ops listed t:=by
       intro j p g hd
       have:=ht j p g hd
       by_cases e:i=j
       ·subst e
        rw[f] at g
        injection g with g
        subst g
        exact absurd hd s
       ·simpa[zS,zQ,e] using this
      have:=F t _ w w' (c.facts t T) C
      cases hd:o.dst with
      | none=>simpa[Act.put] using this
      | some d =>
       rw[eval_put_other (by intro e;subst e;exact s hd)]
       exact this
   have:=AllOk.get V o G a w _ Q c.grow aA W
   unfold wpOp
   simp only[f]
   exact this
 refine key ops.size _ a0 _ (by simp) ?_ ⟨hn,rfl,Grow.drew w0,?_⟩
 ·unfold left
  simp
 ·intro t ht
  refine F t _ w0 _ (Z t ?_) (Grow.drew w0)
  intro o f hd
  obtain⟨i,h,rfl⟩:=List.getElem_of_mem f
  have E:i<ops.size:=by simpa using h
  have:=ht i ops[i] (Array.getElem?_eq_getElem E) (by simpa using hd)
  simp[Array.getD,E] at this
theorem region (c:P.follows .mixedOrders=true)(m:covered ops=true){k:Nat}{a0:Act}{w0:World}{Q:Exit->Act->World->Prop}(n:Nat)(hn:a0.tmps.size=n)
  (h:∀o∈ops.toList,∀d,o.dst=some d->d<n) (FS:Tmp->Value->World->Prop)
  (e:∀t v w w',FS t v w->Grow w w'->FS t v w')
  (j:∀t,(∀o∈ops.toList,o.dst≠some t)->FS t (a0.eval (.tmp t)) w0)
  (g:AllOk P ops FS w0 ops.toList)
  (f:∀a w,a.tmps.size=n->a.defers=a0.defers->Grow w0 w->(∀t,FS t (a.eval (.tmp t)) w)->Q .normal a w) :
  (Code.region k ops true).wp P Q a0 w0 :=
 wp_region_any c (region_wpAny c m n hn h FS e j g f)
variable {w0:World}{o:Oper}
def RunOk (P:Program)(ops:Array Oper)(FS:Tmp->Value->World->Prop)(w0:World)(o:Oper):Prop :=
 ∀(a:Act) (w:World) (K:Act->World->Prop) (Q:Exit->Act->World->Prop),Grow w0 w->(∀t,(o.looksAt ops).contains t=true->FS t (a.eval (.tmp t)) w) ->
  (∀v w',Grow w w'->FSd FS o.dst v w'->K (a.put o.dst v) w')->o.wp P a w K Q
theorem ok_none (c:o.guard=none)(h:RunOk P ops FS w0 o):OpOk P ops FS w0 o:=by
 intro a w K Q d hl e
 rw[if_pos (by simp[Region.wanted,c])]
 exact .inl (h a w K Q d hl e)
theorem ok_guard (j:Nat)(want:Bool)(d:Tmp)(g:o.guard=some (j,want))(hd:(ops[j]?).bind (·.dst)=some d)(hl:(o.looksAt ops).contains d=true)(hF:∀v w,FS d v w->v = .bool want)
  (h:RunOk P ops FS w0 o):OpOk P ops FS w0 o:=by
 intro a w K Q m f k
 have e:=hF _ _ (f d hl)
 have n:Region.wanted o (yielded ops a.tmps)=true:=by
  have h2:a.tmps[d]? = some (.bool want):=by
   replace e:a.tmps.getD d undef = .bool want:=e
   rw[zS] at e
   cases c:a.tmps[d]? with
   | none=>rw[c] at e;cases e
   | some x=>rw[c] at e;simpa using e
  simp[Region.wanted,g,yielded,hd,h2]
 rw[if_pos n]
 exact .inl (h a w K Q m f k)
def Has (ops:Array Oper)(FS:Tmp->Value->World->Prop)(o:Oper)(x:Operand)(v:Value):Prop :=
 ∀(a:Act) (w:World),(∀t,(o.looksAt ops).contains t=true->FS t (a.eval (.tmp t)) w)->a.eval x=v
theorem has_tmp {t:Tmp}{v:Value}(h:(o.looksAt ops).contains t=true)(hF:∀u w,FS t u w->u=v):Has ops FS o (.tmp t) v:=λ_ _ hl=>hF _ _ (hl t h)
theorem has_const {v:Value}:Has ops FS o (.const v) v:=λ_ _ _=>rfl
theorem run_mvF (t:Tmp)(c:o.op = .move (.tmp t)∨o.op = .assign (.tmp t))(hc:(o.looksAt ops).contains t=true)(hd:∀v w,FS t v w->FSd FS o.dst v w):RunOk P ops FS w0 o:=by
 intro a w K Q e hl d
 unfold Oper.wp execOp
 rcases c with c|c<;>simp only[c,Sem.run_pure,Oper.upon_value]<;>exact d _ w (Grow.refl w) (hd _ _ (hl t hc))
theorem run1 (x:Operand){u r:Value}(e:Has ops FS o x u)(d:∀(ρ:Operand->Value) (w:World),ρ x=u->(execOp ρ o).run P w = .ok (.value r) w)(hd:∀w,FSd FS o.dst r w):RunOk P ops FS w0 o:=by
 intro a w K Q f hl c
 unfold Oper.wp
 rw[d a.eval w (e a w hl)]
 exact c r w (Grow.refl w) (hd w)
theorem run2 (x y:Operand){u v r:Value}(e:Has ops FS o x u)(f:Has ops FS o y v)(d:∀(ρ:Operand->Value) (w:World),ρ x=u->ρ y=v->(execOp ρ o).run P w = .ok (.value r) w)(hd:∀w,FSd FS o.dst r w):RunOk P ops FS w0 o:=by
 intro a w K Q g hl c
 unfold Oper.wp
 rw[d a.eval w (e a w hl) (f a w hl)]
 exact c r w (Grow.refl w) (hd w)
theorem run_call (f:FuncId)(xs:Array Operand)(s:Array TypeId)(j:o.op = .call { callee:=.value (.func f),args:=xs,argTypes:=s })(g:∀args w,(callFunc f args).run P w = .ok (.enter f args) w)
  (args:Array Value) (k:∀(a:Act) (w:World),(∀t,(o.looksAt ops).contains t=true->FS t (a.eval (.tmp t)) w)->xs.map a.eval=args)
  (m:∀w,Grow w0 w->Calls P f args w λe w'=>∃v,e = .returned v/\Grow w w'/\FSd FS o.dst v w'):RunOk P ops FS w0 o:=by
 intro a w K Q p hl d
 have e:=k a w hl
 unfold Oper.wp
 have n:(execOp a.eval o).run P w = .ok (.enter f args) w:=by
  have r:(Array.map a.eval xs)=args:=e
  have q:a.eval (.func f) = .func (.func f) #[] #[]:=rfl
  have h:=g args w
  simp[execOp,j,resolve,r,q,Deferred.ofValue,invoke,h]
 rw[n,Oper.upon_enter]
 refine(m w p).mono ?_
 rintro e w' ⟨v,rfl,c,hf⟩
 exact d v w' c hf
end Reg
end Go.Proofs.YtpibjkbadnffgaaGreat
namespace Go.Proofs.YtpibjkbadnffgaaGreat
open Go Go.RowKit Lou
inductive Fact where
 | val (v:Value)
 | res (l:List UInt8)
 | any
 | pred (p:Value->World->Prop) (h:∀v w w',p v w->Grow w w'->p v w')
def Fact.holds:Fact->Value->World->Prop
 | .val x,v,_=>v=x
 | .res l,v,w=>∃A c,v = .slice A l.length c/\InB w w.heap.size A c l
 | .any,_,_=>True
 | .pred p _,v,w=>p v w
theorem Fact.stable (f:Fact){v:Value}{w w':World}(h:f.holds v w)(a:Grow w w'):f.holds v w':=by
 cases f with
 | val x=>exact h
 | res l =>
  obtain⟨A,c,e,d⟩:=h
  exact⟨A,c,e,(d.below a).more a.size⟩
 | any=>trivial
 | pred p hp=>exact hp v w w' h a
def factOf:List (Nat×Fact)->Nat->Fact
 | [],_ => .any
 | (k,f)::r,t=>if k == t then f else factOf r t
def FSof (L:List (Nat×Fact))(t:Tmp)(v:Value)(w:World):Prop:=(factOf L t).holds v w
theorem FSof.stable (L:List (Nat×Fact))(t:Tmp)(v:Value)(w w':World)(h:FSof L t v w)(a:Grow w w'):FSof L t v w':=Fact.stable _ h a
def written (ops:Array Oper)(t:Nat):Bool:=ops.toList.any λo=>o.dst == some t
def dstsIn (ops:Array Oper)(n:Nat):Bool:=ops.toList.all λo=>match o.dst with|some d=>decide (d<n)|none=>true
namespace Reg
def StartOk (a0:Act)(w0:World):List (Nat×Fact)->Prop
 | []=>True
 | (k,f)::r=>f.holds (a0.eval (.tmp k)) w0/\StartOk a0 w0 r
theorem start_fact {a0:Act}{w0:World}{ops:Array Oper}:∀(V W:List (Nat×Fact)),StartOk a0 w0 V->(W.all λp=>written ops p.1)=true->∀t,(∀o∈ops.toList,o.dst≠some t)->(factOf (V++W) t).holds (a0.eval (.tmp t)) w0
 | [],[],_,_,t,_=>by simp[factOf,Fact.holds]
 | [],(k,f)::r,hV,hW,t,ht=>by
  simp only[List.all_cons,Bool.and_eq_true] at hW
  simp only[zV,factOf]
  split
  ·rename_i e
   obtain rfl:k=t:=by simpa using e
   exfalso
   have:=hW.1
   simp only[written,List.any_eq_true,beq_iff_eq] at this
   obtain⟨o,a,hd⟩:=this
   exact ht o a hd
  ·exact start_fact [] r hV hW.2 t ht
 | (k,f)::r,W,hV,hW,t,ht=>by
  simp only[qB,factOf]
  split
  ·rename_i e
   obtain rfl:k=t:=by simpa using e
   exact hV.1
  ·exact start_fact r W hV.2 hW t ht
theorem allOk_cons {P:Program}{ops:Array Oper}{FS:Tmp->Value->World->Prop}{w0:World}{o:Oper}{r:List Oper}(h:OpOk P ops FS w0 o)(k:AllOk P ops FS w0 r):AllOk P ops FS w0 (o::r):=⟨h,k⟩
theorem allOk_nil {P:Program}{ops:Array Oper}{FS:Tmp->Value->World->Prop}{w0:World}:AllOk P ops FS w0 []:=trivial
section rules
variable {ops:Array Oper}{FS:Tmp->Value->World->Prop}{w0:World}{o:Oper}
theorem rule_convS (x:Operand)(S D:TypeId){u r:Value}(g:o.op = .convert S D x)(h:Has ops FS o x u)(f:∀w,Grow w0 w->(convert S D u).run Tryz.prog w = .ok r w)(hd:∀w,FSd FS o.dst r w):RunOk Tryz.prog ops FS w0 o:=by
 intro a w K Q c hl d
 have e:=h a w hl
 unfold Oper.wp
 have j:(execOp a.eval o).run Tryz.prog w = .ok (.value r) w:=by simp[execOp,g,e,f w c,Result.andThen]
 rw[j]
 exact d r w (Grow.refl w) (hd w)
theorem args1 {x:Operand}{u:Value}(h:Has ops FS o x u):∀(a:Act) (w:World),(∀t,(o.looksAt ops).contains t=true->FS t (a.eval (.tmp t)) w)->Array.map a.eval #[x]=#[u]:=λa w hl=>by simp[h a w hl]
end rules
theorem gives_grow {P:Program}{w:World}{f:FuncId}{args:Array Value}{v:Value}(h:Calls P f args w λe w'=>e = .returned v/\Below w.heap.size w w'):Calls P f args w λe w'=>∃u,e = .returned u/\Grow w w'/\u=v :=
 h.mono (by rintro e w' ⟨rfl,hB⟩;exact⟨_,rfl,hB,rfl⟩)
theorem gives_res {w:World}{f:FuncId}{args:Array Value}{l:List UInt8}(h:Calls Tryz.prog f args w (GivesB w l)):Calls Tryz.prog f args w λe w'=>∃v,e = .returned v/\Grow w w'/\(Fact.res l).holds v w' :=
 h.mono λe w' ⟨v,c,a,hB⟩=>⟨v,c,hB,a.inB⟩
def FD (L:List (Nat×Fact)):Option Tmp->Fact
 | some d=>factOf L d
 | none => .any
theorem fsd {L:List (Nat×Fact)}{d:Option Tmp}{f:Fact}{v:Value}{w:World}(h:FD L d=f)(a:f.holds v w):FSd (FSof L) d v w:=by
 cases d with
 | none=>trivial
 | some d=>subst h;exact a
section lists
variable {L:List (Nat×Fact)}{ops:Array Oper}{w0:World}{o:Oper}{P:Program}
theorem hs (t:Tmp)(v:Value)(hc:(o.looksAt ops).contains t=true)(hF:factOf L t = .val v):Has ops (FSof L) o (.tmp t) v :=
 has_tmp hc λu w h=>by
  have a:(factOf L t).holds u w:=h
  rw[hF] at a
  exact a
theorem hc (v:Value):Has ops (FSof L) o (.const v) v:=has_const
theorem okg (j:Nat)(a:Bool)(d:Tmp)(e:o.guard=some (j,a))(hd:(ops[j]?).bind (·.dst)=some d)(hl:(o.looksAt ops).contains d=true)(hF:factOf L d = .val (.bool a))
  (h:RunOk P ops (FSof L) w0 o):OpOk P ops (FSof L) w0 o :=
 ok_guard j a d e hd hl (λv w h=>by
  have c:(factOf L d).holds v w:=h
  rw[hF] at c
  exact c) h
theorem l_mvF (t:Tmp)(f:Fact)(c:o.op = .move (.tmp t)∨o.op = .assign (.tmp t))(hc:(o.looksAt ops).contains t=true)(hF:factOf L t=f)(hd:FD L o.dst=f):RunOk P ops (FSof L) w0 o :=
 run_mvF t c hc λv w h=>fsd hd (by
  have a:(factOf L t).holds v w:=h
  rw[hF] at a
  exact a)
theorem l_run1 (x:Operand)(u r:Value)(c:Has ops (FSof L) o x u)(a:∀(ρ:Operand->Value) (w:World),ρ x=u->(execOp ρ o).run P w = .ok (.value r) w)(hd:FD L o.dst = .val r):RunOk P ops (FSof L) w0 o :=
 run1 x c a λ_=>fsd hd rfl
theorem l_convS (x:Operand)(S D:TypeId)(u r:Value)(c:o.op = .convert S D x)(d:Has ops (FSof L) o x u)(a:∀w,Grow w0 w->(convert S D u).run Tryz.prog w = .ok r w)(hd:FD L o.dst = .val r):RunOk Tryz.prog ops (FSof L) w0 o :=
 rule_convS x S D c d a λ_=>fsd hd rfl
theorem l_call (f:FuncId)(xs:Array Operand)(c:Array TypeId)(j:o.op = .call { callee:=.value (.func f),args:=xs,argTypes:=c })(h:∀args w,(callFunc f args).run P w = .ok (.enter f args) w)
  (args:Array Value) (g:Fact) (k:∀(a:Act) (w:World),(∀t,(o.looksAt ops).contains t=true->FSof L t (a.eval (.tmp t)) w)->xs.map a.eval=args)
  (m:∀w,Grow w0 w->Calls P f args w λe w'=>∃v,e = .returned v/\Grow w w'/\g.holds v w') (hd:FD L o.dst=g):RunOk P ops (FSof L) w0 o :=
 run_call f xs c j h args k λw n=>(m w n).mono λ_ _ ⟨v,e,d,hh⟩=>⟨v,e,d,fsd hd hh⟩
theorem l_callP (f:FuncId)(t:Tmp)(p:Value->World->Prop)(n:∀v w w',p v w->Grow w w'->p v w')(z:Array TypeId)(m:o.op = .call { callee:=.value (.func f),args:=#[.tmp t],argTypes:=z })(k:∀args w,(callFunc f args).run P w = .ok (.enter f args) w)
  (g:Fact) (hc:(o.looksAt ops).contains t=true) (hF:factOf L t = .pred p n)
  (q:∀w u,Grow w0 w->p u w->Calls P f #[u] w λe w'=>∃v,e = .returned v/\Grow w w'/\g.holds v w') (hd:FD L o.dst=g):RunOk P ops (FSof L) w0 o:=by
 intro a w K Q s hl j
 have c:(factOf L t).holds (a.eval (.tmp t)) w:=hl t hc
 rw[hF] at c
 have e:a.eval (.tmp t)=a.eval (.tmp t):=rfl
 revert c e
 generalize hu:a.eval (.tmp t)=u
 intro c _
 unfold Oper.wp
 have r:(execOp a.eval o).run P w = .ok (.enter f #[u]) w:=by
  have x:a.eval (.func f) = .func (.func f) #[] #[]:=rfl
  have h:=k #[u] w
  simp[execOp,m,resolve,hu,x,Deferred.ofValue,invoke,h]
 rw[r,Oper.upon_enter]
 refine(q w u s c).mono ?_
 rintro e w' ⟨v,rfl,d,hf⟩
 exact j v w' d (fsd hd hf)
theorem l_run2W (x y:Operand)(g:Fact)(u v:Value)(f:Has ops (FSof L) o x u)(e:Has ops (FSof L) o y v)
  (j:∀(ρ:Operand->Value) (w:World),Grow w0 w->ρ x=u->ρ y=v->∃r w',(execOp ρ o).run P w = .ok (.value r) w'/\Grow w w'/\g.holds r w') (hd:FD L o.dst=g):RunOk P ops (FSof L) w0 o:=by
 intro a w K Q h hl d
 obtain⟨r,w',h1,h2,c⟩:=j a.eval w h (f a w hl) (e a w hl)
 unfold Oper.wp
 rw[h1]
 exact d r w' h2 (fsd hd c)
theorem l_run1W (x:Operand)(g:Fact)(u:Value)(e:Has ops (FSof L) o x u)
  (h:∀(ρ:Operand->Value) (w:World),Grow w0 w->ρ x=u->∃r w',(execOp ρ o).run P w = .ok (.value r) w'/\Grow w w'/\g.holds r w') (hd:FD L o.dst=g):RunOk P ops (FSof L) w0 o:=by
 intro a w K Q f hl d
 obtain⟨r,w',h1,h2,c⟩:=h a.eval w f (e a w hl)
 unfold Oper.wp
 rw[h1]
 exact d r w' h2 (fsd hd c)
end lists
end Reg
namespace Reg
theorem OpOk.mono {P:Program}{ops:Array Oper}{FS c:Tmp->Value->World->Prop}{w0:World}{o:Oper}(h:OpOk P ops FS w0 o)(h1:∀t v w,c t v w->FS t v w)(h2:∀d v w,o.dst=some d->FS d v w->c d v w):OpOk P ops c w0 o:=by
 intro a w K Q g hl f
 refine h a w K Q g (λt ht=>h1 _ _ _ (hl t ht)) (λv w' e hf=>f v w' e ?_)
 cases hd:o.dst with
 | none=>trivial
 | some d =>
  rw[hd] at hf
  exact h2 d v w' hd hf
theorem AllOk.mono {P:Program}{ops:Array Oper}{FS a:Tmp->Value->World->Prop}{w0:World}(h1:∀t v w,a t v w->FS t v w):∀{l:List Oper},(∀o∈l,∀d v w,o.dst=some d->FS d v w->a d v w)->AllOk P ops FS w0 l->AllOk P ops a w0 l
 | [],_,_=>trivial
 | o::r,h2,h=>⟨h.1.mono h1 (h2 o (List.mem_cons_self ..)),h.2.mono h1 λo c=>h2 o (List.mem_cons_of_mem _ c)⟩
def dstsAre (ops:Array Oper)(D:List Nat):Bool:=ops.toList.all λo=>match o.dst with|some d=>D.contains d|none=>true
theorem region_acts {P:Program}{ops:Array Oper}(m:P.follows .mixedOrders=true)(A:covered ops=true){x:Nat}{a0:Act}{w0:World}{Q:Exit->Act->World->Prop}(n:Nat)(hn:a0.tmps.size=n)
  (f:dstsIn ops n=true) (D:List Nat) (e:dstsAre ops D=true) (V W:List (Nat×Fact)) (z:StartOk a0 w0 V) (r:(W.all λp=>written ops p.1)=true)
  (u:AllOk P ops (FSof (V++W)) w0 ops.toList)
  (q:∀a w,a.tmps.size=n->a.defers=a0.defers->Grow w0 w->(∀t,FSof (V++W) t (a.eval (.tmp t)) w)->(∀t,D.contains t=false->a.eval (.tmp t)=a0.eval (.tmp t))->Q .normal a w) :
  (Code.region x ops true).wp P Q a0 w0:=by
 have s:∀o∈ops.toList,∀d,o.dst=some d->D.contains d=true:=by
  intro o c d hd
  unfold dstsAre at e
  rw[qJ] at e
  have:=e o c
  simpa[hd] using this
 refine region m A n hn ?_ (λt v w=>FSof (V++W) t v w/\(D.contains t=false->v=a0.eval (.tmp t))) (λt v w w' h k=>⟨FSof.stable _ _ _ _ _ h.1 k,h.2⟩) (λt ht=>⟨start_fact V W z r t ht,λ_=>rfl⟩)
  (AllOk.mono (λ_ _ _ h=>h.1) (λo c d v w hd h=>⟨h,λhn=>by rw[s o c d hd] at hn;cases hn⟩) u) ?_
 ·intro o c d hd
  unfold dstsIn at f
  rw[qJ] at f
  have:=f o c
  simpa[hd] using this
 ·intro a w h1 h2 j g
  exact q a w h1 h2 j (λt=>(g t).1) (λt=>(g t).2)
theorem acts_eq {a a0:Act}:∀(D:List Nat),a.tmps.size=a0.tmps.size->a.defers=a0.defers->(∀t,D.contains t=false->a.eval (.tmp t)=a0.eval (.tmp t))->a=D.foldl (λx d=>x.put (some d) (a.eval (.tmp d))) a0:=by
 have f:∀(x:Act) d v,(x.put (some d) v).tmps.size=x.tmps.size:=by intro x d v;simp[Act.put]
 have key:∀(D:List Nat) (b:Act),a.tmps.size=b.tmps.size->a.defers=b.defers->(∀t,D.contains t=false->a.eval (.tmp t)=b.eval (.tmp t))->a=D.foldl (λx d=>x.put (some d) (a.eval (.tmp d))) b:=by
  intro D
  induction D with
  | nil =>
   intro b hs hd h
   have:a.tmps=b.tmps:=by
    apply Array.ext hs
    intro i h1 h2
    have:=h i rfl
    simpa[Act.eval,Array.getD,h1,h2] using this
   cases a;cases b;simp_all
  | cons d r ih =>
   intro b hs hd h
   rw[List.foldl_cons]
   refine ih _ (by rw[f];exact hs) (by simp[Act.put,hd]) ?_
   intro t ht
   by_cases e:t=d
   ·subst e
    by_cases c:t<b.tmps.size
    ·rw[eval_put_same c]
    ·have h1:¬ t<a.tmps.size:=by omega
     simp[Act.put,Act.eval,zS,h1,c]
   ·rw[eval_put_other e]
    exact h t (by simp only[List.contains_cons,Bool.or_eq_false_iff];exact⟨by simpa using e,ht⟩)
 exact λD=>key D a0
section lists
variable {L:List (Nat×Fact)}{ops:Array Oper}{w0:World}{o:Oper}{P:Program}
theorem okg_not (j:Nat)(want:Bool)(d:Tmp)(g:o.guard=some (j,want))(hd:(ops[j]?).bind (·.dst)=some d)(hl:(o.looksAt ops).contains d=true)(hF:factOf L d = .val (.bool !want))(k:FD L o.dst = .any):OpOk P ops (FSof L) w0 o:=by
 intro a w K Q p m h
 have c:(factOf L d).holds (a.eval (.tmp d)) w:=m d hl
 rw[hF] at c
 have e:a.eval (.tmp d) = .bool !want:=c
 have n:Region.wanted o (yielded ops a.tmps)=false:=by
  have h2:a.tmps[d]? = some (.bool !want):=by
   replace e:a.tmps.getD d undef = .bool !want:=e
   rw[zS] at e
   cases f:a.tmps[d]? with
   | none=>rw[f] at e;cases e
   | some x=>rw[f] at e;simpa using e
  cases want<;>simp[Region.wanted,g,yielded,hd,h2]
 rw[if_neg (by simp[n])]
 exact h undef w (Grow.refl w) (fsd k trivial)
theorem l_pickF (x y z:Operand)(r:Value)(c:o.op = .pick x y z)(d:Has ops (FSof L) o x (.bool false))(a:Has ops (FSof L) o z r)(hd:FD L o.dst = .val r):RunOk P ops (FSof L) w0 o :=
 run2 x z d a (λρ w h1 h2=>by simp[execOp,c,h1,h2,asBool]) λ_=>fsd hd rfl
theorem l_pickT (x y z:Operand)(r:Value)(a:o.op = .pick x y z)(c:Has ops (FSof L) o x (.bool true))(d:Has ops (FSof L) o y r)(hd:FD L o.dst = .val r):RunOk P ops (FSof L) w0 o :=
 run2 x y c d (λρ w h1 h2=>by simp[execOp,a,h1,h2,asBool]) λ_=>fsd hd rfl
theorem l_load (x:Operand)(p:Addr)(T:TypeId)(v:Value)(c:∀w:World,(isAgg T).run P w = .ok false w)(d:o.op = .load T x)(e:Has ops (FSof L) o x (.pointer (some p)))(f:∀w,Grow w0 w->w.cell? p=some v)(hd:FD L o.dst = .val v):RunOk P ops (FSof L) w0 o:=by
 refine l_run1W x (.val v) _ e (λρ w a h=>⟨v,w,?_,Grow.refl _,rfl⟩) hd
 have hc:=f w a
 simp[execOp,d,h,go_sem,c,hc,Result.andThen]
end lists
end Reg
def Lists (ls:List (List UInt8))(v:Value)(w:World):Prop :=
 ∃b,v = .slice (some ⟨b,0,none⟩) ls.length ls.length/\b<w.heap.size/\∀j (h:j<ls.length),∃A c,w.cell? ⟨b,j,none⟩=some (.slice A ls[j].length c)/\InB w w.heap.size A c ls[j]
theorem lists_stable (d:List (List UInt8)):∀v w w',Lists d v w->Grow w w'->Lists d v w':=by
 rintro v w w' ⟨b,g,e,h⟩ a
 refine⟨b,g,zO e a.size,λj f => ?_⟩
 obtain⟨A,c,h1,h2⟩:=h j f
 exact⟨A,c,(a.cell (p:=⟨b,j,none⟩) e).trans h1,(h2.below a).more a.size⟩
theorem Lists.pieces {a:List (List UInt8)}{v:Value}{w:World}(h:Lists a v w)(p:a.length<=1000):∃b,∃zs:List (Piece w w.heap.size),v = .slice (some ⟨b,0,none⟩) zs.length zs.length/\zs.map Piece.l=a/\InLL w w.heap.size (some ⟨b,0,none⟩) zs.length zs:=by
 obtain⟨b,rfl,m,h⟩:=h
 have key:∀n,n<=a.length->∃zs:List (Piece w w.heap.size),zs.length=n/\zs.map Piece.l=a.take n/\∀j (d:j<zs.length),w.cell? ⟨b,j,none⟩=some zs[j].val:=by
  intro n
  induction n with
  | zero=>exact λ_=>⟨[],rfl,by simp,λj d=>by simp at d⟩
  | succ n ih =>
   intro hn
   obtain⟨zs,h1,h2,f⟩:=ih (by omega)
   obtain⟨A,c,g,k⟩:=h n (by omega)
   refine⟨zs++[⟨((A,c),a[n]),k⟩],by simp[h1],?_,λj d => ?_⟩
   ·rw[List.map_append,h2,zW (by omega)]
    rfl
   ·by_cases e:j<zs.length
    ·rw[List.getElem_append_left e]
     exact f j e
    ·have:j=n:=by simp at d;omega
     subst this
     rw[List.getElem_append_right (by omega)]
     simp only[h1,Nat.sub_self,zB]
     exact g
 obtain⟨zs,h1,h2,f⟩:=key a.length (zH _)
 refine⟨b,zs,by rw[h1],by rw[h2,List.take_length],⟨zH _,by omega,λ_=>⟨b,0,rfl,m,λj d=>by rw[qC];exact f j d⟩⟩⟩
theorem concatL_gives {a:List (List UInt8)}{v:Value}{w:World}(h:Lists a v w)(e:a.length<=1000)(hf:a.flatten.length<=1000000000):Calls Tryz.prog 137 #[v] w (GivesB w a.flatten):=by
 obtain⟨b,zs,rfl,c,d⟩:=h.pieces e
 have:=concat_gives w (some ⟨b,0,none⟩) zs.length zs d (by rw[c];exact hf)
 rw[c] at this
 exact this
theorem Lists.new {w:World}(xs:List ((Option Addr×Nat)×List UInt8))(h:∀x∈xs,InB w w.heap.size x.1.1 x.1.2 x.2) :
  Lists (xs.map (·.2)) (.slice (some ⟨w.heap.size,0,none⟩) xs.length xs.length) (w.alloc (.cells (xs.map λx=>Value.slice x.1.1 x.2.length x.1.2).toArray 87)):=by
 refine⟨w.heap.size,by simp,by simp,λj c => ?_⟩
 have a:j<xs.length:=by simpa using c
 refine⟨xs[j].1.1,xs[j].1.2,?_,?_⟩
 ·rw[(BlkIs.new w 87 _).cell]
  simp[a]
 ·have:=h xs[j] (qF a)
  rw[List.getElem_map]
  exact(this.below ((Below.refl _ w).alloc (zH _) _)).more (by simp)
theorem OwnB.base {w:World}{b a:Nat}{v:Value}{l:List UInt8}(h:OwnB w b v l)(f:a<=b):OwnB w a v l:=by
 refine⟨h.1,?_⟩
 rcases h.2 with h|⟨g,c,e,h1,h2,d⟩
 ·exact .inl h
 ·exact .inr ⟨g,c,e,h1,by omega,d⟩
theorem GivesB.from {w c:World}{l:List UInt8}{e:Ending}{w':World}(h:GivesB c l e w')(a:Below w.heap.size w c):GivesB w l e w':=by
 obtain⟨v,f,d,hB⟩:=h
 exact⟨v,f,d.base a.size,a.trans (hB.mono a.size)⟩
theorem concat2_gives (W:World)(A d:Option Addr)(c c2:Nat)(l a:List UInt8)(j:InB W W.heap.size A c l)(m:InB W W.heap.size d c2 a)(hf:l.length+a.length<=1000000000) :
  Calls Tryz.prog 137 #[.slice (some ⟨W.heap.size,0,none⟩) 2 2] (W.alloc (.cells #[.slice A l.length c,.slice d a.length c2] 87)) (GivesB W (l++a)):=by
 have k:=Lists.new (w:=W) [((A,c),l),((d,c2),a)] (by
  intro x f
  simp only[List.mem_cons,List.not_mem_nil,or_false] at f
  rcases f with rfl|rfl
  ·exact j
  ·exact m)
 have h:=concatL_gives k (by simp) (by simpa using hf)
 refine h.mono λe w' g => ?_
 have:=g.from ((Below.refl _ W).alloc (zH _) _)
 simpa using this
namespace Reg
variable {L:List (Nat×Fact)}{ops:Array Oper}{w0:World}{o:Oper}
theorem l_build4 (t1 c t3 t4:Tmp)(e f g d:List UInt8)(F:o.op = .buildSlice 151 4 #[(0,.tmp t1),(1,.tmp c),(2,.tmp t3),(3,.tmp t4)])
  (c1:(o.looksAt ops).contains t1=true) (c2:(o.looksAt ops).contains c=true) (c3:(o.looksAt ops).contains t3=true) (c4:(o.looksAt ops).contains t4=true)
  (I:factOf L t1 = .res e) (H:factOf L c = .res f) (N:factOf L t3 = .res g) (M:factOf L t4 = .res d) (hd:FD L o.dst = .pred (Lists [e,f,g,d]) (lists_stable _)):RunOk Tryz.prog ops (FSof L) w0 o:=by
 intro a w K Q S hl z
 have s:(factOf L t1).holds (a.eval (.tmp t1)) w:=hl t1 c1
 have u:(factOf L c).holds (a.eval (.tmp c)) w:=hl c c2
 have r:(factOf L t3).holds (a.eval (.tmp t3)) w:=hl t3 c3
 have v:(factOf L t4).holds (a.eval (.tmp t4)) w:=hl t4 c4
 rw[I] at s
 rw[H] at u
 rw[N] at r
 rw[M] at v
 obtain⟨m,k1,A,h1⟩:=s
 obtain⟨n,k2,G,h2⟩:=u
 obtain⟨p,k3,C,h⟩:=r
 obtain⟨k,k4,E,j⟩:=v
 have O:=Lists.new (w:=w) [((m,k1),e),((n,k2),f),((p,k3),g),((k,k4),d)] (by
  intro x q
  simp only[List.mem_cons,List.not_mem_nil,or_false] at q
  rcases q with rfl|rfl|rfl|rfl
  ·exact h1
  ·exact h2
  ·exact h
  ·exact j)
 have key:∀ρ:Operand->Value,ρ (.tmp t1) = .slice m e.length k1->ρ (.tmp c) = .slice n f.length k2->ρ (.tmp t3) = .slice p g.length k3->ρ (.tmp t4) = .slice k d.length k4 ->
   (execOp ρ o).run Tryz.prog w = .ok (.value (.slice (some ⟨w.heap.size,0,none⟩) 4 4)) (w.alloc (.cells #[.slice m e.length k1,.slice n f.length k2,.slice p g.length k3,.slice k d.length k4] 87)) :=
  λρ h1 h2 h j=>by simp[execOp,F,h1,h2,h,j,go_sem,Result.andThen]
 unfold Oper.wp
 rw[key _ A G C E]
 exact z _ _ (Grow.alloc _ _) (fsd hd O)
end Reg
def planOk (fr pg:Int):Bool:=isIn 1 2000 [fr] && isIn 1 2000 [pg]
theorem planOk_iff (fr pg:Int):planOk fr pg=true↔(1<=fr/\fr<=2000)/\(1<=pg/\pg<=2000):=by
 simp[planOk,isIn_one]
theorem InN.one (W:World)(x:Int):InN (W.alloc (.cells #[.int .i64 x] 3)) (some ⟨W.heap.size,0,none⟩) [x]:=⟨λ_=>⟨_,_,rfl,λj a=>by
 obtain rfl:j=0:=by simpa using a
 exact(BlkIs.new W 3 #[.int .i64 x]).boxed⟩⟩
theorem withinOne_gives (W:World)(a c x:Int) :
  Calls Tryz.prog 289 #[.int .i64 a,.int .i64 c,.slice (some ⟨W.heap.size,0,none⟩) 1 1] (W.alloc (.cells #[.int .i64 x] 3)) λe w'=>e = .returned (.bool (isIn a c [x]))/\Below W.heap.size W w' :=
 (within_gives (W.alloc (.cells #[.int .i64 x] 3)) (some ⟨W.heap.size,0,none⟩) 1 [x] (InN.one W x) (λg o e=>by injection e with e;injection e with e1;subst e1;simp) (by simp) a c).mono λe w' ⟨d,hB⟩ =>
  ⟨d,((Below.refl _ W).alloc (zH _) _).trans (hB.mono (by simp))⟩
theorem check_gives (fr pg:Int)(w:World) :
  Calls Tryz.prog 223 #[.agg #[.int .i64 fr,.int .i64 pg]] w λe w'=>e = .returned (.int .i64 (if planOk fr pg then 0 else 2))/\Below w.heap.size w w':=by
 have k:=BlkIs.new w 59 #[.int .i64 fr,.int .i64 pg]
 have j:Below w.heap.size w (w.alloc (.cells #[.int .i64 fr,.int .i64 pg] 59)):=(Below.refl _ w).alloc (zH _) _
 obtain⟨v,g⟩:∃v:Int,v=if planOk fr pg then 0 else 2:=⟨_,rfl⟩
 rw[<-g]
 have f:=Lib.hid g
 clear g
 go_enter Tryz.func223,Tryz.ntmps223
 have H:=withinOne_gives (w.alloc (.cells #[.int .i64 fr,.int .i64 pg] 59)) 1 2000 fr
 rw[World.size_alloc] at H
 cases h1:isIn 1 2000 [fr] with
 | false =>
  rw[h1] at H
  have a:v=2:=by rw[f.out];simp[planOk,h1]
  subst a
  go_wp2_with (go_at_call 289;refine H.mono ?_;rintro e d ⟨rfl,hB⟩)
  go_ret
  exact⟨rfl,j.trans (hB.mono (by simp))⟩
 | true =>
  rw[h1] at H
  go_wp2_with fail
  refine H.mono ?_
  clear H
  rintro e d ⟨rfl,hB⟩
  have m:=k.below hB (by simp)
  have p:d.cell? ⟨w.heap.size,1,none⟩=some (.int .i64 pg):=by rw[m.cell];rfl
  have c:=j.trans (hB.mono (by simp))
  have H:=withinOne_gives d 1 2000 pg
  go_wp2_with fail
  refine H.mono ?_
  clear H
  rintro e n ⟨rfl,h⟩
  cases h2:isIn 1 2000 [pg] with
  | false =>
   have a:v=2:=by rw[f.out];simp[planOk,h2]
   subst a
   go_wp2
   go_ret
   exact⟨rfl,c.trans (h.mono c.size)⟩
  | true =>
   have a:v=0:=by rw[f.out];simp[planOk,h1,h2]
   subst a
   go_wp2
   go_ret
   exact⟨rfl,c.trans (h.mono c.size)⟩
def plE (ok:Bool)(i many:Int):Int:=if ok then (if 0<=i/\i<many then 0 else 4) else 2
def PlNone (e:Int)(a:Act):Prop:=∃u0 u1 u2 u3 u4 u5 u6 u7 u8 u10 u11 u12 u13 u14 u15 u16 u17 u18 u19 u20 u21 u22 u23,a = { tmps:=#[u0,u1,u2,u3,u4,u5,u6,u7,u8,.int .i64 e,u10,u11,u12,u13,u14,u15,u16,u17,u18,u19,u20,u21,u22,u23],defers:=[] }
theorem place_gives (fr pg i many r:Int)(g:FuncId)(lb:Array Value)(x:∀args w,(callFunc g args).run Tryz.prog w = .ok (.enter g args) w)(w:World)
  (k:planOk fr pg=true->0<=i->i<many->∀W,Below w.heap.size w W->Calls Tryz.prog g lb W λe w'=>e = .returned (.int .i64 r)/\W=w') :
  Calls Tryz.prog 158 #[.agg #[.int .i64 fr,.int .i64 pg],.int .i64 i,.int .i64 many,.func (.func g) #[] lb] w λe w' =>
   e = .returned (.tuple #[.int .i64 (if plE (planOk fr pg) i many=0 then r else 0),.int .i64 (plE (planOk fr pg) i many)])/\Below w.heap.size w w':=by
 have h:Below w.heap.size w (w.alloc (.cells #[.int .i64 fr,.int .i64 pg] 59)):=(Below.refl _ w).alloc (zH _) _
 obtain⟨v,p⟩:∃v:Int,v=plE (planOk fr pg) i many:=⟨_,rfl⟩
 obtain⟨u,hu⟩:∃u:Int,u=if v=0 then r else 0:=⟨_,rfl⟩
 rw[<-p,<-hu]
 have n:=Lib.hid p
 have j:=Lib.hid hu
 clear p hu
 go_enter Tryz.func158,Tryz.ntmps158
 go_wp2_with fail
 refine wp_scope_jumps (rest:=?rest) 0 (λa w'=>Hid (u=0)/\PlNone v a/\Below w.heap.size w w') (λ_ _=>0) ?hf ?first ?pass
 case hf=>exact rfl
 case pass =>
  rintro a w' ⟨hn,⟨s,u1,u2,u3,u4,u5,u6,u7,u8,u10,u11,u12,u13,u14,u15,u16,u17,u18,u19,u20,u21,u22,u23,rfl⟩,hB⟩
  go_wp2
  simp only[Exit.jump]
  go_wp2
  refine bodyPost_ret (results_tmp2 rfl _ _ _) rfl ?_
  have e:=hn.out
  subst e
  exact⟨rfl,hB⟩
 case first =>
  have H:=check_gives fr pg (w.alloc (.cells #[.int .i64 fr,.int .i64 pg] 59))
  cases d:planOk fr pg with
  | false =>
   rw[d] at H
   have c:v=2:=by rw[n.out,d];rfl
   have f:Hid (u=0):=Lib.hid (by rw[j.out,c];rfl)
   subst c
   go_wp2_with (go_at_call 223;refine H.mono ?_;rintro e m ⟨rfl,hB⟩)
   go_step3
   exact⟨rfl,f,by repeat (first|exact rfl|apply Exists.intro),h.trans (hB.mono (by simp))⟩
  | true =>
   rw[d] at H
   by_cases h1:0<=i/\i<many
   ·have c:v=0:=by rw[n.out,d];simp[plE,h1]
    have f:u=r:=by rw[j.out,c];rfl
    subst c f
    have k:=k d h1.1 h1.2
    obtain⟨h1,h2⟩:=h1
    go_wp2_with (go_at_call 223;refine H.mono ?_;rintro e m ⟨rfl,hB⟩)
    refine(k _ (h.trans (hB.mono (by simp)))).mono ?_
    rintro e z ⟨rfl,rfl⟩
    go_wp2
    simp only[Exit.jump]
    refine bodyPost_ret (results_tmp2 rfl _ _ _) rfl ?_
    exact⟨rfl,h.trans (hB.mono (by simp))⟩
   ·have c:v=4:=by rw[n.out,d];simp[plE,h1]
    have f:Hid (u=0):=Lib.hid (by rw[j.out,c];rfl)
    subst c
    have h2:i<0∨(0<=i/\many<=i):=by omega
    clear h1
    rcases h2 with h2|⟨h2,q⟩
    ·go_wp2_with (go_at_call 223;refine H.mono ?_;rintro e m ⟨rfl,hB⟩)
     go_step3
     exact⟨rfl,f,by repeat (first|exact rfl|apply Exists.intro),h.trans (hB.mono (by simp))⟩
    ·go_wp2_with (go_at_call 223;refine H.mono ?_;rintro e m ⟨rfl,hB⟩)
     go_step3
     exact⟨rfl,f,by repeat (first|exact rfl|apply Exists.intro),h.trans (hB.mono (by simp))⟩
def headOk (z c:Int):Bool:=isIn 0 2000 [z] && isIn 0 2000 [c]
theorem headOk_iff (z c:Int):headOk z c=true↔(0<=z/\z<=2000)/\(0<=c/\c<=2000):=by
 simp[headOk,isIn_one]
theorem fits_gives (s e:Nat)(z c:Int)(w:World) :
  Calls Tryz.prog 227 #[.agg #[.int .u64 (s:Int),.int .u64 (e:Int),.int .i64 z,.int .i64 c]] w λx w'=>x = .returned (.bool (headOk z c))/\Below w.heap.size w w':=by
 have m:=BlkIs.new w 185 #[.int .u64 (s:Int),.int .u64 (e:Int),.int .i64 z,.int .i64 c]
 have g:Below w.heap.size w (w.alloc (.cells #[.int .u64 (s:Int),.int .u64 (e:Int),.int .i64 z,.int .i64 c] 185)):=(Below.refl _ w).alloc (zH _) _
 have H:=withinOne_gives (w.alloc (.cells #[.int .u64 (s:Int),.int .u64 (e:Int),.int .i64 z,.int .i64 c] 185)) 0 2000 z
 rw[World.size_alloc] at H
 obtain⟨v,f⟩:∃v:Bool,v=headOk z c:=⟨_,rfl⟩
 rw[<-f]
 have j:=Lib.hid f
 clear f
 go_enter Tryz.func227,Tryz.ntmps227
 cases h1:isIn 0 2000 [z] with
 | false =>
  rw[h1] at H
  have a:v=false:=by rw[j.out];simp[headOk,h1]
  subst a
  go_wp2_with (go_at_call 289;refine H.mono ?_;rintro e d ⟨rfl,hB⟩)
  go_ret
  exact⟨rfl,g.trans (hB.mono (by simp))⟩
 | true =>
  rw[h1] at H
  go_wp2_with fail
  refine H.mono ?_
  clear H
  rintro e d ⟨rfl,hB⟩
  have n:=m.below hB (by simp)
  have q:d.cell? ⟨w.heap.size,3,none⟩=some (.int .i64 c):=by rw[n.cell];rfl
  have h:=g.trans (hB.mono (by simp))
  have H:=withinOne_gives d 0 2000 c
  have a:v=isIn 0 2000 [c]:=by rw[j.out];simp[headOk,h1]
  generalize isIn 0 2000 [c]=b at *
  subst a
  go_wp2_with fail
  refine H.mono ?_
  clear H
  rintro e p ⟨rfl,k⟩
  go_wp2
  go_ret
  exact⟨rfl,h.trans (k.mono h.size)⟩
theorem and_mask (x:Nat)(h:x<4294967296):bits .and .u64 (x:Int) 4294967295=(x:Int):=by
 have h2:=u64_and_nat x 4294967295 (by omega) (by omega)
 have e:x &&& 4294967295=x % 4294967296:=Nat.and_two_pow_sub_one_eq_mod x 32
 rw[e,Nat.mod_eq_of_lt h] at h2
 exact h2
theorem mul64_gives (x y:Nat)(d:x<65536)(f:y<65536)(w:World):Calls Tryz.prog 360 #[.int .u64 x,.int .u64 y] w λe w'=>e = .returned (.tuple #[.int .u64 0,.int .u64 ((x*y:Nat):Int)])/\w=w':=by
 have a:x*y<4294967296:=Nat.mul_lt_mul'' d f
 have j:=and_mask x (by omega)
 have n:=and_mask y (by omega)
 have h:=and_mask (x*y) a
 have m:(x:Int) / 4294967296=0:=by omega
 have h1:(y:Int) / 4294967296=0:=by omega
 have h2:((x*y:Nat):Int) / 4294967296=0:=by omega
 have g:IntKind.u64.wrap ((x*y:Nat):Int)=((x*y:Nat):Int):=by
  show ((x*y:Nat):Int) % 18446744073709551616=_
  omega
 have k:IntKind.u64.wrap 0=0:=by decide
 have c:((x*y:Nat):Int)=(x:Int)*(y:Int):=by simp
 rw[c] at h h2 g ⊢
 have p:bits .and .u64 0 4294967295=0:=and_mask 0 (by omega)
 clear c a d f
 go_enter Tryz.func360,Tryz.ntmps360
 go_wp2
 refine bodyPost_ret (results_tmp2 rfl _ _ _) rfl ?_
 exact⟨rfl,rfl⟩
theorem mul_gives (x y:Nat)(a:x<65536)(c:y<65536)(w:World):Calls Tryz.prog 325 #[.int .u64 x,.int .u64 y] w λe w'=>e = .returned (.tuple #[.int .u64 0,.int .u64 ((x*y:Nat):Int)])/\w=w':=by
 have H:=mul64_gives x y a c w
 generalize x*y=z at *
 go_enter Tryz.func325,Tryz.ntmps325
 go_wp2_with fail
 refine H.mono ?_
 rintro e w' ⟨rfl,rfl⟩
 go_wp2
 refine bodyPost_ret (results_tmp2 rfl _ _ _) rfl ?_
 exact⟨rfl,rfl⟩
end Go.Proofs.YtpibjkbadnffgaaGreat
namespace Go.Proofs.YtpibjkbadnffgaaGreat
open Go Go.RowKit
namespace Reg
variable {P:Program}{ops:Array Oper}
def backs (ops:Array Oper):Bool:=ops.toList.zipIdx.all λ(o,i)=>o.after.toList.all λe => !Region.binds .any e || decide (e.on<i)
def ahead (ops:Array Oper)(o:Oper)(t:Nat):Bool:=ops.toList.zipIdx.all λ(p,j)=>p.dst != some t || (o.after.toList.any λe=>Region.binds .any e && e.on == j)
def waits (ops:Array Oper)(i:Nat)(t:Nat):Bool:=ops.toList.zipIdx.all λ(p,_)=>p.dst != some t || (p.after.toList.any λe=>Region.binds .any e && e.on == i)
theorem backs_spec (h:backs ops=true){i:Nat}{o:Oper}(d:ops[i]? = some o):∀e∈o.after.toList,Region.binds .any e=true->e.on<i:=by
 unfold backs at h
 rw[qJ] at h
 have c:(o,i)∈ops.toList.zipIdx:=by
  rw[List.mem_zipIdx_iff_getElem?]
  simpa using d
 have:=h _ c
 simp only[qJ] at this
 intro e f a
 have:=this e f
 simpa[a] using this
theorem ahead_spec {o:Oper}{t:Nat}(h:ahead ops o t=true){j:Nat}{p:Oper}(a:ops[j]? = some p)(hd:p.dst=some t):∃e∈o.after.toList,Region.binds .any e=true/\e.on=j:=by
 unfold ahead at h
 rw[qJ] at h
 have f:(p,j)∈ops.toList.zipIdx:=by
  rw[List.mem_zipIdx_iff_getElem?]
  simpa using a
 have:=h _ f
 simp only[hd,bne_self_eq_false,Bool.false_or,List.any_eq_true,Bool.and_eq_true,beq_iff_eq] at this
 obtain⟨e,g,d,c⟩:=this
 exact⟨e,g,d,c⟩
theorem waits_spec {i t:Nat}(h:waits ops i t=true){j:Nat}{p:Oper}(a:ops[j]? = some p)(hd:p.dst=some t):∃e∈p.after.toList,Region.binds .any e=true/\e.on=i:=by
 unfold waits at h
 rw[qJ] at h
 have f:(p,j)∈ops.toList.zipIdx:=by
  rw[List.mem_zipIdx_iff_getElem?]
  simpa using a
 have:=h _ f
 simp only[hd,bne_self_eq_false,Bool.false_or,List.any_eq_true,Bool.and_eq_true,beq_iff_eq] at this
 obtain⟨e,g,d,c⟩:=this
 exact⟨e,g,d,c⟩
def StepOk (P:Program)(ops:Array Oper)(Inv:Array Bool->Act->World->Prop)(i:Nat)(o:Oper):Prop :=
 ∀(listed:Array Bool) (a:Act) (w:World) (K:Act->World->Prop) (Q:Exit->Act->World->Prop),listed.size=ops.size->listed.getD i true=false->(∀e∈o.after.toList,Region.binds .any e=true->listed.getD e.on false=true) ->
  Inv listed a w->(∀v w',Inv (listed.setIfInBounds i true) (a.put o.dst v) w'->K (a.put o.dst v) w') ->
  (if Region.wanted o (yielded ops a.tmps) then o.wp P a w K Q∨(o.asks P a w/\LetsOut Q) else K (a.put o.dst undef) w)
theorem region_inv (q:P.follows .mixedOrders=true)(M:backs ops=true){G:Nat}{a0:Act}{w0:World}{Q:Exit->Act->World->Prop}(Inv:Array Bool->Act->World->Prop)
  (K:Inv (Array.replicate ops.size false) a0 w0.drew) (H:∀i o,ops[i]? = some o->StepOk P ops Inv i o)
  (x:∀listed a w,listed.size=ops.size->(∀i,i<ops.size->listed.getD i true=true)->Inv listed a w->Q .normal a w) :
  (Code.region G ops true).wp P Q a0 w0:=by
 refine wp_region_any q ?_
 have key:∀(d:Nat) (listed:Array Bool) (a:Act) (w:World),listed.size=ops.size->left listed<=d->Inv listed a w->wpAny P .any ops Q d listed a w:=by
  intro d
  have m:∀(listed:Array Bool) (a:Act) (w:World),listed.size=ops.size->Inv listed a w->Region.ready .any ops listed=[]->Q .normal a w:=by
   intro listed a w hs g f
   refine x listed a w hs ?_ g
   intro i
   induction i using Nat.strongRecOn with
   | _ i ih =>
    intro h
    cases hl:listed.getD i true with
    | true=>rfl
    | false =>
     exfalso
     have:i∈Region.ready .any ops listed:=by
      unfold Region.ready
      simp only[List.mem_filter,List.mem_range,Bool.and_eq_true,Bool.not_eq_true']
      refine⟨h,hl,?_⟩
      have c:ops[i]? = some ops[i]:=Array.getElem?_eq_getElem h
      simp only[c,Option.map_some,Option.getD_some]
      rw[Array.all_eq_true_iff_forall_mem]
      intro e s
      have hc:=backs_spec M c e (Array.mem_toList_iff.2 s)
      cases E:Region.binds .any e with
      | false=>simp
      | true =>
       have F:=hc E
       have h1:=ih e.on F (by omega)
       have h2:e.on<listed.size:=by omega
       simp only[Array.getD,h2,dif_pos] at h1 ⊢
       simpa using h1
     rw[f] at this
     cases this
  induction d with
  | zero =>
   intro listed a w hs hf g
   have f:Region.ready .any ops listed=[]:=by
    rcases f:Region.ready .any ops listed with _|⟨i,r⟩
    ·rfl
    ·exfalso
     obtain⟨o,c,hl,_⟩:=ready_mem (ops:=ops) (listed:=listed) (i:=i) (by rw[f];simp)
     have h:i<listed.size:=by rw[hs];exact(zI.1 c).1
     have A:listed[i]∈listed.toList.filter (! ·):=by
      rw[List.mem_filter]
      refine⟨by simp,?_⟩
      have k:listed[i]=false:=by simpa[Array.getD,h] using hl
      simp[k]
     have:0<left listed:=List.length_pos_of_mem A
     omega
   exact⟨f,m listed a w hs g f⟩
  | succ d ih =>
   intro listed a w hs hf g
   refine⟨m listed a w hs g,λi h => ?_⟩
   obtain⟨o,c,hl,u⟩:=ready_mem h
   have j:i<listed.size:=by rw[hs];exact(zI.1 c).1
   have C:∀v w',Inv (listed.setIfInBounds i true) (a.put o.dst v) w'->wpAny P .any ops Q d (listed.setIfInBounds i true) (a.put o.dst v) w':=by
    intro v w' I
    refine ih _ _ _ (by simpa using hs) ?_ I
    have k:listed[i]=false:=by simpa[Array.getD,j] using hl
    have:left (listed.setIfInBounds i true)<left listed:=by
     unfold left
     rw[Array.toList_setIfInBounds]
     have p:listed.toList=listed.toList.take i++false::listed.toList.drop (i+1):=by
      have n:listed.toList[i]'(by simpa using j)=false:=by simpa using k
      conv=>lhs;rw[<-List.take_append_drop i listed.toList,List.drop_eq_getElem_cons (by simpa using j),n]
     rw[List.set_eq_take_append_cons_drop,if_pos (by simpa using j)]
     conv=>rhs;rw[p]
     simp
    omega
   have:=H i o c listed a w (λz w'=>wpAny P .any ops Q d (listed.setIfInBounds i true) z w') Q hs hl u g C
   unfold wpOp
   simp only[c]
   exact this
 refine key ops.size _ a0 _ (by simp) ?_ K
 unfold left
 simp
end Reg
end Go.Proofs.YtpibjkbadnffgaaGreat
namespace Go.Proofs.YtpibjkbadnffgaaGreat
open Go Go.RowKit Lou
namespace Reg
variable {P:Program}{ops:Array Oper}
abbrev WInv:=Array Bool->Act->World->Prop
structure J2 (ops:Array Oper)(FS:Tmp->Value->World->Prop)(a0:Act)(D:List Nat)(WI:WInv)(listed:Array Bool)(a:Act)(w:World):Prop where
 size:a.tmps.size=a0.tmps.size
 defers:a.defers=a0.defers
 facts:∀t,Known ops listed t->FS t (a.eval (.tmp t)) w
 wi:WI listed a w
 rest:∀t,D.contains t=false->a.eval (.tmp t)=a0.eval (.tmp t)
 old:∀t,(∀(j:Nat) (p:Oper),ops[j]? = some p->p.dst=some t->listed.getD j true=false)->a.eval (.tmp t)=a0.eval (.tmp t)
 closed:∀(j:Nat) (p:Oper),ops[j]? = some p->listed.getD j true=true->∀e∈p.after.toList,Region.binds .any e=true->listed.getD e.on false=true
def Op2 (P:Program)(ops:Array Oper)(a0:Act)(FS:Tmp->Value->World->Prop)(WI:WInv)(i:Nat)(o:Oper):Prop :=
 ∀(listed:Array Bool) (a:Act) (w:World) (K:Act->World->Prop) (Q:Exit->Act->World->Prop),listed.size=ops.size->listed.getD i true=false->(∀e∈o.after.toList,Region.binds .any e=true->listed.getD e.on false=true) ->
  WI listed a w->(∀t,(o.looksAt ops).contains t=true->ahead ops o t=true->FS t (a.eval (.tmp t)) w)->(∀t,waits ops i t=true->a.eval (.tmp t)=a0.eval (.tmp t)) ->
  (∀v w',(∀t u,FS t u w->FS t u w')->FSd FS o.dst v w'->WI (listed.setIfInBounds i true) (a.put o.dst v) w'->K (a.put o.dst v) w') ->
  (if Region.wanted o (yielded ops a.tmps) then o.wp P a w K Q∨(o.asks P a w/\LetsOut Q) else K (a.put o.dst undef) w)
def AllOp2 (P:Program)(ops:Array Oper)(a0:Act)(FS:Tmp->Value->World->Prop)(WI:WInv):Nat->List Oper->Prop
 | _,[]=>True
 | k,o::r=>Op2 P ops a0 FS WI k o/\AllOp2 P ops a0 FS WI (k+1) r
theorem AllOp2.get {a0:Act}{FS:Tmp->Value->World->Prop}{a:WInv}:∀{l:List Oper} {k:Nat},AllOp2 P ops a0 FS a k l->∀i o,l[i]? = some o->Op2 P ops a0 FS a (k+i) o
 | [],_,_,i,o,h=>by simp at h
 | x::r,k,h,0,o,ho=>by
  simp at ho
  subst ho
  exact h.1
 | x::r,k,h,i+1,o,ho=>by
  have:=AllOp2.get h.2 i o (by simpa using ho)
  rw[show k+(i+1)=k+1+i from by omega]
  exact this
theorem op2_of {a0:Act}{FS:Tmp->Value->World->Prop}{c:WInv}{i:Nat}{o:Oper}(f:∀t v w w',FS t v w->Grow w w'->FS t v w')(h:∀w0,OpOk P ops FS w0 o)(e:((o.looksAt ops).all (ahead ops o))=true)
  (j:∀listed a v w w',c listed a w->Grow w w'->c (listed.setIfInBounds i true) (a.put o.dst v) w'):Op2 P ops a0 FS c i o:=by
 intro listed a w K Q hs hl n m k _ g
 exact h w a w K Q (Grow.refl w) (λt ht=>k t ht (by
  rw[qJ] at e
  exact e t (by simpa using ht))) (λv w' d hf=>g v w' (λt u hu=>f t u w w' hu d) hf (j _ _ _ _ _ m d))
theorem region2 (V:P.follows .mixedOrders=true)(aI:backs ops=true){id:Nat}{a0:Act}{w0:World}{Q:Exit->Act->World->Prop}(n:Nat)(hn:a0.tmps.size=n)(C:dstsIn ops n=true)(D:List Nat)(z:dstsAre ops D=true)
  (FS:Tmp->Value->World->Prop) (s:WInv) (aE:∀t,(∀o∈ops.toList,o.dst≠some t)->FS t (a0.eval (.tmp t)) w0.drew) (h0:s (Array.replicate ops.size false) a0 w0.drew)
  (aC:AllOp2 P ops a0 FS s 0 ops.toList)
  (X:∀listed a w,(∀i,i<ops.size->listed.getD i true=true)->J2 ops FS a0 D s listed a w->(∀t,FS t (a.eval (.tmp t)) w)->Q .normal a w) :
  (Code.region id ops true).wp P Q a0 w0:=by
 have aB:∀o∈ops.toList,∀d,o.dst=some d->D.contains d=true:=by
  intro o g d hd
  unfold dstsAre at z
  rw[qJ] at z
  have:=z o g
  simpa[hd] using this
 have aG:∀o∈ops.toList,∀d,o.dst=some d->d<n:=by
  intro o g d hd
  unfold dstsIn at C
  rw[qJ] at C
  have:=C o g
  simpa[hd] using this
 refine region_inv V aI (J2 ops FS a0 D s) ⟨rfl,rfl,?_,h0,λ_ _=>rfl,λ_ _=>rfl,λj p c h=>by
  have hj:=(zI.1 c).1
  simp[Array.getD,hj] at h⟩ ?_ ?_
 ·intro t ht
  refine aE t ?_
  intro o g hd
  obtain⟨i,hi,rfl⟩:=List.getElem_of_mem g
  have E:i<ops.size:=by simpa using hi
  have:=ht i ops[i] (Array.getElem?_eq_getElem E) (by simpa using hd)
  simp[Array.getD,E] at this
 ·intro i o g listed a w K W hs hl x f T
  have G:o∈ops.toList:=by
   obtain⟨h1,h2⟩:=zI.1 g
   subst h2
   simp
  have u:i<listed.size:=by rw[hs];exact(zI.1 g).1
  have S:∀t,waits ops i t=true->a.eval (.tmp t)=a0.eval (.tmp t):=by
   intro t ht
   refine f.old t ?_
   intro j p c hd
   obtain⟨e,q,r,rfl⟩:=waits_spec ht c hd
   cases aF:listed.getD j true with
   | false=>rfl
   | true =>
    have:=f.closed j p c aF e q r
    simp only[Array.getD,u,dif_pos] at this hl
    rw[hl] at this
    cases this
  have aH:∀t,(o.looksAt ops).contains t=true->ahead ops o t=true->FS t (a.eval (.tmp t)) w:=by
   intro t _ ht
   refine f.facts t ?_
   intro j p c hd
   obtain⟨e,q,r,rfl⟩:=ahead_spec ht c hd
   have:=x e q r
   have aD:e.on<listed.size:=by rw[hs];exact(zI.1 c).1
   simp only[Array.getD,aD,dif_pos] at this ⊢
   exact this
  have I:=aC.get i o (by simpa using g)
  rw[qC] at I
  refine I listed a w K W hs hl x f.wi aH S ?_
  intro v w' O M U
  refine T v w' ⟨?_,?_,?_,U,?_,?_,?_⟩
  ·cases hd:o.dst with
   | none=>simpa[Act.put] using f.size
   | some d=>simpa[Act.put] using f.size
  ·cases hd:o.dst with
   | none=>simpa[Act.put] using f.defers
   | some d=>simpa[Act.put] using f.defers
  ·intro t ht
   by_cases m:o.dst=some t
   ·rw[m] at M ⊢
    rw[eval_put_same (by rw[f.size,hn];exact aG o G t m)]
    exact M
   ·have A:Known ops listed t:=by
     intro j p c hd
     have:=ht j p c hd
     by_cases e:i=j
     ·subst e
      rw[g] at c
      injection c with c
      subst c
      exact absurd hd m
     ·simpa[zS,zQ,e] using this
    have:=O t _ (f.facts t A)
    cases hd:o.dst with
    | none=>simpa[Act.put] using this
    | some d =>
     rw[eval_put_other (by intro e;subst e;exact m hd)]
     exact this
  ·intro t ht
   cases hd:o.dst with
   | none=>simpa[Act.put] using f.rest t ht
   | some d =>
    rw[eval_put_other (by intro e;subst e;rw[aB o G t hd] at ht;cases ht)]
    exact f.rest t ht
  ·intro t ht
   have m:o.dst≠some t:=by
    intro hd
    have:=ht i o g hd
    simp[zS,u] at this
   have:=f.old t (λj p c hd=>by
    have h2:=ht j p c hd
    have Z:i≠j:=by
     intro e
     subst e
     rw[g] at c
     injection c with c
     subst c
     exact m hd
    simpa[zS,zQ,Z] using h2)
   cases hd:o.dst with
   | none=>simpa[Act.put] using this
   | some d =>
    rw[eval_put_other (by intro e;subst e;exact m hd)]
    exact this
  ·intro j p c aA e q r
   have H:∀k,listed.getD k false=true->(listed.setIfInBounds i true).getD k false=true:=by
    intro k A
    by_cases e:i=k
    ·subst e
     simp[zS,u]
    ·simpa[zS,zQ,e] using A
   by_cases F:i=j
   ·subst F
    rw[g] at c
    injection c with c
    subst c
    exact H _ (x e q r)
   ·refine H _ (f.closed j p c ?_ e q r)
    simpa[zS,zQ,F] using aA
 ·intro listed a w hs N f
  refine X listed a w N f (λt=>f.facts t ?_)
  intro j p c _
  exact N j (zI.1 c).1
theorem region2_facts {P:Program}{ops:Array Oper}(d:P.follows .mixedOrders=true)(m:backs ops=true){k:Nat}{a0:Act}{w0:World}{Q:Exit->Act->World->Prop}(n:Nat)(hn:a0.tmps.size=n)(j:dstsIn ops n=true)(D:List Nat)(e:dstsAre ops D=true)
  (V W:List (Nat×Fact)) (q:StartOk a0 w0.drew V) (g:(W.all λp=>written ops p.1)=true) (c:WInv) (r:c (Array.replicate ops.size false) a0 w0.drew)
  (h:AllOp2 P ops a0 (FSof (V++W)) c 0 ops.toList)
  (f:∀listed a w,(∀i,i<ops.size->listed.getD i true=true)->J2 ops (FSof (V++W)) a0 D c listed a w->(∀t,FSof (V++W) t (a.eval (.tmp t)) w)->Q .normal a w) :
  (Code.region k ops true).wp P Q a0 w0 :=
 region2 d m n hn j D e (FSof (V++W)) c (λt ht=>start_fact V W q g t ht) r h f
theorem op2_mv_old {a0:Act}{FS:Tmp->Value->World->Prop}{d:WInv}{i:Nat}{o:Oper}(t:Tmp)(f:o.guard=none)(c:o.op = .move (.tmp t)∨o.op = .assign (.tmp t))(n:waits ops i t=true)(hd:∀w,FSd FS o.dst (a0.eval (.tmp t)) w)
  (m:∀listed a v w w',d listed a w->Grow w w'->d (listed.setIfInBounds i true) (a.put o.dst v) w'):Op2 P ops a0 FS d i o:=by
 intro listed a w K Q hs hl p k _ j g
 have e:=j t n
 rw[if_pos (by simp[Region.wanted,f])]
 left
 unfold Oper.wp execOp
 rcases c with c|c<;>simp only[c,Sem.run_pure,Oper.upon_value,e]<;>exact g _ w (λ_ _ h=>h) (hd w) (m _ _ _ _ _ k (Grow.refl w))
def allVal:List (Nat×Fact)->Bool
 | []=>true
 | (_,.val _)::r=>allVal r
 | (_,.any)::r=>allVal r
 | _=>false
theorem factOf_val:∀{L:List (Nat×Fact)},allVal L=true->∀t v w w',(factOf L t).holds v w->(factOf L t).holds v w'
 | [],_,t,v,w,w',h=>h
 | (k,.val x)::r,hv,t,v,w,w',h=>by
  simp only[factOf] at h ⊢
  split
  ·rename_i e
   rw[if_pos e] at h
   exact h
  ·rename_i e
   rw[if_neg e] at h
   exact factOf_val (L:=r) hv t v w w' h
 | (k,.any)::r,hv,t,v,w,w',h=>by
  simp only[factOf] at h ⊢
  split
  ·trivial
  ·rename_i e
   rw[if_neg e] at h
   exact factOf_val (L:=r) hv t v w w' h
 | (k,.res l)::r,hv,_,_,_,_,_=>by cases hv
 | (k,.pred p q)::r,hv,_,_,_,_,_=>by cases hv
end Reg
theorem four1_gives (n b:Nat)(a:b<=31)(w:World):Calls Tryz.prog 152 #[.int .u32 n,.int .i64 b] w λe w'=>e = .returned (.int .u8 ((n / 2 ^ b % 256:Nat):Int))/\w=w':=by
 go_enter Tryz.func152,Tryz.ntmps152
 go_wp2
 go_ret
 exact⟨by simp,rfl⟩
theorem eight1_gives (n b:Nat)(a:b<=63)(w:World):Calls Tryz.prog 322 #[.int .u64 n,.int .i64 b] w λe w'=>e = .returned (.int .u8 ((n / 2 ^ b % 256:Nat):Int))/\w=w':=by
 go_enter Tryz.func322,Tryz.ntmps322
 go_wp2
 go_ret
 exact⟨by simp,rfl⟩
def FixAt (m n k:Nat)(pre:List UInt8):Prop:=pre++fixL k n=fixL m n/\pre.length+k=m
theorem FixAt.start (m n:Nat):FixAt m n m []:=⟨rfl,by simp⟩
theorem FixAt.next {m n k:Nat}{a:List UInt8}(h:FixAt m n (k+1) a):FixAt m n k (a++[UInt8.ofNat (n / 2 ^ (8*k) % 256)]):=by
 refine⟨?_,by have:=h.2;simp;omega⟩
 rw[<-h.1,fixL_succ,List.append_assoc,List.singleton_append]
 congr 2
 apply UInt8.toNat_inj.1
 rw[show (256:Nat) ^ k=2 ^ (8*k) from by rw[Nat.pow_mul]]
 simp[UInt8.toNat_ofNat']
theorem FixAt.last {m n:Nat}{a:List UInt8}(h:FixAt m n 0 a):a=fixL m n:=by
 have:=h.1
 simpa[fixL] using this
theorem fixed32_gives (m n:Nat)(F:m<=4)(w:World):Calls Tryz.prog 151 #[.int .u32 n,.int .i64 m,.func (.func 152) #[] #[]] w (GivesB w (fixL m n)):=by
 obtain⟨q,E,s,p,C⟩:=info_parts inf_u8
 go_enter Tryz.func151,Tryz.ntmps151
 go_wp2_with fail
 go_loopw [6,7] (λv i wr=>∃(k:Nat) (a:List UInt8),Hid (FixAt m n k a)/\a.length<=m/\k<=m/\i = .int .i64 ((k:Int) - 1)/\OwnB wr w.heap.size v a/\Below w.heap.size w wr)
  (λ_ i _=>(intOf i+1).toNat)
 case atStart=>exact⟨m,[],Lib.hid (FixAt.start m n),by simp,by omega,rfl,OwnB.nil _ _,Below.refl _ _⟩
 case round =>
  obtain⟨k,a,hF,hl,j,rfl,d,hB⟩:=hrel
  have A:=hB.size
  rcases k with _|k
  ·have H:((0:Nat):Int) - 1<0:=by omega
   go_wp2_with fail
   go_ret
   have e:=hF.out.last
   subst e
   exact⟨_,rfl,d,hB⟩
  ·have f:(((k+1:Nat):Int) - 1)=(k:Int):=by omega
   rw[f]
   clear f
   go_wp2_with fail
   rw[show (8*(k:Int))=((8*k:Nat):Int) from by omega]
   refine(four1_gives n (8*k) (by omega) _).mono ?_
   rintro e w' ⟨rfl,rfl⟩
   have z:n / 2 ^ (8*k) % 256<256:=by omega
   generalize g:n / 2 ^ (8*k) % 256=x at *
   have r:=Lib.hid g
   clear g
   go_wp2_with (at_builtin;refine wpList_append_own _ rfl _ _ 87 rfl w.heap.size 5 q (.int .u8 0) 1 1 Tryz.underlying87 E s p C rfl (by decide) _ _ _ rfl (World.ownsRow.alloc d _) ⟨wr.heap.size,0,none⟩ 1 1 _ rfl rfl (cell_one_new _ _ _) (by simp[Value.oneCell']) (by unfold maxLen;omega) (by omega) (by simp;omega) ?_;intro v' G h u _)
   have c:=hF.out.next
   rw[r.out] at c
   rw[map_snoc_b8 a x z] at h
   refine⟨⟨k,a++[UInt8.ofNat x],Lib.hid c,?_,by omega,rfl,?_,(hB.alloc A _).grown u (by simp;omega) (λk j=>(World.ownsRow.lt d k j).1)⟩,by simp[intOf]⟩
   ·have:=c.2;omega
   ·unfold OwnB
    simpa using h
theorem fixed64_gives (m n:Nat)(F:m<=8)(w:World):Calls Tryz.prog 321 #[.int .u64 n,.int .i64 m,.func (.func 322) #[] #[]] w (GivesB w (fixL m n)):=by
 obtain⟨q,E,s,p,C⟩:=info_parts inf_u8
 go_enter Tryz.func321,Tryz.ntmps321
 go_wp2_with fail
 go_loopw [6,7] (λv i wr=>∃(k:Nat) (a:List UInt8),Hid (FixAt m n k a)/\a.length<=m/\k<=m/\i = .int .i64 ((k:Int) - 1)/\OwnB wr w.heap.size v a/\Below w.heap.size w wr)
  (λ_ i _=>(intOf i+1).toNat)
 case atStart=>exact⟨m,[],Lib.hid (FixAt.start m n),by simp,by omega,rfl,OwnB.nil _ _,Below.refl _ _⟩
 case round =>
  obtain⟨k,a,hF,hl,j,rfl,d,hB⟩:=hrel
  have A:=hB.size
  rcases k with _|k
  ·have H:((0:Nat):Int) - 1<0:=by omega
   go_wp2_with fail
   go_ret
   have e:=hF.out.last
   subst e
   exact⟨_,rfl,d,hB⟩
  ·have f:(((k+1:Nat):Int) - 1)=(k:Int):=by omega
   rw[f]
   clear f
   go_wp2_with fail
   rw[show (8*(k:Int))=((8*k:Nat):Int) from by omega]
   refine(eight1_gives n (8*k) (by omega) _).mono ?_
   rintro e w' ⟨rfl,rfl⟩
   have z:n / 2 ^ (8*k) % 256<256:=by omega
   generalize g:n / 2 ^ (8*k) % 256=x at *
   have r:=Lib.hid g
   clear g
   go_wp2_with (at_builtin;refine wpList_append_own _ rfl _ _ 87 rfl w.heap.size 5 q (.int .u8 0) 1 1 Tryz.underlying87 E s p C rfl (by decide) _ _ _ rfl (World.ownsRow.alloc d _) ⟨wr.heap.size,0,none⟩ 1 1 _ rfl rfl (cell_one_new _ _ _) (by simp[Value.oneCell']) (by unfold maxLen;omega) (by omega) (by simp;omega) ?_;intro v' G h u _)
   have c:=hF.out.next
   rw[r.out] at c
   rw[map_snoc_b8 a x z] at h
   refine⟨⟨k,a++[UInt8.ofNat x],Lib.hid c,?_,by omega,rfl,?_,(hB.alloc A _).grown u (by simp;omega) (λk j=>(World.ownsRow.lt d k j).1)⟩,by simp[intOf]⟩
   ·have:=c.2;omega
   ·unfold OwnB
    simpa using h
theorem four_gives (n:Nat)(w:World):Calls Tryz.prog 94 #[.int .u32 n] w (GivesB w (fixL 4 n)):=by
 go_enter Tryz.func94,Tryz.ntmps94
 go_wp2_with fail
 refine(fixed32_gives 4 n (by omega) _).mono ?_
 rintro e w' ⟨v,rfl,h1,h2⟩
 go_wp2
 go_ret
 exact⟨v,rfl,h1,h2⟩
theorem eight_gives (n:Nat)(w:World):Calls Tryz.prog 290 #[.int .u64 n] w (GivesB w (fixL 8 n)):=by
 go_enter Tryz.func290,Tryz.ntmps290
 go_wp2_with fail
 refine(fixed64_gives 8 n (by omega) _).mono ?_
 rintro e w' ⟨v,rfl,h1,h2⟩
 go_wp2
 go_ret
 exact⟨v,rfl,h1,h2⟩




theorem BlkIs.own' {w:World}{g base:Nat}{l:List UInt8}(h:BlkIs w g 5 (l.map b8).toArray)(a:base<=g)(c:l.length<=9223372036854775807):OwnB w base (.slice (some ⟨g,0,none⟩) l.length l.length) l :=
 ⟨by simp,.inr ⟨g,l.length,(l.map b8).toArray,rfl,a,h,zH _,by unfold maxLen;omega,by simp,by simp[qI]⟩⟩
theorem cut_from {ρ:Operand->Value}{w:World}{o:Oper}{x y:Operand}{g n m:Nat}(a:o.op = .slice 87 x (some y) none none)(h1:ρ x = .slice (some ⟨g,0,none⟩) n n)(h2:ρ y = .int .i64 (m:Int))(f:m<n) :
  (execOp ρ o).run Tryz.prog w = .ok (.value (.slice (some ⟨g,m,none⟩) (n - m) (n - m))) w:=by
 have ht:Tryz.prog.underlying 87=some (.slice (Tryz.prog.elem 87)):=by kernel_rfl
 have e:¬ n=m:=by omega
 have c:m<=n:=by omega
 have d:(⟨g,0,none⟩:Addr).add m=⟨g,m,none⟩:=by cases m<;>simp[Addr.add]
 simp[execOp,a,h1,h2,go_sem,run_sliceAt_slice _ _ _ _ _ _ ht,Result.andThen,e,c,d]
theorem cut_to {ρ:Operand->Value}{w:World}{o:Oper}{x y:Operand}{g n m:Nat}(a:o.op = .slice 87 x none (some y) none)(h1:ρ x = .slice (some ⟨g,0,none⟩) n n)(h2:ρ y = .int .i64 (m:Int))(d:m<n) :
  (execOp ρ o).run Tryz.prog w = .ok (.value (.slice (some ⟨g,0,none⟩) m n)) w:=by
 have ht:Tryz.prog.underlying 87=some (.slice (Tryz.prog.elem 87)):=by kernel_rfl
 have c:m<=n:=by omega
 simp[execOp,a,h1,h2,go_sem,run_sliceAt_slice _ _ _ _ _ _ ht,Result.andThen,c]
theorem repeat2_gives (w:World)(A:Option Addr)(c:Nat)(l:List UInt8)(h:InB w w.heap.size A c l)(hl:0<l.length)(hm:l.length<30000) :
  Calls Tryz.prog 292 #[.slice A l.length c,.int .i64 2] w (GivesB w (l++l)):=by
 have H:=mul_gives l.length 2 (by omega) (by omega) w
 have e1:IntKind.u64.wrap (l.length:Int)=(l.length:Int):=by
  show (l.length:Int) % 18446744073709551616=_
  omega
 have e2:IntKind.i64.wrap ((l.length*2:Nat):Int)=((l.length*2:Nat):Int):=wrap_i64_fr _ (by omega) (by omega)
 obtain⟨n,hn⟩:∃n,n=l.length*2:=⟨_,rfl⟩
 rw[<-hn] at H e2
 have q:=Lib.hid hn
 have aP:n<60000:=by omega
 clear hn
 go_enter Tryz.func292,Tryz.ntmps292
 go_wp2_with fail
 refine H.mono ?_
 rintro e w' ⟨rfl,rfl⟩
 go_wp2_with (first
  | (at_make;refine wp_makeB rfl (.tmp 29) (.tmp 29) rfl w.heap.size .i64 .i64 n rfl rfl (by omega) (zH _) ?_;intro w1 aC X;have I:Below w.heap.size w w1:=(Below.refl _ w).grown X (zH _) (λk hk=>by cases hk);obtain⟨E,_⟩:=OwnB.blk (l:=zR n 0) (by rw[List.length_replicate];exact aC))
  | (refine wp_copyB rfl (.tmp 31) (.tmp 32) rfl w.heap.size 0 (zR n 0) l A c _ n n rfl rfl E (h.below I) (by simp) ?_))
 have O:min l.length n=l.length:=by have:=q.out;omega
 have Z:spliceB (zR n 0) 0 n l=l++zR l.length 0:=by
  have:=q.out
  subst this
  simp only[spliceB,List.take_zero,zV,qC,List.drop_replicate]
  rw[qI (by omega),Nat.min_eq_left (by omega)]
  congr 2
  omega
 rw[Z]
 have aD:=E.setRow ((l++zR l.length 0).map b8).toArray
 have aF:=below_setRow I (zH _) (g:=w.heap.size) ((l++zR l.length 0).map b8).toArray
 generalize w1.setRow w.heap.size ((l++zR l.length 0).map b8).toArray=T at *
 rw[O]
 clear I E aC X O Z
 have aW:(l.length:Int)<(n:Int):=by have:=q.out;omega
 refine wp_loop_rounds 2 ?_
 rw[rounds_succ]
 go_wp2_with fail
 have aT:InB T (w.heap.size+1) (some ⟨w.heap.size,0,none⟩) n l:=⟨by have:=q.out;omega,by omega,(λe=>by cases e),λ_=>⟨_,0,rfl,by omega,λj F=>by
  rw[aD.cell]
  simp[b8,List.getElem?_append_left,F]⟩⟩
 have aL:l.length+(n - l.length)<=(l++zR l.length (0:UInt8)).length:=by have:=q.out;simp;omega
 have aB:l.length<n:=by omega
 have aE:IntKind.i64.wrap ((l.length:Int)+(l.length:Int))=(n:Int):=by have:=q.out;rw[wrap_i64_fr _ (by omega) (by omega)];omega
 let s:Reg.WInv:=λlisted _ W=>BlkIs W w.heap.size 5 ((if listed.getD 7 false then l++l else l++zR l.length 0).map b8).toArray/\Below w.heap.size w W
 have p:∀i,i≠7->∀(listed:Array Bool) (a V:Act) (W W':World),s listed a W->Grow W W'->s (listed.setIfInBounds i true) V W':=by
  intro i hi listed a V W W' h d
  have e:(listed.setIfInBounds i true).getD 7 false=listed.getD 7 false:=by simp[zS,hi]
  refine⟨?_,h.2.trans (d.mono h.2.size)⟩
  rw[e]
  exact h.1.below d h.1.lt
 have aN:∀(m:Nat) (a:Act),s (Array.replicate m false) a T.drew:=by
  intro m a
  have e:(Array.replicate m false).getD 7 false=false:=by simp[Array.getD]
  refine⟨?_,aF.drew⟩
  rw[e]
  exact aD.drew
 have aH:spliceB (l++zR l.length 0) l.length (n - l.length) l=l++l:=by
  have e:n - l.length=l.length:=by have:=q.out;omega
  rw[e]
  simp[spliceB]
 have aG:∀(ops:Array Oper) (a0:Act) (L:List (Nat×Fact)) (o:Oper),o.guard=none->o.op = .call { callee:=.builtin .copy,args:=#[.tmp 41,.tmp 44],argTypes:=#[87,87] }->o.dst=some 45->7<ops.size ->
   (o.looksAt ops).contains 41=true->(o.looksAt ops).contains 44=true->Reg.ahead ops o 41=true->Reg.ahead ops o 44=true->factOf L 41 = .val (.slice (some ⟨w.heap.size,l.length,none⟩) (n - l.length) (n - l.length))->factOf L 44 = .val (.slice (some ⟨w.heap.size,0,none⟩) l.length n) ->
   factOf L 45 = .val (.int .i64 (l.length:Int))->Reg.allVal L=true->Reg.Op2 Tryz.prog ops a0 (FSof L) s 7 o:=by
  intro ops a0 L o d ho hd aX c1 c2 h1 h2 f1 f2 f3 hv listed a W K Q hs hl _ aJ aA _ hK
  rw[if_pos (by simp[Region.wanted,d])]
  left
  have S:(factOf L 41).holds (a.eval (.tmp 41)) W:=aA 41 c1 h1
  have g2:(factOf L 44).holds (a.eval (.tmp 44)) W:=aA 44 c2 h2
  rw[f1] at S
  rw[f2] at g2
  have e7:listed.getD 7 false=false:=by
   have x:7<listed.size:=by omega
   simpa[Array.getD,x] using hl
  obtain⟨z,hB⟩:=aJ
  rw[e7] at z
  have aI:InB W (w.heap.size+1) (some ⟨w.heap.size,0,none⟩) n l:=⟨by omega,by omega,(λe=>by cases e),λ_=>⟨_,0,rfl,by omega,λj F=>by
   rw[z.cell]
   simp[b8,List.getElem?_append_left,F]⟩⟩
  refine oper_copyB (.tmp 41) (.tmp 44) ho w.heap.size l.length (l++zR l.length 0) l (some ⟨w.heap.size,0,none⟩) n (w.heap.size+1) (n - l.length) (n - l.length) S g2 z aI aL ?_
  rw[aH,show min l.length (n - l.length)=l.length from by have:=q.out;omega]
  refine hK _ _ (λt u h=>Reg.factOf_val hv t u _ _ h) ?_ ?_
  ·rw[hd]
   show (factOf L 45).holds _ _
   rw[f3]
   rfl
  ·refine⟨?_,below_setRow hB (zH _) _⟩
   have C:(listed.setIfInBounds 7 true).getD 7 false=true:=by
    have x:7<listed.size:=by omega
    simp[zS,x]
   rw[C]
   exact z.setRow _
 open Reg in
 refine region2_facts (by kernel_rfl) (by kernel_rfl) 48 rfl (by kernel_rfl) [38,39,40,41,42,43,44,45,46,8] (by kernel_rfl)
  [(7,.val (.slice (some ⟨w.heap.size,0,none⟩) n n))]
  [(38,.val (.int .i64 (l.length:Int))),(39,.val (.slice (some ⟨w.heap.size,0,none⟩) n n)),(40,.val (.int .i64 (l.length:Int))),(41,.val (.slice (some ⟨w.heap.size,l.length,none⟩) (n - l.length) (n - l.length))),(42,.val (.slice (some ⟨w.heap.size,0,none⟩) n n)),(43,.val (.int .i64 (l.length:Int))),(44,.val (.slice (some ⟨w.heap.size,0,none⟩) l.length n)),(45,.val (.int .i64 (l.length:Int))),(46,.val (.int .i64 (n:Int))),(8,.val (.int .i64 (n:Int)))]
  ⟨rfl,trivial⟩ (by kernel_rfl) (s) (aN _ { tmps:=#[],defers:=[] })
  (⟨op2_mv_old 8 rfl (.inl rfl) (by kernel_rfl) (λw=>fsd (f:=.val (.int .i64 (l.length:Int))) (by kernel_rfl) rfl) (λlisted a v w w1 h d=>p 0 (by decide) listed a a w w1 h d),
  ⟨op2_of (FSof.stable _) (λ_=>ok_none rfl (l_mvF 7 (.val (.slice (some ⟨w.heap.size,0,none⟩) n n)) (.inl rfl) (by kernel_rfl) (by kernel_rfl) (by kernel_rfl))) (by kernel_rfl) (λlisted a v w w1 h d=>p 1 (by decide) listed a a w w1 h d),
  ⟨op2_mv_old 8 rfl (.inl rfl) (by kernel_rfl) (λw=>fsd (f:=.val (.int .i64 (l.length:Int))) (by kernel_rfl) rfl) (λlisted a v w w1 h d=>p 2 (by decide) listed a a w w1 h d),
  ⟨op2_of (FSof.stable _) (λ_=>ok_none rfl (l_run2W (.tmp 39) (.tmp 40) (.val (.slice (some ⟨w.heap.size,l.length,none⟩) (n - l.length) (n - l.length))) (.slice (some ⟨w.heap.size,0,none⟩) n n) (.int .i64 (l.length:Int)) (hs 39 _ (by kernel_rfl) (by kernel_rfl)) (hs 40 _ (by kernel_rfl) (by kernel_rfl)) (λρ w d h1 h2=>⟨_,w,cut_from rfl h1 h2 aB,Grow.refl _,rfl⟩) (by kernel_rfl))) (by kernel_rfl) (λlisted a v w w1 h d=>p 3 (by decide) listed a a w w1 h d),
  ⟨op2_of (FSof.stable _) (λ_=>ok_none rfl (l_mvF 7 (.val (.slice (some ⟨w.heap.size,0,none⟩) n n)) (.inl rfl) (by kernel_rfl) (by kernel_rfl) (by kernel_rfl))) (by kernel_rfl) (λlisted a v w w1 h d=>p 4 (by decide) listed a a w w1 h d),
  ⟨op2_mv_old 8 rfl (.inl rfl) (by kernel_rfl) (λw=>fsd (f:=.val (.int .i64 (l.length:Int))) (by kernel_rfl) rfl) (λlisted a v w w1 h d=>p 5 (by decide) listed a a w w1 h d),
  ⟨op2_of (FSof.stable _) (λ_=>ok_none rfl (l_run2W (.tmp 42) (.tmp 43) (.val (.slice (some ⟨w.heap.size,0,none⟩) l.length n)) (.slice (some ⟨w.heap.size,0,none⟩) n n) (.int .i64 (l.length:Int)) (hs 42 _ (by kernel_rfl) (by kernel_rfl)) (hs 43 _ (by kernel_rfl) (by kernel_rfl)) (λρ w d h1 h2=>⟨_,w,cut_to rfl h1 h2 aB,Grow.refl _,rfl⟩) (by kernel_rfl))) (by kernel_rfl) (λlisted a v w w1 h d=>p 6 (by decide) listed a a w w1 h d),
  ⟨aG _ _ _ _ rfl rfl rfl (by decide) (by kernel_rfl) (by kernel_rfl) (by kernel_rfl) (by kernel_rfl) (by kernel_rfl) (by kernel_rfl) (by kernel_rfl) (by kernel_rfl),
  ⟨op2_of (FSof.stable _) (λ_=>ok_none rfl (run2 (.tmp 38) (.tmp 45) (hs 38 (.int .i64 (l.length:Int)) (by kernel_rfl) (by kernel_rfl)) (hs 45 (.int .i64 (l.length:Int)) (by kernel_rfl) (by kernel_rfl)) (λρ w h1 h2=>by simp[execOp,h1,h2,go_sem,aE]) (λ_=>fsd (f:=.val (.int .i64 (n:Int))) (by kernel_rfl) rfl))) (by kernel_rfl) (λlisted a v w w1 h d=>p 8 (by decide) listed a a w w1 h d),
  ⟨op2_of (FSof.stable _) (λ_=>ok_none rfl (l_mvF 46 (.val (.int .i64 (n:Int))) (.inr rfl) (by kernel_rfl) (by kernel_rfl) (by kernel_rfl))) (by kernel_rfl) (λlisted a v w w1 h d=>p 9 (by decide) listed a a w w1 h d),
  trivial⟩⟩⟩⟩⟩⟩⟩⟩⟩⟩) ?_
 intro listed a w3 G r hF
 have C:a.eval (.tmp 8) = .int .i64 (n:Int):=hF 8
 have ha:=Reg.acts_eq [38,39,40,41,42,43,44,45,46,8] r.size r.defers r.rest
 obtain⟨aK,aM⟩:BlkIs w3 w.heap.size 5 ((l++l).map b8).toArray/\Below w.heap.size w w3:=by
  have x:=G 7 (by decide)
  have hs:listed.getD 7 false=true:=by
   cases U:listed[7]? with
   | none =>
    exfalso
    have h9:=r.closed 9 _ rfl (G 9 (by decide)) ⟨7,.chain⟩ (by simp) (by decide)
    simp[zS,U] at h9
   | some b=>simpa[zS,U] using x
  have N:=r.wi
  refine⟨?_,N.2⟩
  have:=N.1
  rw[hs] at this
  exact this
 clear hF r G
 simp only[List.foldl_cons,List.foldl_nil,C] at ha
 clear C
 generalize a.eval (.tmp 38)=aV at ha
 generalize a.eval (.tmp 39)=v39 at ha
 generalize a.eval (.tmp 40)=aS at ha
 generalize a.eval (.tmp 41)=aR at ha
 generalize a.eval (.tmp 42)=aU at ha
 generalize a.eval (.tmp 43)=aO at ha
 generalize a.eval (.tmp 44)=aQ at ha
 generalize a.eval (.tmp 45)=v45 at ha
 generalize a.eval (.tmp 46)=v46 at ha
 simp only[Act.put,zA,zF,zG] at ha
 subst ha
 simp only[Exit.inBlock,Exit.then]
 rw[rounds_succ]
 go_wp2
 go_ret
 refine⟨_,rfl,?_,aM⟩
 have M:(l++l).length=n:=by have:=q.out;simp;omega
 rw[<-M]
 exact aK.own' (zH _) (by rw[M];omega)
end Go.Proofs.YtpibjkbadnffgaaGreat
namespace Go.Proofs.YtpibjkbadnffgaaGreat
open Lou
def headB (s e z c:Nat):List UInt8:=[fixL 8 s,fixL 8 e,fixL 4 z,fixL 4 c].flatten
theorem headB_eq (s e z c:Nat):headB s e z c=fixL 8 s++(fixL 8 e++(fixL 4 z++fixL 4 c)):=by simp[headB]
theorem headB_length (s e z c:Nat):(headB s e z c).length=24:=by
 rw[headB_eq];simp only[zJ,fixL_length]
def onceB (b:List UInt8):List UInt8:=b++fixL 4 (sumL b)
theorem onceB_length (b:List UInt8):(onceB b).length=b.length+4:=by simp[onceB,fixL_length]
def twiceB (b:List UInt8):List UInt8:=onceB b++onceB b++zR 8 0
theorem twiceB_length (b:List UInt8):(twiceB b).length=2*b.length+16:=by simp[twiceB,onceB_length];omega
def headW (s e z c:Nat):List UInt8:=twiceB (headB s e z c)
theorem headW_length (s e z c:Nat):(headW s e z c).length=64:=by simp[headW,twiceB_length,headB_length]
theorem rfix_fixL_lt {k n:Nat}(h:n<256 ^ k):rfix (fixL k n)=n:=by rw[rfix_fixL,Nat.mod_eq_of_lt h]
theorem headB_read {s e z c:Nat}(hs:s<2 ^ 64)(p:e<2 ^ 64)(q:z<2 ^ 32)(hc:c<2 ^ 32)(r:List UInt8) :
  rfix ((headB s e z c++r).take 8)=s/\rfix (((headB s e z c++r).drop 8).take 8)=e/\rfix (((headB s e z c++r).drop 16).take 4)=z/\rfix (((headB s e z c++r).drop 20).take 4)=c:=by
 have d:∀n,(fixL 8 n).length=8:=fixL_length 8
 have a:∀n,(fixL 4 n).length=4:=fixL_length 4
 have u:(256:Nat) ^ 8=2 ^ 64:=by decide
 have m:(256:Nat) ^ 4=2 ^ 32:=by decide
 have g:∀n (r:List UInt8),(fixL 8 n++r).take 8=fixL 8 n:=λn r=>by rw[List.take_append_of_le_length (by rw[d];omega)];rw[qI (by rw[d];omega)]
 have t4:∀n (r:List UInt8),(fixL 4 n++r).take 4=fixL 4 n:=λn r=>by rw[List.take_append_of_le_length (by rw[a];omega)];rw[qI (by rw[a];omega)]
 have f:∀n (r:List UInt8),(fixL 8 n++r).drop 8=r:=λn r=>by have:=List.drop_left (l₁:=fixL 8 n) (l₂:=r);rw[d] at this;exact this
 have j:∀n (r:List UInt8),(fixL 4 n++r).drop 4=r:=λn r=>by have:=List.drop_left (l₁:=fixL 4 n) (l₂:=r);rw[a] at this;exact this
 have k:∀(l:List UInt8),l.drop 16=(l.drop 8).drop 8:=λl=>by rw[List.drop_drop]
 have h:∀(l:List UInt8),l.drop 20=((l.drop 8).drop 8).drop 4:=λl=>by rw[List.drop_drop,List.drop_drop]
 rw[headB_eq]
 simp only[List.append_assoc]
 rw[h,k,g,f,g,f,t4,j,t4]
 exact⟨rfix_fixL_lt (by omega),rfix_fixL_lt (by omega),rfix_fixL_lt (by omega),rfix_fixL_lt (by omega)⟩
def hdS (b:List UInt8):Nat:=rfix (b.take 8)
def hdE (b:List UInt8):Nat:=rfix ((b.drop 8).take 8)
def hdZ (b:List UInt8):Nat:=rfix ((b.drop 16).take 4)
def hdC (b:List UInt8):Nat:=rfix ((b.drop 20).take 4)
def isHead (b:List UInt8):Bool:=decide (b.length=64) && decide (hdZ b<=2000) && decide (hdC b<=2000) && decide (headW (hdS b) (hdE b) (hdZ b) (hdC b)=b)
theorem isHead_iff (b:List UInt8):isHead b=true↔b.length=64/\hdZ b<=2000/\hdC b<=2000/\headW (hdS b) (hdE b) (hdZ b) (hdC b)=b:=by
 simp[isHead,and_assoc]
theorem headW_split (s e z c:Nat):∃r,headW s e z c=headB s e z c++r:=⟨_,by unfold headW twiceB onceB;simp only[List.append_assoc];rfl⟩
theorem headW_read {s e z c:Nat}(hs:s<2 ^ 64)(a:e<2 ^ 64)(f:z<=2000)(hc:c<=2000):hdS (headW s e z c)=s/\hdE (headW s e z c)=e/\hdZ (headW s e z c)=z/\hdC (headW s e z c)=c:=by
 obtain⟨r,d⟩:=headW_split s e z c
 unfold hdS hdE hdZ hdC
 rw[d]
 exact headB_read hs a (by omega) (by omega) r
theorem isHead_headW {s e z c:Nat}(hs:s<2 ^ 64)(g:e<2 ^ 64)(a:z<=2000)(hc:c<=2000):isHead (headW s e z c)=true:=by
 obtain⟨h1,h2,d,f⟩:=headW_read hs g a hc
 rw[isHead_iff,h1,h2,d,f]
 exact⟨headW_length _ _ _ _,a,hc,rfl⟩
def partB (e i p:Nat)(f:Bool)(z l:Nat):List UInt8:=[fixL 8 e,fixL 4 i,fixL 4 p,[if f then 1 else 0],fixL 4 z,fixL 4 l].flatten
theorem partB_eq (e i p:Nat)(f:Bool)(z l:Nat):partB e i p f z l=fixL 8 e++(fixL 4 i++(fixL 4 p++((if f then 1 else 0)::(fixL 4 z++fixL 4 l)))):=by simp[partB]
theorem partB_length (e i p:Nat)(f:Bool)(z l:Nat):(partB e i p f z l).length=25:=by
 rw[partB_eq];simp only[zJ,zP,fixL_length]
def sectB (p y:List UInt8):List UInt8:=p++fixL 4 (sumL (p++y))++zR 35 0
theorem sectB_length (p y:List UInt8):(sectB p y).length=p.length+39:=by simp[sectB,fixL_length]
def frameB (p y:List UInt8):List UInt8:=sectB p y++y
end Go.Proofs.YtpibjkbadnffgaaGreat
namespace Go.Proofs.YtpibjkbadnffgaaGreat
open Go Go.RowKit Lou
theorem conv_3_45 (r:Nat)(h:r<4294967296)(w:World):(convert 3 144 (.int .i64 r)).run Tryz.prog w = .ok (.int .u32 r) w:=by
 have e:IntKind.u32.wrap (r:Int)=r:=by
  show (r:Int) % 4294967296=r
  omega
 have k:Tryz.prog.intKind 144 = .u32:=by kernel_rfl
 have h:=run_convert_int (P:=Tryz.prog) (w:=w) 3 144 .i64 r (by kernel_rfl) (by kernel_rfl)
 rw[k,e] at h
 exact h
theorem head_gives (s e z c:Nat)(hz:z<=2000)(hc:c<=2000)(w:World) :
  Calls Tryz.prog 228 #[.agg #[.int .u64 (s:Int),.int .u64 (e:Int),.int .i64 (z:Int),.int .i64 (c:Int)]] w λx w'=>x = .returned (.agg ((headW s e z c).map b8).toArray)/\Below w.heap.size w w':=by
 have aF:=conv_3_45 z (by omega)
 have aD:=conv_3_45 c (by omega)
 have aN:∀w u,Lists [fixL 8 s,fixL 8 e,fixL 4 z,fixL 4 c] u w->Calls Tryz.prog 137 #[u] w λe' w'=>∃v,e' = .returned v/\Grow w w'/\(Fact.res (headB s e z c)).holds v w':=λw u hu =>
  Reg.gives_res (concatL_gives hu (by simp) (by have:=headB_length s e z c;unfold headB at this;omega))
 have aH:Below w.heap.size w ((w.alloc (.cells #[.int .u64 (s:Int),.int .u64 (e:Int),.int .i64 (z:Int),.int .i64 (c:Int)] 185)).alloc (.cells #[.int .u8 0,.int .u8 0,.int .u8 0,.int .u8 0,.int .u8 0,.int .u8 0,.int .u8 0,.int .u8 0,.int .u8 0,.int .u8 0,.int .u8 0,.int .u8 0,.int .u8 0,.int .u8 0,.int .u8 0,.int .u8 0,.int .u8 0,.int .u8 0,.int .u8 0,.int .u8 0,.int .u8 0,.int .u8 0,.int .u8 0,.int .u8 0,.int .u8 0,.int .u8 0,.int .u8 0,.int .u8 0,.int .u8 0,.int .u8 0,.int .u8 0,.int .u8 0,.int .u8 0,.int .u8 0,.int .u8 0,.int .u8 0,.int .u8 0,.int .u8 0,.int .u8 0,.int .u8 0,.int .u8 0,.int .u8 0,.int .u8 0,.int .u8 0,.int .u8 0,.int .u8 0,.int .u8 0,.int .u8 0,.int .u8 0,.int .u8 0,.int .u8 0,.int .u8 0,.int .u8 0,.int .u8 0,.int .u8 0,.int .u8 0,.int .u8 0,.int .u8 0,.int .u8 0,.int .u8 0,.int .u8 0,.int .u8 0,.int .u8 0,.int .u8 0] 307)):=((Below.refl _ w).alloc (zH _) _).alloc (by simp) _
 have g:BlkIs ((w.alloc (.cells #[.int .u64 (s:Int),.int .u64 (e:Int),.int .i64 (z:Int),.int .i64 (c:Int)] 185)).alloc (.cells #[.int .u8 0,.int .u8 0,.int .u8 0,.int .u8 0,.int .u8 0,.int .u8 0,.int .u8 0,.int .u8 0,.int .u8 0,.int .u8 0,.int .u8 0,.int .u8 0,.int .u8 0,.int .u8 0,.int .u8 0,.int .u8 0,.int .u8 0,.int .u8 0,.int .u8 0,.int .u8 0,.int .u8 0,.int .u8 0,.int .u8 0,.int .u8 0,.int .u8 0,.int .u8 0,.int .u8 0,.int .u8 0,.int .u8 0,.int .u8 0,.int .u8 0,.int .u8 0,.int .u8 0,.int .u8 0,.int .u8 0,.int .u8 0,.int .u8 0,.int .u8 0,.int .u8 0,.int .u8 0,.int .u8 0,.int .u8 0,.int .u8 0,.int .u8 0,.int .u8 0,.int .u8 0,.int .u8 0,.int .u8 0,.int .u8 0,.int .u8 0,.int .u8 0,.int .u8 0,.int .u8 0,.int .u8 0,.int .u8 0,.int .u8 0,.int .u8 0,.int .u8 0,.int .u8 0,.int .u8 0,.int .u8 0,.int .u8 0,.int .u8 0,.int .u8 0] 307)) w.heap.size 185 #[.int .u64 (s:Int),.int .u64 (e:Int),.int .i64 (z:Int),.int .i64 (c:Int)]:=(BlkIs.new w 185 _).alloc _
 have A:BlkIs ((w.alloc (.cells #[.int .u64 (s:Int),.int .u64 (e:Int),.int .i64 (z:Int),.int .i64 (c:Int)] 185)).alloc (.cells #[.int .u8 0,.int .u8 0,.int .u8 0,.int .u8 0,.int .u8 0,.int .u8 0,.int .u8 0,.int .u8 0,.int .u8 0,.int .u8 0,.int .u8 0,.int .u8 0,.int .u8 0,.int .u8 0,.int .u8 0,.int .u8 0,.int .u8 0,.int .u8 0,.int .u8 0,.int .u8 0,.int .u8 0,.int .u8 0,.int .u8 0,.int .u8 0,.int .u8 0,.int .u8 0,.int .u8 0,.int .u8 0,.int .u8 0,.int .u8 0,.int .u8 0,.int .u8 0,.int .u8 0,.int .u8 0,.int .u8 0,.int .u8 0,.int .u8 0,.int .u8 0,.int .u8 0,.int .u8 0,.int .u8 0,.int .u8 0,.int .u8 0,.int .u8 0,.int .u8 0,.int .u8 0,.int .u8 0,.int .u8 0,.int .u8 0,.int .u8 0,.int .u8 0,.int .u8 0,.int .u8 0,.int .u8 0,.int .u8 0,.int .u8 0,.int .u8 0,.int .u8 0,.int .u8 0,.int .u8 0,.int .u8 0,.int .u8 0,.int .u8 0,.int .u8 0] 307)) (w.heap.size+1) 307 ((zR 64 (0:UInt8)).map b8).toArray:=by
  have h:=BlkIs.new (w.alloc (.cells #[.int .u64 (s:Int),.int .u64 (e:Int),.int .i64 (z:Int),.int .i64 (c:Int)] 185)) 307 #[.int .u8 0,.int .u8 0,.int .u8 0,.int .u8 0,.int .u8 0,.int .u8 0,.int .u8 0,.int .u8 0,.int .u8 0,.int .u8 0,.int .u8 0,.int .u8 0,.int .u8 0,.int .u8 0,.int .u8 0,.int .u8 0,.int .u8 0,.int .u8 0,.int .u8 0,.int .u8 0,.int .u8 0,.int .u8 0,.int .u8 0,.int .u8 0,.int .u8 0,.int .u8 0,.int .u8 0,.int .u8 0,.int .u8 0,.int .u8 0,.int .u8 0,.int .u8 0,.int .u8 0,.int .u8 0,.int .u8 0,.int .u8 0,.int .u8 0,.int .u8 0,.int .u8 0,.int .u8 0,.int .u8 0,.int .u8 0,.int .u8 0,.int .u8 0,.int .u8 0,.int .u8 0,.int .u8 0,.int .u8 0,.int .u8 0,.int .u8 0,.int .u8 0,.int .u8 0,.int .u8 0,.int .u8 0,.int .u8 0,.int .u8 0,.int .u8 0,.int .u8 0,.int .u8 0,.int .u8 0,.int .u8 0,.int .u8 0,.int .u8 0,.int .u8 0]
  rw[World.size_alloc] at h
  exact h
 go_enter Tryz.func228,Tryz.ntmps228
 go_wp2_with fail
 generalize (w.alloc (.cells #[.int .u64 (s:Int),.int .u64 (e:Int),.int .i64 (z:Int),.int .i64 (c:Int)] 185)).alloc (.cells #[.int .u8 0,.int .u8 0,.int .u8 0,.int .u8 0,.int .u8 0,.int .u8 0,.int .u8 0,.int .u8 0,.int .u8 0,.int .u8 0,.int .u8 0,.int .u8 0,.int .u8 0,.int .u8 0,.int .u8 0,.int .u8 0,.int .u8 0,.int .u8 0,.int .u8 0,.int .u8 0,.int .u8 0,.int .u8 0,.int .u8 0,.int .u8 0,.int .u8 0,.int .u8 0,.int .u8 0,.int .u8 0,.int .u8 0,.int .u8 0,.int .u8 0,.int .u8 0,.int .u8 0,.int .u8 0,.int .u8 0,.int .u8 0,.int .u8 0,.int .u8 0,.int .u8 0,.int .u8 0,.int .u8 0,.int .u8 0,.int .u8 0,.int .u8 0,.int .u8 0,.int .u8 0,.int .u8 0,.int .u8 0,.int .u8 0,.int .u8 0,.int .u8 0,.int .u8 0,.int .u8 0,.int .u8 0,.int .u8 0,.int .u8 0,.int .u8 0,.int .u8 0,.int .u8 0,.int .u8 0,.int .u8 0,.int .u8 0,.int .u8 0,.int .u8 0] 307)=q at *
 have aB:∀w',Grow q w'->w'.cell? ⟨w.heap.size,0,none⟩=some (.int .u64 s):=λw' f=>(f.cell (p:=⟨w.heap.size,0,none⟩) g.lt).trans (by rw[g.cell];rfl)
 have aR:∀w',Grow q w'->w'.cell? ⟨w.heap.size,1,none⟩=some (.int .u64 e):=λw' f=>(f.cell (p:=⟨w.heap.size,1,none⟩) g.lt).trans (by rw[g.cell];rfl)
 have j:∀w',Grow q w'->w'.cell? ⟨w.heap.size,2,none⟩=some (.int .i64 z):=λw' f=>(f.cell (p:=⟨w.heap.size,2,none⟩) g.lt).trans (by rw[g.cell];rfl)
 have U:∀w',Grow q w'->w'.cell? ⟨w.heap.size,3,none⟩=some (.int .i64 c):=λw' f=>(f.cell (p:=⟨w.heap.size,3,none⟩) g.lt).trans (by rw[g.cell];rfl)
 open Reg in
 refine region_acts (by kernel_rfl) (by kernel_rfl) 33 rfl (by kernel_rfl) [5,6,7,8,9,10,11,12,13,14,15,16,17,18,19,20,3] (by kernel_rfl)
  [(1,.val (.pointer (some ⟨w.heap.size,0,none⟩)))]
  [(5,.val (.pointer (some ⟨w.heap.size,0,none⟩))),(6,.val (.int .u64 (s:Int))),(7,.res (fixL 8 s)),(8,.val (.pointer (some ⟨w.heap.size,1,none⟩))),(9,.val (.int .u64 (e:Int))),(10,.res (fixL 8 e)),(11,.val (.pointer (some ⟨w.heap.size,2,none⟩))),(12,.val (.int .i64 (z:Int))),(13,.val (.int .u32 (z:Int))),(14,.res (fixL 4 z)),(15,.val (.pointer (some ⟨w.heap.size,3,none⟩))),(16,.val (.int .i64 (c:Int))),(17,.val (.int .u32 (c:Int))),(18,.res (fixL 4 c)),(19,.pred (Lists [fixL 8 s,fixL 8 e,fixL 4 z,fixL 4 c]) (lists_stable _)),(20,.res (headB s e z c)),(3,.res (headB s e z c))]
  ⟨rfl,trivial⟩ (by kernel_rfl)
  (allOk_cons (ok_none rfl (l_run1 (.tmp 1) (.pointer (some ⟨w.heap.size,0,none⟩)) (.pointer (some ⟨w.heap.size,0,none⟩)) (hs 1 _ (by kernel_rfl) (by kernel_rfl)) (λρ w h=>by simp[execOp,h,go_sem,Result.andThen]) (by kernel_rfl)))
  <| allOk_cons (ok_none rfl (l_load (.tmp 5) (⟨w.heap.size,0,none⟩) _ (.int .u64 (s:Int)) (by intro w;simp[go_sem]) rfl (hs 5 (.pointer (some ⟨w.heap.size,0,none⟩)) (by kernel_rfl) (by kernel_rfl)) (λw f=>aB w f) (by kernel_rfl)))
  <| allOk_cons (ok_none rfl (l_call 290 _ _ rfl (enters_of Tryz.func290 (by kernel_rfl) rfl) #[.int .u64 (s:Int)] (.res (fixL 8 s)) (args1 (hs 6 (.int .u64 (s:Int)) (by kernel_rfl) (by kernel_rfl))) (λw f=>gives_res (eight_gives s w)) (by kernel_rfl)))
  <| allOk_cons (ok_none rfl (l_run1 (.tmp 1) (.pointer (some ⟨w.heap.size,0,none⟩)) (.pointer (some ⟨w.heap.size,1,none⟩)) (hs 1 _ (by kernel_rfl) (by kernel_rfl)) (λρ w h=>by simp[execOp,h,go_sem,Result.andThen]) (by kernel_rfl)))
  <| allOk_cons (ok_none rfl (l_load (.tmp 8) (⟨w.heap.size,1,none⟩) _ (.int .u64 (e:Int)) (by intro w;simp[go_sem]) rfl (hs 8 (.pointer (some ⟨w.heap.size,1,none⟩)) (by kernel_rfl) (by kernel_rfl)) (λw f=>aR w f) (by kernel_rfl)))
  <| allOk_cons (ok_none rfl (l_call 290 _ _ rfl (enters_of Tryz.func290 (by kernel_rfl) rfl) #[.int .u64 (e:Int)] (.res (fixL 8 e)) (args1 (hs 9 (.int .u64 (e:Int)) (by kernel_rfl) (by kernel_rfl))) (λw f=>gives_res (eight_gives e w)) (by kernel_rfl)))
  <| allOk_cons (ok_none rfl (l_run1 (.tmp 1) (.pointer (some ⟨w.heap.size,0,none⟩)) (.pointer (some ⟨w.heap.size,2,none⟩)) (hs 1 _ (by kernel_rfl) (by kernel_rfl)) (λρ w h=>by simp[execOp,h,go_sem,Result.andThen]) (by kernel_rfl)))
  <| allOk_cons (ok_none rfl (l_load (.tmp 11) (⟨w.heap.size,2,none⟩) _ (.int .i64 (z:Int)) (by intro w;simp[go_sem]) rfl (hs 11 (.pointer (some ⟨w.heap.size,2,none⟩)) (by kernel_rfl) (by kernel_rfl)) (λw f=>j w f) (by kernel_rfl)))
  <| allOk_cons (ok_none rfl (l_convS (.tmp 12) _ _ (.int .i64 (z:Int)) (.int .u32 (z:Int)) rfl (hs 12 (.int .i64 (z:Int)) (by kernel_rfl) (by kernel_rfl)) (λw f=>aF w) (by kernel_rfl)))
  <| allOk_cons (ok_none rfl (l_call 94 _ _ rfl (enters_of Tryz.func94 (by kernel_rfl) rfl) #[.int .u32 (z:Int)] (.res (fixL 4 z)) (args1 (hs 13 (.int .u32 (z:Int)) (by kernel_rfl) (by kernel_rfl))) (λw f=>gives_res (four_gives z w)) (by kernel_rfl)))
  <| allOk_cons (ok_none rfl (l_run1 (.tmp 1) (.pointer (some ⟨w.heap.size,0,none⟩)) (.pointer (some ⟨w.heap.size,3,none⟩)) (hs 1 _ (by kernel_rfl) (by kernel_rfl)) (λρ w h=>by simp[execOp,h,go_sem,Result.andThen]) (by kernel_rfl)))
  <| allOk_cons (ok_none rfl (l_load (.tmp 15) (⟨w.heap.size,3,none⟩) _ (.int .i64 (c:Int)) (by intro w;simp[go_sem]) rfl (hs 15 (.pointer (some ⟨w.heap.size,3,none⟩)) (by kernel_rfl) (by kernel_rfl)) (λw f=>U w f) (by kernel_rfl)))
  <| allOk_cons (ok_none rfl (l_convS (.tmp 16) _ _ (.int .i64 (c:Int)) (.int .u32 (c:Int)) rfl (hs 16 (.int .i64 (c:Int)) (by kernel_rfl) (by kernel_rfl)) (λw f=>aD w) (by kernel_rfl)))
  <| allOk_cons (ok_none rfl (l_call 94 _ _ rfl (enters_of Tryz.func94 (by kernel_rfl) rfl) #[.int .u32 (c:Int)] (.res (fixL 4 c)) (args1 (hs 17 (.int .u32 (c:Int)) (by kernel_rfl) (by kernel_rfl))) (λw f=>gives_res (four_gives c w)) (by kernel_rfl)))
  <| allOk_cons (ok_none rfl (l_build4 7 10 14 18 (fixL 8 s) (fixL 8 e) (fixL 4 z) (fixL 4 c) rfl (by kernel_rfl) (by kernel_rfl) (by kernel_rfl) (by kernel_rfl) (by kernel_rfl) (by kernel_rfl) (by kernel_rfl) (by kernel_rfl) (by kernel_rfl)))
  <| allOk_cons (ok_none rfl (l_callP 137 19 (Lists [fixL 8 s,fixL 8 e,fixL 4 z,fixL 4 c]) (lists_stable _) _ rfl (enters_of Tryz.func137 (by kernel_rfl) rfl) (.res (headB s e z c)) (by kernel_rfl) (by kernel_rfl) (λw u f hu=>aN w u hu) (by kernel_rfl)))
  <| allOk_cons (ok_none rfl (l_mvF 20 (.res (headB s e z c)) (.inr rfl) (by kernel_rfl) (by kernel_rfl) (by kernel_rfl)))
  <| allOk_nil) ?_
 intro a w3 aT aC aJ hF T
 obtain⟨A3,c3,e3,G⟩:=hF 3
 have ha:=Reg.acts_eq [5,6,7,8,9,10,11,12,13,14,15,16,17,18,19,20,3] aT aC T
 clear hF T aC
 simp only[List.foldl_cons,List.foldl_nil,e3] at ha
 clear e3 aT
 generalize a.eval (.tmp 5)=v5 at *
 generalize a.eval (.tmp 6)=v6 at *
 generalize a.eval (.tmp 7)=v7 at *
 generalize a.eval (.tmp 8)=v8 at *
 generalize a.eval (.tmp 9)=v9 at *
 generalize a.eval (.tmp 10)=a5 at *
 generalize a.eval (.tmp 11)=aY at *
 generalize a.eval (.tmp 12)=a7 at *
 generalize a.eval (.tmp 13)=aZ at *
 generalize a.eval (.tmp 14)=a1 at *
 generalize a.eval (.tmp 15)=aX at *
 generalize a.eval (.tmp 16)=a4 at *
 generalize a.eval (.tmp 17)=a8 at *
 generalize a.eval (.tmp 18)=a3 at *
 generalize a.eval (.tmp 19)=a6 at *
 generalize a.eval (.tmp 20)=a2 at *
 simp only[Act.put,zA,zF,zG] at ha
 subst ha
 simp only[Exit.then]
 refine ‹∀(a:Act) (w:World),Code.wp Tryz.prog _ _ a w->_› _ w3 ?_
 have F:=A.below aJ A.lt
 have m:Below w.heap.size w w3:=aH.trans (aJ.mono aH.size)
 have aQ:=headB_length s e z c
 generalize aO:headB s e z c=b at *
 have HB:=Lib.hid aO
 clear aO
 have O:=Lib.hid aQ
 clear aQ aN aF aD aB aR j U g A
 go_wp2_with fail
 refine(sum1_gives w3 A3 c3 b G).mono ?_
 rintro e4 w4 ⟨rfl,k⟩
 have aU:=(G.below k).more k.size
 have E:=F.below k F.lt
 go_wp2_with fail
 refine(four_gives _ _).mono ?_
 rintro e5 w5 ⟨v,rfl,X,n⟩
 obtain⟨A5,k5,rfl,aM⟩:=X.inB
 have j:=concat2_gives w5 A3 A5 c3 k5 b _ ((aU.below n).more n.size) aM (by have:=O.out;simp[fixL_length];omega)
 rw[fixL_length] at j
 have N:=E.below n E.lt
 have I:Below w.heap.size w w5:=(m.trans (k.mono m.size)).trans (n.mono (m.trans (k.mono m.size)).size)
 rw[fixL_length]
 go_wp2_with fail
 refine j.mono ?_
 rintro e6 w6 ⟨v6,rfl,aI,H⟩
 obtain⟨A6,k6,rfl,Z⟩:=aI.inB
 have aE:=N.below H N.lt
 have aG:Below w.heap.size w w6:=I.trans (H.mono I.size)
 have aA:b++fixL 4 (sumL b)=onceB b:=rfl
 rw[aA] at Z ⊢
 have aS:(onceB b).length=28:=by rw[onceB_length,O.out]
 have M:=Lib.hid aS
 clear aS aA F E N m k n I G aU aM X aI j H
 go_wp2_with fail
 have S:=repeat2_gives w6.drew A6 k6 (onceB b) Z.drew (by have:=M.out;omega) (by have:=M.out;omega)
 obtain⟨d,hd⟩:∃d,onceB b++onceB b=d:=⟨_,rfl⟩
 rw[hd] at S
 have HD:=Lib.hid hd
 clear hd
 go_region_held3 (λ_=>True) (trivial) (first
  | (go_at_call 292;refine S.mono ?_;rintro e7 W ⟨v7,rfl,aP,C⟩;obtain⟨A7,k7,rfl,aL⟩:=aP.inB;have K:=aE.drew.below C aE.lt)
  | (refine step_copyB (by rfl) (.tmp 28) (.tmp 30) (by rfl) (w.heap.size+1) 0 (zR 64 0) d A7 k7 _ 64 64 (by rfl) (by rfl) K aL (by simp) ?_))
 have V:spliceB (zR 64 0) 0 64 d=twiceB b:=by
  have:=M.out
  rw[<-HD.out]
  simp only[spliceB,twiceB,List.take_zero,zV,qC,List.drop_replicate,zJ]
  rw[qI (by simp;omega),Nat.min_eq_left (by omega),this]
 rw[V]
 have r:=K.setRow ((twiceB b).map b8).toArray
 have aW:Below w.heap.size w (W.setRow (w.heap.size+1) ((twiceB b).map b8).toArray):=below_setRow (aG.drew.trans (C.mono aG.size)) (by omega) _
 generalize W.setRow (w.heap.size+1) ((twiceB b).map b8).toArray=w8 at *
 clear K C aL aP S V
 have aK:((twiceB b).map b8).toArray.size=64:=by
  have:=O.out
  simp[twiceB_length];omega
 have Q:RowTy Tryz.prog 307 ((twiceB b).map b8).toArray.size:=by rw[aK];exact rowSector
 clear aK
 go_wp2_with (first
  | (refine wp_loadW rfl 307 (.tmp 2) rfl (w.heap.size+1) rfl Q r rfl ?_)
  | (refine wp_storeW rfl 307 (.tmp 2) (.tmp 32) rfl (w.heap.size+1) rfl rfl Q r rfl rfl (b8_one _) ?_))
 have aV:w8.setRow (w.heap.size+1) ((twiceB b).map b8).toArray=w8:=setRow_self w8 _ _ _ _ r
 rw[aV]
 refine bodyPost_ret_by (results_cellW 2 rfl rfl Q r rfl) rfl ⟨?_,aW⟩
 unfold headW
 rw[HB.out]
def GivesBE (w0:World)(l:List UInt8)(n:Int)(e:Ending)(w':World):Prop :=
 ∃A c,e = .returned (.tuple #[.slice A l.length c,.int .i64 n])/\InB w' w'.heap.size A c l/\Below w0.heap.size w0 w'
def hEnc (s e:Nat)(z c:Int):List UInt8:=if headOk z c then headW s e z.toNat c.toNat else []
def hErr (z c:Int):Int:=if headOk z c then 0 else 2
theorem InB.mt (w:World)(B:Nat):InB w B none 0 []:=⟨by simp,by omega,λ_=>rfl,λh=>by simp at h⟩
theorem BlkIs.inBT {w:World}{g:Nat}{T:TypeId}{l:List UInt8}(h:BlkIs w g T (l.map b8).toArray)(c:l.length<=9223372036854775807):InB w w.heap.size (some ⟨g,0,none⟩) l.length l :=
 ⟨zH _,c,(λe=>by cases e),λ_=>⟨g,0,rfl,h.lt,λj a=>by
  rw[h.cell]
  simp[a,b8]⟩⟩
theorem encodeHead_gives (s e:Nat)(z c:Int)(w:World) :
  Calls Tryz.prog 169 #[.agg #[.int .u64 (s:Int),.int .u64 (e:Int),.int .i64 z,.int .i64 c]] w (GivesBE w (hEnc s e z c) (hErr z c)):=by
 have j:Below w.heap.size w (w.alloc (.cells #[.int .u64 (s:Int),.int .u64 (e:Int),.int .i64 z,.int .i64 c] 185)):=(Below.refl _ w).alloc (zH _) _
 have h:=BlkIs.new w 185 #[.int .u64 (s:Int),.int .u64 (e:Int),.int .i64 z,.int .i64 c]
 cases a:headOk z c with
 | false =>
  have H:=fits_gives s e z c (w.alloc (.cells #[.int .u64 (s:Int),.int .u64 (e:Int),.int .i64 z,.int .i64 c] 185))
  rw[a] at H
  have h1:hEnc s e z c=[]:=by simp[hEnc,a]
  have h2:hErr z c=2:=by simp[hErr,a]
  rw[h1,h2]
  clear h1 h2 a
  go_enter Tryz.func169,Tryz.ntmps169
  go_wp2_with (first
   | (go_at_call 227;refine H.mono ?_;rintro x u ⟨rfl,g⟩)
   | (refine wp_loadW rfl 185 (.tmp 1) rfl w.heap.size rfl rowHead h (by rfl) ?_))
  refine bodyPost_ret (results_tmp2 rfl _ _ _) rfl ?_
  exact⟨none,0,rfl,InB.mt _ _,j.trans (g.mono j.size)⟩
 | true =>
  obtain⟨⟨G,C⟩,E,K⟩:=(headOk_iff z c).1 a
  obtain⟨zn,rfl⟩:∃zn:Nat,z=zn:=⟨z.toNat,by omega⟩
  obtain⟨cn,rfl⟩:∃cn:Nat,c=cn:=⟨c.toNat,by omega⟩
  have H:=fits_gives s e zn cn (w.alloc (.cells #[.int .u64 (s:Int),.int .u64 (e:Int),.int .i64 zn,.int .i64 cn] 185))
  rw[a] at H
  have h1:hEnc s e zn cn=headW s e zn cn:=by simp[hEnc,a]
  have h2:hErr zn cn=0:=by simp[hErr,a]
  rw[h1,h2]
  clear h1 h2 a
  have k:=headW_length s e zn cn
  have q:=λW=>head_gives s e zn cn (by omega) (by omega) W
  generalize headW s e zn cn=L at *
  have f:=Lib.hid k
  have F:RowTy Tryz.prog 307 (L.map b8).toArray.size:=by
   have:(L.map b8).toArray.size=64:=by simp[k]
   rw[this]
   exact rowSector
  clear k
  go_enter Tryz.func169,Tryz.ntmps169
  go_wp2_with (first
   | (go_at_call 227;refine H.mono ?_;rintro x u ⟨rfl,g⟩;have I:=h.below g h.lt;have n:=j.trans (g.mono j.size);clear H h)
   | (go_at_call 228;refine(q _).mono ?_;rintro x d ⟨rfl,v⟩;have m:=n.trans (v.mono n.size))
   | (refine wp_loadW rfl 185 (.tmp 1) rfl w.heap.size rfl rowHead (by assumption) (by rfl) ?_)
   | (refine wp_storeW rfl 307 (.tmp 4) (.tmp 9) rfl d.heap.size rfl rfl rowSector (BlkIs.new d 307 #[.int .u8 0,.int .u8 0,.int .u8 0,.int .u8 0,.int .u8 0,.int .u8 0,.int .u8 0,.int .u8 0,.int .u8 0,.int .u8 0,.int .u8 0,.int .u8 0,.int .u8 0,.int .u8 0,.int .u8 0,.int .u8 0,.int .u8 0,.int .u8 0,.int .u8 0,.int .u8 0,.int .u8 0,.int .u8 0,.int .u8 0,.int .u8 0,.int .u8 0,.int .u8 0,.int .u8 0,.int .u8 0,.int .u8 0,.int .u8 0,.int .u8 0,.int .u8 0,.int .u8 0,.int .u8 0,.int .u8 0,.int .u8 0,.int .u8 0,.int .u8 0,.int .u8 0,.int .u8 0,.int .u8 0,.int .u8 0,.int .u8 0,.int .u8 0,.int .u8 0,.int .u8 0,.int .u8 0,.int .u8 0,.int .u8 0,.int .u8 0,.int .u8 0,.int .u8 0,.int .u8 0,.int .u8 0,.int .u8 0,.int .u8 0,.int .u8 0,.int .u8 0,.int .u8 0,.int .u8 0,.int .u8 0,.int .u8 0,.int .u8 0,.int .u8 0]) (by rfl) (by have:=f.out;simp;omega) (b8_one _) ?_))
  have r:=(BlkIs.new d 307 #[.int .u8 0,.int .u8 0,.int .u8 0,.int .u8 0,.int .u8 0,.int .u8 0,.int .u8 0,.int .u8 0,.int .u8 0,.int .u8 0,.int .u8 0,.int .u8 0,.int .u8 0,.int .u8 0,.int .u8 0,.int .u8 0,.int .u8 0,.int .u8 0,.int .u8 0,.int .u8 0,.int .u8 0,.int .u8 0,.int .u8 0,.int .u8 0,.int .u8 0,.int .u8 0,.int .u8 0,.int .u8 0,.int .u8 0,.int .u8 0,.int .u8 0,.int .u8 0,.int .u8 0,.int .u8 0,.int .u8 0,.int .u8 0,.int .u8 0,.int .u8 0,.int .u8 0,.int .u8 0,.int .u8 0,.int .u8 0,.int .u8 0,.int .u8 0,.int .u8 0,.int .u8 0,.int .u8 0,.int .u8 0,.int .u8 0,.int .u8 0,.int .u8 0,.int .u8 0,.int .u8 0,.int .u8 0,.int .u8 0,.int .u8 0,.int .u8 0,.int .u8 0,.int .u8 0,.int .u8 0,.int .u8 0,.int .u8 0,.int .u8 0,.int .u8 0]).setRow (L.map b8).toArray
  have A:Below w.heap.size w ((d.alloc (.cells #[.int .u8 0,.int .u8 0,.int .u8 0,.int .u8 0,.int .u8 0,.int .u8 0,.int .u8 0,.int .u8 0,.int .u8 0,.int .u8 0,.int .u8 0,.int .u8 0,.int .u8 0,.int .u8 0,.int .u8 0,.int .u8 0,.int .u8 0,.int .u8 0,.int .u8 0,.int .u8 0,.int .u8 0,.int .u8 0,.int .u8 0,.int .u8 0,.int .u8 0,.int .u8 0,.int .u8 0,.int .u8 0,.int .u8 0,.int .u8 0,.int .u8 0,.int .u8 0,.int .u8 0,.int .u8 0,.int .u8 0,.int .u8 0,.int .u8 0,.int .u8 0,.int .u8 0,.int .u8 0,.int .u8 0,.int .u8 0,.int .u8 0,.int .u8 0,.int .u8 0,.int .u8 0,.int .u8 0,.int .u8 0,.int .u8 0,.int .u8 0,.int .u8 0,.int .u8 0,.int .u8 0,.int .u8 0,.int .u8 0,.int .u8 0,.int .u8 0,.int .u8 0,.int .u8 0,.int .u8 0,.int .u8 0,.int .u8 0,.int .u8 0,.int .u8 0] 307)).setRow d.heap.size (L.map b8).toArray):=below_setRow (m.alloc m.size _) m.size _
  have p:=r.inBT (by rw[f.out];omega)
  rw[f.out] at p
  refine bodyPost_ret (results_tmp2 rfl _ _ _) rfl ?_
  exact⟨_,64,by rw[f.out];rfl,p,A⟩
theorem InB.grown {w w':World}{B:Nat}{A:Option Addr}{c:Nat}{l:List UInt8}{row:Option Nat}(h:InB w B A c l)(hB:B<=w.heap.size)(a:w.grownBy w' row)(d:∀r,row=some r->B<=r):InB w' B A c l :=
 h.keep λp f=>World.cell?_of_block (a.block p.block (by omega) (λe=>by have:=d _ e.symm;omega))
theorem laid_gives (w:World)(A:Option Addr)(k:Nat)(y:List UInt8)(a:List (List UInt8))(u:Value)(W:InB w w.heap.size A k y)(hu:Lists a u w)(H:a.length<=1000)(r:a.flatten.length=25)(hy:y.length<=100000) :
  Calls Tryz.prog 299 #[.slice A y.length k,u] w λx w'=>x = .returned (.agg ((sectB a.flatten y).map b8).toArray)/\Below w.heap.size w w':=by
 have e:Below w.heap.size w (w.alloc (.cells #[.int .u8 0,.int .u8 0,.int .u8 0,.int .u8 0,.int .u8 0,.int .u8 0,.int .u8 0,.int .u8 0,.int .u8 0,.int .u8 0,.int .u8 0,.int .u8 0,.int .u8 0,.int .u8 0,.int .u8 0,.int .u8 0,.int .u8 0,.int .u8 0,.int .u8 0,.int .u8 0,.int .u8 0,.int .u8 0,.int .u8 0,.int .u8 0,.int .u8 0,.int .u8 0,.int .u8 0,.int .u8 0,.int .u8 0,.int .u8 0,.int .u8 0,.int .u8 0,.int .u8 0,.int .u8 0,.int .u8 0,.int .u8 0,.int .u8 0,.int .u8 0,.int .u8 0,.int .u8 0,.int .u8 0,.int .u8 0,.int .u8 0,.int .u8 0,.int .u8 0,.int .u8 0,.int .u8 0,.int .u8 0,.int .u8 0,.int .u8 0,.int .u8 0,.int .u8 0,.int .u8 0,.int .u8 0,.int .u8 0,.int .u8 0,.int .u8 0,.int .u8 0,.int .u8 0,.int .u8 0,.int .u8 0,.int .u8 0,.int .u8 0,.int .u8 0] 307)):=(Below.refl _ w).alloc (zH _) _
 have C:BlkIs (w.alloc (.cells #[.int .u8 0,.int .u8 0,.int .u8 0,.int .u8 0,.int .u8 0,.int .u8 0,.int .u8 0,.int .u8 0,.int .u8 0,.int .u8 0,.int .u8 0,.int .u8 0,.int .u8 0,.int .u8 0,.int .u8 0,.int .u8 0,.int .u8 0,.int .u8 0,.int .u8 0,.int .u8 0,.int .u8 0,.int .u8 0,.int .u8 0,.int .u8 0,.int .u8 0,.int .u8 0,.int .u8 0,.int .u8 0,.int .u8 0,.int .u8 0,.int .u8 0,.int .u8 0,.int .u8 0,.int .u8 0,.int .u8 0,.int .u8 0,.int .u8 0,.int .u8 0,.int .u8 0,.int .u8 0,.int .u8 0,.int .u8 0,.int .u8 0,.int .u8 0,.int .u8 0,.int .u8 0,.int .u8 0,.int .u8 0,.int .u8 0,.int .u8 0,.int .u8 0,.int .u8 0,.int .u8 0,.int .u8 0,.int .u8 0,.int .u8 0,.int .u8 0,.int .u8 0,.int .u8 0,.int .u8 0,.int .u8 0,.int .u8 0,.int .u8 0,.int .u8 0] 307)) w.heap.size 307 ((zR 64 (0:UInt8)).map b8).toArray:=BlkIs.new w 307 #[.int .u8 0,.int .u8 0,.int .u8 0,.int .u8 0,.int .u8 0,.int .u8 0,.int .u8 0,.int .u8 0,.int .u8 0,.int .u8 0,.int .u8 0,.int .u8 0,.int .u8 0,.int .u8 0,.int .u8 0,.int .u8 0,.int .u8 0,.int .u8 0,.int .u8 0,.int .u8 0,.int .u8 0,.int .u8 0,.int .u8 0,.int .u8 0,.int .u8 0,.int .u8 0,.int .u8 0,.int .u8 0,.int .u8 0,.int .u8 0,.int .u8 0,.int .u8 0,.int .u8 0,.int .u8 0,.int .u8 0,.int .u8 0,.int .u8 0,.int .u8 0,.int .u8 0,.int .u8 0,.int .u8 0,.int .u8 0,.int .u8 0,.int .u8 0,.int .u8 0,.int .u8 0,.int .u8 0,.int .u8 0,.int .u8 0,.int .u8 0,.int .u8 0,.int .u8 0,.int .u8 0,.int .u8 0,.int .u8 0,.int .u8 0,.int .u8 0,.int .u8 0,.int .u8 0,.int .u8 0,.int .u8 0,.int .u8 0,.int .u8 0,.int .u8 0]
 have N:=concatL_gives (lists_stable a u w _ hu e) H (by rw[r];omega)
 have K:=(W.below e).more e.size
 generalize a.flatten=p at *
 have j:=Lib.hid r
 clear r hu H W
 go_enter Tryz.func299,Tryz.ntmps299
 go_wp2_with fail
 refine N.mono ?_
 rintro x W2 ⟨v2,rfl,own2,hB⟩
 obtain⟨O,c2,rfl,I⟩:=own2.inB
 have E:=e.trans (hB.mono e.size)
 have aB:=C.below hB C.lt
 have aD:=(K.below hB).more hB.size
 clear hB e C K N own2
 go_wp2_with fail
 have T:=sum2_gives W2.drew O A c2 k p y I.drew aD.drew
 have s2:=E.size
 obtain⟨S,m⟩:∃S,sumL (p++y)=S:=⟨_,rfl⟩
 rw[m] at T
 have HS:=Lib.hid m
 clear m
 obtain⟨d,hd⟩:∃d,p++fixL 4 S=d:=⟨_,rfl⟩
 have G:=Lib.hid hd
 clear hd
 go_region_held3 (λ_=>True) (trivial) (first
  | (go_at_call 291;refine T.mono ?_;rintro x W3 ⟨rfl,f⟩;have v:=aB.drew.below f aB.lt;have X:=(I.drew.below f).more f.size)
  | (go_at_call 94;refine(four_gives _ _).mono ?_;rintro x W4 ⟨v4,rfl,F,c⟩;have z:=v.below c v.lt;have Z:=(X.below c).more c.size;obtain⟨A4,c4,rfl,aC⟩:=F.inB;have n:=concat2_gives W4 O A4 c2 c4 p (fixL 4 S) Z aC (by rw[j.out,fixL_length];omega);rw[G.out] at n)
  | (go_at_call 137;refine n.mono ?_;rintro x W5 ⟨v5,rfl,V,s⟩;have g:=z.below s z.lt;obtain⟨A5,c5,rfl,aA⟩:=V.inB)
  | (revert g;intro g;refine step_copyB (by rfl) (.tmp 8) (.tmp 16) (by rfl) w.heap.size 0 (zR 64 0) d A5 c5 _ 64 64 (by rfl) (by rfl) g aA (by simp) ?_))
 have Q:spliceB (zR 64 0) 0 64 d=sectB p y:=by
  have:=j.out
  rw[<-G.out]
  simp only[spliceB,sectB,HS.out,List.take_zero,zV,qC,List.drop_replicate,zJ,fixL_length]
  rw[qI (by simp[fixL_length];omega),Nat.min_eq_left (by omega),this]
 rw[Q]
 have h:=g.setRow ((sectB p y).map b8).toArray
 have M:Below w.heap.size w W5:=E.drew.trans ((f.trans ((c.trans (s.mono c.size)).mono f.size)).mono s2)
 have aE:Below w.heap.size w (W5.setRow w.heap.size ((sectB p y).map b8).toArray):=below_setRow M (zH _) _
 generalize W5.setRow w.heap.size ((sectB p y).map b8).toArray=W6 at *
 clear g s aA V Q n M z c Z F aC v f X
 have U:((sectB p y).map b8).toArray.size=64:=by
  have:=j.out
  simp[sectB_length];omega
 have q:RowTy Tryz.prog 307 ((sectB p y).map b8).toArray.size:=by rw[U];exact rowSector
 clear U
 go_wp2_with (first
  | (refine wp_loadW rfl 307 (.tmp 4) rfl w.heap.size rfl q h rfl ?_)
  | (refine wp_storeW rfl 307 (.tmp 4) (.tmp 18) rfl w.heap.size rfl rfl q h rfl rfl (b8_one _) ?_))
 have aF:W6.setRow w.heap.size ((sectB p y).map b8).toArray=W6:=setRow_self W6 _ _ _ _ h
 rw[aF]
 exact bodyPost_ret_by (results_cellW 4 rfl rfl q h rfl) rfl ⟨rfl,aE⟩
def frCells (e:Nat)(i p:Int)(f:Bool)(z:Int)(n:Nat)(A:Option Addr)(len k:Nat):Array Value:=#[.int .u64 (e:Int),.int .i64 i,.int .i64 p,.bool f,.int .i64 z,.int .u32 (n:Int),.slice A len k]
def frOk (len:Nat)(i p:Int)(f:Bool)(z:Int):Bool:=decide (len=512) && isIn 0 2000 [i] && isIn 0 2000 [p,z] && (f || z == 0)
theorem frOk_iff (len:Nat)(i p:Int)(f:Bool)(z:Int):frOk len i p f z=true↔len=512/\(0<=i/\i<=2000)/\(0<=p/\p<=2000)/\(0<=z/\z<=2000)/\(f=true∨z=0):=by
 simp[frOk,isIn_one,isIn_two,and_assoc]
theorem rowFrame:RowTy Tryz.prog 256 7:=⟨⟨_,Tryz.underlying256,rfl⟩,by kernel_rfl⟩
theorem InN.two (W:World)(x y:Int):InN (W.alloc (.cells #[.int .i64 x,.int .i64 y] 3)) (some ⟨W.heap.size,0,none⟩) [x,y]:=⟨λ_=>⟨_,_,rfl,λj a=>by
 rw[(BlkIs.new W 3 #[.int .i64 x,.int .i64 y]).cell]
 rcases(show j=0∨j=1 from by simp at a;omega) with rfl|rfl<;>rfl⟩⟩
theorem withinTwo_gives (W:World)(a c x y:Int) :
  Calls Tryz.prog 289 #[.int .i64 a,.int .i64 c,.slice (some ⟨W.heap.size,0,none⟩) 2 2] (W.alloc (.cells #[.int .i64 x,.int .i64 y] 3)) λe w'=>e = .returned (.bool (isIn a c [x,y]))/\Below W.heap.size W w' :=
 (within_gives (W.alloc (.cells #[.int .i64 x,.int .i64 y] 3)) (some ⟨W.heap.size,0,none⟩) 2 [x,y] (InN.two W x y) (λg o e=>by injection e with e;injection e with e1;subst e1;simp) (by simp) a c).mono λe w' ⟨d,hB⟩ =>
  ⟨d,((Below.refl _ W).alloc (zH _) _).trans (hB.mono (by simp))⟩
theorem right_gives (e:Nat)(i p:Int)(f:Bool)(z:Int)(n:Nat)(A:Option Addr)(len k:Nat)(w:World) :
  Calls Tryz.prog 238 #[.agg (frCells e i p f z n A len k)] w λx w'=>x = .returned (.bool (frOk len i p f z))/\Below w.heap.size w w':=by
 have r:=BlkIs.new w 256 (frCells e i p f z n A len k)
 have g:Below w.heap.size w (w.alloc (.cells (frCells e i p f z n A len k) 256)):=(Below.refl _ w).alloc (zH _) _
 have j:=withinOne_gives (w.alloc (.cells (frCells e i p f z n A len k) 256)) 0 2000 i
 rw[World.size_alloc] at j
 obtain⟨v,G⟩:∃v,v=frOk len i p f z:=⟨_,rfl⟩
 rw[<-G]
 unfold frOk at G
 have m:=Lib.hid G
 clear G
 unfold frCells at *
 by_cases hl:len=512
 ·have hq:((len:Int) == 512)=true:=by simp;omega
  generalize O:isIn 0 2000 [i]=S at *
  cases S with
  | false =>
   have ev:v=false:=by rw[m.out];simp
   subst ev
   clear m hl
   go_enter Tryz.func238,Tryz.ntmps238
   go_wp2_with (go_at_call 289;refine j.mono ?_;rintro x d ⟨rfl,hB⟩)
   go_ret
   exact⟨rfl,g.trans (hB.mono (by simp))⟩
  | true =>
   have ev:v=(isIn 0 2000 [p,z] && (f || z == 0)):=by rw[m.out];simp[hl]
   clear m hl
   generalize M:isIn 0 2000 [p,z]=N at *
   have E:=λW=>withinTwo_gives W 0 2000 p z
   rw[M] at E
   clear O M
   have C:=Lib.hid ev
   clear ev
   cases N with
   | false =>
    have ev:v=false:=by rw[C.out];simp
    subst ev
    clear C
    go_enter Tryz.func238,Tryz.ntmps238
    go_wp2_with fail
    refine j.mono ?_
    rintro x d ⟨rfl,hB⟩
    have a:=r.below hB (by simp)
    have c:=g.trans (hB.mono (by simp))
    have F:d.cell? ⟨w.heap.size,2,none⟩=some (.int .i64 p):=by rw[a.cell];rfl
    have u:d.cell? ⟨w.heap.size,4,none⟩=some (.int .i64 z):=by rw[a.cell];rfl
    clear hB r a g j
    go_wp2_with (go_at_call 289;refine(E _).mono ?_;rintro x s ⟨rfl,hB⟩)
    go_ret
    exact⟨rfl,c.trans (hB.mono c.size)⟩
   | true =>
    have ev:v=(f || z == 0):=by rw[C.out];simp
    clear C
    have K:f=false->∃q,(z == 0)=q/\v=q:=λh=>⟨_,rfl,by rw[ev,h];rfl⟩
    cases f with
    | true =>
     replace ev:v=true:=by rw[ev];rfl
     subst ev
     clear K
     go_enter Tryz.func238,Tryz.ntmps238
     go_wp2_with fail
     refine j.mono ?_
     rintro x d ⟨rfl,hB⟩
     have a:=r.below hB (by simp)
     have c:=g.trans (hB.mono (by simp))
     have F:d.cell? ⟨w.heap.size,2,none⟩=some (.int .i64 p):=by rw[a.cell];rfl
     have u:d.cell? ⟨w.heap.size,4,none⟩=some (.int .i64 z):=by rw[a.cell];rfl
     clear hB r g j
     go_wp2_with fail
     refine(E _).mono ?_
     rintro x s ⟨rfl,hB⟩
     have H:=a.below hB a.lt
     have I:=c.trans (hB.mono c.size)
     have Q:s.cell? ⟨w.heap.size,3,none⟩=some (.bool true):=by rw[H.cell];rfl
     clear hB a c F u
     go_wp2
     go_ret
     exact⟨rfl,I⟩
    | false =>
     obtain⟨q,T,rfl⟩:=K rfl
     clear ev K
     go_enter Tryz.func238,Tryz.ntmps238
     go_wp2_with fail
     refine j.mono ?_
     rintro x d ⟨rfl,hB⟩
     have a:=r.below hB (by simp)
     have c:=g.trans (hB.mono (by simp))
     have F:d.cell? ⟨w.heap.size,2,none⟩=some (.int .i64 p):=by rw[a.cell];rfl
     have u:d.cell? ⟨w.heap.size,4,none⟩=some (.int .i64 z):=by rw[a.cell];rfl
     clear hB r g j
     go_wp2_with fail
     refine(E _).mono ?_
     rintro x s ⟨rfl,hB⟩
     have H:=a.below hB a.lt
     have I:=c.trans (hB.mono c.size)
     have Q:s.cell? ⟨w.heap.size,3,none⟩=some (.bool false):=by rw[H.cell];rfl
     have u:s.cell? ⟨w.heap.size,4,none⟩=some (.int .i64 z):=by rw[H.cell];rfl
     clear hB a c F
     go_wp2
     go_ret
     exact⟨rfl,I⟩
 ·have hq:((len:Int) == 512)=false:=by simp;omega
  have ev:v=false:=by rw[m.out];simp[hl]
  subst ev
  clear m hl
  go_enter Tryz.func238,Tryz.ntmps238
  go_wp2
  go_ret
  exact⟨rfl,g⟩
theorem flag1_gives (w:World)(c:UInt8):Calls Tryz.prog 327 #[.int .u8 (c.toNat:Int)] w λx w'=>x = .returned (.func (.func 328) #[] #[.pointer (some ⟨w.heap.size,0,none⟩)])/\w'=w.alloc (.cells #[.int .u8 (c.toNat:Int)] 5):=by
 go_enter Tryz.func327,Tryz.ntmps327
 go_wp2
 go_ret
 exact⟨rfl,rfl⟩
theorem flag11_gives (w:World)(g:Nat)(c:UInt8)(a:BlkIs w g 5 #[.int .u8 (c.toNat:Int)]):Calls Tryz.prog 328 #[.pointer (some ⟨g,0,none⟩)] w (GivesB w [c]):=by
 have hc:=a.boxed
 go_enter Tryz.func328,Tryz.ntmps328
 go_wp2
 go_ret
 refine⟨_,rfl,?_,(Below.refl _ _).alloc (zH _) _⟩
 exact World.ownsRow_lit w #[.int .u8 (c.toNat:Int)] 1 (zH _) (by unfold maxLen;omega) rfl
def FlagsAt (w:World)(v:Value):Prop:=∃r g0 g1 clock,v = .map (some r)/\MapIs w r #[⟨.bool false,.func (.func 328) #[] #[.pointer (some ⟨g0,0,none⟩)],0⟩,⟨.bool true,.func (.func 328) #[] #[.pointer (some ⟨g1,0,none⟩)],1⟩] clock /\
 BlkIs w g0 5 #[.int .u8 0]/\BlkIs w g1 5 #[.int .u8 1]
theorem FlagsAt.below {w w':World}{v:Value}(h:FlagsAt w v)(hB:Below w.heap.size w w'):FlagsAt w' v:=by
 obtain⟨r,d,f,c,e,h1,h2,a⟩:=h
 exact⟨r,d,f,c,e,h1.below hB h1.lt,h2.below hB h2.lt,a.below hB a.lt⟩
theorem key_bool (b:Bool):MapKept.IsKey .bool (.bool b):=trivial
theorem flags_gives (w:World):Calls Tryz.prog 300 #[] w λx w'=>∃v,x = .returned v/\FlagsAt w' v/\Below w.heap.size w w':=by
 have H:∀W,Calls Tryz.prog 327 #[.int .u8 0] W λx w'=>x = .returned (.func (.func 328) #[] #[.pointer (some ⟨W.heap.size,0,none⟩)])/\w'=W.alloc (.cells #[.int .u8 0] 5):=λW=>flag1_gives W 0
 have A:∀W,Calls Tryz.prog 327 #[.int .u8 1] W λx w'=>x = .returned (.func (.func 328) #[] #[.pointer (some ⟨W.heap.size,0,none⟩)])/\w'=W.alloc (.cells #[.int .u8 1] 5):=λW=>flag1_gives W 1
 have hu:=Tryz.underlying368
 have n:=Tryz.underlying4
 go_enter Tryz.func300,Tryz.ntmps300
 go_wp2_with (first
  | (refine wp_makeMap rfl rfl ?_;intro f;have p:Below w.heap.size w (w.alloc (.map #[] 0)):=(Below.refl _ w).alloc (zH _) _)
  | (go_at_call 327;(with_reducible refine(H _).mono ?_);rintro x K ⟨rfl,rfl⟩;have d:=f.below ((Below.refl _ _).alloc (zH _) (.cells #[.int .u8 0] 5)) f.lt;have m:=BlkIs.new (w.alloc (.map #[] 0)) 5 #[.int .u8 0];have h:=p.alloc p.size (.cells #[.int .u8 0] 5))
  | (go_at_call 327;(with_reducible refine(A _).mono ?_);rintro x I ⟨rfl,rfl⟩;have c:=j.below ((Below.refl _ _).alloc (zH _) (.cells #[.int .u8 1] 5)) j.lt;have u:=E.alloc (.cells #[.int .u8 1] 5);have F:=BlkIs.new w3 5 #[.int .u8 1];have s:=q.alloc q.size (.cells #[.int .u8 1] 5))
  | (revert d;intro d;refine wp_put_new (by rfl) (.tmp 2) (.const (.bool false)) (.tmp 4) (.inl (by rfl)) hu n (key_bool false) (by rfl) (by rfl) (by rfl) d (by rfl) ?_;intro w3 j g;have E:=m.grownMap d g;have q:Below w.heap.size w w3:=h.trans (grown_below g h.size (λr a=>by injection a with a;omega));clear f d m)
  | (revert c;intro c;refine wp_put_new (by rfl) (.tmp 2) (.const (.bool true)) (.tmp 6) (.inl (by rfl)) hu n (key_bool true) (by rfl) (by rfl) (by rfl) c (by rfl) ?_;intro w5 z e;have k:=u.grownMap c e;have G:=F.grownMap c e;have C:Below w.heap.size w w5:=s.trans (grown_below e s.size (λr a=>by injection a with a;omega))))
 go_ret
 rw[World.size_alloc] at k
 exact⟨_,rfl,⟨_,_,_,_,rfl,z,k,G⟩,C⟩
namespace Reg
variable {P:Program}{ops:Array Oper}
inductive Src where
 | slot (t:Tmp)
 | given (v:Value)
structure Stage where
 i:Option Nat
 s:Src
 p:Value->World->Prop
 b:Value->Option Nat
 st:∀v w w',p v w->(∀k,b v=some k->w'.heap[k]? = w.heap[k]?)->p v w'
 lt:∀v w k,p v w->b v=some k->k<w.heap.size
abbrev Ghost:=Nat->Option Nat
def upd (g:Ghost)(k:Nat)(b:Option Nat):Ghost:=λj=>if j=k then b else g j
def Lt (g:Ghost)(w:World):Prop:=∀k b,g k=some b->b<w.heap.size
def edge (ops:Array Oper)(i j:Nat):Bool:=match ops[i]? with|some o=>o.after.toList.any λe=>Region.binds .any e && e.on == j|none=>false
end Reg
namespace Reg
variable {P:Program}{ops:Array Oper}
section rules
variable {a0:Act}{FS:Ghost->Tmp->Value->World->Prop}{B:Nat}{w00:World}{cs:List (List Stage)}{i:Nat}{o:Oper}
def behind (ops:Array Oper)(i:Nat):Option Nat->Bool
 | none=>true
 | some j=>edge ops i j
end rules
end Reg
namespace Reg
variable {L:List (Nat×Fact)}{ops:Array Oper}{w0:World}{o:Oper}{P:Program}
theorem l_loadV (x:Operand)(p:Addr)(T:TypeId)(v:Value)(c:o.op = .load T x)(d:Has ops (FSof L) o x (.pointer (some p)))(e:∀w,Grow w0 w->(loadVar T p).run P w = .ok v w)(hd:FD L o.dst = .val v):RunOk P ops (FSof L) w0 o :=
 l_run1W x (.val v) _ d (λρ w a h=>⟨v,w,by simp only[execOp,c,h,Instr.loadAt,Instr.sureAddr,Sem.run_bind,Sem.run_pure,Result.andThen_ok,e w a],Grow.refl _,rfl⟩) hd
theorem l_s2a (x:Operand)(g q n c:Nat)(hn:64<=n)(a:o.op = .sliceToArrayPointer 307 x)(d:Has ops (FSof L) o x (.slice (some ⟨g,q,none⟩) n c))(hd:FD L o.dst = .val (.pointer (some ⟨g,q,none⟩))):RunOk Tryz.prog ops (FSof L) w0 o:=by
 refine run1 x d (λρ w h => ?_) λ_=>fsd hd rfl
 have e:¬ n<64:=by omega
 simp[execOp,a,h,go_sem,Instr.arrayAt,run_underlying Tryz.underlying307,Result.andThen,e]
theorem l_eqArr (x y:Operand)(T:TypeId)(xs a:List UInt8)(d:xs.length=64)(f:a.length=64)(e:o.op = .binOp .eql 307 x y T)(g:Has ops (FSof L) o x (.agg (xs.map b8).toArray))(j:Has ops (FSof L) o y (.agg (a.map b8).toArray))(hd:FD L o.dst = .val (.bool (xs == a))):RunOk Tryz.prog ops (FSof L) w0 o:=by
 refine run2 x y g j (λρ w h1 h2 => ?_) λ_=>fsd hd rfl
 have h:(binOp .eql 307 (.agg (xs.map b8).toArray) (.agg (a.map b8).toArray)).run Tryz.prog w = .ok (.bool (xs == a)) w :=
  run_eql_bytes w 307 5 64 Tryz.underlying307 Tryz.underlying5 (λw=>by simp[go_sem]) xs a d f
 have c:Tryz.prog.eqGuardType Tryz.prog.depth 307=false:=by kernel_rfl
 simp only[execOp,e,h1,h2,Sem.run_bind,run_eqGuard_agg w .eql 307 x y _ _ c,Result.andThen_ok,h,Sem.run_pure]
end Reg
namespace Reg
inductive GFact where
 | val (v:Value)
 | any
 | gp (p:Ghost->Value->World->Prop) (h1:∀g v w w',p g v w->Grow w w'->p g v w') (h2:∀g k gb v w w',Lt g w->w.grownBy w' (g k)->(gb=g k∨∀b,gb=some b->w.heap.size<=b)->p g v w->p (upd g k gb) v w')
def resX (l:List UInt8)(g:Ghost)(v:Value)(w:World):Prop:=∃A c,v = .slice A l.length c/\InB w w.heap.size A c l/\∀ad,A=some ad->ad.block<w.heap.size/\∀k,g k≠some ad.block
theorem resX_grow (l:List UInt8):∀g v w w',resX l g v w->Grow w w'->resX l g v w':=by
 rintro g v w w' ⟨A,c,rfl,h,ha⟩ a
 exact⟨A,c,rfl,(h.below a).more a.size,λd e=>⟨zO (ha d e).1 a.size,(ha d e).2⟩⟩
theorem resX_stage (l:List UInt8):∀g k gb v w w',Lt g w->w.grownBy w' (g k)->(gb=g k∨∀b,gb=some b->w.heap.size<=b)->resX l g v w->resX l (upd g k gb) v w':=by
 rintro g k gb v w w' u d f ⟨A,c,rfl,h,ha⟩
 refine⟨A,c,rfl,⟨h.le,h.max,h.nil,λr => ?_⟩,λa e=>⟨zO (ha a e).1 d.size,λj => ?_⟩⟩
 ·obtain⟨b,o,n,m,hc⟩:=h.lies r
  refine⟨b,o,n,zO m d.size,λj q => ?_⟩
  rw[<-hc j q]
  exact World.cell?_of_block (d.block b m (λe=>(ha _ n).2 k e.symm))
 ·unfold upd
  split
  ·rcases f with rfl|f
   ·exact(ha a e).2 k
   ·intro p
    have s:=f _ p
    have:=(ha a e).1
    omega
  ·exact(ha a e).2 j
abbrev GFact.res (l:List UInt8):GFact:=.gp (resX l) (resX_grow l) (resX_stage l)
section rules
variable {ops:Array Oper}{a0:Act}{GL:List (Nat×GFact)}{B:Nat}{w00:World}{cs:List (List Stage)}{i:Nat}{o:Oper}{P:Program}
end rules
end Reg
end Go.Proofs.YtpibjkbadnffgaaGreat
