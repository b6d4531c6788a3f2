/- Texts that the proof of TreeNone leans on, part 3. -/
import Derived.Laws.Externs
import Derived.Test.YtpibjkbadnffgaaGreatTreeNoneB2
open List renaming all_eq_true → qJ, getElem?_eq_getElem → zM, setIfInBounds_toArray → zA, set_cons_succ → zF, set_cons_zero → zG, length_drop → qQ, length_map → qM, eq_nil_of_length_eq_zero → zZ, nil_append → zV, replicate → zR, length_append → zJ, length_cons → zP, length_take → qG, getElem_mem → qF, take_of_length_le → qI, mem_append → qK, size_toArray → zT
open Nat renaming le_refl → zH, lt_of_lt_of_le → zO, zero_add → qC
open Array renaming getElem?_eq_some_iff → zI, getD_eq_getD_getElem? → zS, getElem?_toList → qH
set_option linter.unusedVariables false
set_option maxRecDepth 100000
set_option maxHeartbeats 8000000

namespace Go.Proofs.YtpibjkbadnffgaaGreat
open Go Go.RowKit Lou
namespace Reg
variable {P:Program}{ops:Array Oper}
def tailOk (ops:Array Oper)(m:Nat):Bool:=(List.range ops.size).all λi=>decide (i<m) || (List.range i).all λj=>edge ops i j
theorem tail_edge {m i j:Nat}(h:tailOk ops m=true)(d:i<ops.size)(e:m<=i)(c:j<i):edge ops i j=true:=by
 unfold tailOk at h
 rw[qJ] at h
 have:=h i (by simpa using d)
 simp only[Bool.or_eq_true,decide_eq_true_eq,qJ] at this
 rcases this with h|h
 ·omega
 ·exact h j (by simpa using c)
theorem listed_of_edge {i j:Nat}{o:Oper}{listed:Array Bool}(c:edge ops i j=true)(n:ops[i]? = some o)(d:∀e∈o.after.toList,Region.binds .any e=true->listed.getD e.on false=true):listed.getD j false=true:=by
 simp only[edge,n,List.any_eq_true,Bool.and_eq_true,beq_iff_eq] at c
 obtain⟨e,m,h,rfl⟩:=c
 exact d e m h
def StepQ (P:Program)(ops:Array Oper)(Q:Exit->Act->World->Prop)(Inv:Array Bool->Act->World->Prop)(i:Nat)(o:Oper):Prop :=
 ∀(listed:Array Bool) (a:Act) (w:World) (K:Act->World->Prop),listed.size=ops.size->listed.getD i true=false->(∀e∈o.after.toList,Region.binds .any e=true->listed.getD e.on false=true) ->
  Inv listed a w->(∀a' w',Inv (listed.setIfInBounds i true) a' w'->K a' w') ->
  (if Region.wanted o (yielded ops a.tmps) then o.wp P a w K Q∨(o.asks P a w/\LetsOut Q) else K (a.put o.dst undef) w)
theorem region_invQ (B:P.follows .mixedOrders=true)(T:backs ops=true){M:Nat}{a0:Act}{w0:World}{Q:Exit->Act->World->Prop}(Inv:Array Bool->Act->World->Prop)
  (S:Inv (Array.replicate ops.size false) a0 w0.drew) (N:∀i o,ops[i]? = some o->StepQ P ops Q Inv i o)
  (F:∀listed a w,listed.size=ops.size->(∀i,i<ops.size->listed.getD i true=true)->Inv listed a w->Q .normal a w) :
  (Code.region M ops true).wp P Q a0 w0:=by
 refine wp_region_any B ?_
 have key:∀(d:Nat) (listed:Array Bool) (a:Act) (w:World),listed.size=ops.size->left listed<=d->Inv listed a w->wpAny P .any ops Q d listed a w:=by
  intro d
  have u:∀(listed:Array Bool) (a:Act) (w:World),listed.size=ops.size->Inv listed a w->Region.ready .any ops listed=[]->Q .normal a w:=by
   intro listed a w hs j h
   refine F listed a w hs ?_ j
   intro i
   induction i using Nat.strongRecOn with
   | _ i ih =>
    intro m
    cases hl:listed.getD i true with
    | true=>rfl
    | false =>
     exfalso
     have:i∈Region.ready .any ops listed:=by
      unfold Region.ready
      simp only[List.mem_filter,List.mem_range,Bool.and_eq_true,Bool.not_eq_true']
      refine⟨m,hl,?_⟩
      have c:ops[i]? = some ops[i]:=Array.getElem?_eq_getElem m
      simp only[c,Option.map_some,Option.getD_some]
      rw[Array.all_eq_true_iff_forall_mem]
      intro e C
      have hc:=backs_spec T c e (Array.mem_toList_iff.2 C)
      cases I:Region.binds .any e with
      | false=>simp
      | true =>
       have K:=hc I
       have h1:=ih e.on K (by omega)
       have h2:e.on<listed.size:=by omega
       simp only[Array.getD,h2,dif_pos] at h1 ⊢
       simpa using h1
     rw[h] at this
     cases this
  induction d with
  | zero =>
   intro listed a w hs hf j
   have h:Region.ready .any ops listed=[]:=by
    rcases h:Region.ready .any ops listed with _|⟨i,r⟩
    ·rfl
    ·exfalso
     obtain⟨o,c,hl,_⟩:=ready_mem (ops:=ops) (listed:=listed) (i:=i) (by rw[h];simp)
     have m:i<listed.size:=by rw[hs];exact(zI.1 c).1
     have G:listed[i]∈listed.toList.filter (! ·):=by
      rw[List.mem_filter]
      refine⟨by simp,?_⟩
      have s:listed[i]=false:=by simpa[Array.getD,m] using hl
      simp[s]
     have:0<left listed:=List.length_pos_of_mem G
     omega
   exact⟨h,u listed a w hs j h⟩
  | succ d ih =>
   intro listed a w hs hf j
   refine⟨u listed a w hs j,λi m => ?_⟩
   obtain⟨o,c,hl,E⟩:=ready_mem m
   have q:i<listed.size:=by rw[hs];exact(zI.1 c).1
   have H:∀n w',Inv (listed.setIfInBounds i true) n w'->wpAny P .any ops Q d (listed.setIfInBounds i true) n w':=by
    intro n w' O
    refine ih _ _ _ (by simpa using hs) ?_ O
    have s:listed[i]=false:=by simpa[Array.getD,q] using hl
    have:left (listed.setIfInBounds i true)<left listed:=by
     unfold left
     rw[Array.toList_setIfInBounds]
     have A:listed.toList=listed.toList.take i++false::listed.toList.drop (i+1):=by
      have v:listed.toList[i]'(by simpa using q)=false:=by simpa using s
      conv=>lhs;rw[<-List.take_append_drop i listed.toList,List.drop_eq_getElem_cons (by simpa using q),v]
     rw[List.set_eq_take_append_cons_drop,if_pos (by simpa using q)]
     conv=>rhs;rw[A]
     simp
    omega
   have:=N i o c listed a w (λn w'=>wpAny P .any ops Q d (listed.setIfInBounds i true) n w') hs hl E j H
   unfold wpOp
   simp only[c]
   exact this
 refine key ops.size _ a0 _ (by simp) ?_ S
 unfold left
 simp
def Rest (P:Program)(ops:Array Oper)(Q:Exit->Act->World->Prop)(i:Nat)(a:Act)(w:World):Prop:=wpList P ops Q (ops.toList.drop i) a w
theorem region_tail (hm:P.follows .mixedOrders=true)(aT:backs ops=true){id:Nat}{a0:Act}{w0:World}{Q:Exit->Act->World->Prop}(n:Nat)(hn:a0.tmps.size=n)(aB:dstsIn ops n=true)(m:Nat)(a4:m<=ops.size)(ht:tailOk ops m=true)(aH:((ops.toList.drop m).all λo=>o.guard.isNone)=true)(D:List Nat)(hD:dstsAre (ops.extract 0 m) D=true)
  (C:Tmp->Value->World->Prop) (aJ:∀t v w w',C t v w->Grow w w'->C t v w') (aL:(ops.toList.take m).all (λo=>(o.looksAt ops).all (ahead ops o))=true)
  (a1:∀t,(∀o∈ops.toList.take m,o.dst≠some t)->C t (a0.eval (.tmp t)) w0) (aZ:AllOk P ops C w0 (ops.toList.take m))
  (aS:∀a w,a.tmps.size=n->a.defers=a0.defers->Grow w0 w->(∀t,C t (a.eval (.tmp t)) w)->(∀t,D.contains t=false->a.eval (.tmp t)=a0.eval (.tmp t))->Rest P ops Q m a w) :
  (Code.region id ops true).wp P Q a0 w0:=by
 have a2:∀o∈ops.toList,∀d,o.dst=some d->d<n:=by
  intro o u d hd
  unfold dstsIn at aB
  rw[qJ] at aB
  have:=aB o u
  simpa[hd] using this
 have aY:∀(i:Nat) (o:Oper),i<m->ops[i]? = some o->∀d,o.dst=some d->D.contains d=true:=by
  intro i o H u d hd
  unfold dstsAre at hD
  rw[qJ] at hD
  have E:o∈(ops.extract 0 m).toList:=by
   simp only[Array.toList_extract,List.extract_eq_take_drop,List.drop_zero,Nat.sub_zero]
   have:(ops.toList.take m)[i]? = some o:=by
    rw[List.getElem?_take,if_pos H]
    simpa using u
   exact List.mem_of_getElem? this
  have:=hD o E
  simpa[hd] using this
 let J1:Array Bool->Act->World->Prop:=λlisted a w=>a.tmps.size=n/\a.defers=a0.defers/\Grow w0 w/\(∀t,(∀(j:Nat) (p:Oper),j<m->ops[j]? = some p->p.dst=some t->listed.getD j true=true)->C t (a.eval (.tmp t)) w)/\(∀t,D.contains t=false->a.eval (.tmp t)=a0.eval (.tmp t))
 let Inv:Array Bool->Act->World->Prop:=λlisted a w=>((∀j,m<=j->j<ops.size->listed.getD j true=false)/\J1 listed a w)∨∃i,m<i/\i<=ops.size/\(∀j,j<i->listed.getD j true=true)/\(∀j,i<=j->j<ops.size->listed.getD j true=false)/\Rest P ops Q i a w
 have aI:∀listed a w,(∀j,j<m->listed.getD j true=true)->J1 listed a w->Rest P ops Q m a w:=by
  rintro listed a w B ⟨h1,h2,T,U,V⟩
  exact aS a w h1 h2 T (λt=>U t λj p s _ _=>B j s) V
 refine region_invQ hm aT Inv ?_ ?_ ?_
 ·left
  refine⟨λj _ s=>by simp[Array.getD,s],hn,rfl,Grow.drew w0,?_,λ_ _=>rfl⟩
  intro t ht
  refine aJ t _ w0 _ (a1 t ?_) (Grow.drew w0)
  intro o u hd
  obtain⟨i,hi,rfl⟩:=List.getElem_of_mem u
  have Z:i<m/\i<ops.size:=by simp at hi;omega
  have:=ht i ops[i] Z.1 (Array.getElem?_eq_getElem Z.2) (by simpa using hd)
  simp[Array.getD,Z.2] at this
 ·intro i o u listed a w K hs hl aF aE hK
  have aD:i<ops.size:=(zI.1 u).1
  have aM:i<listed.size:=by omega
  have aX:o∈ops.toList:=List.mem_of_getElem? (by simpa using u)
  have aC:∀j,j<ops.size->(listed.getD j true=true↔listed.getD j false=true):=by
   intro j s
   have:j<listed.size:=by omega
   simp[Array.getD,this]
  have S:∀j,j<ops.size->j≠i->(listed.setIfInBounds i true).getD j true=listed.getD j true:=by
   intro j _ aA
   simp[zS,Ne.symm aA]
  have aU:(listed.setIfInBounds i true).getD i true=true:=by
   simp[zS,aM]
  by_cases H:i<m
  ·rcases aE with⟨F,h1,h2,T,U,V⟩|⟨q,hq,_,B,_⟩
   ·have aW:∀t,(o.looksAt ops).contains t=true->C t (a.eval (.tmp t)) w:=by
     intro t aN
     refine U t ?_
     intro j p s A hd
     have E:o∈ops.toList.take m:=by
      have:(ops.toList.take m)[i]? = some o:=by
       rw[List.getElem?_take,if_pos H]
       simpa using u
      exact List.mem_of_getElem? this
     rw[qJ] at aL
     have h6:=aL o E
     rw[qJ] at h6
     obtain⟨e,he,hb,rfl⟩:=ahead_spec (h6 t (by simpa using aN)) A hd
     rw[aC _ (zI.1 A).1]
     exact aF e he hb
    have E:o∈ops.toList.take m:=by
     have:(ops.toList.take m)[i]? = some o:=by
      rw[List.getElem?_take,if_pos H]
      simpa using u
     exact List.mem_of_getElem? this
    refine AllOk.get aZ o E a w K Q T aW ?_
    intro v w' M hv
    refine hK _ w' (.inl ⟨?_,?_,?_,T.trans M,?_,?_⟩)
    ·intro j aP s
     rw[S j s (by omega)]
     exact F j aP s
    ·cases hd:o.dst with
     | none=>simpa[Act.put] using h1
     | some d=>simpa[Act.put] using h1
    ·cases hd:o.dst with
     | none=>simpa[Act.put] using h2
     | some d=>simpa[Act.put] using h2
    ·intro t aO
     by_cases W:o.dst=some t
     ·rw[W] at hv ⊢
      rw[eval_put_same (by rw[h1];exact a2 o aX t W)]
      exact hv
     ·have:=aJ t _ w w' (U t λj p s A hd=>by
       have h7:=aO j p s A hd
       have aA:j≠i:=by
        intro e
        subst e
        rw[u] at A
        injection A with A
        subst A
        exact W hd
       rw[S j (zI.1 A).1 aA] at h7
       exact h7) M
      cases hd:o.dst with
      | none=>simpa[Act.put] using this
      | some d =>
       rw[eval_put_other (by intro e;subst e;exact W hd)]
       exact this
    ·intro t N
     cases hd:o.dst with
     | none=>simpa[Act.put] using V t N
     | some d =>
      rw[eval_put_other (by intro e;subst e;rw[aY i o H u t hd] at N;cases N)]
      exact V t N
   ·exfalso
    rw[B i (by omega)] at hl
    cases hl
  ·have aR:m<=i:=by omega
   have O:∀j,j<i->listed.getD j true=true:=by
    intro j s
    rw[aC j (by omega)]
    exact listed_of_edge (tail_edge ht aD aR s) u aF
   have c:Rest P ops Q i a w/\(∀j,i<=j->j<ops.size->listed.getD j true=false):=by
    rcases aE with⟨F,X⟩|⟨q,hq,aQ,B,G,c⟩
    ·have:i=m:=by
      rcases Nat.lt_or_ge m i with h|h
      ·have I:=O m h
       rw[F m (zH _) (by omega)] at I
       cases I
      ·omega
     subst this
     exact⟨aI listed a w O X,F⟩
    ·have:i=q:=by
      rcases Nat.lt_trichotomy i q with h|h|h
      ·rw[B i h] at hl;cases hl
      ·exact h
      ·have I:=O q h
       rw[G q (zH _) (by omega)] at I
       cases I
     subst this
     exact⟨c,G⟩
   obtain⟨c,G⟩:=c
   have aV:ops.toList.drop i=o::ops.toList.drop (i+1):=by
    have aK:i<ops.toList.length:=by simpa using aD
    rw[List.drop_eq_getElem_cons aK]
    congr 1
    have:ops.toList[i]? = some o:=by simpa using u
    rw[zM aK] at this
    injection this
   unfold Rest at c
   rw[aV] at c
   have a3:o.guard=none:=by
    rw[qJ] at aH
    have E:o∈ops.toList.drop m:=by
     have:(ops.toList.drop m)[i - m]? = some o:=by
      rw[List.getElem?_drop,show m+(i - m)=i from by omega]
      simpa using u
     exact List.mem_of_getElem? this
    have:=aH o E
    cases M:o.guard with
    | none=>rfl
    | some x=>rw[M] at this;cases this
   have hw:Region.wanted o (yielded ops a.tmps)=true:=by simp[Region.wanted,a3]
   simp only[wpList,hw,if_true] at c
   rw[if_pos hw]
   refine Or.imp ?_ (λx=>x) c
   refine Oper.wp_mono ?_
   intro a' w' h9
   refine hK a' w' (.inr ⟨i+1,by omega,by omega,?_,?_,h9⟩)
   ·intro j s
    by_cases e:j=i
    ·subst e
     exact aU
    ·rw[S j (by omega) e]
     exact O j (by omega)
   ·intro j s aG
    rw[S j aG (by omega)]
    exact G j (by omega) aG
 ·rintro listed a w hs B (⟨F,X⟩|⟨q,hq,aQ,a5,G,c⟩)
  ·have c:=aI listed a w (λj s=>B j (by omega)) X
   rcases Nat.lt_or_ge m ops.size with h|h
   ·have:=B m h
    rw[F m (zH _) h] at this
    cases this
   ·unfold Rest at c
    rw[List.drop_of_length_le (by simpa using h)] at c
    exact c
  ·rcases Nat.lt_or_ge q ops.size with h|h
   ·have:=B q h
    rw[G q (zH _) h] at this
    cases this
   ·unfold Rest at c
    rw[List.drop_of_length_le (by simpa using h)] at c
    exact c
theorem region_tail_facts (e:P.follows .mixedOrders=true)(B:backs ops=true){A:Nat}{a0:Act}{w0:World}{Q:Exit->Act->World->Prop}(n:Nat)(hn:a0.tmps.size=n)(v:dstsIn ops n=true)(m:Nat)(d:m<=ops.size)(ht:tailOk ops m=true)(E:((ops.toList.drop m).all λo=>o.guard.isNone)=true)(D:List Nat)(j:dstsAre (ops.extract 0 m) D=true)
  (V W:List (Nat×Fact)) (C:StartOk a0 w0 V) (s:(W.all λp=>written (ops.extract 0 m) p.1)=true) (c:(ops.toList.take m).all (λo=>(o.looksAt ops).all (ahead ops o))=true) (u:AllOk P ops (FSof (V++W)) w0 (ops.toList.take m))
  (q:∀a w,a.tmps.size=n->a.defers=a0.defers->Grow w0 w->(∀t,FSof (V++W) t (a.eval (.tmp t)) w)->(∀t,D.contains t=false->a.eval (.tmp t)=a0.eval (.tmp t))->Rest P ops Q m a w) :
  (Code.region A ops true).wp P Q a0 w0:=by
 refine region_tail e B n hn v m d ht E D j (FSof (V++W)) (FSof.stable _) c ?_ u q
 intro t h
 refine start_fact (ops:=ops.extract 0 m) V W C s t ?_
 intro o i
 refine h o ?_
 simpa[Array.toList_extract,List.extract_eq_take_drop] using i
end Reg
namespace Reg
variable {L:List (Nat×Fact)}{ops:Array Oper}{w0:World}{o:Oper}
theorem l_build6 (t1 c t3 t4 t5 d:Tmp)(i j n h m e:List UInt8)(ho:o.op = .buildSlice 151 6 #[(0,.tmp t1),(1,.tmp c),(2,.tmp t3),(3,.tmp t4),(4,.tmp t5),(5,.tmp d)])
  (c1:(o.looksAt ops).contains t1=true) (c2:(o.looksAt ops).contains c=true) (c3:(o.looksAt ops).contains t3=true) (c4:(o.looksAt ops).contains t4=true) (c5:(o.looksAt ops).contains t5=true) (U:(o.looksAt ops).contains d=true)
  (f1:factOf L t1 = .res i) (f2:factOf L c = .res j) (f3:factOf L t3 = .res n) (f4:factOf L t4 = .res h) (f5:factOf L t5 = .res m) (f6:factOf L d = .res e) (hd:FD L o.dst = .pred (Lists [i,j,n,h,m,e]) (lists_stable _)):RunOk Tryz.prog ops (FSof L) w0 o:=by
 intro a w K Q hG hl V
 have O:(factOf L t1).holds (a.eval (.tmp t1)) w:=hl t1 c1
 have S:(factOf L c).holds (a.eval (.tmp c)) w:=hl c c2
 have M:(factOf L t3).holds (a.eval (.tmp t3)) w:=hl t3 c3
 have T:(factOf L t4).holds (a.eval (.tmp t4)) w:=hl t4 c4
 have N:(factOf L t5).holds (a.eval (.tmp t5)) w:=hl t5 c5
 have H:(factOf L d).holds (a.eval (.tmp d)) w:=hl d U
 rw[f1] at O
 obtain⟨A,k1,W,h1⟩:=O
 rw[f2] at S
 obtain⟨C,k2,e2,h2⟩:=S
 rw[f3] at M
 obtain⟨E,k3,X,q⟩:=M
 rw[f4] at T
 obtain⟨v,k4,Z,u⟩:=T
 rw[f5] at N
 obtain⟨G,k5,e5,B⟩:=N
 rw[f6] at H
 obtain⟨F,k6,e6,s⟩:=H
 have hN:=Lists.new (w:=w) [((A,k1),i),((C,k2),j),((E,k3),n),((v,k4),h),((G,k5),m),((F,k6),e)] (by
  intro x I
  simp only[List.mem_cons,List.not_mem_nil,or_false] at I
  rcases I with rfl|rfl|rfl|rfl|rfl|rfl
  ·exact h1
  ·exact h2
  ·exact q
  ·exact u
  ·exact B
  ·exact s)
 have key:∀ρ:Operand->Value,ρ (.tmp t1) = .slice A i.length k1->ρ (.tmp c) = .slice C j.length k2->ρ (.tmp t3) = .slice E n.length k3->ρ (.tmp t4) = .slice v h.length k4->ρ (.tmp t5) = .slice G m.length k5->ρ (.tmp d) = .slice F e.length k6 ->
   (execOp ρ o).run Tryz.prog w = .ok (.value (.slice (some ⟨w.heap.size,0,none⟩) 6 6)) (w.alloc (.cells #[.slice A i.length k1,.slice C j.length k2,.slice E n.length k3,.slice v h.length k4,.slice G m.length k5,.slice F e.length k6] 87)) :=
  λρ h1 h2 q u B s=>by simp[execOp,ho,h1,h2,q,u,B,s,go_sem,Result.andThen]
 unfold Oper.wp
 rw[key _ W e2 X Z e5 e6]
 exact V _ _ (Grow.alloc _ _) (fsd hd hN)
theorem l_callVP {P:Program}(f:FuncId)(x:Operand)(t:Tmp)(v1:Value)(p:Value->World->Prop)(q:∀v w w',p v w->Grow w w'->p v w')(F:Array TypeId)(n:o.op = .call { callee:=.value (.func f),args:=#[x,.tmp t],argTypes:=F })(m:∀args w,(callFunc f args).run P w = .ok (.enter f args) w)
  (g:Fact) (s:Has ops (FSof L) o x v1) (hc:(o.looksAt ops).contains t=true) (hF:factOf L t = .pred p q)
  (A:∀w u,Grow w0 w->p u w->Calls P f #[v1,u] w λe w'=>∃v,e = .returned v/\Grow w w'/\g.holds v w') (hd:FD L o.dst=g):RunOk P ops (FSof L) w0 o:=by
 intro a w K Q C hl i
 have c:(factOf L t).holds (a.eval (.tmp t)) w:=hl t hc
 rw[hF] at c
 have j:=s a w hl
 have B:(execOp a.eval o).run P w = .ok (.enter f #[v1,a.eval (.tmp t)]) w:=by
  have E:a.eval (.func f) = .func (.func f) #[] #[]:=rfl
  have h:=m #[v1,a.eval (.tmp t)] w
  simp[execOp,n,resolve,j,E,Deferred.ofValue,invoke,h]
 unfold Oper.wp
 rw[B,Oper.upon_enter]
 refine(A w _ C c).mono ?_
 rintro e w' ⟨v,rfl,d,hf⟩
 exact i v w' d (fsd hd hf)
theorem l_runP (t:Tmp)(y:Operand)(p:Value->World->Prop)(j:∀v w w',p v w->Grow w w'->p v w')(c:Value)(g:Fact)(hc:(o.looksAt ops).contains t=true)(hF:factOf L t = .pred p j)(i:Has ops (FSof L) o y c){P:Program}
  (n:∀(ρ:Operand->Value) (w:World),Grow w0 w->p (ρ (.tmp t)) w->ρ y=c->∃r w',(execOp ρ o).run P w = .ok (.value r) w'/\Grow w w'/\g.holds r w') (hd:FD L o.dst=g):RunOk P ops (FSof L) w0 o:=by
 intro a w K Q m hl h
 have d:(factOf L t).holds (a.eval (.tmp t)) w:=hl t hc
 rw[hF] at d
 obtain⟨r,w',h1,h2,e⟩:=n a.eval w m d (i a w hl)
 unfold Oper.wp
 rw[h1]
 exact h r w' h2 (fsd hd e)
def FlagFn (f:Bool)(v:Value)(w:World):Prop:=∃g,v = .func (.func 328) #[] #[.pointer (some ⟨g,0,none⟩)]/\BlkIs w g 5 #[.int .u8 (((if f then 1 else 0:UInt8)).toNat:Int)]
theorem flagFn_stable (f:Bool):∀v w w',FlagFn f v w->Grow w w'->FlagFn f v w':=by
 rintro v w w' ⟨g,rfl,h⟩ c
 exact⟨g,rfl,h.below c h.lt⟩
theorem flagsAt_stable:∀v w w',FlagsAt w v->Grow w w'->FlagsAt w' v:=λ_ _ _ h c=>h.below c
theorem run_flag (f:Bool){ρ:Operand->Value}{w:World}{t:Tmp}{y:Operand}(e:o.op = .lookup 368 (.tmp t) y false)(h:FlagsAt w (ρ (.tmp t)))(c:ρ y = .bool f):∃r,(execOp ρ o).run Tryz.prog w = .ok (.value r) w/\FlagFn f r w:=by
 obtain⟨r,m,n,clock,d,h1,h2,j⟩:=h
 cases f with
 | false =>
  have:=run_get (P:=Tryz.prog) Tryz.underlying368 Tryz.underlying4 (key_bool false) h1 (i:=0) rfl
  exact⟨_,by simp[execOp,e,d,c,this,Result.andThen],m,rfl,h2⟩
 | true =>
  have:=run_get (P:=Tryz.prog) Tryz.underlying368 Tryz.underlying4 (key_bool true) h1 (i:=1) rfl
  exact⟨_,by simp[execOp,e,d,c,this,Result.andThen],n,rfl,j⟩
theorem l_callFlag (f:Bool)(t:Tmp)(q:Array TypeId)(j:o.op = .call { callee:=.value (.tmp t),args:=#[],argTypes:=q })(hc:(o.looksAt ops).contains t=true)(hF:factOf L t = .pred (FlagFn f) (flagFn_stable f))(hd:FD L o.dst = .res [if f then 1 else 0]):RunOk Tryz.prog ops (FSof L) w0 o:=by
 intro a w K Q u hl i
 have c:(factOf L t).holds (a.eval (.tmp t)) w:=hl t hc
 rw[hF] at c
 obtain⟨g,s,n⟩:=c
 have m:(execOp a.eval o).run Tryz.prog w = .ok (.enter 328 #[.pointer (some ⟨g,0,none⟩)]) w:=by
  have h:=enters_of Tryz.func328 (by kernel_rfl) rfl #[.pointer (some ⟨g,0,none⟩)] w
  simp[execOp,j,resolve,s,Deferred.ofValue,invoke,h]
 unfold Oper.wp
 rw[m,Oper.upon_enter]
 refine(gives_res (flag11_gives w g _ n)).mono ?_
 rintro e w' ⟨v,rfl,d,hf⟩
 exact i v w' d (fsd hd hf)
end Reg
theorem front_gives (e i p z n:Nat)(f:Bool)(A:Option Addr)(k:Nat)(y:List UInt8)(w:World)(hi:i<=2000)(hp:p<=2000)(hz:z<=2000)(aD:InB w w.heap.size A k y)(T:y.length=512) :
  Calls Tryz.prog 239 #[.agg (frCells e i p f z n A y.length k)] w λx w'=>x = .returned (.agg ((sectB (partB e i p f z n) y).map b8).toArray)/\Below w.heap.size w w':=by
 have O:=conv_3_45 i (by omega)
 have Z:=conv_3_45 p (by omega)
 have S:=conv_3_45 z (by omega)
 have d:=(BlkIs.new w 256 (frCells e i p f z n A y.length k)).alloc (.cells #[.int .u8 0,.int .u8 0,.int .u8 0,.int .u8 0,.int .u8 0,.int .u8 0,.int .u8 0,.int .u8 0,.int .u8 0,.int .u8 0,.int .u8 0,.int .u8 0,.int .u8 0,.int .u8 0,.int .u8 0,.int .u8 0,.int .u8 0,.int .u8 0,.int .u8 0,.int .u8 0,.int .u8 0,.int .u8 0,.int .u8 0,.int .u8 0,.int .u8 0,.int .u8 0,.int .u8 0,.int .u8 0,.int .u8 0,.int .u8 0,.int .u8 0,.int .u8 0,.int .u8 0,.int .u8 0,.int .u8 0,.int .u8 0,.int .u8 0,.int .u8 0,.int .u8 0,.int .u8 0,.int .u8 0,.int .u8 0,.int .u8 0,.int .u8 0,.int .u8 0,.int .u8 0,.int .u8 0,.int .u8 0,.int .u8 0,.int .u8 0,.int .u8 0,.int .u8 0,.int .u8 0,.int .u8 0,.int .u8 0,.int .u8 0,.int .u8 0,.int .u8 0,.int .u8 0,.int .u8 0,.int .u8 0,.int .u8 0,.int .u8 0,.int .u8 0] 307)
 have m:=BlkIs.new (w.alloc (.cells (frCells e i p f z n A y.length k) 256)) 307 #[.int .u8 0,.int .u8 0,.int .u8 0,.int .u8 0,.int .u8 0,.int .u8 0,.int .u8 0,.int .u8 0,.int .u8 0,.int .u8 0,.int .u8 0,.int .u8 0,.int .u8 0,.int .u8 0,.int .u8 0,.int .u8 0,.int .u8 0,.int .u8 0,.int .u8 0,.int .u8 0,.int .u8 0,.int .u8 0,.int .u8 0,.int .u8 0,.int .u8 0,.int .u8 0,.int .u8 0,.int .u8 0,.int .u8 0,.int .u8 0,.int .u8 0,.int .u8 0,.int .u8 0,.int .u8 0,.int .u8 0,.int .u8 0,.int .u8 0,.int .u8 0,.int .u8 0,.int .u8 0,.int .u8 0,.int .u8 0,.int .u8 0,.int .u8 0,.int .u8 0,.int .u8 0,.int .u8 0,.int .u8 0,.int .u8 0,.int .u8 0,.int .u8 0,.int .u8 0,.int .u8 0,.int .u8 0,.int .u8 0,.int .u8 0,.int .u8 0,.int .u8 0,.int .u8 0,.int .u8 0,.int .u8 0,.int .u8 0,.int .u8 0,.int .u8 0]
 rw[World.size_alloc] at m
 have q:Below w.heap.size w ((w.alloc (.cells (frCells e i p f z n A y.length k) 256)).alloc (.cells #[.int .u8 0,.int .u8 0,.int .u8 0,.int .u8 0,.int .u8 0,.int .u8 0,.int .u8 0,.int .u8 0,.int .u8 0,.int .u8 0,.int .u8 0,.int .u8 0,.int .u8 0,.int .u8 0,.int .u8 0,.int .u8 0,.int .u8 0,.int .u8 0,.int .u8 0,.int .u8 0,.int .u8 0,.int .u8 0,.int .u8 0,.int .u8 0,.int .u8 0,.int .u8 0,.int .u8 0,.int .u8 0,.int .u8 0,.int .u8 0,.int .u8 0,.int .u8 0,.int .u8 0,.int .u8 0,.int .u8 0,.int .u8 0,.int .u8 0,.int .u8 0,.int .u8 0,.int .u8 0,.int .u8 0,.int .u8 0,.int .u8 0,.int .u8 0,.int .u8 0,.int .u8 0,.int .u8 0,.int .u8 0,.int .u8 0,.int .u8 0,.int .u8 0,.int .u8 0,.int .u8 0,.int .u8 0,.int .u8 0,.int .u8 0,.int .u8 0,.int .u8 0,.int .u8 0,.int .u8 0,.int .u8 0,.int .u8 0,.int .u8 0,.int .u8 0] 307)):=((Below.refl _ w).alloc (zH _) _).alloc (by simp) _
 unfold frCells at *
 have aF:=Lib.hid T
 clear T
 go_enter Tryz.func239,Tryz.ntmps239
 go_wp2_with fail
 generalize (w.alloc (.cells #[.int .u64 (e:Int),.int .i64 (i:Int),.int .i64 (p:Int),.bool f,.int .i64 (z:Int),.int .u32 (n:Int),.slice A y.length k] 256)).alloc (.cells #[.int .u8 0,.int .u8 0,.int .u8 0,.int .u8 0,.int .u8 0,.int .u8 0,.int .u8 0,.int .u8 0,.int .u8 0,.int .u8 0,.int .u8 0,.int .u8 0,.int .u8 0,.int .u8 0,.int .u8 0,.int .u8 0,.int .u8 0,.int .u8 0,.int .u8 0,.int .u8 0,.int .u8 0,.int .u8 0,.int .u8 0,.int .u8 0,.int .u8 0,.int .u8 0,.int .u8 0,.int .u8 0,.int .u8 0,.int .u8 0,.int .u8 0,.int .u8 0,.int .u8 0,.int .u8 0,.int .u8 0,.int .u8 0,.int .u8 0,.int .u8 0,.int .u8 0,.int .u8 0,.int .u8 0,.int .u8 0,.int .u8 0,.int .u8 0,.int .u8 0,.int .u8 0,.int .u8 0,.int .u8 0,.int .u8 0,.int .u8 0,.int .u8 0,.int .u8 0,.int .u8 0,.int .u8 0,.int .u8 0,.int .u8 0,.int .u8 0,.int .u8 0,.int .u8 0,.int .u8 0,.int .u8 0,.int .u8 0,.int .u8 0,.int .u8 0] 307)=j at *
 have M:∀w',Grow j w'->w'.cell? ⟨w.heap.size,0,none⟩=some (.int .u64 e):=λw' c=>(c.cell (p:=⟨w.heap.size,0,none⟩) d.lt).trans (by rw[d.cell];rfl)
 have aB:∀w',Grow j w'->w'.cell? ⟨w.heap.size,1,none⟩=some (.int .i64 i):=λw' c=>(c.cell (p:=⟨w.heap.size,1,none⟩) d.lt).trans (by rw[d.cell];rfl)
 have K:∀w',Grow j w'->w'.cell? ⟨w.heap.size,2,none⟩=some (.int .i64 p):=λw' c=>(c.cell (p:=⟨w.heap.size,2,none⟩) d.lt).trans (by rw[d.cell];rfl)
 have H:∀w',Grow j w'->w'.cell? ⟨w.heap.size,3,none⟩=some (.bool f):=λw' c=>(c.cell (p:=⟨w.heap.size,3,none⟩) d.lt).trans (by rw[d.cell];rfl)
 have E:∀w',Grow j w'->w'.cell? ⟨w.heap.size,4,none⟩=some (.int .i64 z):=λw' c=>(c.cell (p:=⟨w.heap.size,4,none⟩) d.lt).trans (by rw[d.cell];rfl)
 have U:∀w',Grow j w'->w'.cell? ⟨w.heap.size,5,none⟩=some (.int .u32 n):=λw' c=>(c.cell (p:=⟨w.heap.size,5,none⟩) d.lt).trans (by rw[d.cell];rfl)
 have G:∀w',Grow j w'->w'.cell? ⟨w.heap.size,6,none⟩=some (.slice A y.length k):=λw' c=>(c.cell (p:=⟨w.heap.size,6,none⟩) d.lt).trans (by rw[d.cell];rfl)
 have X:=(aD.below q).more q.size
 have W:∀w' u,Grow j w'->Lists [fixL 8 e,fixL 4 i,fixL 4 p,[if f then 1 else 0],fixL 4 z,fixL 4 n] u w'->Calls Tryz.prog 299 #[.slice A y.length k,u] w' λx w2=>x = .returned (.agg ((sectB [fixL 8 e,fixL 4 i,fixL 4 p,[if f then 1 else 0],fixL 4 z,fixL 4 n].flatten y).map b8).toArray)/\Below w'.heap.size w' w2:=λw' u c hu =>
  laid_gives w' A k y _ u ((X.below c).more c.size) hu (by simp) (partB_length e i p f z n) (by rw[aF.out];omega)
 open Reg in
 refine region_tail_facts (by kernel_rfl) (by kernel_rfl) 30 rfl (by kernel_rfl) 27 (by decide) (by kernel_rfl) (by kernel_rfl) [3,4,5,6,7,8,9,10,11,12,13,14,15,16,17,18,19,20,21,22,23,24,25,26,27,28,29] (by kernel_rfl)
  [(1,.val (.pointer (some ⟨w.heap.size,0,none⟩)))]
  [(3,.val (.pointer (some ⟨w.heap.size,6,none⟩))),(4,.val (.slice A y.length k)),(5,.val (.pointer (some ⟨w.heap.size,0,none⟩))),(6,.val (.int .u64 (e:Int))),(7,.res (fixL 8 e)),(8,.val (.pointer (some ⟨w.heap.size,1,none⟩))),(9,.val (.int .i64 (i:Int))),(10,.val (.int .u32 (i:Int))),(11,.res (fixL 4 i)),(12,.val (.pointer (some ⟨w.heap.size,2,none⟩))),(13,.val (.int .i64 (p:Int))),(14,.val (.int .u32 (p:Int))),(15,.res (fixL 4 p)),(16,.pred ((λv w=>FlagsAt w v)) (flagsAt_stable)),(17,.val (.pointer (some ⟨w.heap.size,3,none⟩))),(18,.val (.bool f)),(19,.pred (FlagFn f) (flagFn_stable f)),(20,.res ([if f then 1 else 0])),(21,.val (.pointer (some ⟨w.heap.size,4,none⟩))),(22,.val (.int .i64 (z:Int))),(23,.val (.int .u32 (z:Int))),(24,.res (fixL 4 z)),(25,.val (.pointer (some ⟨w.heap.size,5,none⟩))),(26,.val (.int .u32 (n:Int))),(27,.res (fixL 4 n)),(28,.pred (Lists [fixL 8 e,fixL 4 i,fixL 4 p,[if f then 1 else 0],fixL 4 z,fixL 4 n]) (lists_stable _)),(29,.val (.agg ((sectB [fixL 8 e,fixL 4 i,fixL 4 p,[if f then 1 else 0],fixL 4 z,fixL 4 n].flatten y).map b8).toArray))]
  ⟨rfl,trivial⟩ (by kernel_rfl) (by kernel_rfl)
  (allOk_cons (ok_none rfl (l_run1 (.tmp 1) (.pointer (some ⟨w.heap.size,0,none⟩)) (.pointer (some ⟨w.heap.size,6,none⟩)) (hs 1 _ (by kernel_rfl) (by kernel_rfl)) (λρ w h=>by simp[execOp,h,go_sem,Result.andThen]) (by kernel_rfl)))
  <| allOk_cons (ok_none rfl (l_load (.tmp 3) (⟨w.heap.size,6,none⟩) _ (.slice A y.length k) (by intro w;simp[go_sem]) rfl (hs 3 (.pointer (some ⟨w.heap.size,6,none⟩)) (by kernel_rfl) (by kernel_rfl)) (λw c=>G w c) (by kernel_rfl)))
  <| allOk_cons (ok_none rfl (l_run1 (.tmp 1) (.pointer (some ⟨w.heap.size,0,none⟩)) (.pointer (some ⟨w.heap.size,0,none⟩)) (hs 1 _ (by kernel_rfl) (by kernel_rfl)) (λρ w h=>by simp[execOp,h,go_sem,Result.andThen]) (by kernel_rfl)))
  <| allOk_cons (ok_none rfl (l_load (.tmp 5) (⟨w.heap.size,0,none⟩) _ (.int .u64 (e:Int)) (by intro w;simp[go_sem]) rfl (hs 5 (.pointer (some ⟨w.heap.size,0,none⟩)) (by kernel_rfl) (by kernel_rfl)) (λw c=>M w c) (by kernel_rfl)))
  <| allOk_cons (ok_none rfl (l_call 290 _ _ rfl (enters_of Tryz.func290 (by kernel_rfl) rfl) #[.int .u64 (e:Int)] (.res (fixL 8 e)) (args1 (hs 6 (.int .u64 (e:Int)) (by kernel_rfl) (by kernel_rfl))) (λw c=>gives_res (eight_gives e w)) (by kernel_rfl)))
  <| allOk_cons (ok_none rfl (l_run1 (.tmp 1) (.pointer (some ⟨w.heap.size,0,none⟩)) (.pointer (some ⟨w.heap.size,1,none⟩)) (hs 1 _ (by kernel_rfl) (by kernel_rfl)) (λρ w h=>by simp[execOp,h,go_sem,Result.andThen]) (by kernel_rfl)))
  <| allOk_cons (ok_none rfl (l_load (.tmp 8) (⟨w.heap.size,1,none⟩) _ (.int .i64 (i:Int)) (by intro w;simp[go_sem]) rfl (hs 8 (.pointer (some ⟨w.heap.size,1,none⟩)) (by kernel_rfl) (by kernel_rfl)) (λw c=>aB w c) (by kernel_rfl)))
  <| allOk_cons (ok_none rfl (l_convS (.tmp 9) _ _ (.int .i64 (i:Int)) (.int .u32 (i:Int)) rfl (hs 9 (.int .i64 (i:Int)) (by kernel_rfl) (by kernel_rfl)) (λw c=>O w) (by kernel_rfl)))
  <| allOk_cons (ok_none rfl (l_call 94 _ _ rfl (enters_of Tryz.func94 (by kernel_rfl) rfl) #[.int .u32 (i:Int)] (.res (fixL 4 i)) (args1 (hs 10 (.int .u32 (i:Int)) (by kernel_rfl) (by kernel_rfl))) (λw c=>gives_res (four_gives i w)) (by kernel_rfl)))
  <| allOk_cons (ok_none rfl (l_run1 (.tmp 1) (.pointer (some ⟨w.heap.size,0,none⟩)) (.pointer (some ⟨w.heap.size,2,none⟩)) (hs 1 _ (by kernel_rfl) (by kernel_rfl)) (λρ w h=>by simp[execOp,h,go_sem,Result.andThen]) (by kernel_rfl)))
  <| allOk_cons (ok_none rfl (l_load (.tmp 12) (⟨w.heap.size,2,none⟩) _ (.int .i64 (p:Int)) (by intro w;simp[go_sem]) rfl (hs 12 (.pointer (some ⟨w.heap.size,2,none⟩)) (by kernel_rfl) (by kernel_rfl)) (λw c=>K w c) (by kernel_rfl)))
  <| allOk_cons (ok_none rfl (l_convS (.tmp 13) _ _ (.int .i64 (p:Int)) (.int .u32 (p:Int)) rfl (hs 13 (.int .i64 (p:Int)) (by kernel_rfl) (by kernel_rfl)) (λw c=>Z w) (by kernel_rfl)))
  <| allOk_cons (ok_none rfl (l_call 94 _ _ rfl (enters_of Tryz.func94 (by kernel_rfl) rfl) #[.int .u32 (p:Int)] (.res (fixL 4 p)) (args1 (hs 14 (.int .u32 (p:Int)) (by kernel_rfl) (by kernel_rfl))) (λw c=>gives_res (four_gives p w)) (by kernel_rfl)))
  <| allOk_cons (ok_none rfl (l_call 300 _ _ rfl (enters_of Tryz.func300 (by kernel_rfl) rfl) #[] (.pred ((λv w=>FlagsAt w v)) (flagsAt_stable)) (λ_ _ _=>by simp) (λw c=>(flags_gives w).mono (λ_ _ ⟨v,he,h1,h2⟩=>⟨v,he,h2,h1⟩)) (by kernel_rfl)))
  <| allOk_cons (ok_none rfl (l_run1 (.tmp 1) (.pointer (some ⟨w.heap.size,0,none⟩)) (.pointer (some ⟨w.heap.size,3,none⟩)) (hs 1 _ (by kernel_rfl) (by kernel_rfl)) (λρ w h=>by simp[execOp,h,go_sem,Result.andThen]) (by kernel_rfl)))
  <| allOk_cons (ok_none rfl (l_load (.tmp 17) (⟨w.heap.size,3,none⟩) _ (.bool f) (by intro w;simp[go_sem]) rfl (hs 17 (.pointer (some ⟨w.heap.size,3,none⟩)) (by kernel_rfl) (by kernel_rfl)) (λw c=>H w c) (by kernel_rfl)))
  <| allOk_cons (ok_none rfl (l_runP 16 (.tmp 18) _ flagsAt_stable (.bool f) (.pred (FlagFn f) (flagFn_stable f)) (by kernel_rfl) (by kernel_rfl) (hs 18 _ (by kernel_rfl) (by kernel_rfl)) (λρ w c h1 h2=>let ⟨r,q1,q2⟩:=run_flag f rfl h1 h2;⟨r,w,q1,Grow.refl _,q2⟩) (by kernel_rfl)))
  <| allOk_cons (ok_none rfl (l_callFlag f 19 _ rfl (by kernel_rfl) (by kernel_rfl) (by kernel_rfl)))
  <| allOk_cons (ok_none rfl (l_run1 (.tmp 1) (.pointer (some ⟨w.heap.size,0,none⟩)) (.pointer (some ⟨w.heap.size,4,none⟩)) (hs 1 _ (by kernel_rfl) (by kernel_rfl)) (λρ w h=>by simp[execOp,h,go_sem,Result.andThen]) (by kernel_rfl)))
  <| allOk_cons (ok_none rfl (l_load (.tmp 21) (⟨w.heap.size,4,none⟩) _ (.int .i64 (z:Int)) (by intro w;simp[go_sem]) rfl (hs 21 (.pointer (some ⟨w.heap.size,4,none⟩)) (by kernel_rfl) (by kernel_rfl)) (λw c=>E w c) (by kernel_rfl)))
  <| allOk_cons (ok_none rfl (l_convS (.tmp 22) _ _ (.int .i64 (z:Int)) (.int .u32 (z:Int)) rfl (hs 22 (.int .i64 (z:Int)) (by kernel_rfl) (by kernel_rfl)) (λw c=>S w) (by kernel_rfl)))
  <| allOk_cons (ok_none rfl (l_call 94 _ _ rfl (enters_of Tryz.func94 (by kernel_rfl) rfl) #[.int .u32 (z:Int)] (.res (fixL 4 z)) (args1 (hs 23 (.int .u32 (z:Int)) (by kernel_rfl) (by kernel_rfl))) (λw c=>gives_res (four_gives z w)) (by kernel_rfl)))
  <| allOk_cons (ok_none rfl (l_run1 (.tmp 1) (.pointer (some ⟨w.heap.size,0,none⟩)) (.pointer (some ⟨w.heap.size,5,none⟩)) (hs 1 _ (by kernel_rfl) (by kernel_rfl)) (λρ w h=>by simp[execOp,h,go_sem,Result.andThen]) (by kernel_rfl)))
  <| allOk_cons (ok_none rfl (l_load (.tmp 25) (⟨w.heap.size,5,none⟩) _ (.int .u32 (n:Int)) (by intro w;simp[go_sem]) rfl (hs 25 (.pointer (some ⟨w.heap.size,5,none⟩)) (by kernel_rfl) (by kernel_rfl)) (λw c=>U w c) (by kernel_rfl)))
  <| allOk_cons (ok_none rfl (l_call 94 _ _ rfl (enters_of Tryz.func94 (by kernel_rfl) rfl) #[.int .u32 (n:Int)] (.res (fixL 4 n)) (args1 (hs 26 (.int .u32 (n:Int)) (by kernel_rfl) (by kernel_rfl))) (λw c=>gives_res (four_gives n w)) (by kernel_rfl)))
  <| allOk_cons (ok_none rfl (l_build6 7 11 15 20 24 27 (fixL 8 e) (fixL 4 i) (fixL 4 p) [if f then 1 else 0] (fixL 4 z) (fixL 4 n) rfl (by kernel_rfl) (by kernel_rfl) (by kernel_rfl) (by kernel_rfl) (by kernel_rfl) (by kernel_rfl) (by kernel_rfl) (by kernel_rfl) (by kernel_rfl) (by kernel_rfl) (by kernel_rfl) (by kernel_rfl) (by kernel_rfl)))
  <| allOk_cons (ok_none rfl (l_callVP 299 (.tmp 4) 28 (.slice A y.length k) (Lists [fixL 8 e,fixL 4 i,fixL 4 p,[if f then 1 else 0],fixL 4 z,fixL 4 n]) (lists_stable _) _ rfl (enters_of Tryz.func299 (by kernel_rfl) rfl) (.val (.agg ((sectB [fixL 8 e,fixL 4 i,fixL 4 p,[if f then 1 else 0],fixL 4 z,fixL 4 n].flatten y).map b8).toArray)) (hs 4 _ (by kernel_rfl) (by kernel_rfl)) (by kernel_rfl) (by kernel_rfl) (λw u c hu=>gives_grow (W w u c hu)) (by kernel_rfl)))
  <| allOk_nil) ?_
 intro a W3 aC N V hF F
 have I:a.eval (.tmp 29) = .agg ((sectB [fixL 8 e,fixL 4 i,fixL 4 p,[if f then 1 else 0],fixL 4 z,fixL 4 n].flatten y).map b8).toArray:=hF 29
 have ha:=Reg.acts_eq [3,4,5,6,7,8,9,10,11,12,13,14,15,16,17,18,19,20,21,22,23,24,25,26,27,28,29] aC N F
 clear hF F N
 simp only[List.foldl_cons,List.foldl_nil,I] at ha
 clear I aC
 generalize a.eval (.tmp 3)=v3 at *
 generalize a.eval (.tmp 4)=v4 at *
 generalize a.eval (.tmp 5)=v5 at *
 generalize a.eval (.tmp 6)=v6 at *
 generalize a.eval (.tmp 7)=v7 at *
 generalize a.eval (.tmp 8)=v8 at *
 generalize a.eval (.tmp 9)=v9 at *
 generalize a.eval (.tmp 10)=aT at *
 generalize a.eval (.tmp 11)=aM at *
 generalize a.eval (.tmp 12)=aV at *
 generalize a.eval (.tmp 13)=aN at *
 generalize a.eval (.tmp 14)=aO at *
 generalize a.eval (.tmp 15)=aL at *
 generalize a.eval (.tmp 16)=aS at *
 generalize a.eval (.tmp 17)=aW at *
 generalize a.eval (.tmp 18)=aR at *
 generalize a.eval (.tmp 19)=aU at *
 generalize a.eval (.tmp 20)=aQ at *
 generalize a.eval (.tmp 21)=aP at *
 generalize a.eval (.tmp 22)=v22 at *
 generalize a.eval (.tmp 23)=v23 at *
 generalize a.eval (.tmp 24)=v24 at *
 generalize a.eval (.tmp 25)=v25 at *
 generalize a.eval (.tmp 26)=v26 at *
 generalize a.eval (.tmp 27)=v27 at *
 generalize a.eval (.tmp 28)=v28 at *
 simp only[Act.put,zA,zF,zG] at ha
 subst ha
 simp only[Reg.Rest,List.drop_succ_cons,List.drop_zero]
 have s:=m.below V m.lt
 have aH:Below w.heap.size w W3:=q.trans (V.mono q.size)
 have aA:[fixL 8 e,fixL 4 i,fixL 4 p,[if f then 1 else 0],fixL 4 z,fixL 4 n].flatten=partB e i p f z n:=rfl
 have aK:=partB_length e i p f z n
 rw[aA]
 clear W M aB K H E U G d m X aA O Z S
 generalize C:partB e i p f z n=P at *
 have aG:=Lib.hid C
 clear C
 have B:((sectB P y).map b8).toArray.size=64:=by
  simp[sectB_length];omega
 have aJ:RowTy Tryz.prog 307 ((sectB P y).map b8).toArray.size:=by rw[B];exact rowSector
 refine wp_storeW rfl 307 (.tmp 2) (.tmp 29) rfl (w.heap.size+1) rfl rfl rowSector s (by simp) (by rw[B];simp) (b8_one _) ?_
 have aI:=s.setRow ((sectB P y).map b8).toArray
 have aE:Below w.heap.size w (W3.setRow (w.heap.size+1) ((sectB P y).map b8).toArray):=below_setRow aH (by omega) _
 generalize W3.setRow (w.heap.size+1) ((sectB P y).map b8).toArray=W4 at *
 clear B s aK
 simp only[wpList,Act.put,Exit.then]
 refine ‹∀(a:Act) (w:World),Code.wp Tryz.prog Code.ret _ a w->_› _ W4 ?_
 refine wp_ret (bodyPost_ret_by (results_cellW 2 rfl rfl aJ aI rfl) rfl ⟨?_,aE⟩)
 rw[aG.out]
def fEnc (e:Nat)(i p:Int)(f:Bool)(z:Int)(n:Nat)(y:List UInt8):List UInt8:=if frOk y.length i p f z then frameB (partB e i.toNat p.toNat f z.toNat n) y else []
def fErr (i p:Int)(f:Bool)(z:Int)(y:List UInt8):Int:=if frOk y.length i p f z then 0 else 2
theorem fEnc_ok {e i p:Nat}{f:Bool}{z n:Nat}{y:List UInt8}(h:frOk y.length i p f z=true):fEnc e i p f z n y=frameB (partB e i p f z n) y/\fErr i p f z y=0:=by simp[fEnc,fErr,h]
theorem encode_gives (e:Nat)(i p:Int)(f:Bool)(z:Int)(n:Nat)(A:Option Addr)(k:Nat)(y:List UInt8)(w:World)(aE:InB w w.heap.size A k y) :
  Calls Tryz.prog 251 #[.agg (frCells e i p f z n A y.length k)] w (GivesBE w (fEnc e i p f z n y) (fErr i p f z y)):=by
 have E:=BlkIs.new w 256 (frCells e i p f z n A y.length k)
 have u:Below w.heap.size w (w.alloc (.cells (frCells e i p f z n A y.length k) 256)):=(Below.refl _ w).alloc (zH _) _
 have H:=right_gives e i p f z n A y.length k (w.alloc (.cells (frCells e i p f z n A y.length k) 256))
 cases j:frOk y.length i p f z with
 | false =>
  have h1:fEnc e i p f z n y=[]:=by simp[fEnc,j]
  have h2:fErr i p f z y=2:=by simp[fErr,j]
  rw[h1,h2]
  rw[j] at H
  clear h1 h2 j
  unfold frCells at *
  go_enter Tryz.func251,Tryz.ntmps251
  go_wp2_with (first
   | (go_at_call 238;refine H.mono ?_;rintro x w2 ⟨rfl,m⟩)
   | (refine wp_loadW rfl 256 (.tmp 1) rfl w.heap.size rfl rowFrame E (by rfl) ?_))
  exact bodyPost_ret (results_tmp2 rfl _ _ _) rfl ⟨none,0,rfl,InB.mt _ _,u.trans (m.mono u.size)⟩
 | true =>
  obtain⟨K,⟨aT,aP⟩,⟨aR,aS⟩,⟨aQ,aN⟩,_⟩:=(frOk_iff _ _ _ _ _).1 j
  obtain⟨i,rfl⟩:∃q:Nat,i=q:=⟨i.toNat,by omega⟩
  obtain⟨p,rfl⟩:∃q:Nat,p=q:=⟨p.toNat,by omega⟩
  obtain⟨z,rfl⟩:∃q:Nat,z=q:=⟨z.toNat,by omega⟩
  rw[j] at H
  obtain⟨h1,h2⟩:=fEnc_ok (e:=e) (n:=n) j
  rw[h1,h2]
  have Z:=(aE.below u).more u.size
  have U:=λW (h:InB W W.heap.size A k y)=>front_gives e i p z n f A k y W (by omega) (by omega) (by omega) h K
  have aA:=partB_length e i p f z n
  have X:frameB (partB e i p f z n) y=sectB (partB e i p f z n) y++y:=rfl
  have S:(sectB (partB e i p f z n) y).length=64:=by rw[sectB_length,aA]
  rw[X]
  generalize sectB (partB e i p f z n) y=s at *
  have C:=Lib.hid S
  have aI:=Lib.hid K
  have aO:RowTy Tryz.prog 307 (s.map b8).toArray.size:=by
   have:(s.map b8).toArray.size=64:=by simp[S]
   rw[this]
   exact rowSector
  clear h1 h2 j aE X aA S K
  unfold frCells at *
  go_enter Tryz.func251,Tryz.ntmps251
  go_wp2_with (first
   | (go_at_call 238;refine H.mono ?_;rintro x w2 ⟨rfl,m⟩;have T:=E.below m E.lt;have F:=u.trans (m.mono u.size);have G:=(Z.below m).more m.size;clear H E Z)
   | (go_at_call 239;refine(U _ G).mono ?_;rintro x c ⟨rfl,B⟩;have N:=T.below B T.lt;have O:=F.trans (B.mono F.size);have V:=(G.below B).more B.size;clear U T G)
   | (refine wp_loadW rfl 256 (.tmp 1) rfl w.heap.size rfl rowFrame (by assumption) (by rfl) ?_)
   | (refine wp_storeW rfl 307 (.tmp 4) (.tmp 9) rfl c.heap.size rfl rfl rowSector (BlkIs.new c 307 #[.int .u8 0,.int .u8 0,.int .u8 0,.int .u8 0,.int .u8 0,.int .u8 0,.int .u8 0,.int .u8 0,.int .u8 0,.int .u8 0,.int .u8 0,.int .u8 0,.int .u8 0,.int .u8 0,.int .u8 0,.int .u8 0,.int .u8 0,.int .u8 0,.int .u8 0,.int .u8 0,.int .u8 0,.int .u8 0,.int .u8 0,.int .u8 0,.int .u8 0,.int .u8 0,.int .u8 0,.int .u8 0,.int .u8 0,.int .u8 0,.int .u8 0,.int .u8 0,.int .u8 0,.int .u8 0,.int .u8 0,.int .u8 0,.int .u8 0,.int .u8 0,.int .u8 0,.int .u8 0,.int .u8 0,.int .u8 0,.int .u8 0,.int .u8 0,.int .u8 0,.int .u8 0,.int .u8 0,.int .u8 0,.int .u8 0,.int .u8 0,.int .u8 0,.int .u8 0,.int .u8 0,.int .u8 0,.int .u8 0,.int .u8 0,.int .u8 0,.int .u8 0,.int .u8 0,.int .u8 0,.int .u8 0,.int .u8 0,.int .u8 0,.int .u8 0]) (by rfl) (by have:=C.out;simp;omega) (b8_one _) ?_))
  have aF:=(BlkIs.new c 307 #[.int .u8 0,.int .u8 0,.int .u8 0,.int .u8 0,.int .u8 0,.int .u8 0,.int .u8 0,.int .u8 0,.int .u8 0,.int .u8 0,.int .u8 0,.int .u8 0,.int .u8 0,.int .u8 0,.int .u8 0,.int .u8 0,.int .u8 0,.int .u8 0,.int .u8 0,.int .u8 0,.int .u8 0,.int .u8 0,.int .u8 0,.int .u8 0,.int .u8 0,.int .u8 0,.int .u8 0,.int .u8 0,.int .u8 0,.int .u8 0,.int .u8 0,.int .u8 0,.int .u8 0,.int .u8 0,.int .u8 0,.int .u8 0,.int .u8 0,.int .u8 0,.int .u8 0,.int .u8 0,.int .u8 0,.int .u8 0,.int .u8 0,.int .u8 0,.int .u8 0,.int .u8 0,.int .u8 0,.int .u8 0,.int .u8 0,.int .u8 0,.int .u8 0,.int .u8 0,.int .u8 0,.int .u8 0,.int .u8 0,.int .u8 0,.int .u8 0,.int .u8 0,.int .u8 0,.int .u8 0,.int .u8 0,.int .u8 0,.int .u8 0,.int .u8 0]).setRow (s.map b8).toArray
  have v:Below c.heap.size c ((c.alloc (.cells #[.int .u8 0,.int .u8 0,.int .u8 0,.int .u8 0,.int .u8 0,.int .u8 0,.int .u8 0,.int .u8 0,.int .u8 0,.int .u8 0,.int .u8 0,.int .u8 0,.int .u8 0,.int .u8 0,.int .u8 0,.int .u8 0,.int .u8 0,.int .u8 0,.int .u8 0,.int .u8 0,.int .u8 0,.int .u8 0,.int .u8 0,.int .u8 0,.int .u8 0,.int .u8 0,.int .u8 0,.int .u8 0,.int .u8 0,.int .u8 0,.int .u8 0,.int .u8 0,.int .u8 0,.int .u8 0,.int .u8 0,.int .u8 0,.int .u8 0,.int .u8 0,.int .u8 0,.int .u8 0,.int .u8 0,.int .u8 0,.int .u8 0,.int .u8 0,.int .u8 0,.int .u8 0,.int .u8 0,.int .u8 0,.int .u8 0,.int .u8 0,.int .u8 0,.int .u8 0,.int .u8 0,.int .u8 0,.int .u8 0,.int .u8 0,.int .u8 0,.int .u8 0,.int .u8 0,.int .u8 0,.int .u8 0,.int .u8 0,.int .u8 0,.int .u8 0] 307)).setRow c.heap.size (s.map b8).toArray):=below_setRow ((Below.refl _ c).alloc (zH _) _) (zH _) _
  have aG:Below w.heap.size w ((c.alloc (.cells #[.int .u8 0,.int .u8 0,.int .u8 0,.int .u8 0,.int .u8 0,.int .u8 0,.int .u8 0,.int .u8 0,.int .u8 0,.int .u8 0,.int .u8 0,.int .u8 0,.int .u8 0,.int .u8 0,.int .u8 0,.int .u8 0,.int .u8 0,.int .u8 0,.int .u8 0,.int .u8 0,.int .u8 0,.int .u8 0,.int .u8 0,.int .u8 0,.int .u8 0,.int .u8 0,.int .u8 0,.int .u8 0,.int .u8 0,.int .u8 0,.int .u8 0,.int .u8 0,.int .u8 0,.int .u8 0,.int .u8 0,.int .u8 0,.int .u8 0,.int .u8 0,.int .u8 0,.int .u8 0,.int .u8 0,.int .u8 0,.int .u8 0,.int .u8 0,.int .u8 0,.int .u8 0,.int .u8 0,.int .u8 0,.int .u8 0,.int .u8 0,.int .u8 0,.int .u8 0,.int .u8 0,.int .u8 0,.int .u8 0,.int .u8 0,.int .u8 0,.int .u8 0,.int .u8 0,.int .u8 0,.int .u8 0,.int .u8 0,.int .u8 0,.int .u8 0] 307)).setRow c.heap.size (s.map b8).toArray):=O.trans (v.mono O.size)
  have aB:=N.below v N.lt
  have aM:=(V.below v).more v.size
  have aD:=aF.inBT (by rw[C.out];omega)
  rw[C.out] at aD
  clear aF N V v O F m B
  generalize aH:(c.alloc (.cells #[.int .u8 0,.int .u8 0,.int .u8 0,.int .u8 0,.int .u8 0,.int .u8 0,.int .u8 0,.int .u8 0,.int .u8 0,.int .u8 0,.int .u8 0,.int .u8 0,.int .u8 0,.int .u8 0,.int .u8 0,.int .u8 0,.int .u8 0,.int .u8 0,.int .u8 0,.int .u8 0,.int .u8 0,.int .u8 0,.int .u8 0,.int .u8 0,.int .u8 0,.int .u8 0,.int .u8 0,.int .u8 0,.int .u8 0,.int .u8 0,.int .u8 0,.int .u8 0,.int .u8 0,.int .u8 0,.int .u8 0,.int .u8 0,.int .u8 0,.int .u8 0,.int .u8 0,.int .u8 0,.int .u8 0,.int .u8 0,.int .u8 0,.int .u8 0,.int .u8 0,.int .u8 0,.int .u8 0,.int .u8 0,.int .u8 0,.int .u8 0,.int .u8 0,.int .u8 0,.int .u8 0,.int .u8 0,.int .u8 0,.int .u8 0,.int .u8 0,.int .u8 0,.int .u8 0,.int .u8 0,.int .u8 0,.int .u8 0,.int .u8 0,.int .u8 0] 307)).setRow c.heap.size (s.map b8).toArray=d at *
  generalize c.heap.size=g3 at *
  clear aH
  simp only[Act.put]
  have I:d.cell? ⟨w.heap.size,6,none⟩=some (.slice A y.length k):=by rw[aB.cell];rfl
  have hC:=concat2_gives d.drew (some ⟨g3,0,none⟩) A 64 k s y aD.drew aM.drew (by rw[C.out,aI.out];omega)
  rw[C.out] at hC
  have aC:=aB.lt
  go_region_held3 (λW=>Below d.heap.size d W/\W.cell? ⟨w.heap.size,6,none⟩=some (.slice A y.length k)) (first|exact⟨(Below.refl _ _).drew,I⟩|exact⟨((Below.refl _ d).drew).alloc (zH _) _,(World.cell?_of_block (Below.heap_alloc d.drew _ _ aC)).trans I⟩|exact⟨M,(M.cell (p:=⟨w.heap.size,6,none⟩) aC).trans I⟩)
   (first
    | (go_at_call 137;refine hC.mono ?_;rintro x W5 ⟨v5,rfl,aK,aJ⟩;have M:Below d.heap.size d W5:=(Below.refl _ d).drew.trans aJ))
  go_wp2
  obtain⟨A5,c5,rfl,aL⟩:=aK.inB
  exact bodyPost_ret (results_tmp2 rfl _ _ _) rfl ⟨A5,c5,rfl,aL,aG.trans (M.mono aG.size)⟩
theorem ftake_gives (w:World)(g o:Nat)(A:Option Addr)(len c n:Nat)(h:len<=c)(i:c<=9223372036854775807)(hn:n<=len)(hc:w.cell? ⟨g,o,none⟩=some (.slice A len c))(hf:w.frozen? ⟨g,o,none⟩=false) :
  Calls Tryz.prog 237 #[.pointer (some ⟨g,o,none⟩),.int .i64 n] w λe w'=>e = .returned (.slice A n n)/\w.setCell ⟨g,o,none⟩ (.slice (cutA A c n) (len - n) (c - n))=w':=by
 by_cases d:c=n
 ·obtain rfl:len=c:=by omega
  subst d
  go_enter Tryz.func237,Tryz.ntmps237
  go_wp2
  go_ret
  refine⟨rfl,?_⟩
  simp[cutA]
 ·go_enter Tryz.func237,Tryz.ntmps237
  go_wp2
  go_ret
  refine⟨rfl,?_⟩
  simp[cutA,d]
structure RdrAt (w:World)(g:Nat)(A:Option Addr)(c:Nat)(l:List UInt8):Prop where
 blk:BlkIs w g 301 #[.slice A l.length c]
 inb:InB w g A c l
theorem RdrAt.below {w w':World}{g:Nat}{A:Option Addr}{c:Nat}{l:List UInt8}(h:RdrAt w g A c l)(hB:Below w.heap.size w w'):RdrAt w' g A c l :=
 ⟨h.blk.below hB h.blk.lt,h.inb.below (hB.mono (Nat.le_of_lt h.blk.lt))⟩
theorem RdrAt.cut {w:World}{g:Nat}{A:Option Addr}{c:Nat}{l:List UInt8}(h:RdrAt w g A c l)(n:Nat)(hn:n<=l.length):RdrAt (w.setCell ⟨g,0,none⟩ (.slice (cutA A c n) (l.length - n) (c - n))) g (cutA A c n) (c - n) (l.drop n):=by
 refine⟨?_,(h.inb.drop n hn).keep λp d=>World.cell?_setCell_other w _ p _ (λe=>by subst e;simp at d)⟩
 have:=h.blk.set 0 (.slice (cutA A c n) (l.length - n) (c - n))
 rw[qQ]
 exact this
theorem number64_gives (w:World)(g:Nat)(A:Option Addr)(c:Nat)(l:List UInt8)(h:RdrAt w g A c l)(hl:8<=l.length) :
  Calls Tryz.prog 224 #[.pointer (some ⟨g,0,none⟩),.int .i64 8,.func (.func 225) #[] #[]] w λe w'=>e = .returned (.int .u64 (rfix (l.take 8):Int))/\RdrAt w' g (cutA A c 8) (c - 8) (l.drop 8)/\Below g w w':=by
 have n:=h.inb.le
 have s:=h.inb.max
 have T:=ftake_gives w g 0 A l.length c 8 n s hl (by rw[h.blk.cell];rfl) (h.blk.free 0)
 have d:=h.cut 8 hl
 have j:Below g w (w.setCell ⟨g,0,none⟩ (.slice (cutA A c 8) (l.length - 8) (c - 8))):=(Below.refl g w).setCell (p:=⟨g,0,none⟩) (zH g) _
 have v:=h.inb.below j
 clear h
 generalize w.setCell ⟨g,0,none⟩ (.slice (cutA A c 8) (l.length - 8) (c - 8))=q at *
 have ht:=v.take 8 8 hl (zH _) (by omega)
 have E:=readEight_gives q A 8 (l.take 8) (ht.more (Nat.le_of_lt d.blk.lt))
 have u:(l.take 8).length=8:=by simp;omega
 rw[fixV_ge (by omega),u,List.take_take,Nat.min_self] at E
 have m:=d.blk.lt
 go_enter Tryz.func224,Tryz.ntmps224
 go_wp2_with (first|(go_at_call 237;refine T.mono ?_;rintro e w' ⟨rfl,rfl⟩)|(go_at_call 225;refine E.mono ?_;rintro e w' ⟨rfl,i⟩))
 go_ret
 exact⟨rfl,d.below i,j.trans (i.mono (Nat.le_of_lt m))⟩
theorem number32_gives (w:World)(g:Nat)(A:Option Addr)(c:Nat)(l:List UInt8)(h:RdrAt w g A c l)(hl:4<=l.length) :
  Calls Tryz.prog 226 #[.pointer (some ⟨g,0,none⟩),.int .i64 4,.func (.func 88) #[] #[]] w λe w'=>e = .returned (.int .u32 (rfix (l.take 4):Int))/\RdrAt w' g (cutA A c 4) (c - 4) (l.drop 4)/\Below g w w':=by
 have q:=h.inb.le
 have u:=h.inb.max
 have T:=ftake_gives w g 0 A l.length c 4 q u hl (by rw[h.blk.cell];rfl) (h.blk.free 0)
 have d:=h.cut 4 hl
 have j:Below g w (w.setCell ⟨g,0,none⟩ (.slice (cutA A c 4) (l.length - 4) (c - 4))):=(Below.refl g w).setCell (p:=⟨g,0,none⟩) (zH g) _
 have v:=h.inb.below j
 clear h
 generalize w.setCell ⟨g,0,none⟩ (.slice (cutA A c 4) (l.length - 4) (c - 4))=s at *
 have ht:=v.take 4 4 hl (zH _) (by omega)
 have E:=readFour_gives s A 4 (l.take 4) (ht.more (Nat.le_of_lt d.blk.lt))
 have n:(l.take 4).length=4:=by simp;omega
 rw[fixV32_ge (by omega),n,List.take_take,Nat.min_self] at E
 have m:=d.blk.lt
 go_enter Tryz.func226,Tryz.ntmps226
 go_wp2_with (first|(go_at_call 237;refine T.mono ?_;rintro e w' ⟨rfl,rfl⟩)|(go_at_call 88;refine E.mono ?_;rintro e w' ⟨rfl,i⟩))
 go_ret
 exact⟨rfl,d.below i,j.trans (i.mono (Nat.le_of_lt m))⟩
def decHV (l:List UInt8):Value:=if isHead l then .tuple #[.agg #[.int .u64 (hdS l:Int),.int .u64 (hdE l:Int),.int .i64 (hdZ l:Int),.int .i64 (hdC l:Int)],.int .i64 0] else .tuple #[.agg #[.int .u64 0,.int .u64 0,.int .i64 0,.int .i64 0],.int .i64 150]
theorem decHV_no {l:List UInt8}(h:isHead l=false):decHV l = .tuple #[.agg #[.int .u64 0,.int .u64 0,.int .i64 0,.int .i64 0],.int .i64 150]:=by simp[decHV,h]
theorem rfix_take4 (l:List UInt8):rfix (l.take 4)<4294967296:=by
 have h1:=rfix_lt (l.take 4)
 have h2:256 ^ (l.take 4).length<=256 ^ 4:=Nat.pow_le_pow_right (by omega) (by simp;omega)
 have c:(256:Nat) ^ 4=4294967296:=by decide
 omega
theorem zeroHead_one:∀v∈(#[.int .u64 0,.int .u64 0,.int .i64 0,.int .i64 0]:Array Value).toList,v.oneCell'=true:=by
 intro v c
 simp at c
 rcases c with rfl|rfl<;>rfl
theorem head_one (s e z c:Int):∀v∈(#[.int .u64 s,.int .u64 e,.int .i64 z,.int .i64 c]:Array Value).toList,v.oneCell'=true:=by
 intro v d
 simp at d
 rcases d with rfl|rfl|rfl|rfl<;>rfl
theorem decodeHead_len (w:World)(A:Option Addr)(c:Nat)(l:List UInt8)(h:InB w w.heap.size A c l)(hl:l.length≠64) :
  Calls Tryz.prog 162 #[.slice A l.length c] w λx w'=>x = .returned (decHV l)/\Below w.heap.size w w':=by
 have e:=BlkIs.new w 185 #[.int .u64 0,.int .u64 0,.int .i64 0,.int .i64 0]
 have i:Below w.heap.size w (w.alloc (.cells #[.int .u64 0,.int .u64 0,.int .i64 0,.int .i64 0] 185)):=(Below.refl _ w).alloc (zH _) _
 have m:=h.le
 have n:=h.max
 have d:isHead l=false:=by cases j:isHead l;rfl;exact absurd ((isHead_iff l).1 j).1 hl
 rw[decHV_no d]
 have hq:((l.length:Int) == 64)=false:=by simp;omega
 clear d hl
 go_enter Tryz.func162,Tryz.ntmps162
 go_wp2_with (refine wp_storeW rfl 185 (.tmp 2) (.tmp 35) rfl w.heap.size rfl rfl rowHead e (by rfl) (by rfl) zeroHead_one ?_)
 refine bodyPost_ret_by (results_cellW_tmp 2 3 rfl rfl rfl rowHead (e.setRow _) (by rfl)) rfl ⟨rfl,below_setRow i (zH _) _⟩
theorem decodeHead_64 (w:World)(A:Option Addr)(c:Nat)(l:List UInt8)(h:InB w w.heap.size A c l)(C:l.length=64) :
  Calls Tryz.prog 162 #[.slice A 64 c] w λx w'=>x = .returned (decHV l)/\Below w.heap.size w w':=by
 have bD:=h.le
 have bE:=h.max
 obtain⟨g,o,rfl,d,bC⟩:=h.lies (by omega)
 have aG:=(BlkIs.new w 185 #[.int .u64 0,.int .u64 0,.int .i64 0,.int .i64 0]).alloc (.cells #[.slice (some ⟨g,o,none⟩) 64 c] 301)
 have aB:Below w.heap.size w ((w.alloc (.cells #[.int .u64 0,.int .u64 0,.int .i64 0,.int .i64 0] 185)).alloc (.cells #[.slice (some ⟨g,o,none⟩) 64 c] 301)):=((Below.refl _ w).alloc (zH _) _).alloc (by simp) _
 have aD:RdrAt ((w.alloc (.cells #[.int .u64 0,.int .u64 0,.int .i64 0,.int .i64 0] 185)).alloc (.cells #[.slice (some ⟨g,o,none⟩) 64 c] 301)) (w.heap.size+1) (some ⟨g,o,none⟩) c l:=by
  refine⟨?_,(h.below aB).more (by omega)⟩
  have:=BlkIs.new (w.alloc (.cells #[.int .u64 0,.int .u64 0,.int .i64 0,.int .i64 0] 185)) 301 #[.slice (some ⟨g,o,none⟩) 64 c]
  rw[World.size_alloc] at this
  rw[C]
  exact this
 have q:=Lib.hid C
 clear C
 go_enter Tryz.func162,Tryz.ntmps162
 go_wp2_with fail
 generalize (w.alloc (.cells #[.int .u64 0,.int .u64 0,.int .i64 0,.int .i64 0] 185)).alloc (.cells #[.slice (some ⟨g,o,none⟩) 64 c] 301)=W1 at *
 refine(number64_gives W1 _ _ c l aD (by have:=q.out;omega)).mono ?_
 rintro x W2 ⟨rfl,aP,aF⟩
 go_wp2_with fail
 refine(number64_gives W2 _ _ _ _ aP (by have:=q.out;simp;omega)).mono ?_
 rintro x W3 ⟨rfl,aA,aQ⟩
 rw[List.drop_drop] at aA
 go_wp2_with fail
 refine(number32_gives W3 _ _ _ _ aA (by have:=q.out;simp;omega)).mono ?_
 rintro x W4 ⟨rfl,W,aI⟩
 rw[List.drop_drop] at W
 have hz:=rfix_take4 (l.drop (8+8))
 have a0:IntKind.i64.wrap (rfix ((l.drop (8+8)).take 4):Int)=(rfix ((l.drop (8+8)).take 4):Int):=wrap_i64_fr _ (by omega) (by omega)
 go_wp2_with fail
 refine(number32_gives W4 _ _ _ _ W (by have:=q.out;simp;omega)).mono ?_
 rintro x W5 ⟨rfl,aV,aL⟩
 have a6:=rfix_take4 (l.drop (8+8+4))
 have a4:IntKind.i64.wrap (rfix ((l.drop (8+8+4)).take 4):Int)=(rfix ((l.drop (8+8+4)).take 4):Int):=wrap_i64_fr _ (by omega) (by omega)
 go_wp2_with fail
 have V:Below (w.heap.size+1) W1 W5:=((aF.trans aQ).trans aI).trans aL
 have aC:Below w.heap.size w W5:=aB.trans (V.mono (by omega))
 have aY:=aG.below V (by omega)
 have a5:=h.below aC
 have aN:=aC.size
 have eS:rfix (l.take 8)=hdS l:=rfl
 have eE:rfix ((l.drop 8).take 8)=hdE l:=rfl
 have eZ:rfix ((l.drop 16).take 4)=hdZ l:=rfl
 have eC:rfix ((l.drop 20).take 4)=hdC l:=rfl
 have bF:hdZ l<4294967296:=rfix_take4 _
 have bB:hdC l<4294967296:=rfix_take4 _
 have aH:isHead l=(headOk (hdZ l) (hdC l) && (headW (hdS l) (hdE l) (hdZ l) (hdC l) == l)):=by
  rw[Bool.eq_iff_iff,isHead_iff,Bool.and_eq_true,headOk_iff,beq_iff_eq]
  constructor
  ·rintro⟨_,a1,a2,a3⟩
   exact⟨by omega,a3⟩
  ·rintro⟨a1,a2⟩
   exact⟨q.out,by omega,by omega,a2⟩
 rw[eS,eE,eZ,eC]
 have aE:decHV l=if isHead l then .tuple #[.agg #[.int .u64 (hdS l:Int),.int .u64 (hdE l:Int),.int .i64 (hdZ l:Int),.int .i64 (hdC l:Int)],.int .i64 0] else .tuple #[.agg #[.int .u64 0,.int .u64 0,.int .i64 0,.int .i64 0],.int .i64 150]:=rfl
 clear eS eE eZ eC hz a6 a0 a4 aD aP aA W aV aF aQ aI aL V aB aG
 generalize hdS l=s at *
 generalize hdE l=e at *
 generalize hdZ l=z at *
 generalize hdC l=cc at *
 have HI:=Lib.hid aH
 have Z:=Lib.hid aE
 clear aH aE
 have X:Below w.heap.size w (W5.alloc (.cells #[.int .u64 (s:Int),.int .u64 (e:Int),.int .i64 (z:Int),.int .i64 (cc:Int)] 185)):=aC.alloc aN _
 have N:=aY.alloc (.cells #[.int .u64 (s:Int),.int .u64 (e:Int),.int .i64 (z:Int),.int .i64 (cc:Int)] 185)
 have M:=BlkIs.new W5 185 #[.int .u64 (s:Int),.int .u64 (e:Int),.int .i64 (z:Int),.int .i64 (cc:Int)]
 have aU:InB (W5.alloc (.cells #[.int .u64 (s:Int),.int .u64 (e:Int),.int .i64 (z:Int),.int .i64 (cc:Int)] 185)) w.heap.size (some ⟨g,o,none⟩) c l:=a5.below ((Below.refl _ W5).alloc aN _)
 generalize aX:W5.alloc (.cells #[.int .u64 (s:Int),.int .u64 (e:Int),.int .i64 (z:Int),.int .i64 (cc:Int)] 185)=W6 at *
 clear aX
 have T:=X.size
 have S:∀w',Grow W6 w'->(loadVar 185 ⟨W5.heap.size,0,none⟩).run Tryz.prog w' = .ok (.agg #[.int .u64 (s:Int),.int .u64 (e:Int),.int .i64 (z:Int),.int .i64 (cc:Int)]) w':=λw' hG=>run_loadW rowHead (M.below hG M.lt)
 have a9:∀w',Grow W6 w'->(loadVar 307 ⟨g,o,none⟩).run Tryz.prog w' = .ok (.agg (l.map b8).toArray) w':=λw' hG=>by
  have hi:=(aU.more T).below hG
  refine run_loadVar_mid (P:=Tryz.prog) w' g o 307 (l.map b8) _ ?_ Tryz.underlying307 rfl (by simp only[qM];rw[q.out];kernel_rfl)
  intro j v U
  have aM:j<l.length:=by
   have:=(List.getElem?_eq_some_iff.1 U).1
   simpa using this
  obtain⟨g',o',F,_,hc⟩:=hi.lies (by omega)
  injection F with F
  injection F with F e2
  subst F e2
  rw[hc j aM]
  rw[List.getElem?_map,zM aM] at U
  simpa[b8] using U
 have aJ:=fits_gives s e z cc
 generalize W5.heap.size=i at *
 cases B:headOk z cc with
 | false =>
  have H:=aJ
  rw[B] at H
  have aT:isHead l=false:=by rw[HI.out,B];rfl
  open Reg in
  refine region_acts (by kernel_rfl) (by kernel_rfl) 36 rfl (by kernel_rfl) [24,25,26,27,28,29,30,31,32,33] (by kernel_rfl)
   [(5,.val (.pointer (some ⟨i,0,none⟩))),(0,.val (.slice (some ⟨g,o,none⟩) 64 c))]
   [(24,.val (.agg #[.int .u64 (s:Int),.int .u64 (e:Int),.int .i64 (z:Int),.int .i64 (cc:Int)])),(25,.val (.bool false)),(26,.val (.bool false)),(27,.any),(28,.any),(29,.any),(30,.any),(31,.any),(32,.any),(33,.val ((Go.Value.bool false)))]
   ⟨rfl,rfl,trivial⟩ (by kernel_rfl)
   (allOk_cons (ok_none rfl (l_loadV (.tmp 5) (⟨i,0,none⟩) 185 (.agg #[.int .u64 (s:Int),.int .u64 (e:Int),.int .i64 (z:Int),.int .i64 (cc:Int)]) rfl (hs 5 (.pointer (some ⟨i,0,none⟩)) (by kernel_rfl) (by kernel_rfl)) (λw d=>S w d) (by kernel_rfl)))
   <| allOk_cons (ok_none rfl (l_call 227 _ _ rfl (enters_of Tryz.func227 (by kernel_rfl) rfl) #[.agg #[.int .u64 (s:Int),.int .u64 (e:Int),.int .i64 (z:Int),.int .i64 (cc:Int)]] (.val (.bool false)) (args1 (hs 24 (.agg #[.int .u64 (s:Int),.int .u64 (e:Int),.int .i64 (z:Int),.int .i64 (cc:Int)]) (by kernel_rfl) (by kernel_rfl))) (λw d=>gives_grow (H w)) (by kernel_rfl)))
   <| allOk_cons (ok_none rfl (l_mvF 25 (.val (.bool false)) (.inl rfl) (by kernel_rfl) (by kernel_rfl) (by kernel_rfl)))
   <| allOk_cons (okg_not 2 true 26 rfl (by kernel_rfl) (by kernel_rfl) (by kernel_rfl) (by kernel_rfl))
   <| allOk_cons (okg_not 2 true 26 rfl (by kernel_rfl) (by kernel_rfl) (by kernel_rfl) (by kernel_rfl))
   <| allOk_cons (okg_not 2 true 26 rfl (by kernel_rfl) (by kernel_rfl) (by kernel_rfl) (by kernel_rfl))
   <| allOk_cons (okg_not 2 true 26 rfl (by kernel_rfl) (by kernel_rfl) (by kernel_rfl) (by kernel_rfl))
   <| allOk_cons (okg_not 2 true 26 rfl (by kernel_rfl) (by kernel_rfl) (by kernel_rfl) (by kernel_rfl))
   <| allOk_cons (okg_not 2 true 26 rfl (by kernel_rfl) (by kernel_rfl) (by kernel_rfl) (by kernel_rfl))
   <| allOk_cons (ok_none rfl (l_pickF (.tmp 26) (.tmp 32) (.const (Go.Value.bool false)) ((Go.Value.bool false)) rfl (hs 26 (.bool false) (by kernel_rfl) (by kernel_rfl)) (hc _) (by kernel_rfl)))
   <| allOk_nil) ?_
  intro a W7 K G u hF E
  have I:a.eval (.tmp 33)=(Go.Value.bool false):=hF 33
  have ha:=Reg.acts_eq [24,25,26,27,28,29,30,31,32,33] K G E
  clear hF E G
  simp only[List.foldl_cons,List.foldl_nil,I] at ha
  clear I K
  generalize a.eval (.tmp 24)=v24 at *
  generalize a.eval (.tmp 25)=v25 at *
  generalize a.eval (.tmp 26)=v26 at *
  generalize a.eval (.tmp 27)=v27 at *
  generalize a.eval (.tmp 28)=v28 at *
  generalize a.eval (.tmp 29)=aW at *
  generalize a.eval (.tmp 30)=aS at *
  generalize a.eval (.tmp 31)=aR at *
  generalize a.eval (.tmp 32)=aZ at *
  simp only[Act.put,zA,zF,zG] at ha
  subst ha
  simp only[Exit.then]
  refine ‹∀(a:Act) (w:World),Code.wp Tryz.prog _ _ a w->_› _ W7 ?_
  have n:=N.below u N.lt
  have O:Below w.heap.size w W7:=X.trans (u.mono T)
  go_wp2_with (refine wp_storeW rfl 185 (.tmp 2) (.tmp 35) rfl w.heap.size rfl rfl rowHead n (by rfl) (by rfl) zeroHead_one ?_)
  refine bodyPost_ret_by (results_cellW_tmp 2 3 rfl rfl rfl rowHead (n.setRow _) (by rfl)) rfl ⟨?_,below_setRow O (zH _) _⟩
  rw[Z.out,aT]
  rfl
 | true =>
  obtain⟨⟨_,bA⟩,_,bG⟩:=(headOk_iff _ _).1 B
  have H:=aJ
  rw[B] at H
  have aO:isHead l=(headW s e z cc == l):=by rw[HI.out,B];rfl
  have a8:=head_gives s e z cc (by omega) (by omega)
  have aK:=headW_length s e z cc
  have C:=q.out
  generalize headW s e z cc=m at *
  have HY:=Lib.hid aO
  clear aO B
  open Reg in
  refine region_acts (by kernel_rfl) (by kernel_rfl) 36 rfl (by kernel_rfl) [24,25,26,27,28,29,30,31,32,33] (by kernel_rfl)
   [(5,.val (.pointer (some ⟨i,0,none⟩))),(0,.val (.slice (some ⟨g,o,none⟩) 64 c))]
   [(24,.val (.agg #[.int .u64 (s:Int),.int .u64 (e:Int),.int .i64 (z:Int),.int .i64 (cc:Int)])),(25,.val (.bool true)),(26,.val (.bool true)),(27,.val (.agg #[.int .u64 (s:Int),.int .u64 (e:Int),.int .i64 (z:Int),.int .i64 (cc:Int)])),(28,.val (.agg (m.map b8).toArray)),(29,.val (.slice (some ⟨g,o,none⟩) 64 c)),(30,.val (.pointer (some ⟨g,o,none⟩))),(31,.val (.agg (l.map b8).toArray)),(32,.val (.bool (m == l))),(33,.val (.bool (m == l)))]
   ⟨rfl,rfl,trivial⟩ (by kernel_rfl)
   (allOk_cons (ok_none rfl (l_loadV (.tmp 5) (⟨i,0,none⟩) 185 (.agg #[.int .u64 (s:Int),.int .u64 (e:Int),.int .i64 (z:Int),.int .i64 (cc:Int)]) rfl (hs 5 (.pointer (some ⟨i,0,none⟩)) (by kernel_rfl) (by kernel_rfl)) (λw d=>S w d) (by kernel_rfl)))
   <| allOk_cons (ok_none rfl (l_call 227 _ _ rfl (enters_of Tryz.func227 (by kernel_rfl) rfl) #[.agg #[.int .u64 (s:Int),.int .u64 (e:Int),.int .i64 (z:Int),.int .i64 (cc:Int)]] (.val (.bool true)) (args1 (hs 24 (.agg #[.int .u64 (s:Int),.int .u64 (e:Int),.int .i64 (z:Int),.int .i64 (cc:Int)]) (by kernel_rfl) (by kernel_rfl))) (λw d=>gives_grow (H w)) (by kernel_rfl)))
   <| allOk_cons (ok_none rfl (l_mvF 25 (.val (.bool true)) (.inl rfl) (by kernel_rfl) (by kernel_rfl) (by kernel_rfl)))
   <| allOk_cons (okg 2 true 26 rfl (by kernel_rfl) (by kernel_rfl) (by kernel_rfl) (l_loadV (.tmp 5) (⟨i,0,none⟩) 185 (.agg #[.int .u64 (s:Int),.int .u64 (e:Int),.int .i64 (z:Int),.int .i64 (cc:Int)]) rfl (hs 5 (.pointer (some ⟨i,0,none⟩)) (by kernel_rfl) (by kernel_rfl)) (λw d=>S w d) (by kernel_rfl)))
   <| allOk_cons (okg 2 true 26 rfl (by kernel_rfl) (by kernel_rfl) (by kernel_rfl) (l_call 228 _ _ rfl (enters_of Tryz.func228 (by kernel_rfl) rfl) #[.agg #[.int .u64 (s:Int),.int .u64 (e:Int),.int .i64 (z:Int),.int .i64 (cc:Int)]] (.val (.agg (m.map b8).toArray)) (args1 (hs 27 (.agg #[.int .u64 (s:Int),.int .u64 (e:Int),.int .i64 (z:Int),.int .i64 (cc:Int)]) (by kernel_rfl) (by kernel_rfl))) (λw d=>gives_grow (a8 w)) (by kernel_rfl)))
   <| allOk_cons (okg 2 true 26 rfl (by kernel_rfl) (by kernel_rfl) (by kernel_rfl) (l_mvF 0 (.val (.slice (some ⟨g,o,none⟩) 64 c)) (.inl rfl) (by kernel_rfl) (by kernel_rfl) (by kernel_rfl)))
   <| allOk_cons (okg 2 true 26 rfl (by kernel_rfl) (by kernel_rfl) (by kernel_rfl) (l_s2a (.tmp 29) g o 64 c (by decide) rfl (hs 29 _ (by kernel_rfl) (by kernel_rfl)) (by kernel_rfl)))
   <| allOk_cons (okg 2 true 26 rfl (by kernel_rfl) (by kernel_rfl) (by kernel_rfl) (l_loadV (.tmp 30) (⟨g,o,none⟩) 307 (.agg (l.map b8).toArray) rfl (hs 30 (.pointer (some ⟨g,o,none⟩)) (by kernel_rfl) (by kernel_rfl)) (λw d=>a9 w d) (by kernel_rfl)))
   <| allOk_cons (okg 2 true 26 rfl (by kernel_rfl) (by kernel_rfl) (by kernel_rfl) (l_eqArr (.tmp 28) (.tmp 31) _ m l aK C rfl (hs 28 _ (by kernel_rfl) (by kernel_rfl)) (hs 31 _ (by kernel_rfl) (by kernel_rfl)) (by kernel_rfl)))
   <| allOk_cons (ok_none rfl (l_pickT (.tmp 26) (.tmp 32) (.const (Go.Value.bool false)) (.bool (m == l)) rfl (hs 26 (.bool true) (by kernel_rfl) (by kernel_rfl)) (hs 32 (.bool (m == l)) (by kernel_rfl) (by kernel_rfl)) (by kernel_rfl)))
   <| allOk_nil) ?_
  intro a W7 K G u hF E
  have I:a.eval (.tmp 33) = .bool (m == l):=hF 33
  have ha:=Reg.acts_eq [24,25,26,27,28,29,30,31,32,33] K G E
  clear hF E G
  simp only[List.foldl_cons,List.foldl_nil,I] at ha
  clear I K
  generalize a.eval (.tmp 24)=v24 at *
  generalize a.eval (.tmp 25)=v25 at *
  generalize a.eval (.tmp 26)=v26 at *
  generalize a.eval (.tmp 27)=v27 at *
  generalize a.eval (.tmp 28)=v28 at *
  generalize a.eval (.tmp 29)=aW at *
  generalize a.eval (.tmp 30)=aS at *
  generalize a.eval (.tmp 31)=aR at *
  generalize a.eval (.tmp 32)=aZ at *
  simp only[Act.put,zA,zF,zG] at ha
  subst ha
  simp only[Exit.then]
  refine ‹∀(a:Act) (w:World),Code.wp Tryz.prog _ _ a w->_› _ W7 ?_
  have n:=N.below u N.lt
  have a7:=M.below u M.lt
  have O:Below w.heap.size w W7:=X.trans (u.mono T)
  clear C aK
  cases hq:(m == l) with
  | false =>
   go_wp2_with (refine wp_storeW rfl 185 (.tmp 2) (.tmp 35) rfl w.heap.size rfl rfl rowHead n (by rfl) (by rfl) zeroHead_one ?_)
   refine bodyPost_ret_by (results_cellW_tmp 2 3 rfl rfl rfl rowHead (n.setRow _) (by rfl)) rfl ⟨?_,below_setRow O (zH _) _⟩
   rw[Z.out,HY.out,hq]
   rfl
  | true =>
   go_wp2_with (first
    | (refine wp_loadW rfl 185 (.tmp 5) rfl i rfl rowHead a7 (by rfl) ?_)
    | (refine wp_storeW rfl 185 (.tmp 2) (.tmp 34) rfl w.heap.size rfl rfl rowHead n (by rfl) (by rfl) (head_one _ _ _ _) ?_))
   refine bodyPost_ret_by (results_cellW_tmp 2 3 rfl rfl rfl rowHead (n.setRow _) (by rfl)) rfl ⟨?_,below_setRow O (zH _) _⟩
   rw[Z.out,HY.out,hq]
   rfl
theorem decodeHead_gives (w:World)(A:Option Addr)(c:Nat)(l:List UInt8)(h:InB w w.heap.size A c l) :
  Calls Tryz.prog 162 #[.slice A l.length c] w λx w'=>x = .returned (decHV l)/\Below w.heap.size w w':=by
 by_cases hl:l.length=64
 ·rw[hl]
  exact decodeHead_64 w A c l h hl
 ·exact decodeHead_len w A c l h hl


theorem run_eq_nil {P:Program}(w:World)(t e:TypeId)(A:Option Addr)(n c:Nat)(ht:P.underlying t=some (.slice e)):(binOp .eql t (.slice A n c) (.slice none 0 0)).run P w = .ok (.bool A.isNone) w:=by
 have d:binOp .eql t (.slice A n c) (.slice none 0 0)=(do pure (.bool (<-Op.equalIn (9999+1) t (.slice A n c) (.slice none 0 0)))):=rfl
 have h:(Op.equalIn (9999+1) t (.slice A n c) (.slice none 0 0)).run P w = .ok A.isNone w:=by
  unfold Op.equalIn
  cases A<;>simp[run_underlying ht]
 rw[d]
 simp only[Sem.run_bind,h,Result.andThen,Sem.run_pure]
theorem clone_gives (w:World)(A:Option Addr)(c:Nat)(l:List UInt8)(h:InB w w.heap.size A c l)(hl:l.length<=100000000000):Calls Tryz.prog 116 #[.slice A l.length c] w (GivesB w l):=by
 have n:=h.le
 rcases A with _|i
 ·have hc:=h.nil rfl
  subst hc
  obtain rfl:l=[]:=zZ (by omega)
  have hq:=λW=>run_eq_nil (P:=Tryz.prog) W 87 5 none 0 0 Tryz.underlying87
  go_enter Tryz.func116,Tryz.ntmps116
  go_wp2
  go_ret
  exact⟨_,rfl,OwnB.nil _ _,Below.refl _ _⟩
 ·have e:OwnB (w.alloc (.cells #[] 5)) w.heap.size (.slice (some ⟨w.heap.size,0,none⟩) 0 0) []:=World.ownsRow_lit w #[] 0 (zH _) (by unfold maxLen;omega) rfl
  have d:Below w.heap.size w (w.alloc (.cells #[] 5)):=(Below.refl _ w).alloc (zH _) _
  have h1:=h.below d
  have hq:=λW=>run_eq_nil (P:=Tryz.prog) W 87 5 (some i) l.length c Tryz.underlying87
  go_enter Tryz.func116,Tryz.ntmps116
  go_wp2_with (at_builtin;refine wp_appB rfl (.tmp 5) (.tmp 6) rfl w.heap.size (.slice (some ⟨w.heap.size,0,none⟩) 0 0) [] rfl e _ (some i) c l rfl h1 (by simp;omega) (by simp) ?_;intro v1 q j m)
  go_ret
  rw[zV] at j
  exact⟨_,rfl,j,d.trans (grown_below m d.size e.ownGe)⟩
def zeroFr:Array Value:=#[.int .u64 0,.int .i64 0,.int .i64 0,.bool false,.int .i64 0,.int .u32 0,.slice none 0 0]
theorem frCells_one (e:Nat)(i p:Int)(f:Bool)(z:Int)(n:Nat)(A:Option Addr)(len k:Nat):∀v∈(frCells e i p f z n A len k).toList,v.oneCell'=true:=by
 intro v c
 simp[frCells] at c
 rcases c with rfl|rfl|rfl|rfl|rfl|rfl|rfl<;>rfl
namespace Reg
variable {L:List (Nat×Fact)}{ops:Array Oper}{w0:World}{o:Oper}{P:Program}
end Reg
theorem setCell_grownBy (w:World)(p:Addr)(u:Value):w.grownBy (w.setCell p u) (some p.block):=⟨rfl,rfl,rfl,by simp,λk _ c=>Below.heap_setCell w p u k (λe=>c (by rw[e]))⟩
theorem OwnB.apart {w w':World}{base:Nat}{v:Value}{l:List UInt8}(h:OwnB w base v l){r:Nat}(c:w.grownBy w' (some r))(i:r<base):OwnB w' base v l :=
 World.ownsRow.kept h c (by
  cases d:v.ownBlock with
  | none=>exact .inl rfl
  | some b=>exact .inr (λe=>by injection e with e;have:=h.ownGe b d;omega))
def zer64:List UInt8:=zR 64 0
@[reducible] def secV (l:List UInt8):Value:=.agg (l.map b8).toArray
structure Ents (es:Array MapEntry)(f:Nat->Option (List UInt8)):Prop where
 keys:∀(i:Nat) e,es[i]? = some e->∃k l,f k=some l/\e.key = .int .i64 (k:Int)/\e.val=secV l
 all:∀k l,f k=some l->∃(i:Nat) (e:MapEntry),es[i]? = some e/\e.key = .int .i64 (k:Int)/\e.val=secV l
 inj:∀(i j:Nat) e e',es[i]? = some e->es[j]? = some e'->e.key=e'.key->i=j
theorem Ents.empty:Ents #[] (λ_=>none):=⟨λi e h=>by simp at h,λk l h=>by simp at h,λi j e c h=>by simp at h⟩
theorem key_inj {k m:Nat}(h:Value.int .i64 (k:Int) = .int .i64 (m:Int)):k=m:=by injection h with _ h;omega
def fset (f:Nat->Option (List UInt8))(k:Nat)(x:Option (List UInt8)):Nat->Option (List UInt8):=λm=>if m=k then x else f m
section
variable {es:Array MapEntry}{f:Nat->Option (List UInt8)}
theorem Ents.find (h:Ents es f)(k:Nat):(Instr.findNow (.int .i64) (.int .i64 (k:Int)) es.toList 0=some none/\f k=none) ∨
  ∃j e l,Instr.findNow (.int .i64) (.int .i64 (k:Int)) es.toList 0=some (some (j,e.val))/\es[j]? = some e/\e.key = .int .i64 (k:Int)/\f k=some l/\e.val=secV l:=by
 have s:MapKept.IsKey (.int .i64) (.int .i64 (k:Int)):=rfl
 have v:∀x∈es.toList,MapKept.IsKey (.int .i64) x.key:=by
  intro x q
  obtain⟨i,A,rfl⟩:=List.getElem_of_mem q
  obtain⟨m,l,_,h2,_⟩:=h.keys i es.toList[i] (by rw[<-qH];exact zM A)
  rw[h2]
  rfl
 rcases MapKept.findNow_spec s es.toList 0 v with⟨h1,h2⟩|⟨j,e,h1,h2,h3⟩
 ·left
  refine⟨h1,?_⟩
  cases hf:f k with
  | none=>rfl
  | some l =>
   obtain⟨i,e,c,d,_⟩:=h.all k l hf
   exact absurd d (h2 e (Array.mem_toList_iff.2 (Array.mem_of_getElem? c)))
 ·right
  have c:es[j]? = some e:=by rw[<-qH];exact h2
  obtain⟨m,l,d,n,u⟩:=h.keys j e c
  have:m=k:=key_inj (n.symm.trans h3)
  subst this
  exact⟨j,e,l,by simpa using h1,c,h3,d,u⟩
theorem Ents.push (h:Ents es f){k:Nat}(C:f k=none)(l:List UInt8)(born:Nat):Ents (es.push { key:=.int .i64 (k:Int),val:=secV l,born:=born }) (fset f k (some l)):=by
 refine⟨λi e c => ?_,λm u s => ?_,λi j e v n d B => ?_⟩
 ·rw[Array.getElem?_push] at c
  split at c
  ·injection c with c
   subst c
   exact⟨k,l,by simp[fset],rfl,rfl⟩
  ·obtain⟨m,u,h1,h2,A⟩:=h.keys i e c
   refine⟨m,u,?_,h2,A⟩
   have:m≠k:=λe=>by subst e;rw[C] at h1;cases h1
   simp[fset,this,h1]
 ·by_cases e:m=k
  ·subst e
   simp[fset] at s
   subst s
   exact⟨es.size,{ key:=.int .i64 (m:Int),val:=secV l,born:=born },by simp,rfl,rfl⟩
  ·simp only[fset,if_neg e] at s
   obtain⟨i,v,h1,h2,A⟩:=h.all m u s
   refine⟨i,v,?_,h2,A⟩
   have:=(zI.1 h1).1
   rw[Array.getElem?_push,if_neg (by omega)]
   exact h1
 ·rw[Array.getElem?_push] at n d
  have E:∀(q:Nat) (e:MapEntry),es[q]? = some e->e.key≠.int .i64 (k:Int):=λq e c hq=>by
   obtain⟨m,u,h1,h2,_⟩:=h.keys q e c
   have:=key_inj (h2.symm.trans hq)
   subst this
   rw[C] at h1
   cases h1
  split at n
  ·split at d
   ·omega
   ·injection n with n
    subst n
    exact absurd B.symm (E j v d)
  ·split at d
   ·injection d with d
    subst d
    exact absurd B (E i e n)
   ·exact h.inj i j e v n d B
theorem Ents.modify (h:Ents es f){k i:Nat}{e:MapEntry}(u:es[i]? = some e)(C:e.key = .int .i64 (k:Int))(l:List UInt8):Ents (es.modify i λe => { e with key:=.int .i64 (k:Int),val:=secV l }) (fset f k (some l)):=by
 have v:∀j,(es.modify i λe => { e with key:=.int .i64 (k:Int),val:=secV l })[j]? = if i=j then some { e with key:=.int .i64 (k:Int),val:=secV l } else es[j]?:=λj=>by
  rw[Array.getElem?_modify]
  split
  ·rename_i c
   subst c
   rw[u]
   rfl
  ·rfl
 refine⟨λj A d => ?_,λm E s => ?_,λa b n K ha O I => ?_⟩
 ·rw[v] at d
  split at d
  ·injection d with d
   subst d
   exact⟨k,l,by simp[fset],rfl,rfl⟩
  ·rename_i c
   obtain⟨m,E,h1,h2,B⟩:=h.keys j A d
   refine⟨m,E,?_,h2,B⟩
   have:m≠k:=λq=>by
    subst q
    exact c (h.inj i j e A u d (by rw[C,h2]))
   simp[fset,this,h1]
 ·by_cases q:m=k
  ·subst q
   simp[fset] at s
   subst s
   exact⟨i,_,by rw[v,if_pos rfl],rfl,rfl⟩
  ·simp only[fset,if_neg q] at s
   obtain⟨j,A,h1,h2,B⟩:=h.all m E s
   have c:i≠j:=λc=>by
    subst c
    rw[u] at h1
    injection h1 with h1
    subst h1
    exact q (key_inj (h2.symm.trans C))
   exact⟨j,A,by rw[v,if_neg c];exact h1,h2,B⟩
 ·have G:∀(a:Nat) (n:MapEntry),(es.modify i λe => { e with key:=.int .i64 (k:Int),val:=secV l })[a]? = some n->∃F:MapEntry,es[a]? = some F/\F.key=n.key:=λa n ha=>by
   rw[v] at ha
   split at ha
   ·rename_i hia
    subst hia
    injection ha with ha
    subst ha
    exact⟨e,u,C⟩
   ·exact⟨n,ha,rfl⟩
  obtain⟨x,N,H⟩:=G a n ha
  obtain⟨y,M,S⟩:=G b K O
  exact h.inj a b x y N M (by rw[H,S,I])
theorem Ents.erase (h:Ents es f){k i:Nat}{e:MapEntry}(A:es[i]? = some e)(F:e.key = .int .i64 (k:Int)):Ents (es.eraseIdxIfInBounds i) (fset f k none):=by
 have hi:=(zI.1 A).1
 have B:∀j,(es.eraseIdxIfInBounds i)[j]? = if j<i then es[j]? else es[j+1]?:=λj=>by
  unfold Array.eraseIdxIfInBounds
  rw[dif_pos hi]
  rw[<-qH,Array.toList_eraseIdx,List.getElem?_eraseIdx]
  split<;>rw[qH]
 have C:∀j c,(es.eraseIdxIfInBounds i)[j]? = some c->∃d,d≠i/\es[d]? = some c/\(j<i->d=j)/\(¬ j<i->d=j+1):=λj c n=>by
  rw[B] at n
  split at n
  ·exact⟨j,by omega,n,λ_=>rfl,λh=>by omega⟩
  ·exact⟨j+1,by omega,n,λh=>by omega,λ_=>rfl⟩
 refine⟨λj c n => ?_,λm v u => ?_,λa b E H ha Z U => ?_⟩
 ·obtain⟨d,V,I,_⟩:=C j c n
  obtain⟨m,v,h1,h2,s⟩:=h.keys d c I
  refine⟨m,v,?_,h2,s⟩
  have:m≠k:=λq=>by
   subst q
   exact V (h.inj d i c e I A (by rw[F,h2]))
  simp[fset,this,h1]
 ·by_cases q:m=k
  ·subst q
   simp[fset] at u
  ·simp only[fset,if_neg q] at u
   obtain⟨j,c,h1,h2,s⟩:=h.all m v u
   have M:j≠i:=λM=>by
    subst M
    rw[A] at h1
    injection h1 with h1
    subst h1
    exact q (key_inj (h2.symm.trans F))
   by_cases aA:j<i
   ·exact⟨j,c,by rw[B,if_pos aA];exact h1,h2,s⟩
   ·exact⟨j - 1,c,by rw[B,if_neg (by omega),show j - 1+1=j by omega];exact h1,h2,s⟩
 ·obtain⟨X,_,T,O,K⟩:=C a E ha
  obtain⟨S,_,W,G,N⟩:=C b H Z
  have:=h.inj X S E H T W U
  by_cases c1:a<i<;>by_cases c2:b<i
  ·have:=O c1;have:=G c2;omega
  ·have:=O c1;have:=N c2;omega
  ·have:=K c1;have:=G c2;omega
  ·have:=K c1;have:=N c2;omega
end
def spar (g:Nat->List UInt8):Nat->Option (List UInt8):=λk=>if g k=zer64 then none else some (g k)
structure MapF (w:World)(r:Nat)(g:Nat->List UInt8):Prop where
 len:∀k,(g k).length=64
 lies:∃es clock,MapIs w r es clock/\Ents es (spar g)/\MapKept.Stamped es clock
def gset (g:Nat->List UInt8)(k:Nat)(l:List UInt8):Nat->List UInt8:=λm=>if m=k then l else g m
theorem MapF.lt {w:World}{r:Nat}{g:Nat->List UInt8}(h:MapF w r g):r<w.heap.size:=by obtain⟨es,c,d,_⟩:=h.lies;exact d.lt
theorem MapF.keep {w w':World}{r:Nat}{g:Nat->List UInt8}(h:MapF w r g)(i:w'.heap[r]? = w.heap[r]?):MapF w' r g:=by
 obtain⟨es,c,d,e⟩:=h.lies
 exact⟨h.len,es,c,i.trans d,e⟩
theorem MapF.below {w w':World}{B r:Nat}{g:Nat->List UInt8}(h:MapF w r g)(hB:Below B w w')(c:r<B):MapF w' r g:=h.keep (hB.block r c)
theorem MapF.grow {w w':World}{r:Nat}{g:Nat->List UInt8}(h:MapF w r g)(hB:Below w.heap.size w w'):MapF w' r g:=h.below hB h.lt
theorem MapF.setCell {w:World}{r:Nat}{g:Nat->List UInt8}(h:MapF w r g)(p:Addr)(v:Value):MapF (w.setCell p v) r g:=by
 by_cases d:p.block=r
 ·obtain⟨es,c,j,m⟩:=h.lies
  refine⟨h.len,es,c,?_,m⟩
  have i:w.heap[r]? = some (.map es c):=j
  subst d
  unfold MapIs World.setCell
  simp[Array.getElem?_modify,i]
 ·exact h.keep (Below.heap_setCell w p v r (λe=>d e.symm))
theorem rowDSec:RowTy Tryz.prog 329 64:=⟨⟨_,Tryz.underlying329,rfl⟩,by kernel_rfl⟩
section
variable {P:Program}{w w':World}{ops:Array Oper}{rest:List Oper}{o:Oper}{a:Act}{Q:Exit->Act->World->Prop}
theorem wp_exec {v:Value}(c:o.guard=none)(e:(execOp a.eval o).run P w = .ok (.value v) w')(h:wpList P ops Q rest (a.put o.dst v) w'):wpList P ops Q (o::rest) a w :=
 wpList_plain c λ_ d=>by
  unfold Oper.wp
  rw[e]
  exact d _ _ h
theorem wp_execS (c:o.guard=none)(e:(execOp a.eval o).run P w = .ok .skip w')(h:wpList P ops Q rest (a.put o.dst undef) w'):wpList P ops Q (o::rest) a w :=
 wpList_plain c λ_ d=>by
  unfold Oper.wp
  rw[e]
  exact d _ _ h
end
section
variable {ρ:Operand->Value}{w:World}{o:Oper}{x y z:Operand}
theorem x_eqSec {xs c:List UInt8}(d:xs.length=64)(i:c.length=64){T:TypeId}(h:o.op = .binOp .eql 329 x y T)(h1:ρ x=secV xs)(h2:ρ y=secV c):(execOp ρ o).run Tryz.prog w = .ok (.value (.bool (xs == c))) w:=by
 unfold secV at h1 h2
 have j:(binOp .eql 329 (.agg (xs.map b8).toArray) (.agg (c.map b8).toArray)).run Tryz.prog w = .ok (.bool (xs == c)) w :=
  run_eql_bytes w 329 5 64 Tryz.underlying329 Tryz.underlying5 (λw=>by simp[go_sem]) xs c d i
 have e:Tryz.prog.eqGuardType Tryz.prog.depth 329=false:=by kernel_rfl
 simp only[execOp,h,h1,h2,Sem.run_bind,run_eqGuard_agg w .eql 329 x y _ _ e,Result.andThen_ok,j,Sem.run_pure]
theorem x_zeroSec (c:o.op = .build 329 #[]):(execOp ρ o).run Tryz.prog w = .ok (.value (secV zer64)) w:=by
 simp[execOp,c,go_sem,Result.andThen]
 kernel_rfl
section
variable {r k clock:Nat}{es:Array MapEntry}{f:Nat->Option (List UInt8)}{l:List UInt8}
theorem stampedSet {w:Value}(d:MapKept.Stamped es clock){j:Nat}{e:MapEntry}(h:es[j]? = some e)(i:e.key=w)(v:Value):MapKept.Stamped (es.modify j λe => { e with key:=w,val:=v }) clock :=
 MapKept.stamped_modify d j (λe => { e with key:=w,val:=v }) (λe _=>rfl) (λm _ c=>by rw[h] at c;injection c with c;subst c;exact i.symm)
theorem x_put (d:Ents es f)(q:MapKept.Stamped es clock)(v:MapIs w r es clock)(s:o.op = .mapUpdate 106 x y z)(h1:ρ x = .map (some r))(h2:ρ y = .int .i64 (k:Int))(n:ρ z=secV l) :
  ∃h clock',(execOp ρ o).run Tryz.prog w = .ok .skip (setMap w r h clock')/\Ents h (fset f k (some l))/\MapKept.Stamped h clock':=by
 have u:MapKept.IsKey (.int .i64) (.int .i64 (k:Int)):=rfl
 have hc:(Instr.checkKey false 10000 3 (.int .i64 (k:Int))).run Tryz.prog w = .ok () w:=MapKept.run_checkKey Tryz.underlying3 u false 9999
 have c:w.heap[r]? = some (.map es clock):=v
 rcases d.find k with⟨hf,hn⟩|⟨j,e,l0,hf,hj,hek,_,_⟩
 ·refine⟨_,clock+1,?_,d.push hn l clock,MapKept.stamped_push q λx A B=>by
   obtain⟨i,C,rfl⟩:=List.getElem_of_mem A
   obtain⟨m,F,h1,h2,_⟩:=d.keys i es.toList[i] (by rw[<-qH];exact zM C)
   have:=key_inj (h2.symm.trans B)
   subst this
   rw[hn] at h1
   cases h1⟩
  simp[execOp,s,h1,h2,n,Instr.mapUpdate,run_underlying Tryz.underlying106,MapKept.run_getObj_map c,hc,MapKept.run_findKey Tryz.underlying3 hf,MapKept.run_setObj_map _ c,Result.andThen,setMap]
 ·refine⟨_,clock,?_,d.modify hj hek l,stampedSet q hj hek (secV l)⟩
  have E:(((es[j]?).map (·.key)).getD (.int .i64 (k:Int))) = .int .i64 (k:Int):=by rw[hj];exact hek
  simp[execOp,s,h1,h2,n,Instr.mapUpdate,run_underlying Tryz.underlying106,MapKept.run_getObj_map c,hc,MapKept.run_findKey Tryz.underlying3 hf,hj,hek,MapKept.run_keyThatStays u,MapKept.run_setObj_map _ c,Result.andThen,setMap]
theorem x_del (d:Ents es f)(i:MapKept.Stamped es clock)(q:MapIs w r es clock)(n:o.op = .call { callee:=.builtin .delete,args:=#[x,y],argTypes:=#[106,3] })(h1:ρ x = .map (some r))(h2:ρ y = .int .i64 (k:Int)) :
  ∃h,(execOp ρ o).run Tryz.prog w = .ok (.value (.tuple #[])) (setMap w r h clock)/\Ents h (fset f k none)/\MapKept.Stamped h clock:=by
 have s:MapKept.IsKey (.int .i64) (.int .i64 (k:Int)):=rfl
 have hc:(Instr.checkKey es.isEmpty 10000 3 (.int .i64 (k:Int))).run Tryz.prog w = .ok () w:=MapKept.run_checkKey Tryz.underlying3 s _ 9999
 have c:w.heap[r]? = some (.map es clock):=q
 rcases d.find k with⟨hf,hn⟩|⟨j,e,l0,hf,hj,hek,_,_⟩
 ·refine⟨es,?_,?_⟩
  ·simp[execOp,n,h1,h2,resolve,invoke,builtin,Builtin.delete_,run_underlying Tryz.underlying106,MapKept.run_getObj_map c,hc,MapKept.run_findKey Tryz.underlying3 hf,MapKept.run_setObj_map _ c,Result.andThen,setMap]
  ·have:fset f k none=f:=by
    funext m
    unfold fset
    split
    ·rename_i e
     rw[e,hn]
    ·rfl
   rw[this]
   exact⟨d,i⟩
 ·refine⟨_,?_,d.erase hj hek,MapKept.stamped_erase i j⟩
  simp[execOp,n,h1,h2,resolve,invoke,builtin,Builtin.delete_,run_underlying Tryz.underlying106,MapKept.run_getObj_map c,hc,MapKept.run_findKey Tryz.underlying3 hf,MapKept.run_setObj_map _ c,Result.andThen,setMap]
theorem x_lookup {g:Nat->List UInt8}(h:MapF w r g)(d:o.op = .lookup 106 x y false)(h1:ρ x = .map (some r))(h2:ρ y = .int .i64 (k:Int)):(execOp ρ o).run Tryz.prog w = .ok (.value (secV (g k))) w:=by
 obtain⟨es,clock,q,n,_⟩:=h.lies
 have u:MapKept.IsKey (.int .i64) (.int .i64 (k:Int)):=rfl
 have hc:(Instr.checkKey es.isEmpty 10000 3 (.int .i64 (k:Int))).run Tryz.prog w = .ok () w:=MapKept.run_checkKey Tryz.underlying3 u _ 9999
 have c:w.heap[r]? = some (.map es clock):=q
 rcases n.find k with⟨hf,hn⟩|⟨j,e,l0,hf,hj,hek,hfk,hv⟩
 ·have i:g k=zer64:=by
   unfold spar at hn
   split at hn
   ·assumption
   ·cases hn
  rw[i]
  have s:(zeroValue 329).run Tryz.prog w = .ok (secV zer64) w:=by
   simp[go_sem]
   kernel_rfl
  simp[execOp,d,h1,h2,Instr.lookup,run_underlying Tryz.underlying106,MapKept.run_getObj_map c,hc,MapKept.run_findKey Tryz.underlying3 hf,s,Result.andThen]
 ·have m:l0=g k:=by
   unfold spar at hfk
   split at hfk
   ·cases hfk
   ·injection hfk with hfk
    exact hfk.symm
  subst m
  rw[<-hv]
  simp[execOp,d,h1,h2,Instr.lookup,run_underlying Tryz.underlying106,MapKept.run_getObj_map c,hc,MapKept.run_findKey Tryz.underlying3 hf,Result.andThen]
end
end
section
variable {w:World}{ops:Array Oper}{rest:List Oper}{o:Oper}{a:Act}{Q:Exit->Act->World->Prop}{r k clock:Nat}{es:Array MapEntry}{f:Nat->Option (List UInt8)}{l:List UInt8}
theorem wp_mput (i:o.guard=none)(x y z:Operand)(q:o.op = .mapUpdate 106 x y z)(h1:a.eval x = .map (some r))(h2:a.eval y = .int .i64 (k:Int))(e:a.eval z=secV l)(s:Ents es f)(j:MapKept.Stamped es clock)(n:MapIs w r es clock)
  (h:∀c d,Ents c (fset f k (some l))->MapKept.Stamped c d->wpList Tryz.prog ops Q rest (a.put o.dst undef) (setMap w r c d)):wpList Tryz.prog ops Q (o::rest) a w:=by
 obtain⟨c,d,u,v,m⟩:=x_put s j n q h1 h2 e
 exact wp_execS i u (h _ _ v m)
theorem wp_mdel (d:o.guard=none)(x y:Operand)(q:o.op = .call { callee:=.builtin .delete,args:=#[x,y],argTypes:=#[106,3] })(h1:a.eval x = .map (some r))(h2:a.eval y = .int .i64 (k:Int))(m:Ents es f)(e:MapKept.Stamped es clock)(n:MapIs w r es clock)
  (h:∀c,Ents c (fset f k none)->MapKept.Stamped c clock->wpList Tryz.prog ops Q rest (a.put o.dst (.tuple #[])) (setMap w r c clock)):wpList Tryz.prog ops Q (o::rest) a w:=by
 obtain⟨c,s,j,i⟩:=x_del m e n q h1 h2
 exact wp_exec d s (h _ j i)
end
theorem spar_set {g:Nat->List UInt8}{k:Nat}{l:List UInt8}(h:l≠zer64):fset (spar g) k (some l)=spar (gset g k l):=by
 funext m
 unfold fset spar gset
 by_cases e:m=k<;>simp[e,h]
theorem spar_del {g:Nat->List UInt8}{k:Nat}(x:Option (List UInt8)):fset (fset (spar g) k x) k none=spar (gset g k zer64):=by
 funext m
 unfold fset spar gset
 by_cases e:m=k<;>simp[e]
section
variable {P:Program}(w:World)
theorem run_eql_map_nil (t k e:TypeId)(p:Option Nat)(h:P.underlying t=some (.map k e)):(binOp .eql t (.map p) (.map none)).run P w = .ok (.bool p.isNone) w:=by
 have c:binOp .eql t (.map p) (.map none)=(do pure (.bool (<-Op.equalIn (9999+1) t (.map p) (.map none)))):=rfl
 have h1:(Op.equalIn (9999+1) t (.map p) (.map none)).run P w = .ok p.isNone w:=by
  unfold Op.equalIn
  cases p<;>simp[run_underlying h]
 rw[c]
 simp only[Sem.run_bind,h1,Result.andThen,Sem.run_pure]
theorem run_typeAssert_map (t c k e:TypeId)(v:Value)(h:P.underlying t=some (.map k e)):(Instr.typeAssert (.iface t v) c t false).run P w = .ok v w:=by
 simp[Instr.typeAssert,run_underlying h,go_sem,Result.andThen]
theorem run_mclone {r:Nat}{es:Array MapEntry}{clock:Nat}(t:TypeId)(c:w.heap[r]? = some (.map es clock)) :
  (Extern.MapsClone.clone #[.iface t (.map (some r))]).run P w = .ok (.iface t (.map (some w.heap.size))) (w.alloc (.map es clock)):=by
 have e:Extern.MapsClone.clone #[.iface t (.map (some r))]=(getObj r >>= λo=>match o with
   | .map entries clock=>(newObj (.map entries clock) >>= λn=>pure (.iface t (.map (some n))))
   | _ => stuck "maps.clone: a map expected") := rfl
 rw[e]
 simp[MapKept.run_getObj_map c,Result.andThen,go_sem]
end
theorem put_gives (w:World)(r k:Nat)(g:Nat->List UInt8)(l:List UInt8)(hl:l.length=64)(h:MapF w r g) :
  Calls Tryz.prog 295 #[.map (some r),.int .i64 (k:Int),secV l] w λe w'=>(∃v,e = .returned v)/\MapF w' r (gset g k l)/\w.grownBy w' (some r):=by
 obtain⟨es,clock,H,I,G⟩:=h.lies
 have O:=BlkIs.new w 329 (l.map b8).toArray
 have E:w.grownBy (w.alloc (.cells (l.map b8).toArray 329)) (some r):=⟨rfl,rfl,rfl,by simp,λj X _=>Below.heap_alloc w _ j X⟩
 have d:MapIs (w.alloc (.cells (l.map b8).toArray 329)) r es clock:=(Below.heap_alloc w _ r H.lt).trans H
 have N:∀m,(gset g k l m).length=64:=λm=>by unfold gset;split;exact hl;exact h.len m
 have S:(l.map b8).toArray.size=64:=by simp[hl]
 have K:RowTy Tryz.prog 329 (l.map b8).toArray.size:=by rw[S];exact rowDSec
 have F:=Lib.hid hl
 have M:zer64.length=64:=by decide
 clear hl S
 go_enter Tryz.func295,Tryz.ntmps295
 by_cases n:l=zer64
 ·have hq:(l == zer64)=true:=by simpa using n
  have B:=Lib.hid n
  clear n
  go_wp2_with (first
   | (refine wp_loadW rfl 329 (.tmp 5) rfl w.heap.size rfl K (by with_reducible assumption) rfl ?_)
   | (refine wp_mput rfl (.tmp 6) (.tmp 7) (.tmp 8) rfl rfl rfl rfl I G d ?_;intro i c C A;have q:=d.set i c;have u:=grownBy_trans E (setMap_grown d i c);have V:=O.setMap d i c)
   | (refine wp_exec rfl (x_zeroSec rfl) ?_)
   | (refine wp_exec rfl (x_eqSec F.out M rfl rfl rfl) ?_;rw[hq])
   | (refine wp_mdel rfl (.tmp 12) (.tmp 13) rfl rfl rfl C A q ?_;intro s U Z;have W:=q.set s c;have T:=grownBy_trans u (setMap_grown q s c)))
  go_end0
  refine⟨⟨_,rfl⟩,⟨N,s,c,W,?_,Z⟩,T⟩
  rw[B.out,<-spar_del (some l)]
  exact U
 ·have hq:(l == zer64)=false:=by simpa using n
  have B:=Lib.hid n
  clear n
  go_wp2_with (first
   | (refine wp_loadW rfl 329 (.tmp 5) rfl w.heap.size rfl K (by with_reducible assumption) rfl ?_)
   | (refine wp_mput rfl (.tmp 6) (.tmp 7) (.tmp 8) rfl rfl rfl rfl I G d ?_;intro i c C A;have q:=d.set i c;have u:=grownBy_trans E (setMap_grown d i c);have V:=O.setMap d i c)
   | (refine wp_exec rfl (x_zeroSec rfl) ?_)
   | (refine wp_exec rfl (x_eqSec F.out M rfl rfl rfl) ?_;rw[hq]))
  go_end0
  refine⟨⟨_,rfl⟩,⟨N,i,c,q,?_,A⟩,u⟩
  rw[<-spar_set B.out]
  exact C
theorem mclone_gives (w:World)(r:Nat)(g:Nat->List UInt8)(h:MapF w r g) :
  Calls Tryz.prog 294 #[.map (some r)] w λe w'=>e = .returned (.map (some w.heap.size))/\MapF w' w.heap.size g/\Below w.heap.size w w':=by
 obtain⟨es,clock,i,j⟩:=h.lies
 have d:w.heap[r]? = some (.map es clock):=i
 have c:MapF (w.alloc (.map es clock)) w.heap.size g:=⟨h.len,es,clock,heap_alloc_new w _,j⟩
 have hB:Below w.heap.size w (w.alloc (.map es clock)):=(Below.refl _ _).alloc (zH _) _
 go_enter Tryz.func294,Tryz.ntmps294
 have hq:=λW=>run_eql_map_nil (P:=Tryz.prog) W 106 _ _ (some r) Tryz.underlying106
 go_wp2_with fail
 rw[run_callFunc_extern Tryz.func326 (by kernel_rfl) (by kernel_rfl) (by kernel_rfl) (e:=Extern.MapsClone.clone) (by kernel_rfl),run_mclone w 106 d]
 simp only[Result.andThen]
 rw[Oper.upon_value]
 go_wp2
 rw[run_typeAssert_map _ 106 20 _ _ _ Tryz.underlying106]
 simp only[Result.andThen]
 rw[Oper.upon_value]
 go_wp2
 go_ret
 exact⟨rfl,c,hB⟩
def lsC (x:Nat×List UInt8):List Value:=.int .i64 (x.1:Int)::x.2.map b8
def flC (xs:List (Nat×List UInt8)):List Value:=(xs.map lsC).flatten
def Wide (xs:List (Nat×List UInt8)):Prop:=∀x∈xs,x.2.length=64
theorem lsC_length {x:Nat×List UInt8}(h:x.2.length=64):(lsC x).length=65:=by simp[lsC,h]
theorem flC_length {xs:List (Nat×List UInt8)}(h:Wide xs):(flC xs).length=xs.length*65:=by
 induction xs with
 | nil=>rfl
 | cons x xs ih =>
  have h1:=ih (λy c=>h y (by simp[c]))
  have h2:=lsC_length (h x (by simp))
  have e:flC (x::xs)=lsC x++flC xs:=rfl
  rw[e,zJ,h1,h2,zP]
  omega
theorem flC_append (xs ys:List (Nat×List UInt8)):flC (xs++ys)=flC xs++flC ys:=by simp[flC]
theorem flC_elem {xs:List (Nat×List UInt8)}(h:Wide xs)(j:Nat)(c:j<xs.length):((flC xs).drop (j*65)).take 65=lsC xs[j]:=by
 have e:flC xs=flC (xs.take j)++(lsC xs[j] ++ flC (xs.drop (j+1))):=by
  have i:lsC xs[j] ++ flC (xs.drop (j+1))=flC (xs[j] :: xs.drop (j+1)):=rfl
  rw[i,<-flC_append,<-List.drop_eq_getElem_cons c,List.take_append_drop]
 have hl:(flC (xs.take j)).length=j*65:=by
  rw[flC_length (λx d=>h x (List.mem_of_mem_take d)),qG]
  congr 1
  omega
 rw[e,<-hl,List.drop_left]
 have m:=lsC_length (h xs[j] (qF c))
 rw[List.take_append_of_le_length (by omega),qI (by omega)]
theorem lsC_one (x:Nat×List UInt8):∀v∈lsC x,v.oneCell'=true:=by
 intro v c
 simp[lsC] at c
 rcases c with rfl|⟨y,_,rfl⟩<;>rfl
theorem flC_one (xs:List (Nat×List UInt8)):∀v∈flC xs,v.oneCell'=true:=by
 intro v c
 unfold flC at c
 obtain⟨l,hl,c⟩:=List.mem_flatten.1 c
 obtain⟨x,_,rfl⟩:=List.mem_map.1 hl
 exact lsC_one _ v c
def zeroLs:Value:=.agg (lsC (0,zer64)).toArray
theorem rowLoose:RowTy Tryz.prog 363 65:=⟨⟨_,Tryz.underlying363,rfl⟩,by kernel_rfl⟩
theorem elLoose:ElT 107 363 65 72 zeroLs:=⟨Tryz.underlying107,by kernel_rfl,by kernel_rfl,by decide⟩
def InW (w:World)(B:Nat)(A:Option Addr)(c:Nat)(xs:List (Nat×List UInt8)):Prop:=Wide xs/\InG w B 65 A xs.length c (flC xs)
theorem InW.grow {w w':World}{A:Option Addr}{c:Nat}{xs:List (Nat×List UInt8)}(h:InW w w.heap.size A c xs)(d:Below w.heap.size w w'):InW w' w'.heap.size A c xs:=⟨h.1,h.2.grow d⟩
theorem InW.mt (w:World)(B:Nat):InW w B none 0 []:=⟨λx h=>by simp at h,InG.mt _ _ _⟩
theorem InW.elem {w:World}{B g o c:Nat}{xs:List (Nat×List UInt8)}(h:InW w B (some ⟨g,o,none⟩) c xs)(j:Nat)(d:j<xs.length):w.rangeAt g (o+j*65) (lsC xs[j]):=by
 have:=h.2.elem j d
 rw[flC_elem h.1 j d] at this
 exact this
def dkC (r:Nat)(many:Int)(A:Option Addr)(n c:Nat)(left:Int)(stops:Bool):Array Value:=#[.map (some r),.int .i64 many,.slice A n c,.int .i64 left,.bool stops]
structure DkIs (w:World)(p:Nat)(many:Nat)(g:Nat->List UInt8)(xs:List (Nat×List UInt8))(left:Int)(stops:Bool):Prop where
 has:∃r A c,BlkIs w p 109 (dkC r many A xs.length c left stops)/\MapF w r g/\InW w w.heap.size A c xs
theorem DkIs.lt {w:World}{p many:Nat}{g:Nat->List UInt8}{xs:List (Nat×List UInt8)}{left:Int}{stops:Bool}(h:DkIs w p many g xs left stops):p<w.heap.size:=by
 obtain⟨r,A,c,d,_⟩:=h.has
 exact d.lt
theorem DkIs.grow {w w':World}{p many:Nat}{g:Nat->List UInt8}{xs:List (Nat×List UInt8)}{left:Int}{stops:Bool}(h:DkIs w p many g xs left stops)(hB:Below w.heap.size w w'):DkIs w' p many g xs left stops:=by
 obtain⟨r,A,c,d,e,i⟩:=h.has
 exact⟨r,A,c,d.below hB d.lt,e.grow hB,i.grow hB⟩
theorem InW.notDisk {w:World}{B q g o c:Nat}{xs:List (Nat×List UInt8)}{cs:Array Value}{T:TypeId}(h:InW w B (some ⟨g,o,none⟩) c xs)(d:0<xs.length)(i:BlkIs w q T cs)(hs:cs.size<=64):g≠q:=by
 intro e
 subst e
 have j:=h.elem 0 d
 have hl:=lsC_length (h.1 xs[0] (qF d))
 have:=j 64 ((lsC xs[0])[64]'(by omega)) (zM (by omega))
 rw[i.cell] at this
 have h2:=(zI.1 this).1
 omega
theorem DkIs.other {w w':World}{p q many:Nat}{g:Nat->List UInt8}{xs:List (Nat×List UInt8)}{left:Int}{stops:Bool}(h:DkIs w p many g xs left stops){cs:Array Value}{T:TypeId}(hq:BlkIs w q T cs)(hs:cs.size<=64)(C:p≠q)(i:w.grownBy w' (some q)):DkIs w' p many g xs left stops:=by
 obtain⟨r,A,c,H,m,s,d⟩:=h.has
 have G:r≠q:=λe=>by
  subst e
  obtain⟨es,K,h1,_⟩:=m.lies
  have h2:w.heap[r]? = some (.cells cs T (0,0)):=hq
  have I:w.heap[r]? = some (.map es K):=h1
  rw[I] at h2
  cases h2
 refine⟨r,A,c,H.grown i (λe=>C (by injection e)),m.keep (i.block r m.lt (λe=>G (by injection e))),s,?_⟩
 refine⟨d.le,d.max,d.nil,d.len,d.one,λu => ?_⟩
 obtain⟨b,o,e,n,F⟩:=d.lies u
 subst e
 have E:b≠q:=InW.notDisk (w:=w) (B:=w.heap.size) (c:=c) ⟨s,d⟩ u hq hs
 exact⟨b,o,rfl,zO n i.size,λj v M=>(World.cell?_of_block (i.block b n (λe=>E (by injection e)))).trans (F j v M)⟩
theorem lclone_gives (w:World)(A:Option Addr)(c:Nat)(xs:List (Nat×List UInt8))(h:InW w w.heap.size A c xs)(hl:xs.length<=1000000) :
  Calls Tryz.prog 298 #[.slice A xs.length c] w λe w'=>∃v,e = .returned v/\w'.ownsRow w.heap.size 363 65 v xs.length (flC xs)/\Below w.heap.size w w':=by
 obtain⟨B,d⟩:=h
 rcases A with _|n
 ·have hc:=d.nil rfl
  subst hc
  have s:=d.le
  obtain rfl:xs=[]:=zZ (by omega)
  have hq:=λW=>run_eq_nil (P:=Tryz.prog) W 107 363 none 0 0 Tryz.underlying107
  go_enter Tryz.func298,Tryz.ntmps298
  go_wp2
  go_ret
  exact⟨_,rfl,World.ownsRow_nil _ _ _ _,Below.refl _ _⟩
 ·have j:(w.alloc (.cells #[] 363)).ownsRow w.heap.size 363 65 (.slice (some ⟨w.heap.size,0,none⟩) 0 0) 0 []:=World.ownsRow_lit w #[] 0 (zH _) (by unfold maxLen;omega) rfl
  have i:Below w.heap.size w (w.alloc (.cells #[] 363)):=(Below.refl _ w).alloc (zH _) _
  have h1:=d.below i
  have hq:=λW=>run_eq_nil (P:=Tryz.prog) W 107 363 (some n) xs.length c Tryz.underlying107
  go_enter Tryz.func298,Tryz.ntmps298
  go_wp2_with (at_builtin;refine wp_appG rfl elLoose (.tmp 5) (.tmp 6) rfl w.heap.size (.slice (some ⟨w.heap.size,0,none⟩) 0 0) 0 [] rfl j _ (some n) xs.length c (flC xs) rfl h1 (by unfold maxLen;omega) (by omega) (by simp) ?_;intro v1 u m q)
  go_ret
  rw[zV,qC] at m
  exact⟨_,rfl,m,i.trans (grown_below q i.size (ownG_ge j))⟩
section
variable (w:World)(p many:Nat)(g:Nat->List UInt8)(xs:List (Nat×List UInt8))(left:Int)(stops:Bool)
theorem none_gives (h:DkIs w p many g xs left stops):Calls Tryz.prog 160 #[.pointer (some ⟨p,0,none⟩)] w λe w'=>e = .returned (.bool false)/\w=w':=by
 obtain⟨r,A,c,d,i,j⟩:=h.has
 have c0:w.cell? ⟨p,0,none⟩=some (.map (some r)):=by rw[d.cell];rfl
 have hq:=λW=>run_eql_map_nil (P:=Tryz.prog) W 106 _ _ (some r) Tryz.underlying106
 go_enter Tryz.func160,Tryz.ntmps160
 go_wp2
 go_ret
 exact⟨rfl,rfl⟩
theorem stopped_gives (h:DkIs w p many g xs left stops):Calls Tryz.prog 293 #[.pointer (some ⟨p,0,none⟩)] w λe w'=>e = .returned (.bool (stops && left == 0))/\w=w':=by
 have i:=none_gives w p many g xs left stops h
 obtain⟨r,A,c,d,j,m⟩:=h.has
 have c3:w.cell? ⟨p,3,none⟩=some (.int .i64 left):=by rw[d.cell];rfl
 have c4:w.cell? ⟨p,4,none⟩=some (.bool stops):=by rw[d.cell];rfl
 cases stops
 all_goals
  go_enter Tryz.func293,Tryz.ntmps293
  go_wp2_with (go_at_call 160;refine i.mono ?_;rintro e w' ⟨rfl,rfl⟩)
  go_ret
  exact⟨by simp,rfl⟩
theorem done_gives (h:DkIs w p many g xs left stops)(hl : -1000000<=left)(G:left<=9223372036854775807) :
  Calls Tryz.prog 233 #[.pointer (some ⟨p,0,none⟩)] w λe w'=>(∃v,e = .returned v)/\DkIs w' p many g xs (if stops then left - 1 else left) stops/\w.grownBy w' (some p)/\w'.cell? ⟨p,2,none⟩=w.cell? ⟨p,2,none⟩:=by
 have B:=h
 obtain⟨r,A,c,i,s,d⟩:=h.has
 have c3:w.cell? ⟨p,3,none⟩=some (.int .i64 left):=by rw[i.cell];rfl
 have c4:w.cell? ⟨p,4,none⟩=some (.bool stops):=by rw[i.cell];rfl
 have F:=i.free 3
 have H:IntKind.i64.wrap (left - 1)=left - 1:=wrap_i64_fr _ (by omega) (by omega)
 cases stops with
 | false =>
  go_enter Tryz.func233,Tryz.ntmps233
  go_wp2
  go_end0
  exact⟨⟨_,rfl⟩,B,World.grownBy.refl _ _,rfl⟩
 | true =>
  go_enter Tryz.func233,Tryz.ntmps233
  go_wp2
  go_end0
  have m:=setCell_grownBy w ⟨p,3,none⟩ (.int .i64 (left - 1))
  refine⟨⟨_,rfl⟩,⟨r,A,c,i.set 3 _,s.setCell _ _,d.1,?_⟩,m,World.cell?_setCell_other _ _ _ _ (by simp)⟩
  refine⟨d.2.le,d.2.max,d.2.nil,d.2.len,d.2.one,λq => ?_⟩
  obtain⟨b,o,e,n,C⟩:=d.2.lies q
  subst e
  have u:b≠p:=InW.notDisk d q i (by simp[dkC])
  exact⟨b,o,rfl,by simpa using n,λj v E=>(World.cell?_of_block (m.block b n (λe=>u (by injection e)))).trans (C j v E)⟩
end
structure Ask where
 f:Nat
 bd:Array Value
 lb:Array Value
 e:Int
 b:Bool
def Ask.fn (x:Ask):Value:=.func (.func x.f) x.bd x.lb
def askC (l:List Ask):List Value:=(l.map λx=>[x.fn,.int .i64 x.e]).flatten
theorem askC_cons (x:Ask)(l:List Ask):askC (x::l)=x.fn :: .int .i64 x.e::askC l:=rfl
theorem askC_length (l:List Ask):(askC l).length=l.length*2:=by
 induction l with
 | nil=>rfl
 | cons x l ih=>rw[askC_cons,zP,zP,ih,zP];omega
theorem askC_get (l:List Ask)(k:Nat)(c:k<l.length):(askC l)[k*2]? = some l[k].fn/\(askC l)[k*2+1]? = some (.int .i64 l[k].e):=by
 induction l generalizing k with
 | nil=>simp at c
 | cons x l ih =>
  cases k with
  | zero=>exact⟨rfl,rfl⟩
  | succ k =>
   have:=ih k (by simpa using c)
   rw[askC_cons]
   have e:(k+1)*2=k*2+1+1:=by omega
   rw[e]
   simpa using this
theorem askC_one (l:List Ask):∀v∈askC l,v.oneCell'=true:=by
 intro v c
 unfold askC at c
 obtain⟨m,d,c⟩:=List.mem_flatten.1 c
 obtain⟨x,_,rfl⟩:=List.mem_map.1 d
 simp at c
 rcases c with rfl|rfl<;>rfl
def firstE:List Ask->Int
 | []=>0
 | x::l=>if x.b then x.e else firstE l
theorem firstE_at (l:List Ask)(k:Nat)(m:k<l.length)(d:∀j (h:j<l.length),j<k->l[j].b=false)(c:l[k].b=true):firstE l=l[k].e:=by
 induction l generalizing k with
 | nil=>simp at m
 | cons x l ih =>
  cases k with
  | zero=>simp at c;simp[firstE,c]
  | succ k =>
   have i:=d 0 (by simp) (by omega)
   simp at i
   have:=ih k (by simpa using m) (λj h n=>by have:=d (j+1) (by simpa using h) (by omega);simpa using this) (by simpa using c)
   simp[firstE,i,this]
theorem firstE_none (l:List Ask)(c:∀j (h:j<l.length),l[j].b=false):firstE l=0:=by
 induction l with
 | nil=>rfl
 | cons x l ih =>
  have d:=c 0 (by simp)
  simp at d
  have:=ih (λj h=>by have:=c (j+1) (by simpa using h);simpa using this)
  simp[firstE,d,this]
theorem elAsk:ElT 360 311 2 16 (.agg #[.nilFunc,.int .i64 0]):=⟨Tryz.underlying360,by kernel_rfl,by kernel_rfl,by decide⟩
theorem rowAsk:RowTy Tryz.prog 311 2:=⟨⟨_,Tryz.underlying311,rfl⟩,by kernel_rfl⟩
theorem ask_one (f:Nat)(bd lb:Array Value)(e:Int):∀v∈(#[.func (.func f) bd lb,.int .i64 e]:Array Value).toList,v.oneCell'=true:=by
 intro v c
 simp at c
 rcases c with rfl|rfl<;>rfl
def Answers (w:World)(l:List Ask):Prop:=∀x∈l,(∀args w,(callFunc x.f args).run Tryz.prog w = .ok (.enter x.f args) w)/\∀W,Below w.heap.size w W->Calls Tryz.prog x.f (x.bd++x.lb) W λe w'=>e = .returned (.bool x.b)/\Below W.heap.size W w'
def AskNone (e:Int)(a:Act):Prop:=∃u0 u1 u2 u3 u5 u6 u7 u8 u9 u10 u11 u12 u13 u14 u15 u16 u17 u18 u19 u20 u21 u22 u23 u24,a = { tmps:=#[u0,u1,u2,u3,.int .i64 e,u5,u6,u7,u8,u9,u10,u11,u12,u13,u14,u15,u16,u17,u18,u19,u20,u21,u22,u23,u24],defers:=[] }
theorem asked_gives (w:World)(p many:Nat)(g:Nat->List UInt8)(xs:List (Nat×List UInt8))(left:Int)(stops:Bool)(hD:DkIs w p many g xs left stops)(l:List Ask)(A:Option Addr)(c:Nat)
  (aB:InG w w.heap.size 2 A l.length c (askC l)) (hl:l.length<=100) (aJ:Answers w l) :
  Calls Tryz.prog 230 #[.pointer (some ⟨p,0,none⟩),.slice A l.length c] w λe w'=>e = .returned (.int .i64 (firstE l))/\Below w.heap.size w w':=by
 obtain⟨a0,U⟩:∃a0:Ask,a0=⟨160,#[.pointer (some ⟨p,0,none⟩)],#[],1,false⟩:=⟨_,rfl⟩
 have Z:Below w.heap.size w (w.alloc (.cells #[.func (.func 160) #[.pointer (some ⟨p,0,none⟩)] #[],.int .i64 1] 311)):=(Below.refl _ w).alloc (zH _) _
 have aA:(w.alloc (.cells #[.func (.func 160) #[.pointer (some ⟨p,0,none⟩)] #[],.int .i64 1] 311)).ownsRow w.heap.size 311 2 (.slice (some ⟨w.heap.size,0,none⟩) 1 1) 1 (askC [a0]):=by
  rw[U]
  exact World.ownsRow_lit w #[.func (.func 160) #[.pointer (some ⟨p,0,none⟩)] #[],.int .i64 1] 1 (zH _) (by unfold maxLen;omega) rfl
 have aC:=aB.below Z
 have aE:firstE (a0::l)=firstE l:=by rw[U];rfl
 have aL:Answers w (a0::l):=by
  intro x q
  rcases List.mem_cons.1 q with rfl|q
  ·rw[U]
   exact⟨enters_of Tryz.func160 (by kernel_rfl) rfl,λW hB=>(none_gives W p many g xs left stops (hD.grow hB)).mono λe w' ⟨h1,h2⟩=>⟨h1,h2▸Below.refl _ _⟩⟩
  ·exact aJ x q
 rw[<-aE]
 obtain⟨v,s⟩:∃v,v=firstE (a0::l):=⟨_,rfl⟩
 rw[<-s]
 have hV:=Lib.hid s
 clear aE aJ hD s
 go_enter Tryz.func230,Tryz.ntmps230
 go_wp2_with fail
 refine wp_scope_jumps (rest:=?rest) 0 (λa w'=>AskNone v a/\Below w.heap.size w w') (λ_ _=>0) ?hf ?first ?pass
 case hf=>exact rfl
 case pass =>
  rintro a w' ⟨⟨u0,u1,u2,u3,u5,u6,u7,u8,u9,u10,u11,u12,u13,u14,u15,u16,u17,u18,u19,u20,u21,u22,u23,u24,rfl⟩,hB⟩
  go_wp2
  simp only[Exit.jump]
  go_wp2
  go_ret
  exact⟨rfl,hB⟩
 case first =>
  go_wp2_with (at_builtin;refine wp_appG rfl elAsk (.tmp 10) (.tmp 11) rfl w.heap.size (.slice (some ⟨w.heap.size,0,none⟩) 1 1) 1 (askC [a0]) rfl aA _ A l.length c (askC l) rfl aC (by unfold maxLen;omega) (by omega) (by simp) ?_;intro v1 T aG C;have m:=Z.trans (grown_below C Z.size (ownG_ge aA));obtain⟨A1,c1,rfl,aI⟩:=ownG_in aG (λv s=>by rcases qK.1 s with h|h;exact askC_one _ v h;exact askC_one _ v h))
  have O:∀k,k<1+l.length->k<(a0::l).length:=λk h=>by simp;omega
  have aK:∀k,k<(a0::l).length->k<1+l.length:=λk h=>by simp at h;omega
  have aH:askC [a0] ++ askC l=askC (a0::l):=rfl
  rw[aH] at aI
  clear aA aG C aC aB aH U
  generalize a0::l=d at *
  go_loopw [14] (λi wr=>∃k:Nat,k<=1+l.length/\i = .int .i64 k/\Hid (∀j (h:j<d.length),j<k->d[j].b=false)/\Below T.heap.size T wr) (λi _=>1+l.length - (intOf i).toNat)
  case atStart=>exact⟨0,by omega,rfl,Lib.hid (λj h hj=>by omega),Below.refl _ _⟩
  case round =>
   obtain⟨k,hk,rfl,K,n⟩:=hrel
   by_cases V:k<1+l.length
   ·obtain⟨S,M,rfl,C,hr⟩:=aI.lies (by omega)
    have aM:=O k V
    obtain⟨q1,q2⟩:=askC_get d k (O k V)
    have c1:wr.cell? ⟨S,M+k*2,none⟩=some d[k].fn:=(n.cell (p:=⟨S,M+k*2,none⟩) C).trans (hr _ _ q1)
    have c2:wr.cell? ⟨S,M+k*2+1,none⟩=some (.int .i64 d[k].e):=(n.cell (p:=⟨S,M+k*2+1,none⟩) C).trans (hr _ _ q2)
    obtain⟨aF,B⟩:=aL d[k] (qF (O k V))
    have F:d[k].b=true->v=d[k].e:=λh=>by rw[hV.out];exact firstE_at _ k (O k V) K.out h
    have aD:d[k].b=false->∀j (h:j<d.length),j<k+1->d[j].b=false:=λhb j h hj=>by
     by_cases e:j=k
     ·subst e;exact hb
     ·exact K.out j h (by omega)
    have aN:IntKind.i64.wrap ((k:Int)+1)=(k:Int)+1:=wrap_i64_fr _ (by omega) (by omega)
    obtain⟨x,q⟩:∃x,x=d[k]:=⟨_,rfl⟩
    rw[<-q] at c1 c2 aF B F
    have N:x.b=false->Hid (∀j (h:j<d.length),j<k+1->d[j].b=false):=λh=>Lib.hid (aD (by rw[<-q];exact h))
    unfold Ask.fn at c1
    clear hr q1 q2 aD q K
    obtain⟨E,H,G,u,xr⟩:=x
    simp only at c1 c2 aF B F N
    have aO:Below w.heap.size w wr:=m.trans (n.mono m.size)
    have nb:=(BlkIs.new wr 311 #[.nilFunc,.int .i64 0]).setRow #[.func (.func E) H G,.int .i64 u]
    have I:Below T.heap.size T ((wr.alloc (.cells #[.nilFunc,.int .i64 0] 311)).setRow wr.heap.size #[.func (.func E) H G,.int .i64 u]):=below_setRow (n.alloc n.size _) n.size _
    have d0:((wr.alloc (.cells #[.nilFunc,.int .i64 0] 311)).setRow wr.heap.size #[.func (.func E) H G,.int .i64 u]).cell? ⟨wr.heap.size,0,none⟩=some (.func (.func E) H G):=by rw[nb.cell];rfl
    have d1:((wr.alloc (.cells #[.nilFunc,.int .i64 0] 311)).setRow wr.heap.size #[.func (.func E) H G,.int .i64 u]).cell? ⟨wr.heap.size,1,none⟩=some (.int .i64 u):=by rw[nb.cell];rfl
    have hC:=B _ (m.trans (I.mono m.size))
    cases xr with
    | true =>
     have s:=F rfl
     subst s
     clear F N B
     go_wp2_with (refine wp_storeW rfl 311 (.tmp 6) (.tmp 17) rfl wr.heap.size rfl rfl rowAsk (BlkIs.new wr 311 #[.nilFunc,.int .i64 0]) (by rfl) (by rfl) (ask_one _ _ _ _) ?_)
     refine hC.mono ?_
     rintro e w2 ⟨rfl,X⟩
     go_wp2
     go_step3
     exact⟨rfl,by repeat (first|exact rfl|apply Exists.intro),m.trans ((I.trans (X.mono I.size)).mono m.size)⟩
    | false =>
     have hN:=N rfl
     clear F N B
     go_wp2_with (refine wp_storeW rfl 311 (.tmp 6) (.tmp 17) rfl wr.heap.size rfl rfl rowAsk (BlkIs.new wr 311 #[.nilFunc,.int .i64 0]) (by rfl) (by rfl) (ask_one _ _ _ _) ?_)
     refine hC.mono ?_
     rintro e w2 ⟨rfl,X⟩
     go_wp2
     exact⟨⟨k+1,by omega,by simp,hN,I.trans (X.mono I.size)⟩,by simp[intOf];omega⟩
   ·obtain rfl:k=1+l.length:=by omega
    have h0:v=0:=by rw[hV.out];exact firstE_none _ (λj h=>K.out j h (aK j h))
    subst h0
    go_wp2
    simp only[Exit.jump]
    go_ret
    exact⟨rfl,m.trans (n.mono m.size)⟩
theorem new_gives (w:World)(n:Nat)(h1:1<=n)(h2:n<=40000) :
  Calls Tryz.prog 19 #[.int .i64 (n:Int)] w λe w'=>∃p,e = .returned (.tuple #[.pointer (some ⟨p,0,none⟩),.int .i64 0])/\w.heap.size<=p/\DkIs w' p n (λ_=>zer64) [] 0 false/\Below w.heap.size w w':=by
 have j:¬ (n:Int)<1:=by omega
 have i:¬ (40000:Int)<(n:Int):=by omega
 have d:MapIs (w.alloc (.map #[] 0)) w.heap.size #[] 0:=heap_alloc_new w _
 have hB:Below w.heap.size w (w.alloc (.map #[] 0)):=(Below.refl _ w).alloc (zH _) _
 have h:=hB.alloc hB.size (.cells (dkC w.heap.size n none 0 0 0 false) 109)
 have c:=BlkIs.new (w.alloc (.map #[] 0)) 109 (dkC w.heap.size n none 0 0 0 false)
 unfold dkC at *
 go_enter Tryz.func19,Tryz.ntmps19
 go_wp2_with (refine wp_makeMap rfl rfl ?_;intro _)
 refine bodyPost_ret (results_tmp2 rfl _ _ _) rfl ⟨w.heap.size+1,?_,by omega,?_,h⟩
 ·simp
 ·rw[World.size_alloc] at c
  refine⟨w.heap.size,none,0,c,⟨λ_=>by decide,#[],0,(Below.heap_alloc _ _ _ d.lt).trans d,?_⟩,InW.mt _ _⟩
  have:spar (λ_=>zer64)=λ_=>none:=by funext k;simp[spar]
  rw[this]
  exact⟨Ents.empty,MapKept.stamped_empty 0⟩
section
variable (w:World)(p many:Nat)(g:Nat->List UInt8)(xs:List (Nat×List UInt8))(left:Int)(stops:Bool)
theorem there_gives (at_:Int):Calls Tryz.prog 260 #[.pointer (some ⟨p,0,none⟩),.int .i64 at_] w λe w' =>
   e = .returned (.agg #[.func (.func 308) #[] #[.pointer (some ⟨w.heap.size+1,0,none⟩),.pointer (some ⟨w.heap.size,0,none⟩)],.int .i64 4])/\BlkIs w' w.heap.size 60 #[.pointer (some ⟨p,0,none⟩)]/\BlkIs w' (w.heap.size+1) 3 #[.int .i64 at_]/\Below w.heap.size w w':=by
 have hB:Below w.heap.size w (((w.alloc (.cells #[.pointer (some ⟨p,0,none⟩)] 60)).alloc (.cells #[.int .i64 at_] 3)).alloc (.cells #[.nilFunc,.int .i64 0] 311)):=(((Below.refl _ w).alloc (zH _) _).alloc (by simp) _).alloc (by simp;omega) _
 have h:=((BlkIs.new w 60 #[.pointer (some ⟨p,0,none⟩)]).alloc (.cells #[.int .i64 at_] 3)).alloc (.cells #[.nilFunc,.int .i64 0] 311)
 have d:=(BlkIs.new (w.alloc (.cells #[.pointer (some ⟨p,0,none⟩)] 60)) 3 #[.int .i64 at_]).alloc (.cells #[.nilFunc,.int .i64 0] 311)
 have c:=BlkIs.new ((w.alloc (.cells #[.pointer (some ⟨p,0,none⟩)] 60)).alloc (.cells #[.int .i64 at_] 3)) 311 #[.nilFunc,.int .i64 0]
 rw[World.size_alloc] at d
 rw[World.size_alloc,World.size_alloc] at c
 go_enter Tryz.func260,Tryz.ntmps260
 go_wp2_with (refine wp_storeW rfl 311 (.tmp 4) (.tmp 6) rfl (w.heap.size+1+1) rfl rfl rowAsk c (by rfl) (by rfl) (ask_one _ _ _ _) ?_)
 refine bodyPost_ret_by (results_cellW 4 rfl rfl rowAsk (c.setRow _) (by rfl)) rfl ⟨rfl,h.setRow_ne (by omega) _,d.setRow_ne (by omega) _,below_setRow hB (by omega) _⟩
theorem goes_gives:Calls Tryz.prog 231 #[.pointer (some ⟨p,0,none⟩)] w λe w' =>
   e = .returned (.agg #[.func (.func 293) #[.pointer (some ⟨p,0,none⟩)] #[],.int .i64 140])/\Below w.heap.size w w':=by
 have hB:Below w.heap.size w (w.alloc (.cells #[.nilFunc,.int .i64 0] 311)):=(Below.refl _ w).alloc (zH _) _
 have c:=BlkIs.new w 311 #[.nilFunc,.int .i64 0]
 go_enter Tryz.func231,Tryz.ntmps231
 go_wp2_with (refine wp_storeW rfl 311 (.tmp 2) (.tmp 5) rfl w.heap.size rfl rfl rowAsk c (by rfl) (by rfl) (ask_one _ _ _ _) ?_)
 refine bodyPost_ret_by (results_cellW 2 rfl rfl rowAsk (c.setRow _) (by rfl)) rfl ⟨rfl,below_setRow hB (zH _) _⟩
theorem write1_gives (b:Nat)(A:Option Addr)(n c:Nat)(h:BlkIs w b 87 #[.slice A n c]):Calls Tryz.prog 297 #[.pointer (some ⟨b,0,none⟩)] w λe w'=>e = .returned (.bool ((n:Int) != 64))/\Below w.heap.size w w':=by
 have hc:=h.boxed
 go_enter Tryz.func297,Tryz.ntmps297
 go_wp2
 go_ret
 exact⟨rfl,Below.refl _ _⟩
theorem there1_gives (at_:Int)(d i:Nat)(h:DkIs w p many g xs left stops)(m:BlkIs w d 60 #[.pointer (some ⟨p,0,none⟩)])(h1:BlkIs w i 3 #[.int .i64 at_]) :
  Calls Tryz.prog 308 #[.pointer (some ⟨i,0,none⟩),.pointer (some ⟨d,0,none⟩)] w λe w'=>e = .returned (.bool (decide (at_<0) || decide ((many:Int)<=at_)))/\Below w.heap.size w w':=by
 obtain⟨r,A,c,j,n,q⟩:=h.has
 have c1:w.cell? ⟨p,1,none⟩=some (.int .i64 (many:Int)):=by rw[j.cell];rfl
 have u:=m.boxed
 have s:=h1.boxed
 rcases ha:decide (at_<0) with _|_
 ·rw[Bool.false_or]
  go_enter Tryz.func308,Tryz.ntmps308
  go_wp2_with fail
  go_region
  go_wp2
  go_ret
  exact⟨by simp,(Below.refl _ w).drew⟩
 ·rw[Bool.true_or]
  go_enter Tryz.func308,Tryz.ntmps308
  go_wp2_with fail
  go_region
  go_wp2
  go_ret
  exact⟨by simp,(Below.refl _ w).drew⟩
def askLen (b n:Nat):Ask:=⟨297,#[],#[.pointer (some ⟨b,0,none⟩)],2,(n:Int) != 64⟩
def askThere (s0 s1 many:Nat)(at_:Int):Ask:=⟨308,#[],#[.pointer (some ⟨s1,0,none⟩),.pointer (some ⟨s0,0,none⟩)],4,decide (at_<0) || decide ((many:Int)<=at_)⟩
def askGoes (p:Nat)(left:Int)(stops:Bool):Ask:=⟨293,#[.pointer (some ⟨p,0,none⟩)],#[],140,stops && left == 0⟩
def Answer (w:World)(x:Ask):Prop:=(∀args w,(callFunc x.f args).run Tryz.prog w = .ok (.enter x.f args) w)/\∀W,Below w.heap.size w W->Calls Tryz.prog x.f (x.bd++x.lb) W λe w'=>e = .returned (.bool x.b)/\Below W.heap.size W w'
theorem ans_len (b:Nat)(A:Option Addr)(n c:Nat)(h:BlkIs w b 87 #[.slice A n c]):Answer w (askLen b n) :=
 ⟨enters_of Tryz.func297 (by kernel_rfl) rfl,λW hB=>write1_gives W b A n c (h.below hB h.lt)⟩
theorem ans_there (at_:Int)(d c:Nat)(h:DkIs w p many g xs left stops)(e:BlkIs w d 60 #[.pointer (some ⟨p,0,none⟩)])(h1:BlkIs w c 3 #[.int .i64 at_]):Answer w (askThere d c many at_) :=
 ⟨enters_of Tryz.func308 (by kernel_rfl) rfl,λW hB=>there1_gives W p many g xs left stops at_ d c (h.grow hB) (e.below hB e.lt) (h1.below hB h1.lt)⟩
theorem ans_goes (h:DkIs w p many g xs left stops):Answer w (askGoes p left stops) :=
 ⟨enters_of Tryz.func293 (by kernel_rfl) rfl,λW hB=>(stopped_gives W p many g xs left stops (h.grow hB)).mono λe w' ⟨h1,h2⟩=>⟨h1,h2▸Below.refl _ _⟩⟩
end
theorem Answer.grow {w w':World}{x:Ask}(h:Answer w x)(hB:Below w.heap.size w w'):Answer w' x:=⟨h.1,λW c=>h.2 W (hB.trans (c.mono hB.size))⟩
theorem asks_new (w:World)(l:List Ask)(d:l.length<=100):InG (w.alloc (.cells (askC l).toArray 311)) (w.alloc (.cells (askC l).toArray 311)).heap.size 2 (some ⟨w.heap.size,0,none⟩) l.length l.length (askC l) :=
 ⟨zH _,by omega,(λe=>by cases e),askC_length l,askC_one l,λ_=>⟨w.heap.size,0,rfl,by simp,λj v c=>by
  rw[(BlkIs.new w 311 (askC l).toArray).cell,qC]
  simpa using c⟩⟩
def laid (g:Nat->List UInt8)(xs:List (Nat×List UInt8)):Nat->List UInt8:=xs.foldl (λg x=>gset g x.1 x.2) g
theorem laid_snoc (g:Nat->List UInt8)(xs:List (Nat×List UInt8))(k:Nat)(h:k<xs.length):laid g (xs.take (k+1))=gset (laid g (xs.take k)) xs[k].1 xs[k].2:=by
 unfold laid
 rw[List.take_add_one,zM h,List.foldl_append]
 rfl
section
variable {w:World}{o:Oper}{ρ:Operand->Value}
theorem x_allocLs (d:o.op = .alloc 363):(execOp ρ o).run Tryz.prog w = .ok (.value (.pointer (some ⟨w.heap.size,0,none⟩))) (w.alloc (.cells (lsC (0,zer64)).toArray 363)):=by
 have c:(Tryz.prog.info? 363).map (λi=>i.zero)=some (some zeroLs):=by kernel_rfl
 obtain⟨i,e,c⟩:=Option.map_eq_some_iff.1 c
 have hq:Tryz.zeroCells363=(lsC (0,zer64)).toArray:=by kernel_rfl
 have hc:zeroLs.cells=(lsC (0,zer64)).toArray:=by kernel_rfl
 simp[execOp,d,Instr.alloc,newVar,newRow,go_sem,hq,Result.andThen]
end
theorem now_gives (w:World)(r:Nat)(g:Nat->List UInt8)(A:Option Addr)(c:Nat)(xs:List (Nat×List UInt8))(h:MapF w r g)(B:InW w w.heap.size A c xs)(hl:xs.length<=1000000) :
  Calls Tryz.prog 232 #[.map (some r),.slice A xs.length c] w λe w'=>e = .returned (.map (some w.heap.size))/\MapF w' w.heap.size (laid g xs)/\Below w.heap.size w w':=by
 have X:=mclone_gives w r g h
 have Z:laid g (xs.take xs.length)=laid g xs:=by rw[List.take_length]
 have N:=laid_snoc g xs
 obtain⟨F,hF⟩:∃F,F=λk=>laid g (xs.take k):=⟨_,rfl⟩
 have T:F 0=g:=by rw[hF];rfl
 have U:F xs.length=laid g xs:=by rw[hF];exact Z
 have aC:Hid (∀k (h:k<xs.length),F (k+1)=gset (F k) xs[k].1 xs[k].2):=Lib.hid (by rw[hF];exact N)
 rw[<-U]
 clear Z N hF U
 go_enter Tryz.func232,Tryz.ntmps232
 go_wp2_with (go_at_call 294;refine X.mono ?_;rintro e w1 ⟨rfl,aB,aH⟩)
 rw[<-T] at aB
 clear X T h
 go_loopw [12] (λi wr=>∃k:Nat,k<=xs.length/\i = .int .i64 k/\MapF wr w.heap.size (F k)/\Below w.heap.size w wr) (λi _=>xs.length - (intOf i).toNat)
 case atStart=>exact⟨0,by omega,rfl,aB,aH⟩
 case round =>
  obtain⟨k,hk,rfl,E,s⟩:=hrel
  by_cases G:k<xs.length
  ·obtain⟨V,o1,rfl,aF,_⟩:=B.2.lies (by omega)
   have q:wr.rangeAt V (o1+k*65) (lsC xs[k]):=λj v H=>(s.cell (p:=⟨V,o1+k*65+j,none⟩) aF).trans (B.elem k G j v H)
   have m:xs[k].2.length=64:=B.1 _ (qF G)
   have hs:=aC.out k G
   have aK:IntKind.i64.wrap ((k:Int)+1)=(k:Int)+1:=wrap_i64_fr _ (by omega) (by omega)
   obtain⟨x,K⟩:∃x,x=xs[k]:=⟨_,rfl⟩
   rw[<-K] at q m hs
   obtain⟨n,d⟩:=x
   have C:=lsC_length m
   simp only at m hs
   have hS:=Lib.hid hs
   have H6:=Lib.hid m
   have aJ:=Lib.hid C
   have HR:=Lib.hid q
   have S:=BlkIs.new wr 363 (lsC (0,zer64)).toArray
   have M:(lsC (n,d)).toArray.size=(lsC (0,zer64)).toArray.size:=by rw[zT,zT,C];rfl
   have nb:=S.setRow (lsC (n,d)).toArray
   have I:Below w.heap.size w ((wr.alloc (.cells (lsC (0,zer64)).toArray 363)).setRow wr.heap.size (lsC (n,d)).toArray):=below_setRow (s.alloc s.size _) s.size _
   obtain⟨W,u⟩:∃W,W=(wr.alloc (.cells (lsC (0,zer64)).toArray 363)).setRow wr.heap.size (lsC (n,d)).toArray:=⟨_,rfl⟩
   rw[<-u] at nb I
   have aI:MapF W w.heap.size (F k):=by
    rw[u]
    have h1:=E.grow ((Below.refl _ wr).alloc (zH _) (.cells (lsC (0,zer64)).toArray 363))
    exact h1.below (below_setRow (Below.refl wr.heap.size _) (zH _) _) E.lt
   have d0:W.cell? ⟨wr.heap.size,0,none⟩=some (.int .i64 (n:Int)):=by rw[nb.cell];rfl
   have dr:W.rangeAt wr.heap.size 1 (d.map b8):=λj v H=>by
    rw[nb.cell]
    simpa[lsC,Nat.add_comm] using H
   have hP:=put_gives W w.heap.size n (F k) d m aI
   have O:(d.map b8).length=64:=by rw[qM];exact m
   have aG:=Lib.hid O
   have aD:=Lib.hid M
   have HW:=Lib.hid u
   clear hs m C q K M O u
   go_wp2_with (first
    | (refine wp_exec rfl (x_loadM rowLoose HR.out aJ.out rfl rfl) ?_)
    | (refine wp_exec rfl (x_allocLs rfl) ?_)
    | (refine wp_storeW rfl 363 (.tmp 7) (.tmp 15) rfl wr.heap.size rfl rfl rowLoose S (by rfl) aD.out (lsC_one _) ?_;rw[<-HW.out])
    | (refine wp_exec rfl (x_loadM rowDSec dr aG.out rfl rfl) ?_)
    | (go_at_call 295;refine hP.mono ?_;rintro e w2 ⟨⟨v2,rfl⟩,aA,aE⟩))
   rw[<-hS.out] at aA
   exact⟨⟨k+1,by omega,by simp,aA,grown_below aE I.size (λr q=>by cases q;exact zH _) |> I.trans⟩,by simp[intOf];omega⟩
  ·obtain rfl:k=xs.length:=by omega
   go_wp2
   go_ret
   exact⟨rfl,E,s⟩
theorem below_grownBy {w w':World}(h:Below w.heap.size w w')(p:Nat):w.grownBy w' (some p):=⟨h.os,h.tape,h.output,h.size,λj c _=>h.block j c⟩
def lft (stops:Bool)(left:Int):Int:=if stops then left - 1 else left
theorem InB.notDisk {w:World}{B q b o c:Nat}{l:List UInt8}(h:InB w B (some ⟨b,o,none⟩) c l)(d:0<l.length){r many n c':Nat}{A:Option Addr}{left:Int}{stops:Bool}{T:TypeId}(j:BlkIs w q T (dkC r many A n c' left stops)):b≠q:=by
 intro e
 subst e
 obtain⟨m,o',e,_,hc⟩:=h.lies d
 injection e with e
 injection e with e1 e2
 subst e1 e2
 have h1:=hc 0 d
 rw[j.cell] at h1
 have i:=Array.mem_of_getElem? h1
 simp[dkC] at i
section
variable (w:World)(p many:Nat)(g:Nat->List UInt8)(xs:List (Nat×List UInt8))(left:Int)(stops:Bool)
theorem asked3_gives (i:DkIs w p many g xs left stops)(a b c:Ask)(ha:Answer w a)(j:Answer w b)(hc:Answer w c) :
  Calls Tryz.prog 230 #[.pointer (some ⟨p,0,none⟩),.slice (some ⟨w.heap.size,0,none⟩) 3 3] (w.alloc (.cells #[a.fn,.int .i64 a.e,b.fn,.int .i64 b.e,c.fn,.int .i64 c.e] 311)) λe w'=>e = .returned (.int .i64 (firstE [a,b,c]))/\Below w.heap.size w w':=by
 have hB:Below w.heap.size w (w.alloc (.cells (askC [a,b,c]).toArray 311)):=(Below.refl _ w).alloc (zH _) _
 have h:=asked_gives _ p many g xs left stops (i.grow hB) [a,b,c] _ _ (asks_new w [a,b,c] (by simp)) (by simp) (λx d=>by
  simp at d
  rcases d with rfl|rfl|rfl
  ·exact ha.grow hB
  ·exact j.grow hB
  ·exact hc.grow hB)
 exact h.mono λe w' ⟨h1,h2⟩=>⟨h1,hB.trans (h2.mono hB.size)⟩
theorem asked2_gives (d:DkIs w p many g xs left stops)(a b:Ask)(ha:Answer w a)(i:Answer w b) :
  Calls Tryz.prog 230 #[.pointer (some ⟨p,0,none⟩),.slice (some ⟨w.heap.size,0,none⟩) 2 2] (w.alloc (.cells #[a.fn,.int .i64 a.e,b.fn,.int .i64 b.e] 311)) λe w'=>e = .returned (.int .i64 (firstE [a,b]))/\Below w.heap.size w w':=by
 have hB:Below w.heap.size w (w.alloc (.cells (askC [a,b]).toArray 311)):=(Below.refl _ w).alloc (zH _) _
 have h:=asked_gives _ p many g xs left stops (d.grow hB) [a,b] _ _ (asks_new w [a,b] (by simp)) (by simp) (λx c=>by
  simp at c
  rcases c with rfl|rfl
  ·exact ha.grow hB
  ·exact i.grow hB)
 exact h.mono λe w' ⟨h1,h2⟩=>⟨h1,hB.trans (h2.mono hB.size)⟩
theorem asked1_gives (d:DkIs w p many g xs left stops)(a:Ask)(ha:Answer w a) :
  Calls Tryz.prog 230 #[.pointer (some ⟨p,0,none⟩),.slice (some ⟨w.heap.size,0,none⟩) 1 1] (w.alloc (.cells #[a.fn,.int .i64 a.e] 311)) λe w'=>e = .returned (.int .i64 (firstE [a]))/\Below w.heap.size w w':=by
 have hB:Below w.heap.size w (w.alloc (.cells (askC [a]).toArray 311)):=(Below.refl _ w).alloc (zH _) _
 have h:=asked_gives _ p many g xs left stops (d.grow hB) [a] _ _ (asks_new w [a] (by simp)) (by simp) (λx c=>by
  simp at c
  rcases c with rfl
  exact ha.grow hB)
 exact h.mono λe w' ⟨h1,h2⟩=>⟨h1,hB.trans (h2.mono hB.size)⟩
theorem sync_gives (s:DkIs w p many g xs left stops)(hs:(stops && left == 0)=false)(hl:xs.length<=1000000)(h1 : -1000000<=left)(h2:left<=9223372036854775807) :
  Calls Tryz.prog 166 #[.pointer (some ⟨p,0,none⟩)] w λe w'=>e = .returned (.int .i64 0)/\DkIs w' p many (laid g xs) [] (lft stops left) stops/\w.grownBy w' (some p):=by
 have C:=goes_gives w p
 have E:∀W,Below w.heap.size w W->Calls Tryz.prog 230 #[.pointer (some ⟨p,0,none⟩),.slice (some ⟨W.heap.size,0,none⟩) 1 1] (W.alloc (.cells #[.func (.func 293) #[.pointer (some ⟨p,0,none⟩)] #[],.int .i64 140] 311)) λe w'=>e = .returned (.int .i64 0)/\Below W.heap.size W w':=by
  intro W hB
  have:=asked1_gives W p many g xs left stops (s.grow hB) (askGoes p left stops) (ans_goes W p many g xs left stops (s.grow hB))
  have hf:firstE [askGoes p left stops]=0:=firstE_none _ (λj h=>by
   have:j=0:=by simp at h;omega
   subst this
   exact hs)
  rw[hf] at this
  exact this
 clear hs
 go_enter Tryz.func166,Tryz.ntmps166
 go_wp2_with (first
  | (go_at_call 231;refine C.mono ?_;rintro e X ⟨rfl,q⟩)
  | (go_at_call 230;refine(E _ q).mono ?_;rintro e w2 ⟨rfl,B⟩))
 have u:Below w.heap.size w w2:=q.trans (B.mono q.size)
 have T:=s.grow u
 obtain⟨r,A,c,n,I,M⟩:=T.has
 have c0:w2.drew.cell? ⟨p,0,none⟩=some (.map (some r)):=by rw[show w2.drew.cell? ⟨p,0,none⟩=w2.cell? ⟨p,0,none⟩ from rfl,n.cell];rfl
 have c2:w2.drew.cell? ⟨p,2,none⟩=some (.slice A xs.length c):=by rw[show w2.drew.cell? ⟨p,2,none⟩=w2.cell? ⟨p,2,none⟩ from rfl,n.cell];rfl
 have i:Below w2.heap.size w2 w2.drew:=(Below.refl _ w2).drew
 have H:=now_gives w2.drew r g A c xs (I.grow i) (M.grow i) hl
 clear E C q B
 go_region_with (go_at_call 232;refine H.mono ?_;rintro e d ⟨rfl,O,F⟩;have m:BlkIs d p _ _:=n.below (i.trans (F.mono i.size)) n.lt;have Z:=m.free 0;have V:=m.free 2;have U:d.cell? ⟨p,0,none⟩=some (.map (some r)):=(by rw[m.cell];rfl);have k2:d.cell? ⟨p,2,none⟩=some (.slice A xs.length c):=(by rw[m.cell];rfl))
 all_goals
  have S:DkIs ((d.setCell ⟨p,0,none⟩ (.map (some w2.heap.size))).setCell ⟨p,2,none⟩ (.slice none 0 0)) p many (laid g xs) [] left stops:=⟨w2.heap.size,none,0,(m.set 0 _).set 2 _,(O.setCell _ _).setCell _ _,InW.mt _ _⟩
  have K:w.grownBy ((d.setCell ⟨p,0,none⟩ (.map (some w2.heap.size))).setCell ⟨p,2,none⟩ (.slice none 0 0)) (some p):=grownBy_trans (below_grownBy (u.trans ((i.trans (F.mono i.size)).mono u.size)) p) (grownBy_trans (setCell_grownBy d ⟨p,0,none⟩ _) (setCell_grownBy _ ⟨p,2,none⟩ _))
  generalize (d.setCell ⟨p,0,none⟩ (.map (some w2.heap.size))).setCell ⟨p,2,none⟩ (.slice none 0 0)=w5 at *
  go_wp2_with (go_at_call 233;refine(done_gives _ p many _ [] left stops S h1 h2).mono ?_;rintro e w6 ⟨⟨v,rfl⟩,N,G,-⟩)
  go_ret
  exact⟨rfl,N,grownBy_trans K G⟩
end
end Go.Proofs.YtpibjkbadnffgaaGreat
