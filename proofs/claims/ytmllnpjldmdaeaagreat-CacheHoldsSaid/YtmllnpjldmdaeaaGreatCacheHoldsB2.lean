/- Texts that the proof of CacheHolds leans on, part 2. -/
import Derived.Lib.AppendZeros
import Derived.Orders
import Derived.RegionTactic
import Derived.Shelf.Abstract
import Derived.ScopeJumps
import Derived.Lib.SlBytesConst
import Derived.LoopN
import Derived.Test.YtmllnpjldmdaeaaGreatCacheHoldsB1
set_option maxRecDepth 100000
set_option maxHeartbeats 8000000

namespace Go.Proofs.YtmllnpjldmdaeaaGreat
open Go Go.RowKit Lou
theorem grow_gives (n:Nat)(hn:n<=140737488355328)(w:World):Calls Tryz.prog 171 #[.slice none 0 0,.int .i64 n] w (GivesB w []):=by
  obtain⟨i0,hi,hz0,hz1,hz2⟩:=info_parts inf_u8
  have e0:IntKind.i64.wrap ((n:Int) - 0)=(n:Int):=by rw[wrap_i64_fr _ (by omega) (by omega)];omega
  have e1:IntKind.i64.wrap (n:Int)=(n:Int):=wrap_i64_fr _ (by omega) (by omega)
  by_cases h0:0<n
  · have hr:=Lib.run_append_nil_zeros (P:=Tryz.prog) w 44 3 44 5 i0 (.int .u8 0) .i64 .i64 Tryz.underlying44 Tryz.underlying3 hi hz0 n h0 (by omega) (by omega) (by rw[hz2];omega)
    have hcap:=grownCap_le_maxLen w n 0 5 (by unfold maxLen;omega)
    have hcap':grownCap w n 0 5<=9223372036854775807:=by unfold maxLen at hcap;omega
    have hge:=grownCap_ge w n 0 5
    go_enter Tryz.func171,Tryz.ntmps171
    generalize grownCap w n 0 5=cap at *
    generalize hcur:Builtin.zeroCells (Value.int .u8 0).cells n++Builtin.zeroCells (Value.int .u8 0).cells (cap - n)=cur at *
    go_wp2_with (at_builtin;refine Lib.wpList_append_run _ rfl (.tmp 20) (.tmp 21) _ _ rfl _ _ rfl rfl _ _ hr ?_)
    go_ret
    have hB0:Below w.heap.size w (w.drew.alloc (.cells cur 5)):=((Below.refl _ w).drew).alloc (Nat.le_refl _) _
    refine⟨_,rfl,⟨by simp,.inr ⟨w.heap.size,cap,cur,rfl,Nat.le_refl _,heap_alloc_new w.drew _,Nat.zero_le _,hcap,?_,by simp⟩⟩,hB0⟩
    rw[<-hcur,Array.size_append,size_zeroCells,size_zeroCells]
    simp[Value.cells]
    omega
  · obtain rfl:n=0:=by omega
    go_enter Tryz.func171,Tryz.ntmps171
    go_wp2
    go_ret
    exact⟨_,rfl,OwnB.nil _ _,Below.refl _ _⟩
theorem take_flat (ls:List (List UInt8))(k:Nat)(h:k<ls.length):(ls.take (k+1)).flatten=(ls.take k).flatten++ls[k]:=by
  rw[List.take_succ_eq_append_getElem h,List.flatten_append]
  simp
theorem flat_le (ls:List (List UInt8))(k:Nat):(ls.take k).flatten.length<=ls.flatten.length:=by
  have:ls.flatten=(ls.take k).flatten++(ls.drop k).flatten:=by rw[<-List.flatten_append,List.take_append_drop]
  rw[this,List.length_append]
  omega
theorem concat_gives (w:World)(A:Option Addr)(c:Nat)(zs:List (Piece w w.heap.size))(hI:InLL w w.heap.size A c zs)(hmax:(zs.map Piece.l).flatten.length<=1000000000) :
    Calls Tryz.prog 139 #[.slice A zs.length c] w (GivesB w (zs.map Piece.l).flatten):=by
  have hle:=hI.le
  have hmx:=hI.max
  have hfl:=fun k=>flat_le (zs.map Piece.l) k
  have hnx:∀k (h:k<zs.length),((zs.map Piece.l).take (k+1)).flatten=((zs.map Piece.l).take k).flatten++zs[k].1.2:=fun k h=>by
    rw[take_flat _ _ (by simpa using h)]
    simp[Piece.l]
  have hall:((zs.map Piece.l).take zs.length).flatten=(zs.map Piece.l).flatten:=by rw[List.take_of_length_le (by simp)]
  generalize zs.map Piece.l=ls at *
  have HX:=Lib.hid hnx
  have HA:=Lib.hid hall
  clear hnx hall
  have hs0:(ls.take 0).flatten=[]:=by simp
  go_enter Tryz.func139,Tryz.ntmps139
  go_wp2_with fail
  go_loop [3,11] (fun s i=>∃k t:Nat,k<=zs.length/\i = .int .i64 k/\s = .int .i64 t/\t<=1000000000/\Hid (t=(ls.take k).flatten.length)) (fun _ i=>zs.length - (intOf i).toNat)
  case atStart=>exact⟨0,0,Nat.zero_le _,rfl,rfl,by omega,Lib.hid (by simp)⟩
  case round =>
    obtain⟨k,t,hk,rfl,rfl,ht,hT⟩:=hrel
    by_cases hlt:k<zs.length
    · obtain⟨g,o,rfl,hg,hc⟩:=hI.lies (by omega)
      have hck:=hc k hlt
      have hval:zs[k].val = .slice zs[k].1.1.1 zs[k].1.2.length zs[k].1.1.2:=rfl
      rw[hval] at hck
      have hnext:t+zs[k].1.2.length=(ls.take (k+1)).flatten.length:=by rw[HX.out k hlt,List.length_append,hT.out]
      have hbd:=hfl (k+1)
      have hN:=Lib.hid hnext
      have hbd2:t+zs[k].1.2.length<=1000000000:=by omega
      have hwr:IntKind.i64.wrap ((t:Int)+(zs[k].1.2.length:Int))=(t:Int)+(zs[k].1.2.length:Int):=wrap_i64_fr _ (by omega) (by omega)
      clear hc hval hnext hbd hfl
      go_wp2_with fail
      exact⟨⟨k+1,t+zs[k].1.2.length,by omega,by simp,by simp,hbd2,hN⟩,by simp[intOf];omega⟩
    · obtain rfl:k=zs.length:=by omega
      go_wp2_with fail
      refine(grow_gives t (by omega) _).mono ?_
      rintro e w1 ⟨v,rfl,hown,hB⟩
      go_wp2_with fail
      go_loopw [6,27] (fun v i wr=>∃k:Nat,k<=zs.length/\i = .int .i64 k/\OwnB wr w.heap.size v (ls.take k).flatten/\Below w.heap.size w wr) (fun _ i _=>zs.length - (intOf i).toNat)
      case atStart=>exact⟨0,Nat.zero_le _,rfl,by simpa using hown,hB⟩
      case round =>
        obtain⟨k,hk,rfl,hown,hB⟩:=hrel
        have hBs:=hB.size
        by_cases hlt:k<zs.length
        · obtain⟨g,o,rfl,hg,hc⟩:=hI.lies (by omega)
          have hck:=(hB.cell (p:=⟨g,o+k,none⟩) hg).trans (hc k hlt)
          have hval:zs[k].val = .slice zs[k].1.1.1 zs[k].1.2.length zs[k].1.1.2:=rfl
          rw[hval] at hck
          have hz:=(zs[k].2.below hB).more hBs
          have hbd:=hfl (k+1)
          rw[HX.out k hlt,List.length_append] at hbd
          clear hc hval hfl
          have t1:(ls.take k).flatten.length+zs[k].1.2.length<=140737488355328:=by omega
          go_wp2_with (at_builtin;refine wp_appB rfl (.tmp 31) (.tmp 32) rfl w.heap.size u6 (ls.take k).flatten (by rfl) hown wr.heap.size zs[k].1.1.1 zs[k].1.1.2 zs[k].1.2 (by rfl) hz t1 hBs ?_;intro v' w2 hown2 hg2;have hB2:=hown.below hB hg2)
          refine⟨⟨k+1,by omega,by simp,by rw[HX.out k hlt];exact hown2,hB2⟩,by simp[intOf];omega⟩
        · obtain rfl:k=zs.length:=by omega
          go_wp2
          go_ret
          rw[HA.out] at hown
          exact⟨_,rfl,hown,hB⟩
end Go.Proofs.YtmllnpjldmdaeaaGreat
namespace Go.Proofs.YtmllnpjldmdaeaaGreat
open Go Go.RowKit
def Grow (w w':World):Prop:=Below w.heap.size w w'
theorem Grow.refl (w:World):Grow w w:=Below.refl _ _
theorem Grow.trans {a b c:World}(h:Grow a b)(k:Grow b c):Grow a c:=Below.trans h (Below.mono k h.size)
theorem Grow.drew (w:World):Grow w w.drew:=(Below.refl _ _).drew
theorem Grow.alloc (w:World)(o:Obj):Grow w (w.alloc o):=(Below.refl _ _).alloc (Nat.le_refl _) o
namespace Reg
variable {P:Program}{ops:Array Oper}{FS:Tmp->Value->World->Prop}
def FSd (FS:Tmp->Value->World->Prop):Option Tmp->Value->World->Prop
  | some d,v,w=>FS d v w
  | none,_,_=>True
def OpOk (P:Program)(ops:Array Oper)(FS:Tmp->Value->World->Prop)(w0:World)(o:Oper):Prop :=
  ∀(a:Act) (w:World) (K:Act->World->Prop) (Q:Exit->Act->World->Prop),Grow w0 w->(∀t,(o.looksAt ops).contains t=true->FS t (a.eval (.tmp t)) w) ->
    (∀v w',Grow w w'->FSd FS o.dst v w'->K (a.put o.dst v) w') ->
    (if Region.wanted o (yielded ops a.tmps) then o.wp P a w K Q∨(o.asks P a w/\LetsOut Q) else K (a.put o.dst undef) w)
def AllOk (P:Program)(ops:Array Oper)(FS:Tmp->Value->World->Prop)(w0:World):List Oper->Prop
  | []=>True
  | o::r=>OpOk P ops FS w0 o/\AllOk P ops FS w0 r
theorem AllOk.get {w0:World}:∀{l:List Oper},AllOk P ops FS w0 l->∀o∈l,OpOk P ops FS w0 o
  | [],_,o,h=>by cases h
  | x::r,h,o,hm=>by
    rcases List.mem_cons.1 hm with rfl|hm
    · exact h.1
    · exact AllOk.get h.2 o hm
def covered (ops:Array Oper):Bool :=
  ops.toList.zipIdx.all fun (o,i) =>
    (o.after.toList.all fun e => !Region.binds .any e || decide (e.on<i)) &&
    (o.looksAt ops).all fun t=>ops.toList.zipIdx.all fun (p,j)=>p.dst != some t || (o.after.toList.any fun e=>Region.binds .any e && e.on == j)
def Known (ops:Array Oper)(listed:Array Bool)(t:Tmp):Prop:=∀(j:Nat) (p:Oper),ops[j]? = some p->p.dst=some t->listed.getD j true=true
structure J (ops:Array Oper)(FS:Tmp->Value->World->Prop)(w0:World)(n:Nat)(d:List Deferred)(listed:Array Bool)(a:Act)(w:World):Prop where
  size:a.tmps.size=n
  defers:a.defers=d
  grow:Grow w0 w
  facts:∀t,Known ops listed t->FS t (a.eval (.tmp t)) w
theorem eval_put_same {a:Act}{d:Tmp}{v:Value}(h:d<a.tmps.size):(a.put (some d) v).eval (.tmp d)=v:=by
  simp[Act.put,Act.eval,h]
theorem eval_put_other {a:Act}{d t:Tmp}{v:Value}(h:t≠d):(a.put (some d) v).eval (.tmp t)=a.eval (.tmp t):=by
  simp[Act.put,Act.eval,Array.getD_eq_getD_getElem?,Ne.symm h]
theorem ready_mem {i:Nat}{listed:Array Bool}(h:i∈Region.ready .any ops listed):∃o,ops[i]? = some o/\listed.getD i true=false/\∀e∈o.after.toList,Region.binds .any e=true->listed.getD e.on false=true:=by
  unfold Region.ready at h
  simp only[List.mem_filter,List.mem_range,Bool.and_eq_true,Bool.not_eq_true'] at h
  obtain⟨hi,h1,h2⟩:=h
  cases ho:ops[i]? with
  | none=>simp[ho] at h2
  | some o =>
    refine⟨o,rfl,h1,?_⟩
    simp only[ho,Option.map_some,Option.getD_some] at h2
    intro e he hb
    rw[Array.all_eq_true_iff_forall_mem] at h2
    have:=h2 e (Array.mem_toList_iff.1 he)
    simpa[hb] using this
theorem covered_spec (h:covered ops=true){i:Nat}{o:Oper}(ho:ops[i]? = some o) :
    (∀e∈o.after.toList,Region.binds .any e=true->e.on<i) /\
    (∀t,(o.looksAt ops).contains t=true->∀(j:Nat) (p:Oper),ops[j]? = some p->p.dst=some t->∃e∈o.after.toList,Region.binds .any e=true/\e.on=j):=by
  unfold covered at h
  rw[List.all_eq_true] at h
  have hm:(o,i)∈ops.toList.zipIdx:=by
    rw[List.mem_zipIdx_iff_getElem?]
    simpa using ho
  have:=h _ hm
  simp only[Bool.and_eq_true,List.all_eq_true] at this
  obtain⟨h1,h2⟩:=this
  constructor
  · intro e he hb
    have:=h1 e he
    simpa[hb] using this
  · intro t ht j p hp hd
    have hp':(p,j)∈ops.toList.zipIdx:=by
      rw[List.mem_zipIdx_iff_getElem?]
      simpa using hp
    have:=h2 t (by simpa using ht) _ hp'
    simp only[hd,bne_self_eq_false,Bool.false_or,List.any_eq_true,Bool.and_eq_true,beq_iff_eq] at this
    obtain⟨e,he,hb,hj⟩:=this
    exact⟨e,he,hb,hj⟩
def left (listed:Array Bool):Nat:=(listed.toList.filter (! ·)).length
theorem region_wpAny (hm:P.follows .mixedOrders=true)(hcov:covered ops=true){a0:Act}{w0:World}{Q:Exit->Act->World->Prop}(n:Nat)(hn:a0.tmps.size=n)
    (hdst:∀o∈ops.toList,∀d,o.dst=some d->d<n) (FS:Tmp->Value->World->Prop)
    (hstab:∀t v w w',FS t v w->Grow w w'->FS t v w')
    (hstart:∀t,(∀o∈ops.toList,o.dst≠some t)->FS t (a0.eval (.tmp t)) w0)
    (hok:AllOk P ops FS w0 ops.toList)
    (hend:∀a w,a.tmps.size=n->a.defers=a0.defers->Grow w0 w->(∀t,FS t (a.eval (.tmp t)) w)->Q .normal a w) :
    wpAny P .any ops Q ops.size (Array.replicate ops.size false) a0 { w0 with drawn:=w0.drawn+1 }:=by
  have key:∀(fuel:Nat) (listed:Array Bool) (a:Act) (w:World),listed.size=ops.size->left listed<=fuel->J ops FS w0 n a0.defers listed a w->wpAny P .any ops Q fuel listed a w:=by
    intro fuel
    have hdone:∀(listed:Array Bool) (a:Act) (w:World),listed.size=ops.size->J ops FS w0 n a0.defers listed a w->Region.ready .any ops listed=[]->Q .normal a w:=by
      intro listed a w hs hJ hr
      have hall:∀i,i<ops.size->listed.getD i true=true:=by
        intro i
        induction i using Nat.strongRecOn with
        | _ i ih =>
          intro hi
          cases hl:listed.getD i true with
          | true=>rfl
          | false =>
            exfalso
            have:i∈Region.ready .any ops listed:=by
              unfold Region.ready
              simp only[List.mem_filter,List.mem_range,Bool.and_eq_true,Bool.not_eq_true']
              refine⟨hi,hl,?_⟩
              have ho:ops[i]? = some ops[i]:=Array.getElem?_eq_getElem hi
              simp only[ho,Option.map_some,Option.getD_some]
              rw[Array.all_eq_true_iff_forall_mem]
              intro e he
              have hc:=(covered_spec hcov ho).1 e (Array.mem_toList_iff.2 he)
              cases hb:Region.binds .any e with
              | false=>simp
              | true =>
                have hlt:=hc hb
                have h1:=ih e.on hlt (by omega)
                have h2:e.on<listed.size:=by omega
                simp only[Array.getD,h2,dif_pos] at h1 ⊢
                simpa using h1
            rw[hr] at this
            cases this
      refine hend a w hJ.size hJ.defers hJ.grow (fun t=>hJ.facts t ?_)
      intro j p hp _
      exact hall j (Array.getElem?_eq_some_iff.1 hp).1
    induction fuel with
    | zero =>
      intro listed a w hs hf hJ
      have hr:Region.ready .any ops listed=[]:=by
        rcases hr:Region.ready .any ops listed with _|⟨i,r⟩
        · rfl
        · exfalso
          obtain⟨o,ho,hl,_⟩:=ready_mem (ops:=ops) (listed:=listed) (i:=i) (by rw[hr];simp)
          have hi:i<listed.size:=by rw[hs];exact(Array.getElem?_eq_some_iff.1 ho).1
          have hmem:listed[i]∈listed.toList.filter (! ·):=by
            rw[List.mem_filter]
            refine⟨by simp,?_⟩
            have hl':listed[i]=false:=by simpa[Array.getD,hi] using hl
            simp[hl']
          have:0<left listed:=List.length_pos_of_mem hmem
          omega
      exact⟨hr,hdone listed a w hs hJ hr⟩
    | succ fuel ih =>
      intro listed a w hs hf hJ
      refine⟨hdone listed a w hs hJ,fun i hi => ?_⟩
      obtain⟨o,ho,hl,hedges⟩:=ready_mem hi
      have hom:o∈ops.toList:=by
        obtain⟨h1,h2⟩:=Array.getElem?_eq_some_iff.1 ho
        subst h2
        simp
      have hisz:i<listed.size:=by rw[hs];exact(Array.getElem?_eq_some_iff.1 ho).1
      have hlook:∀t,(o.looksAt ops).contains t=true->FS t (a.eval (.tmp t)) w:=by
        intro t ht
        refine hJ.facts t ?_
        intro j p hp hd
        obtain⟨e,he,hb,rfl⟩:=(covered_spec hcov ho).2 t ht j p hp hd
        have:=hedges e he hb
        have hlt:e.on<listed.size:=by rw[hs];exact(Array.getElem?_eq_some_iff.1 hp).1
        simp only[Array.getD,hlt,dif_pos] at this ⊢
        exact this
      have hnext:∀v w',Grow w w'->FSd FS o.dst v w'->wpAny P .any ops Q fuel (listed.setIfInBounds i true) (a.put o.dst v) w':=by
        intro v w' hg hv
        refine ih _ _ _ (by simpa using hs) ?_ ⟨?_,?_,hJ.grow.trans hg,?_⟩
        · have hl':listed[i]=false:=by simpa[Array.getD,hisz] using hl
          have:left (listed.setIfInBounds i true)<left listed:=by
            unfold left
            rw[Array.toList_setIfInBounds]
            have e1:listed.toList=listed.toList.take i++false::listed.toList.drop (i+1):=by
              have h3:listed.toList[i]'(by simpa using hisz)=false:=by simpa using hl'
              conv=>lhs;rw[<-List.take_append_drop i listed.toList,List.drop_eq_getElem_cons (by simpa using hisz),h3]
            rw[List.set_eq_take_append_cons_drop,if_pos (by simpa using hisz)]
            conv=>rhs;rw[e1]
            simp
          omega
        · cases hd:o.dst with
          | none=>simpa[Act.put] using hJ.size
          | some d=>simpa[Act.put] using hJ.size
        · cases hd:o.dst with
          | none=>simpa[Act.put] using hJ.defers
          | some d=>simpa[Act.put] using hJ.defers
        · intro t ht
          by_cases hdt:o.dst=some t
          · rw[hdt] at hv ⊢
            rw[eval_put_same (by rw[hJ.size];exact hdst o hom t hdt)]
            exact hv
          · have hk:Known ops listed t:=by
              intro j p hp hd
              have:=ht j p hp hd
              by_cases e:i=j
              · subst e
                rw[ho] at hp
                injection hp with hp
                subst hp
                exact absurd hd hdt
              · simpa[Array.getD_eq_getD_getElem?,Array.getElem?_setIfInBounds,e] using this
            have:=hstab t _ w w' (hJ.facts t hk) hg
            cases hd:o.dst with
            | none=>simpa[Act.put] using this
            | some d =>
              rw[eval_put_other (by intro e;subst e;exact hdt hd)]
              exact this
      have:=AllOk.get hok o hom a w _ Q hJ.grow hlook hnext
      unfold wpOp
      simp only[ho]
      exact this
  refine key ops.size _ a0 _ (by simp) ?_ ⟨hn,rfl,Grow.drew w0,?_⟩
  · unfold left
    simp
  · intro t ht
    refine hstab t _ w0 _ (hstart t ?_) (Grow.drew w0)
    intro o ho hd
    obtain⟨i,hi,rfl⟩:=List.getElem_of_mem ho
    have hi':i<ops.size:=by simpa using hi
    have:=ht i ops[i] (Array.getElem?_eq_getElem hi') (by simpa using hd)
    simp[Array.getD,hi'] at this
theorem region (hm:P.follows .mixedOrders=true)(hcov:covered ops=true){id:Nat}{a0:Act}{w0:World}{Q:Exit->Act->World->Prop}(n:Nat)(hn:a0.tmps.size=n)
    (hdst:∀o∈ops.toList,∀d,o.dst=some d->d<n) (FS:Tmp->Value->World->Prop)
    (hstab:∀t v w w',FS t v w->Grow w w'->FS t v w')
    (hstart:∀t,(∀o∈ops.toList,o.dst≠some t)->FS t (a0.eval (.tmp t)) w0)
    (hok:AllOk P ops FS w0 ops.toList)
    (hend:∀a w,a.tmps.size=n->a.defers=a0.defers->Grow w0 w->(∀t,FS t (a.eval (.tmp t)) w)->Q .normal a w) :
    (Code.region id ops true).wp P Q a0 w0 :=
  wp_region_any hm (region_wpAny hm hcov n hn hdst FS hstab hstart hok hend)
variable {w0:World}{o:Oper}
def RunOk (P:Program)(ops:Array Oper)(FS:Tmp->Value->World->Prop)(w0:World)(o:Oper):Prop :=
  ∀(a:Act) (w:World) (K:Act->World->Prop) (Q:Exit->Act->World->Prop),Grow w0 w->(∀t,(o.looksAt ops).contains t=true->FS t (a.eval (.tmp t)) w) ->
    (∀v w',Grow w w'->FSd FS o.dst v w'->K (a.put o.dst v) w')->o.wp P a w K Q
theorem ok_none (hg:o.guard=none)(h:RunOk P ops FS w0 o):OpOk P ops FS w0 o:=by
  intro a w K Q hG hl hK
  rw[if_pos (by simp[Region.wanted,hg])]
  exact .inl (h a w K Q hG hl hK)
theorem ok_guard (j:Nat)(want:Bool)(d:Tmp)(hg:o.guard=some (j,want))(hd:(ops[j]?).bind (·.dst)=some d)(hl:(o.looksAt ops).contains d=true)(hF:∀v w,FS d v w->v = .bool want)
    (h:RunOk P ops FS w0 o):OpOk P ops FS w0 o:=by
  intro a w K Q hG hlk hK
  have e:=hF _ _ (hlk d hl)
  have hw:Region.wanted o (yielded ops a.tmps)=true:=by
    have h2:a.tmps[d]? = some (.bool want):=by
      replace e:a.tmps.getD d undef = .bool want:=e
      rw[Array.getD_eq_getD_getElem?] at e
      cases hx:a.tmps[d]? with
      | none=>rw[hx] at e;cases e
      | some x=>rw[hx] at e;simpa using e
    simp[Region.wanted,hg,yielded,hd,h2]
  rw[if_pos hw]
  exact .inl (h a w K Q hG hlk hK)
def Has (ops:Array Oper)(FS:Tmp->Value->World->Prop)(o:Oper)(x:Operand)(v:Value):Prop :=
  ∀(a:Act) (w:World),(∀t,(o.looksAt ops).contains t=true->FS t (a.eval (.tmp t)) w)->a.eval x=v
theorem has_tmp {t:Tmp}{v:Value}(h:(o.looksAt ops).contains t=true)(hF:∀u w,FS t u w->u=v):Has ops FS o (.tmp t) v:=fun _ _ hl=>hF _ _ (hl t h)
theorem has_const {v:Value}:Has ops FS o (.const v) v:=fun _ _ _=>rfl
theorem run_mvF (t:Tmp)(ho:o.op = .move (.tmp t)∨o.op = .assign (.tmp t))(hc:(o.looksAt ops).contains t=true)(hd:∀v w,FS t v w->FSd FS o.dst v w):RunOk P ops FS w0 o:=by
  intro a w K Q hG hl hK
  unfold Oper.wp execOp
  rcases ho with ho|ho<;>simp only[ho,Sem.run_pure,Oper.upon_value]<;>exact hK _ w (Grow.refl w) (hd _ _ (hl t hc))
theorem run1 (x:Operand){u r:Value}(hx:Has ops FS o x u)(hrun:∀(ρ:Operand->Value) (w:World),ρ x=u->(execOp ρ o).run P w = .ok (.value r) w)(hd:∀w,FSd FS o.dst r w):RunOk P ops FS w0 o:=by
  intro a w K Q hG hl hK
  unfold Oper.wp
  rw[hrun a.eval w (hx a w hl)]
  exact hK r w (Grow.refl w) (hd w)
theorem run2 (x y:Operand){u v r:Value}(hx:Has ops FS o x u)(hy:Has ops FS o y v)(hrun:∀(ρ:Operand->Value) (w:World),ρ x=u->ρ y=v->(execOp ρ o).run P w = .ok (.value r) w)(hd:∀w,FSd FS o.dst r w):RunOk P ops FS w0 o:=by
  intro a w K Q hG hl hK
  unfold Oper.wp
  rw[hrun a.eval w (hx a w hl) (hy a w hl)]
  exact hK r w (Grow.refl w) (hd w)
theorem run_call (f:FuncId)(xs:Array Operand)(ts:Array TypeId)(ho:o.op = .call { callee:=.value (.func f),args:=xs,argTypes:=ts })(hent:∀args w,(callFunc f args).run P w = .ok (.enter f args) w)
    (args:Array Value) (hargs:∀(a:Act) (w:World),(∀t,(o.looksAt ops).contains t=true->FS t (a.eval (.tmp t)) w)->xs.map a.eval=args)
    (hC:∀w,Grow w0 w->Calls P f args w fun e w'=>∃v,e = .returned v/\Grow w w'/\FSd FS o.dst v w'):RunOk P ops FS w0 o:=by
  intro a w K Q hG hl hK
  have e:=hargs a w hl
  unfold Oper.wp
  have hr:(execOp a.eval o).run P w = .ok (.enter f args) w:=by
    have e':(Array.map a.eval xs)=args:=e
    have ef:a.eval (.func f) = .func (.func f) #[] #[]:=rfl
    have h:=hent args w
    simp[execOp,ho,resolve,e',ef,Deferred.ofValue,invoke,h]
  rw[hr,Oper.upon_enter]
  refine(hC w hG).mono ?_
  rintro e w' ⟨v,rfl,hg,hf⟩
  exact hK v w' hg hf
end Reg
end Go.Proofs.YtmllnpjldmdaeaaGreat
namespace Go.Proofs.YtmllnpjldmdaeaaGreat
open Go Go.RowKit Lou
inductive Fact where
  | val (v:Value)
  | res (l:List UInt8)
  | any
  | pred (p:Value->World->Prop) (h:∀v w w',p v w->Grow w w'->p v w')
def Fact.holds:Fact->Value->World->Prop
  | .val x,v,_=>v=x
  | .res l,v,w=>∃A c,v = .slice A l.length c/\InB w w.heap.size A c l
  | .any,_,_=>True
  | .pred p _,v,w=>p v w
theorem Fact.stable (f:Fact){v:Value}{w w':World}(h:f.holds v w)(hg:Grow w w'):f.holds v w':=by
  cases f with
  | val x=>exact h
  | res l =>
    obtain⟨A,c,e,hin⟩:=h
    exact⟨A,c,e,(hin.below hg).more hg.size⟩
  | any=>trivial
  | pred p hp=>exact hp v w w' h hg
def factOf:List (Nat×Fact)->Nat->Fact
  | [],_ => .any
  | (k,f)::r,t=>if k == t then f else factOf r t
def FSof (L:List (Nat×Fact))(t:Tmp)(v:Value)(w:World):Prop:=(factOf L t).holds v w
theorem FSof.stable (L:List (Nat×Fact))(t:Tmp)(v:Value)(w w':World)(h:FSof L t v w)(hg:Grow w w'):FSof L t v w':=Fact.stable _ h hg
def written (ops:Array Oper)(t:Nat):Bool:=ops.toList.any fun o=>o.dst == some t
def dstsIn (ops:Array Oper)(n:Nat):Bool:=ops.toList.all fun o=>match o.dst with|some d=>decide (d<n)|none=>true
namespace Reg
def StartOk (a0:Act)(w0:World):List (Nat×Fact)->Prop
  | []=>True
  | (k,f)::r=>f.holds (a0.eval (.tmp k)) w0/\StartOk a0 w0 r
theorem start_fact {a0:Act}{w0:World}{ops:Array Oper}:∀(V W:List (Nat×Fact)),StartOk a0 w0 V->(W.all fun p=>written ops p.1)=true->∀t,(∀o∈ops.toList,o.dst≠some t)->(factOf (V++W) t).holds (a0.eval (.tmp t)) w0
  | [],[],_,_,t,_=>by simp[factOf,Fact.holds]
  | [],(k,f)::r,hV,hW,t,ht=>by
    simp only[List.all_cons,Bool.and_eq_true] at hW
    simp only[List.nil_append,factOf]
    split
    · rename_i e
      obtain rfl:k=t:=by simpa using e
      exfalso
      have:=hW.1
      simp only[written,List.any_eq_true,beq_iff_eq] at this
      obtain⟨o,ho,hd⟩:=this
      exact ht o ho hd
    · exact start_fact [] r hV hW.2 t ht
  | (k,f)::r,W,hV,hW,t,ht=>by
    simp only[List.cons_append,factOf]
    split
    · rename_i e
      obtain rfl:k=t:=by simpa using e
      exact hV.1
    · exact start_fact r W hV.2 hW t ht
theorem allOk_cons {P:Program}{ops:Array Oper}{FS:Tmp->Value->World->Prop}{w0:World}{o:Oper}{r:List Oper}(h:OpOk P ops FS w0 o)(k:AllOk P ops FS w0 r):AllOk P ops FS w0 (o::r):=⟨h,k⟩
theorem allOk_nil {P:Program}{ops:Array Oper}{FS:Tmp->Value->World->Prop}{w0:World}:AllOk P ops FS w0 []:=trivial
section rules
variable {ops:Array Oper}{FS:Tmp->Value->World->Prop}{w0:World}{o:Oper}
theorem rule_convS (x:Operand)(S D:TypeId){u r:Value}(ho:o.op = .convert S D x)(hx:Has ops FS o x u)(hrun:∀w,Grow w0 w->(convert S D u).run Tryz.prog w = .ok r w)(hd:∀w,FSd FS o.dst r w):RunOk Tryz.prog ops FS w0 o:=by
  intro a w K Q hG hl hK
  have e:=hx a w hl
  unfold Oper.wp
  have hr:(execOp a.eval o).run Tryz.prog w = .ok (.value r) w:=by simp[execOp,ho,e,hrun w hG,Result.andThen]
  rw[hr]
  exact hK r w (Grow.refl w) (hd w)
theorem args1 {x:Operand}{u:Value}(h:Has ops FS o x u):∀(a:Act) (w:World),(∀t,(o.looksAt ops).contains t=true->FS t (a.eval (.tmp t)) w)->Array.map a.eval #[x]=#[u]:=fun a w hl=>by simp[h a w hl]
end rules
theorem gives_grow {P:Program}{w:World}{f:FuncId}{args:Array Value}{v:Value}(h:Calls P f args w fun e w'=>e = .returned v/\Below w.heap.size w w'):Calls P f args w fun e w'=>∃u,e = .returned u/\Grow w w'/\u=v :=
  h.mono (by rintro e w' ⟨rfl,hB⟩;exact⟨_,rfl,hB,rfl⟩)
theorem gives_res {w:World}{f:FuncId}{args:Array Value}{l:List UInt8}(h:Calls Tryz.prog f args w (GivesB w l)):Calls Tryz.prog f args w fun e w'=>∃v,e = .returned v/\Grow w w'/\(Fact.res l).holds v w' :=
  h.mono fun e w' ⟨v,he,hown,hB⟩=>⟨v,he,hB,hown.inB⟩
def FD (L:List (Nat×Fact)):Option Tmp->Fact
  | some d=>factOf L d
  | none => .any
theorem fsd {L:List (Nat×Fact)}{d:Option Tmp}{f:Fact}{v:Value}{w:World}(h:FD L d=f)(hv:f.holds v w):FSd (FSof L) d v w:=by
  cases d with
  | none=>trivial
  | some d=>subst h;exact hv
section lists
variable {L:List (Nat×Fact)}{ops:Array Oper}{w0:World}{o:Oper}{P:Program}
theorem hs (t:Tmp)(v:Value)(hc:(o.looksAt ops).contains t=true)(hF:factOf L t = .val v):Has ops (FSof L) o (.tmp t) v :=
  has_tmp hc fun u w h=>by
    have h':(factOf L t).holds u w:=h
    rw[hF] at h'
    exact h'
theorem hc (v:Value):Has ops (FSof L) o (.const v) v:=has_const
theorem okg (j:Nat)(want:Bool)(d:Tmp)(hg:o.guard=some (j,want))(hd:(ops[j]?).bind (·.dst)=some d)(hl:(o.looksAt ops).contains d=true)(hF:factOf L d = .val (.bool want))
    (h:RunOk P ops (FSof L) w0 o):OpOk P ops (FSof L) w0 o :=
  ok_guard j want d hg hd hl (fun v w h=>by
    have h':(factOf L d).holds v w:=h
    rw[hF] at h'
    exact h') h
theorem l_mvF (t:Tmp)(f:Fact)(ho:o.op = .move (.tmp t)∨o.op = .assign (.tmp t))(hc:(o.looksAt ops).contains t=true)(hF:factOf L t=f)(hd:FD L o.dst=f):RunOk P ops (FSof L) w0 o :=
  run_mvF t ho hc fun v w h=>fsd hd (by
    have h':(factOf L t).holds v w:=h
    rw[hF] at h'
    exact h')
theorem l_run1 (x:Operand)(u r:Value)(hx:Has ops (FSof L) o x u)(hrun:∀(ρ:Operand->Value) (w:World),ρ x=u->(execOp ρ o).run P w = .ok (.value r) w)(hd:FD L o.dst = .val r):RunOk P ops (FSof L) w0 o :=
  run1 x hx hrun fun _=>fsd hd rfl
theorem l_convS (x:Operand)(S D:TypeId)(u r:Value)(ho:o.op = .convert S D x)(hx:Has ops (FSof L) o x u)(hrun:∀w,Grow w0 w->(convert S D u).run Tryz.prog w = .ok r w)(hd:FD L o.dst = .val r):RunOk Tryz.prog ops (FSof L) w0 o :=
  rule_convS x S D ho hx hrun fun _=>fsd hd rfl
theorem l_call (f:FuncId)(xs:Array Operand)(ts:Array TypeId)(ho:o.op = .call { callee:=.value (.func f),args:=xs,argTypes:=ts })(hent:∀args w,(callFunc f args).run P w = .ok (.enter f args) w)
    (args:Array Value) (g:Fact) (hargs:∀(a:Act) (w:World),(∀t,(o.looksAt ops).contains t=true->FSof L t (a.eval (.tmp t)) w)->xs.map a.eval=args)
    (hC:∀w,Grow w0 w->Calls P f args w fun e w'=>∃v,e = .returned v/\Grow w w'/\g.holds v w') (hd:FD L o.dst=g):RunOk P ops (FSof L) w0 o :=
  run_call f xs ts ho hent args hargs fun w hG=>(hC w hG).mono fun _ _ ⟨v,e,hg,hh⟩=>⟨v,e,hg,fsd hd hh⟩
theorem l_callP (f:FuncId)(t:Tmp)(p:Value->World->Prop)(hp:∀v w w',p v w->Grow w w'->p v w')(ts:Array TypeId)(ho:o.op = .call { callee:=.value (.func f),args:=#[.tmp t],argTypes:=ts })(hent:∀args w,(callFunc f args).run P w = .ok (.enter f args) w)
    (g:Fact) (hc:(o.looksAt ops).contains t=true) (hF:factOf L t = .pred p hp)
    (hC:∀w u,Grow w0 w->p u w->Calls P f #[u] w fun e w'=>∃v,e = .returned v/\Grow w w'/\g.holds v w') (hd:FD L o.dst=g):RunOk P ops (FSof L) w0 o:=by
  intro a w K Q hG hl hK
  have h':(factOf L t).holds (a.eval (.tmp t)) w:=hl t hc
  rw[hF] at h'
  have e:a.eval (.tmp t)=a.eval (.tmp t):=rfl
  revert h' e
  generalize hu:a.eval (.tmp t)=u
  intro h' _
  unfold Oper.wp
  have hr:(execOp a.eval o).run P w = .ok (.enter f #[u]) w:=by
    have ef:a.eval (.func f) = .func (.func f) #[] #[]:=rfl
    have h:=hent #[u] w
    simp[execOp,ho,resolve,hu,ef,Deferred.ofValue,invoke,h]
  rw[hr,Oper.upon_enter]
  refine(hC w u hG h').mono ?_
  rintro e w' ⟨v,rfl,hg,hf⟩
  exact hK v w' hg (fsd hd hf)
theorem l_run2W (x y:Operand)(g:Fact)(u v:Value)(hx:Has ops (FSof L) o x u)(hy:Has ops (FSof L) o y v)
    (hrun:∀(ρ:Operand->Value) (w:World),Grow w0 w->ρ x=u->ρ y=v->∃r w',(execOp ρ o).run P w = .ok (.value r) w'/\Grow w w'/\g.holds r w') (hd:FD L o.dst=g):RunOk P ops (FSof L) w0 o:=by
  intro a w K Q hG hl hK
  obtain⟨r,w',h1,h2,h3⟩:=hrun a.eval w hG (hx a w hl) (hy a w hl)
  unfold Oper.wp
  rw[h1]
  exact hK r w' h2 (fsd hd h3)
theorem l_run1W (x:Operand)(g:Fact)(u:Value)(hx:Has ops (FSof L) o x u)
    (hrun:∀(ρ:Operand->Value) (w:World),Grow w0 w->ρ x=u->∃r w',(execOp ρ o).run P w = .ok (.value r) w'/\Grow w w'/\g.holds r w') (hd:FD L o.dst=g):RunOk P ops (FSof L) w0 o:=by
  intro a w K Q hG hl hK
  obtain⟨r,w',h1,h2,h3⟩:=hrun a.eval w hG (hx a w hl)
  unfold Oper.wp
  rw[h1]
  exact hK r w' h2 (fsd hd h3)
end lists
end Reg
namespace Reg
theorem OpOk.mono {P:Program}{ops:Array Oper}{FS FS':Tmp->Value->World->Prop}{w0:World}{o:Oper}(h:OpOk P ops FS w0 o)(h1:∀t v w,FS' t v w->FS t v w)(h2:∀d v w,o.dst=some d->FS d v w->FS' d v w):OpOk P ops FS' w0 o:=by
  intro a w K Q hG hl hK
  refine h a w K Q hG (fun t ht=>h1 _ _ _ (hl t ht)) (fun v w' hg hf=>hK v w' hg ?_)
  cases hd:o.dst with
  | none=>trivial
  | some d =>
    rw[hd] at hf
    exact h2 d v w' hd hf
theorem AllOk.mono {P:Program}{ops:Array Oper}{FS FS':Tmp->Value->World->Prop}{w0:World}(h1:∀t v w,FS' t v w->FS t v w):∀{l:List Oper},(∀o∈l,∀d v w,o.dst=some d->FS d v w->FS' d v w)->AllOk P ops FS w0 l->AllOk P ops FS' w0 l
  | [],_,_=>trivial
  | o::r,h2,h=>⟨h.1.mono h1 (h2 o (List.mem_cons_self ..)),h.2.mono h1 fun o ho=>h2 o (List.mem_cons_of_mem _ ho)⟩
def dstsAre (ops:Array Oper)(D:List Nat):Bool:=ops.toList.all fun o=>match o.dst with|some d=>D.contains d|none=>true
theorem region_acts {P:Program}{ops:Array Oper}(hm:P.follows .mixedOrders=true)(hcov:covered ops=true){id:Nat}{a0:Act}{w0:World}{Q:Exit->Act->World->Prop}(n:Nat)(hn:a0.tmps.size=n)
    (hdst:dstsIn ops n=true) (D:List Nat) (hD:dstsAre ops D=true) (V W:List (Nat×Fact)) (hV:StartOk a0 w0 V) (hW:(W.all fun p=>written ops p.1)=true)
    (hok:AllOk P ops (FSof (V++W)) w0 ops.toList)
    (hend:∀a w,a.tmps.size=n->a.defers=a0.defers->Grow w0 w->(∀t,FSof (V++W) t (a.eval (.tmp t)) w)->(∀t,D.contains t=false->a.eval (.tmp t)=a0.eval (.tmp t))->Q .normal a w) :
    (Code.region id ops true).wp P Q a0 w0:=by
  have hD':∀o∈ops.toList,∀d,o.dst=some d->D.contains d=true:=by
    intro o ho d hd
    unfold dstsAre at hD
    rw[List.all_eq_true] at hD
    have:=hD o ho
    simpa[hd] using this
  refine region hm hcov n hn ?_ (fun t v w=>FSof (V++W) t v w/\(D.contains t=false->v=a0.eval (.tmp t))) (fun t v w w' h hg=>⟨FSof.stable _ _ _ _ _ h.1 hg,h.2⟩) (fun t ht=>⟨start_fact V W hV hW t ht,fun _=>rfl⟩)
    (AllOk.mono (fun _ _ _ h=>h.1) (fun o ho d v w hd h=>⟨h,fun hn=>by rw[hD' o ho d hd] at hn;cases hn⟩) hok) ?_
  · intro o ho d hd
    unfold dstsIn at hdst
    rw[List.all_eq_true] at hdst
    have:=hdst o ho
    simpa[hd] using this
  · intro a w h1 h2 h3 h4
    exact hend a w h1 h2 h3 (fun t=>(h4 t).1) (fun t=>(h4 t).2)
theorem acts_eq {a a0:Act}:∀(D:List Nat),a.tmps.size=a0.tmps.size->a.defers=a0.defers->(∀t,D.contains t=false->a.eval (.tmp t)=a0.eval (.tmp t))->a=D.foldl (fun x d=>x.put (some d) (a.eval (.tmp d))) a0:=by
  have size_put:∀(x:Act) d v,(x.put (some d) v).tmps.size=x.tmps.size:=by intro x d v;simp[Act.put]
  have key:∀(D:List Nat) (b:Act),a.tmps.size=b.tmps.size->a.defers=b.defers->(∀t,D.contains t=false->a.eval (.tmp t)=b.eval (.tmp t))->a=D.foldl (fun x d=>x.put (some d) (a.eval (.tmp d))) b:=by
    intro D
    induction D with
    | nil =>
      intro b hs hd h
      have:a.tmps=b.tmps:=by
        apply Array.ext hs
        intro i h1 h2
        have:=h i rfl
        simpa[Act.eval,Array.getD,h1,h2] using this
      cases a;cases b;simp_all
    | cons d r ih =>
      intro b hs hd h
      rw[List.foldl_cons]
      refine ih _ (by rw[size_put];exact hs) (by simp[Act.put,hd]) ?_
      intro t ht
      by_cases e:t=d
      · subst e
        by_cases hlt:t<b.tmps.size
        · rw[eval_put_same hlt]
        · have h1:¬ t<a.tmps.size:=by omega
          simp[Act.put,Act.eval,Array.getD_eq_getD_getElem?,h1,hlt]
      · rw[eval_put_other e]
        exact h t (by simp only[List.contains_cons,Bool.or_eq_false_iff];exact⟨by simpa using e,ht⟩)
  exact fun D=>key D a0
section lists
variable {L:List (Nat×Fact)}{ops:Array Oper}{w0:World}{o:Oper}{P:Program}
theorem okg_not (j:Nat)(want:Bool)(d:Tmp)(hg:o.guard=some (j,want))(hd:(ops[j]?).bind (·.dst)=some d)(hl:(o.looksAt ops).contains d=true)(hF:factOf L d = .val (.bool !want))(hD:FD L o.dst = .any):OpOk P ops (FSof L) w0 o:=by
  intro a w K Q hG hlk hK
  have h':(factOf L d).holds (a.eval (.tmp d)) w:=hlk d hl
  rw[hF] at h'
  have e:a.eval (.tmp d) = .bool !want:=h'
  have hw:Region.wanted o (yielded ops a.tmps)=false:=by
    have h2:a.tmps[d]? = some (.bool !want):=by
      replace e:a.tmps.getD d undef = .bool !want:=e
      rw[Array.getD_eq_getD_getElem?] at e
      cases hx:a.tmps[d]? with
      | none=>rw[hx] at e;cases e
      | some x=>rw[hx] at e;simpa using e
    cases want<;>simp[Region.wanted,hg,yielded,hd,h2]
  rw[if_neg (by simp[hw])]
  exact hK undef w (Grow.refl w) (fsd hD trivial)
theorem l_pickF (x y z:Operand)(r:Value)(ho:o.op = .pick x y z)(hx:Has ops (FSof L) o x (.bool false))(hz:Has ops (FSof L) o z r)(hd:FD L o.dst = .val r):RunOk P ops (FSof L) w0 o :=
  run2 x z hx hz (fun ρ w h1 h2=>by simp[execOp,ho,h1,h2,asBool]) fun _=>fsd hd rfl
theorem l_pickT (x y z:Operand)(r:Value)(ho:o.op = .pick x y z)(hx:Has ops (FSof L) o x (.bool true))(hy:Has ops (FSof L) o y r)(hd:FD L o.dst = .val r):RunOk P ops (FSof L) w0 o :=
  run2 x y hx hy (fun ρ w h1 h2=>by simp[execOp,ho,h1,h2,asBool]) fun _=>fsd hd rfl
theorem l_load (x:Operand)(p:Addr)(T:TypeId)(v:Value)(hagg:∀w:World,(isAgg T).run P w = .ok false w)(ho:o.op = .load T x)(hx:Has ops (FSof L) o x (.pointer (some p)))(hcell:∀w,Grow w0 w->w.cell? p=some v)(hd:FD L o.dst = .val v):RunOk P ops (FSof L) w0 o:=by
  refine l_run1W x (.val v) _ hx (fun ρ w hg h=>⟨v,w,?_,Grow.refl _,rfl⟩) hd
  have hc:=hcell w hg
  simp[execOp,ho,h,go_sem,hagg,hc,Result.andThen]
end lists
end Reg
def Lists (ls:List (List UInt8))(v:Value)(w:World):Prop :=
  ∃b,v = .slice (some ⟨b,0,none⟩) ls.length ls.length/\b<w.heap.size/\∀j (h:j<ls.length),∃A c,w.cell? ⟨b,j,none⟩=some (.slice A ls[j].length c)/\InB w w.heap.size A c ls[j]
theorem lists_stable (ls:List (List UInt8)):∀v w w',Lists ls v w->Grow w w'->Lists ls v w':=by
  rintro v w w' ⟨b,hv,hb,h⟩ hg
  refine⟨b,hv,Nat.lt_of_lt_of_le hb hg.size,fun j hj => ?_⟩
  obtain⟨A,c,h1,h2⟩:=h j hj
  exact⟨A,c,(hg.cell (p:=⟨b,j,none⟩) hb).trans h1,(h2.below hg).more hg.size⟩
theorem Lists.pieces {ls:List (List UInt8)}{v:Value}{w:World}(h:Lists ls v w)(hm:ls.length<=1000):∃b,∃zs:List (Piece w w.heap.size),v = .slice (some ⟨b,0,none⟩) zs.length zs.length/\zs.map Piece.l=ls/\InLL w w.heap.size (some ⟨b,0,none⟩) zs.length zs:=by
  obtain⟨b,rfl,hb,h⟩:=h
  have key:∀n,n<=ls.length->∃zs:List (Piece w w.heap.size),zs.length=n/\zs.map Piece.l=ls.take n/\∀j (hj:j<zs.length),w.cell? ⟨b,j,none⟩=some zs[j].val:=by
    intro n
    induction n with
    | zero=>exact fun _=>⟨[],rfl,by simp,fun j hj=>by simp at hj⟩
    | succ n ih =>
      intro hn
      obtain⟨zs,h1,h2,h3⟩:=ih (by omega)
      obtain⟨A,c,h4,h5⟩:=h n (by omega)
      refine⟨zs++[⟨((A,c),ls[n]),h5⟩],by simp[h1],?_,fun j hj => ?_⟩
      · rw[List.map_append,h2,List.take_succ_eq_append_getElem (by omega)]
        rfl
      · by_cases e:j<zs.length
        · rw[List.getElem_append_left e]
          exact h3 j e
        · have:j=n:=by simp at hj;omega
          subst this
          rw[List.getElem_append_right (by omega)]
          simp only[h1,Nat.sub_self,List.getElem_cons_zero]
          exact h4
  obtain⟨zs,h1,h2,h3⟩:=key ls.length (Nat.le_refl _)
  refine⟨b,zs,by rw[h1],by rw[h2,List.take_length],⟨Nat.le_refl _,by omega,fun _=>⟨b,0,rfl,hb,fun j hj=>by rw[Nat.zero_add];exact h3 j hj⟩⟩⟩
theorem concatL_gives {ls:List (List UInt8)}{v:Value}{w:World}(h:Lists ls v w)(hm:ls.length<=1000)(hf:ls.flatten.length<=1000000000):Calls Tryz.prog 139 #[v] w (GivesB w ls.flatten):=by
  obtain⟨b,zs,rfl,hz,hI⟩:=h.pieces hm
  have:=concat_gives w (some ⟨b,0,none⟩) zs.length zs hI (by rw[hz];exact hf)
  rw[hz] at this
  exact this
theorem Lists.new {w:World}(xs:List ((Option Addr×Nat)×List UInt8))(h:∀x∈xs,InB w w.heap.size x.1.1 x.1.2 x.2) :
    Lists (xs.map (·.2)) (.slice (some ⟨w.heap.size,0,none⟩) xs.length xs.length) (w.alloc (.cells (xs.map fun x=>Value.slice x.1.1 x.2.length x.1.2).toArray 44)):=by
  refine⟨w.heap.size,by simp,by simp,fun j hj => ?_⟩
  have hj':j<xs.length:=by simpa using hj
  refine⟨xs[j].1.1,xs[j].1.2,?_,?_⟩
  · rw[(BlkIs.new w 44 _).cell]
    simp[hj']
  · have:=h xs[j] (List.getElem_mem hj')
    rw[List.getElem_map]
    exact(this.below ((Below.refl _ w).alloc (Nat.le_refl _) _)).more (by simp)
theorem OwnB.base {w:World}{b b':Nat}{v:Value}{l:List UInt8}(h:OwnB w b v l)(hb:b'<=b):OwnB w b' v l:=by
  refine⟨h.1,?_⟩
  rcases h.2 with h|⟨g,cap,cur,h1,h2,h3⟩
  · exact .inl h
  · exact .inr ⟨g,cap,cur,h1,by omega,h3⟩
theorem GivesB.from {w w1:World}{l:List UInt8}{e:Ending}{w':World}(h:GivesB w1 l e w')(hb:Below w.heap.size w w1):GivesB w l e w':=by
  obtain⟨v,he,hown,hB⟩:=h
  exact⟨v,he,hown.base hb.size,hb.trans (hB.mono hb.size)⟩
theorem concat2_gives (W:World)(A A2:Option Addr)(c c2:Nat)(l l2:List UInt8)(hin:InB W W.heap.size A c l)(hin2:InB W W.heap.size A2 c2 l2)(hf:l.length+l2.length<=1000000000) :
    Calls Tryz.prog 139 #[.slice (some ⟨W.heap.size,0,none⟩) 2 2] (W.alloc (.cells #[.slice A l.length c,.slice A2 l2.length c2] 44)) (GivesB W (l++l2)):=by
  have hN:=Lists.new (w:=W) [((A,c),l),((A2,c2),l2)] (by
    intro x hx
    simp only[List.mem_cons,List.not_mem_nil,or_false] at hx
    rcases hx with rfl|rfl
    · exact hin
    · exact hin2)
  have h:=concatL_gives hN (by simp) (by simpa using hf)
  refine h.mono fun e w' hg => ?_
  have:=hg.from ((Below.refl _ W).alloc (Nat.le_refl _) _)
  simpa using this
namespace Reg
variable {L:List (Nat×Fact)}{ops:Array Oper}{w0:World}{o:Oper}
theorem l_build4 (t1 t2 t3 t4:Tmp)(l1 l2 l3 l4:List UInt8)(ho:o.op = .buildSlice 259 4 #[(0,.tmp t1),(1,.tmp t2),(2,.tmp t3),(3,.tmp t4)])
    (c1:(o.looksAt ops).contains t1=true) (c2:(o.looksAt ops).contains t2=true) (c3:(o.looksAt ops).contains t3=true) (c4:(o.looksAt ops).contains t4=true)
    (f1:factOf L t1 = .res l1) (f2:factOf L t2 = .res l2) (f3:factOf L t3 = .res l3) (f4:factOf L t4 = .res l4) (hd:FD L o.dst = .pred (Lists [l1,l2,l3,l4]) (lists_stable _)):RunOk Tryz.prog ops (FSof L) w0 o:=by
  intro a w K Q hG hl hK
  have g1:(factOf L t1).holds (a.eval (.tmp t1)) w:=hl t1 c1
  have g2:(factOf L t2).holds (a.eval (.tmp t2)) w:=hl t2 c2
  have g3:(factOf L t3).holds (a.eval (.tmp t3)) w:=hl t3 c3
  have g4:(factOf L t4).holds (a.eval (.tmp t4)) w:=hl t4 c4
  rw[f1] at g1
  rw[f2] at g2
  rw[f3] at g3
  rw[f4] at g4
  obtain⟨A1,k1,e1,h1⟩:=g1
  obtain⟨A2,k2,e2,h2⟩:=g2
  obtain⟨A3,k3,e3,h3⟩:=g3
  obtain⟨A4,k4,e4,h4⟩:=g4
  have hN:=Lists.new (w:=w) [((A1,k1),l1),((A2,k2),l2),((A3,k3),l3),((A4,k4),l4)] (by
    intro x hx
    simp only[List.mem_cons,List.not_mem_nil,or_false] at hx
    rcases hx with rfl|rfl|rfl|rfl
    · exact h1
    · exact h2
    · exact h3
    · exact h4)
  have key:∀ρ:Operand->Value,ρ (.tmp t1) = .slice A1 l1.length k1->ρ (.tmp t2) = .slice A2 l2.length k2->ρ (.tmp t3) = .slice A3 l3.length k3->ρ (.tmp t4) = .slice A4 l4.length k4 ->
      (execOp ρ o).run Tryz.prog w = .ok (.value (.slice (some ⟨w.heap.size,0,none⟩) 4 4)) (w.alloc (.cells #[.slice A1 l1.length k1,.slice A2 l2.length k2,.slice A3 l3.length k3,.slice A4 l4.length k4] 44)) :=
    fun ρ h1 h2 h3 h4=>by simp[execOp,ho,h1,h2,h3,h4,go_sem,Result.andThen]
  unfold Oper.wp
  rw[key _ e1 e2 e3 e4]
  exact hK _ _ (Grow.alloc _ _) (fsd hd hN)
end Reg
def planOk (fr pg:Int):Bool:=isIn 1 2000 [fr] && isIn 1 2000 [pg]
theorem planOk_iff (fr pg:Int):planOk fr pg=true↔(1<=fr/\fr<=2000)/\(1<=pg/\pg<=2000):=by
  simp[planOk,isIn_one]
theorem InN.one (W:World)(x:Int):InN (W.alloc (.cells #[.int .i64 x] 3)) (some ⟨W.heap.size,0,none⟩) [x]:=⟨fun _=>⟨_,_,rfl,fun j hj=>by
  obtain rfl:j=0:=by simpa using hj
  exact(BlkIs.new W 3 #[.int .i64 x]).boxed⟩⟩
theorem withinOne_gives (W:World)(lo hi x:Int) :
    Calls Tryz.prog 164 #[.int .i64 lo,.int .i64 hi,.slice (some ⟨W.heap.size,0,none⟩) 1 1] (W.alloc (.cells #[.int .i64 x] 3)) fun e w'=>e = .returned (.bool (isIn lo hi [x]))/\Below W.heap.size W w' :=
  (within_gives (W.alloc (.cells #[.int .i64 x] 3)) (some ⟨W.heap.size,0,none⟩) 1 [x] (InN.one W x) (fun g o e=>by injection e with e;injection e with e1;subst e1;simp) (by simp) lo hi).mono fun e w' ⟨he,hB⟩ =>
    ⟨he,((Below.refl _ W).alloc (Nat.le_refl _) _).trans (hB.mono (by simp))⟩
theorem check_gives (fr pg:Int)(w:World) :
    Calls Tryz.prog 128 #[.agg #[.int .i64 fr,.int .i64 pg]] w fun e w'=>e = .returned (.int .i64 (if planOk fr pg then 0 else 2))/\Below w.heap.size w w':=by
  have hb:=BlkIs.new w 23 #[.int .i64 fr,.int .i64 pg]
  have hB0:Below w.heap.size w (w.alloc (.cells #[.int .i64 fr,.int .i64 pg] 23)):=(Below.refl _ w).alloc (Nat.le_refl _) _
  obtain⟨v,hv⟩:∃v:Int,v=if planOk fr pg then 0 else 2:=⟨_,rfl⟩
  rw[<-hv]
  have hV:=Lib.hid hv
  clear hv
  go_enter Tryz.func128,Tryz.ntmps128
  have H:=withinOne_gives (w.alloc (.cells #[.int .i64 fr,.int .i64 pg] 23)) 1 2000 fr
  rw[World.size_alloc] at H
  cases h1:isIn 1 2000 [fr] with
  | false =>
    rw[h1] at H
    have e2:v=2:=by rw[hV.out];simp[planOk,h1]
    subst e2
    go_wp2_with (go_at_call 164;refine H.mono ?_;rintro e w1 ⟨rfl,hB⟩)
    go_ret
    exact⟨rfl,hB0.trans (hB.mono (by simp))⟩
  | true =>
    rw[h1] at H
    go_wp2_with fail
    refine H.mono ?_
    clear H
    rintro e w1 ⟨rfl,hB⟩
    have hb1:=hb.below hB (by simp)
    have hc1:w1.cell? ⟨w.heap.size,1,none⟩=some (.int .i64 pg):=by rw[hb1.cell];rfl
    have hB1:=hB0.trans (hB.mono (by simp))
    have H:=withinOne_gives w1 1 2000 pg
    go_wp2_with fail
    refine H.mono ?_
    clear H
    rintro e w2 ⟨rfl,hB2⟩
    cases h2:isIn 1 2000 [pg] with
    | false =>
      have e2:v=2:=by rw[hV.out];simp[planOk,h2]
      subst e2
      go_wp2
      go_ret
      exact⟨rfl,hB1.trans (hB2.mono hB1.size)⟩
    | true =>
      have e2:v=0:=by rw[hV.out];simp[planOk,h1,h2]
      subst e2
      go_wp2
      go_ret
      exact⟨rfl,hB1.trans (hB2.mono hB1.size)⟩
def plE (ok:Bool)(i many:Int):Int:=if ok then (if 0<=i/\i<many then 0 else 4) else 2
def PlNone (e:Int)(a:Act):Prop:=∃u0 u1 u2 u3 u4 u5 u6 u7 u8 u10 u11 u12 u13 u14 u15 u16 u17 u18 u19 u20 u21 u22 u23,a = { tmps:=#[u0,u1,u2,u3,u4,u5,u6,u7,u8,.int .i64 e,u10,u11,u12,u13,u14,u15,u16,u17,u18,u19,u20,u21,u22,u23],defers:=[] }
theorem place_gives (fr pg i many r:Int)(g:FuncId)(lb:Array Value)(eg:∀args w,(callFunc g args).run Tryz.prog w = .ok (.enter g args) w)(w:World)
    (hof:planOk fr pg=true->0<=i->i<many->∀W,Below w.heap.size w W->Calls Tryz.prog g lb W fun e w'=>e = .returned (.int .i64 r)/\W=w') :
    Calls Tryz.prog 83 #[.agg #[.int .i64 fr,.int .i64 pg],.int .i64 i,.int .i64 many,.func (.func g) #[] lb] w fun e w' =>
      e = .returned (.tuple #[.int .i64 (if plE (planOk fr pg) i many=0 then r else 0),.int .i64 (plE (planOk fr pg) i many)])/\Below w.heap.size w w':=by
  have hB0:Below w.heap.size w (w.alloc (.cells #[.int .i64 fr,.int .i64 pg] 23)):=(Below.refl _ w).alloc (Nat.le_refl _) _
  obtain⟨v,hv⟩:∃v:Int,v=plE (planOk fr pg) i many:=⟨_,rfl⟩
  obtain⟨u,hu⟩:∃u:Int,u=if v=0 then r else 0:=⟨_,rfl⟩
  rw[<-hv,<-hu]
  have hV:=Lib.hid hv
  have hU:=Lib.hid hu
  clear hv hu
  go_enter Tryz.func83,Tryz.ntmps83
  go_wp2_with fail
  refine wp_scope_jumps (rest:=?rest) 0 (fun a w'=>Hid (u=0)/\PlNone v a/\Below w.heap.size w w') (fun _ _=>0) ?hf ?first ?pass
  case hf=>exact rfl
  case pass =>
    rintro a w' ⟨hn,⟨u0,u1,u2,u3,u4,u5,u6,u7,u8,u10,u11,u12,u13,u14,u15,u16,u17,u18,u19,u20,u21,u22,u23,rfl⟩,hB⟩
    go_wp2
    simp only[Exit.jump]
    go_wp2
    refine bodyPost_ret (results_tmp2 rfl _ _ _) rfl ?_
    have e:=hn.out
    subst e
    exact⟨rfl,hB⟩
  case first =>
    have H:=check_gives fr pg (w.alloc (.cells #[.int .i64 fr,.int .i64 pg] 23))
    cases hp:planOk fr pg with
    | false =>
      rw[hp] at H
      have e2:v=2:=by rw[hV.out,hp];rfl
      have eu:Hid (u=0):=Lib.hid (by rw[hU.out,e2];rfl)
      subst e2
      go_wp2_with (go_at_call 128;refine H.mono ?_;rintro e w1 ⟨rfl,hB⟩)
      go_step3
      exact⟨rfl,eu,by repeat (first|exact rfl|apply Exists.intro),hB0.trans (hB.mono (by simp))⟩
    | true =>
      rw[hp] at H
      by_cases h1:0<=i/\i<many
      · have e2:v=0:=by rw[hV.out,hp];simp[plE,h1]
        have eu:u=r:=by rw[hU.out,e2];rfl
        subst e2 eu
        have hof:=hof hp h1.1 h1.2
        obtain⟨h1,h2⟩:=h1
        go_wp2_with (go_at_call 128;refine H.mono ?_;rintro e w1 ⟨rfl,hB⟩)
        refine(hof _ (hB0.trans (hB.mono (by simp)))).mono ?_
        rintro e w2 ⟨rfl,rfl⟩
        go_wp2
        simp only[Exit.jump]
        refine bodyPost_ret (results_tmp2 rfl _ _ _) rfl ?_
        exact⟨rfl,hB0.trans (hB.mono (by simp))⟩
      · have e2:v=4:=by rw[hV.out,hp];simp[plE,h1]
        have eu:Hid (u=0):=Lib.hid (by rw[hU.out,e2];rfl)
        subst e2
        have h2:i<0∨(0<=i/\many<=i):=by omega
        clear h1
        rcases h2 with h2|⟨h2,h3⟩
        · go_wp2_with (go_at_call 128;refine H.mono ?_;rintro e w1 ⟨rfl,hB⟩)
          go_step3
          exact⟨rfl,eu,by repeat (first|exact rfl|apply Exists.intro),hB0.trans (hB.mono (by simp))⟩
        · go_wp2_with (go_at_call 128;refine H.mono ?_;rintro e w1 ⟨rfl,hB⟩)
          go_step3
          exact⟨rfl,eu,by repeat (first|exact rfl|apply Exists.intro),hB0.trans (hB.mono (by simp))⟩
def headOk (z c:Int):Bool:=isIn 0 2000 [z] && isIn 0 2000 [c]
theorem headOk_iff (z c:Int):headOk z c=true↔(0<=z/\z<=2000)/\(0<=c/\c<=2000):=by
  simp[headOk,isIn_one]
theorem fits_gives (s e:Nat)(z c:Int)(w:World) :
    Calls Tryz.prog 149 #[.agg #[.int .u64 (s:Int),.int .u64 (e:Int),.int .i64 z,.int .i64 c]] w fun x w'=>x = .returned (.bool (headOk z c))/\Below w.heap.size w w':=by
  have hb:=BlkIs.new w 111 #[.int .u64 (s:Int),.int .u64 (e:Int),.int .i64 z,.int .i64 c]
  have hB0:Below w.heap.size w (w.alloc (.cells #[.int .u64 (s:Int),.int .u64 (e:Int),.int .i64 z,.int .i64 c] 111)):=(Below.refl _ w).alloc (Nat.le_refl _) _
  have H:=withinOne_gives (w.alloc (.cells #[.int .u64 (s:Int),.int .u64 (e:Int),.int .i64 z,.int .i64 c] 111)) 0 2000 z
  rw[World.size_alloc] at H
  obtain⟨v,hv⟩:∃v:Bool,v=headOk z c:=⟨_,rfl⟩
  rw[<-hv]
  have hV:=Lib.hid hv
  clear hv
  go_enter Tryz.func149,Tryz.ntmps149
  cases h1:isIn 0 2000 [z] with
  | false =>
    rw[h1] at H
    have e2:v=false:=by rw[hV.out];simp[headOk,h1]
    subst e2
    go_wp2_with (go_at_call 164;refine H.mono ?_;rintro e w1 ⟨rfl,hB⟩)
    go_ret
    exact⟨rfl,hB0.trans (hB.mono (by simp))⟩
  | true =>
    rw[h1] at H
    go_wp2_with fail
    refine H.mono ?_
    clear H
    rintro e w1 ⟨rfl,hB⟩
    have hb1:=hb.below hB (by simp)
    have hc1:w1.cell? ⟨w.heap.size,3,none⟩=some (.int .i64 c):=by rw[hb1.cell];rfl
    have hB1:=hB0.trans (hB.mono (by simp))
    have H:=withinOne_gives w1 0 2000 c
    have e2:v=isIn 0 2000 [c]:=by rw[hV.out];simp[headOk,h1]
    generalize isIn 0 2000 [c]=b at *
    subst e2
    go_wp2_with fail
    refine H.mono ?_
    clear H
    rintro e w2 ⟨rfl,hB2⟩
    go_wp2
    go_ret
    exact⟨rfl,hB1.trans (hB2.mono hB1.size)⟩
theorem and_mask (x:Nat)(h:x<4294967296):bits .and .u64 (x:Int) 4294967295=(x:Int):=by
  have h2:=u64_and_nat x 4294967295 (by omega) (by omega)
  have e:x &&& 4294967295=x % 4294967296:=Nat.and_two_pow_sub_one_eq_mod x 32
  rw[e,Nat.mod_eq_of_lt h] at h2
  exact h2
theorem mul64_gives (x y:Nat)(hx:x<65536)(hy:y<65536)(w:World):Calls Tryz.prog 210 #[.int .u64 x,.int .u64 y] w fun e w'=>e = .returned (.tuple #[.int .u64 0,.int .u64 ((x*y:Nat):Int)])/\w=w':=by
  have hxy:x*y<4294967296:=Nat.mul_lt_mul'' hx hy
  have e1:=and_mask x (by omega)
  have e2:=and_mask y (by omega)
  have e3:=and_mask (x*y) hxy
  have h0:(x:Int) / 4294967296=0:=by omega
  have h1:(y:Int) / 4294967296=0:=by omega
  have h2:((x*y:Nat):Int) / 4294967296=0:=by omega
  have h3:IntKind.u64.wrap ((x*y:Nat):Int)=((x*y:Nat):Int):=by
    show ((x*y:Nat):Int) % 18446744073709551616=_
    omega
  have h4:IntKind.u64.wrap 0=0:=by decide
  have hm:((x*y:Nat):Int)=(x:Int)*(y:Int):=by simp
  rw[hm] at e3 h2 h3 ⊢
  have h5:bits .and .u64 0 4294967295=0:=and_mask 0 (by omega)
  clear hm hxy hx hy
  go_enter Tryz.func210,Tryz.ntmps210
  go_wp2
  refine bodyPost_ret (results_tmp2 rfl _ _ _) rfl ?_
  exact⟨rfl,rfl⟩
theorem mul_gives (x y:Nat)(hx:x<65536)(hy:y<65536)(w:World):Calls Tryz.prog 203 #[.int .u64 x,.int .u64 y] w fun e w'=>e = .returned (.tuple #[.int .u64 0,.int .u64 ((x*y:Nat):Int)])/\w=w':=by
  have H:=mul64_gives x y hx hy w
  generalize x*y=z at *
  go_enter Tryz.func203,Tryz.ntmps203
  go_wp2_with fail
  refine H.mono ?_
  rintro e w' ⟨rfl,rfl⟩
  go_wp2
  refine bodyPost_ret (results_tmp2 rfl _ _ _) rfl ?_
  exact⟨rfl,rfl⟩
end Go.Proofs.YtmllnpjldmdaeaaGreat
namespace Go.Proofs.YtmllnpjldmdaeaaGreat
open Go Go.RowKit
namespace Reg
variable {P:Program}{ops:Array Oper}
def backs (ops:Array Oper):Bool:=ops.toList.zipIdx.all fun (o,i)=>o.after.toList.all fun e => !Region.binds .any e || decide (e.on<i)
def ahead (ops:Array Oper)(o:Oper)(t:Nat):Bool:=ops.toList.zipIdx.all fun (p,j)=>p.dst != some t || (o.after.toList.any fun e=>Region.binds .any e && e.on == j)
def waits (ops:Array Oper)(i:Nat)(t:Nat):Bool:=ops.toList.zipIdx.all fun (p,_)=>p.dst != some t || (p.after.toList.any fun e=>Region.binds .any e && e.on == i)
theorem backs_spec (h:backs ops=true){i:Nat}{o:Oper}(ho:ops[i]? = some o):∀e∈o.after.toList,Region.binds .any e=true->e.on<i:=by
  unfold backs at h
  rw[List.all_eq_true] at h
  have hm:(o,i)∈ops.toList.zipIdx:=by
    rw[List.mem_zipIdx_iff_getElem?]
    simpa using ho
  have:=h _ hm
  simp only[List.all_eq_true] at this
  intro e he hb
  have:=this e he
  simpa[hb] using this
theorem ahead_spec {o:Oper}{t:Nat}(h:ahead ops o t=true){j:Nat}{p:Oper}(hp:ops[j]? = some p)(hd:p.dst=some t):∃e∈o.after.toList,Region.binds .any e=true/\e.on=j:=by
  unfold ahead at h
  rw[List.all_eq_true] at h
  have hm:(p,j)∈ops.toList.zipIdx:=by
    rw[List.mem_zipIdx_iff_getElem?]
    simpa using hp
  have:=h _ hm
  simp only[hd,bne_self_eq_false,Bool.false_or,List.any_eq_true,Bool.and_eq_true,beq_iff_eq] at this
  obtain⟨e,he,hb,hj⟩:=this
  exact⟨e,he,hb,hj⟩
theorem waits_spec {i t:Nat}(h:waits ops i t=true){j:Nat}{p:Oper}(hp:ops[j]? = some p)(hd:p.dst=some t):∃e∈p.after.toList,Region.binds .any e=true/\e.on=i:=by
  unfold waits at h
  rw[List.all_eq_true] at h
  have hm:(p,j)∈ops.toList.zipIdx:=by
    rw[List.mem_zipIdx_iff_getElem?]
    simpa using hp
  have:=h _ hm
  simp only[hd,bne_self_eq_false,Bool.false_or,List.any_eq_true,Bool.and_eq_true,beq_iff_eq] at this
  obtain⟨e,he,hb,hj⟩:=this
  exact⟨e,he,hb,hj⟩
def StepOk (P:Program)(ops:Array Oper)(Inv:Array Bool->Act->World->Prop)(i:Nat)(o:Oper):Prop :=
  ∀(listed:Array Bool) (a:Act) (w:World) (K:Act->World->Prop) (Q:Exit->Act->World->Prop),listed.size=ops.size->listed.getD i true=false->(∀e∈o.after.toList,Region.binds .any e=true->listed.getD e.on false=true) ->
    Inv listed a w->(∀v w',Inv (listed.setIfInBounds i true) (a.put o.dst v) w'->K (a.put o.dst v) w') ->
    (if Region.wanted o (yielded ops a.tmps) then o.wp P a w K Q∨(o.asks P a w/\LetsOut Q) else K (a.put o.dst undef) w)
theorem region_inv (hm:P.follows .mixedOrders=true)(hcov:backs ops=true){id:Nat}{a0:Act}{w0:World}{Q:Exit->Act->World->Prop}(Inv:Array Bool->Act->World->Prop)
    (h0:Inv (Array.replicate ops.size false) a0 w0.drew) (hstep:∀i o,ops[i]? = some o->StepOk P ops Inv i o)
    (hend:∀listed a w,listed.size=ops.size->(∀i,i<ops.size->listed.getD i true=true)->Inv listed a w->Q .normal a w) :
    (Code.region id ops true).wp P Q a0 w0:=by
  refine wp_region_any hm ?_
  have key:∀(fuel:Nat) (listed:Array Bool) (a:Act) (w:World),listed.size=ops.size->left listed<=fuel->Inv listed a w->wpAny P .any ops Q fuel listed a w:=by
    intro fuel
    have hdone:∀(listed:Array Bool) (a:Act) (w:World),listed.size=ops.size->Inv listed a w->Region.ready .any ops listed=[]->Q .normal a w:=by
      intro listed a w hs hJ hr
      refine hend listed a w hs ?_ hJ
      intro i
      induction i using Nat.strongRecOn with
      | _ i ih =>
        intro hi
        cases hl:listed.getD i true with
        | true=>rfl
        | false =>
          exfalso
          have:i∈Region.ready .any ops listed:=by
            unfold Region.ready
            simp only[List.mem_filter,List.mem_range,Bool.and_eq_true,Bool.not_eq_true']
            refine⟨hi,hl,?_⟩
            have ho:ops[i]? = some ops[i]:=Array.getElem?_eq_getElem hi
            simp only[ho,Option.map_some,Option.getD_some]
            rw[Array.all_eq_true_iff_forall_mem]
            intro e he
            have hc:=backs_spec hcov ho e (Array.mem_toList_iff.2 he)
            cases hb:Region.binds .any e with
            | false=>simp
            | true =>
              have hlt:=hc hb
              have h1:=ih e.on hlt (by omega)
              have h2:e.on<listed.size:=by omega
              simp only[Array.getD,h2,dif_pos] at h1 ⊢
              simpa using h1
          rw[hr] at this
          cases this
    induction fuel with
    | zero =>
      intro listed a w hs hf hJ
      have hr:Region.ready .any ops listed=[]:=by
        rcases hr:Region.ready .any ops listed with _|⟨i,r⟩
        · rfl
        · exfalso
          obtain⟨o,ho,hl,_⟩:=ready_mem (ops:=ops) (listed:=listed) (i:=i) (by rw[hr];simp)
          have hi:i<listed.size:=by rw[hs];exact(Array.getElem?_eq_some_iff.1 ho).1
          have hmem:listed[i]∈listed.toList.filter (! ·):=by
            rw[List.mem_filter]
            refine⟨by simp,?_⟩
            have hl':listed[i]=false:=by simpa[Array.getD,hi] using hl
            simp[hl']
          have:0<left listed:=List.length_pos_of_mem hmem
          omega
      exact⟨hr,hdone listed a w hs hJ hr⟩
    | succ fuel ih =>
      intro listed a w hs hf hJ
      refine⟨hdone listed a w hs hJ,fun i hi => ?_⟩
      obtain⟨o,ho,hl,hedges⟩:=ready_mem hi
      have hisz:i<listed.size:=by rw[hs];exact(Array.getElem?_eq_some_iff.1 ho).1
      have hnext:∀v w',Inv (listed.setIfInBounds i true) (a.put o.dst v) w'->wpAny P .any ops Q fuel (listed.setIfInBounds i true) (a.put o.dst v) w':=by
        intro v w' hv
        refine ih _ _ _ (by simpa using hs) ?_ hv
        have hl':listed[i]=false:=by simpa[Array.getD,hisz] using hl
        have:left (listed.setIfInBounds i true)<left listed:=by
          unfold left
          rw[Array.toList_setIfInBounds]
          have e1:listed.toList=listed.toList.take i++false::listed.toList.drop (i+1):=by
            have h3:listed.toList[i]'(by simpa using hisz)=false:=by simpa using hl'
            conv=>lhs;rw[<-List.take_append_drop i listed.toList,List.drop_eq_getElem_cons (by simpa using hisz),h3]
          rw[List.set_eq_take_append_cons_drop,if_pos (by simpa using hisz)]
          conv=>rhs;rw[e1]
          simp
        omega
      have:=hstep i o ho listed a w (fun a' w'=>wpAny P .any ops Q fuel (listed.setIfInBounds i true) a' w') Q hs hl hedges hJ hnext
      unfold wpOp
      simp only[ho]
      exact this
  refine key ops.size _ a0 _ (by simp) ?_ h0
  unfold left
  simp
end Reg
end Go.Proofs.YtmllnpjldmdaeaaGreat
namespace Go.Proofs.YtmllnpjldmdaeaaGreat
open Go Go.RowKit Lou
namespace Reg
variable {P:Program}{ops:Array Oper}
abbrev WInv:=Array Bool->Act->World->Prop
structure J2 (ops:Array Oper)(FS:Tmp->Value->World->Prop)(a0:Act)(D:List Nat)(WI:WInv)(listed:Array Bool)(a:Act)(w:World):Prop where
  size:a.tmps.size=a0.tmps.size
  defers:a.defers=a0.defers
  facts:∀t,Known ops listed t->FS t (a.eval (.tmp t)) w
  wi:WI listed a w
  rest:∀t,D.contains t=false->a.eval (.tmp t)=a0.eval (.tmp t)
  old:∀t,(∀(j:Nat) (p:Oper),ops[j]? = some p->p.dst=some t->listed.getD j true=false)->a.eval (.tmp t)=a0.eval (.tmp t)
  closed:∀(j:Nat) (p:Oper),ops[j]? = some p->listed.getD j true=true->∀e∈p.after.toList,Region.binds .any e=true->listed.getD e.on false=true
def Op2 (P:Program)(ops:Array Oper)(a0:Act)(FS:Tmp->Value->World->Prop)(WI:WInv)(i:Nat)(o:Oper):Prop :=
  ∀(listed:Array Bool) (a:Act) (w:World) (K:Act->World->Prop) (Q:Exit->Act->World->Prop),listed.size=ops.size->listed.getD i true=false->(∀e∈o.after.toList,Region.binds .any e=true->listed.getD e.on false=true) ->
    WI listed a w->(∀t,(o.looksAt ops).contains t=true->ahead ops o t=true->FS t (a.eval (.tmp t)) w)->(∀t,waits ops i t=true->a.eval (.tmp t)=a0.eval (.tmp t)) ->
    (∀v w',(∀t u,FS t u w->FS t u w')->FSd FS o.dst v w'->WI (listed.setIfInBounds i true) (a.put o.dst v) w'->K (a.put o.dst v) w') ->
    (if Region.wanted o (yielded ops a.tmps) then o.wp P a w K Q∨(o.asks P a w/\LetsOut Q) else K (a.put o.dst undef) w)
def AllOp2 (P:Program)(ops:Array Oper)(a0:Act)(FS:Tmp->Value->World->Prop)(WI:WInv):Nat->List Oper->Prop
  | _,[]=>True
  | k,o::r=>Op2 P ops a0 FS WI k o/\AllOp2 P ops a0 FS WI (k+1) r
theorem AllOp2.get {a0:Act}{FS:Tmp->Value->World->Prop}{WI:WInv}:∀{l:List Oper} {k:Nat},AllOp2 P ops a0 FS WI k l->∀i o,l[i]? = some o->Op2 P ops a0 FS WI (k+i) o
  | [],_,_,i,o,h=>by simp at h
  | x::r,k,h,0,o,ho=>by
    simp at ho
    subst ho
    exact h.1
  | x::r,k,h,i+1,o,ho=>by
    have:=AllOp2.get h.2 i o (by simpa using ho)
    rw[show k+(i+1)=k+1+i from by omega]
    exact this
theorem op2_of {a0:Act}{FS:Tmp->Value->World->Prop}{WI:WInv}{i:Nat}{o:Oper}(hst:∀t v w w',FS t v w->Grow w w'->FS t v w')(h:∀w0,OpOk P ops FS w0 o)(hah:((o.looksAt ops).all (ahead ops o))=true)
    (hWI:∀listed a v w w',WI listed a w->Grow w w'->WI (listed.setIfInBounds i true) (a.put o.dst v) w'):Op2 P ops a0 FS WI i o:=by
  intro listed a w K Q hs hl he hw hlook _ hK
  exact h w a w K Q (Grow.refl w) (fun t ht=>hlook t ht (by
    rw[List.all_eq_true] at hah
    exact hah t (by simpa using ht))) (fun v w' hg hf=>hK v w' (fun t u hu=>hst t u w w' hu hg) hf (hWI _ _ _ _ _ hw hg))
theorem region2 (hm:P.follows .mixedOrders=true)(hcov:backs ops=true){id:Nat}{a0:Act}{w0:World}{Q:Exit->Act->World->Prop}(n:Nat)(hn:a0.tmps.size=n)(hdst:dstsIn ops n=true)(D:List Nat)(hD:dstsAre ops D=true)
    (FS:Tmp->Value->World->Prop) (WI:WInv) (hstart:∀t,(∀o∈ops.toList,o.dst≠some t)->FS t (a0.eval (.tmp t)) w0.drew) (h0:WI (Array.replicate ops.size false) a0 w0.drew)
    (hok:AllOp2 P ops a0 FS WI 0 ops.toList)
    (hend:∀listed a w,(∀i,i<ops.size->listed.getD i true=true)->J2 ops FS a0 D WI listed a w->(∀t,FS t (a.eval (.tmp t)) w)->Q .normal a w) :
    (Code.region id ops true).wp P Q a0 w0:=by
  have hD':∀o∈ops.toList,∀d,o.dst=some d->D.contains d=true:=by
    intro o ho d hd
    unfold dstsAre at hD
    rw[List.all_eq_true] at hD
    have:=hD o ho
    simpa[hd] using this
  have hdst':∀o∈ops.toList,∀d,o.dst=some d->d<n:=by
    intro o ho d hd
    unfold dstsIn at hdst
    rw[List.all_eq_true] at hdst
    have:=hdst o ho
    simpa[hd] using this
  refine region_inv hm hcov (J2 ops FS a0 D WI) ⟨rfl,rfl,?_,h0,fun _ _=>rfl,fun _ _=>rfl,fun j p hp h=>by
    have hj:=(Array.getElem?_eq_some_iff.1 hp).1
    simp[Array.getD,hj] at h⟩ ?_ ?_
  · intro t ht
    refine hstart t ?_
    intro o ho hd
    obtain⟨i,hi,rfl⟩:=List.getElem_of_mem ho
    have hi':i<ops.size:=by simpa using hi
    have:=ht i ops[i] (Array.getElem?_eq_getElem hi') (by simpa using hd)
    simp[Array.getD,hi'] at this
  · intro i o ho listed a w K Q' hs hl hedges hJ hK
    have hom:o∈ops.toList:=by
      obtain⟨h1,h2⟩:=Array.getElem?_eq_some_iff.1 ho
      subst h2
      simp
    have hisz:i<listed.size:=by rw[hs];exact(Array.getElem?_eq_some_iff.1 ho).1
    have hold:∀t,waits ops i t=true->a.eval (.tmp t)=a0.eval (.tmp t):=by
      intro t ht
      refine hJ.old t ?_
      intro j p hp hd
      obtain⟨e,he,hb,rfl⟩:=waits_spec ht hp hd
      cases hl2:listed.getD j true with
      | false=>rfl
      | true =>
        have:=hJ.closed j p hp hl2 e he hb
        simp only[Array.getD,hisz,dif_pos] at this hl
        rw[hl] at this
        cases this
    have hlook:∀t,(o.looksAt ops).contains t=true->ahead ops o t=true->FS t (a.eval (.tmp t)) w:=by
      intro t _ ht
      refine hJ.facts t ?_
      intro j p hp hd
      obtain⟨e,he,hb,rfl⟩:=ahead_spec ht hp hd
      have:=hedges e he hb
      have hlt:e.on<listed.size:=by rw[hs];exact(Array.getElem?_eq_some_iff.1 hp).1
      simp only[Array.getD,hlt,dif_pos] at this ⊢
      exact this
    have hop:=hok.get i o (by simpa using ho)
    rw[Nat.zero_add] at hop
    refine hop listed a w K Q' hs hl hedges hJ.wi hlook hold ?_
    intro v w' hst hv hwi
    refine hK v w' ⟨?_,?_,?_,hwi,?_,?_,?_⟩
    · cases hd:o.dst with
      | none=>simpa[Act.put] using hJ.size
      | some d=>simpa[Act.put] using hJ.size
    · cases hd:o.dst with
      | none=>simpa[Act.put] using hJ.defers
      | some d=>simpa[Act.put] using hJ.defers
    · intro t ht
      by_cases hdt:o.dst=some t
      · rw[hdt] at hv ⊢
        rw[eval_put_same (by rw[hJ.size,hn];exact hdst' o hom t hdt)]
        exact hv
      · have hk:Known ops listed t:=by
          intro j p hp hd
          have:=ht j p hp hd
          by_cases e:i=j
          · subst e
            rw[ho] at hp
            injection hp with hp
            subst hp
            exact absurd hd hdt
          · simpa[Array.getD_eq_getD_getElem?,Array.getElem?_setIfInBounds,e] using this
        have:=hst t _ (hJ.facts t hk)
        cases hd:o.dst with
        | none=>simpa[Act.put] using this
        | some d =>
          rw[eval_put_other (by intro e;subst e;exact hdt hd)]
          exact this
    · intro t ht
      cases hd:o.dst with
      | none=>simpa[Act.put] using hJ.rest t ht
      | some d =>
        rw[eval_put_other (by intro e;subst e;rw[hD' o hom t hd] at ht;cases ht)]
        exact hJ.rest t ht
    · intro t ht
      have hdt:o.dst≠some t:=by
        intro hd
        have:=ht i o ho hd
        simp[Array.getD_eq_getD_getElem?,hisz] at this
      have:=hJ.old t (fun j p hp hd=>by
        have h2:=ht j p hp hd
        have hij:i≠j:=by
          intro e
          subst e
          rw[ho] at hp
          injection hp with hp
          subst hp
          exact hdt hd
        simpa[Array.getD_eq_getD_getElem?,Array.getElem?_setIfInBounds,hij] using h2)
      cases hd:o.dst with
      | none=>simpa[Act.put] using this
      | some d =>
        rw[eval_put_other (by intro e;subst e;exact hdt hd)]
        exact this
    · intro j p hp hlj e he hb
      have hup:∀k,listed.getD k false=true->(listed.setIfInBounds i true).getD k false=true:=by
        intro k hk
        by_cases e:i=k
        · subst e
          simp[Array.getD_eq_getD_getElem?,hisz]
        · simpa[Array.getD_eq_getD_getElem?,Array.getElem?_setIfInBounds,e] using hk
      by_cases e2:i=j
      · subst e2
        rw[ho] at hp
        injection hp with hp
        subst hp
        exact hup _ (hedges e he hb)
      · refine hup _ (hJ.closed j p hp ?_ e he hb)
        simpa[Array.getD_eq_getD_getElem?,Array.getElem?_setIfInBounds,e2] using hlj
  · intro listed a w hs hall hJ
    refine hend listed a w hall hJ (fun t=>hJ.facts t ?_)
    intro j p hp _
    exact hall j (Array.getElem?_eq_some_iff.1 hp).1
theorem region2_facts {P:Program}{ops:Array Oper}(hm:P.follows .mixedOrders=true)(hcov:backs ops=true){id:Nat}{a0:Act}{w0:World}{Q:Exit->Act->World->Prop}(n:Nat)(hn:a0.tmps.size=n)(hdst:dstsIn ops n=true)(D:List Nat)(hD:dstsAre ops D=true)
    (V W:List (Nat×Fact)) (hV:StartOk a0 w0.drew V) (hW:(W.all fun p=>written ops p.1)=true) (WI:WInv) (h0:WI (Array.replicate ops.size false) a0 w0.drew)
    (hok:AllOp2 P ops a0 (FSof (V++W)) WI 0 ops.toList)
    (hend:∀listed a w,(∀i,i<ops.size->listed.getD i true=true)->J2 ops (FSof (V++W)) a0 D WI listed a w->(∀t,FSof (V++W) t (a.eval (.tmp t)) w)->Q .normal a w) :
    (Code.region id ops true).wp P Q a0 w0 :=
  region2 hm hcov n hn hdst D hD (FSof (V++W)) WI (fun t ht=>start_fact V W hV hW t ht) h0 hok hend
theorem op2_mv_old {a0:Act}{FS:Tmp->Value->World->Prop}{WI:WInv}{i:Nat}{o:Oper}(t:Tmp)(hg:o.guard=none)(ho:o.op = .move (.tmp t)∨o.op = .assign (.tmp t))(hw:waits ops i t=true)(hd:∀w,FSd FS o.dst (a0.eval (.tmp t)) w)
    (hWI:∀listed a v w w',WI listed a w->Grow w w'->WI (listed.setIfInBounds i true) (a.put o.dst v) w'):Op2 P ops a0 FS WI i o:=by
  intro listed a w K Q hs hl he hwi _ hold hK
  have e:=hold t hw
  rw[if_pos (by simp[Region.wanted,hg])]
  left
  unfold Oper.wp execOp
  rcases ho with ho|ho<;>simp only[ho,Sem.run_pure,Oper.upon_value,e]<;>exact hK _ w (fun _ _ h=>h) (hd w) (hWI _ _ _ _ _ hwi (Grow.refl w))
def allVal:List (Nat×Fact)->Bool
  | []=>true
  | (_,.val _)::r=>allVal r
  | (_,.any)::r=>allVal r
  | _=>false
theorem factOf_val:∀{L:List (Nat×Fact)},allVal L=true->∀t v w w',(factOf L t).holds v w->(factOf L t).holds v w'
  | [],_,t,v,w,w',h=>h
  | (k,.val x)::r,hv,t,v,w,w',h=>by
    simp only[factOf] at h ⊢
    split
    · rename_i e
      rw[if_pos e] at h
      exact h
    · rename_i e
      rw[if_neg e] at h
      exact factOf_val (L:=r) hv t v w w' h
  | (k,.any)::r,hv,t,v,w,w',h=>by
    simp only[factOf] at h ⊢
    split
    · trivial
    · rename_i e
      rw[if_neg e] at h
      exact factOf_val (L:=r) hv t v w w' h
  | (k,.res l)::r,hv,_,_,_,_,_=>by cases hv
  | (k,.pred p q)::r,hv,_,_,_,_,_=>by cases hv
end Reg
theorem four1_gives (n b:Nat)(hb:b<=31)(w:World):Calls Tryz.prog 192 #[.int .u32 n,.int .i64 b] w fun e w'=>e = .returned (.int .u8 ((n / 2 ^ b % 256:Nat):Int))/\w=w':=by
  go_enter Tryz.func192,Tryz.ntmps192
  go_wp2
  go_ret
  exact⟨by simp,rfl⟩
theorem eight1_gives (n b:Nat)(hb:b<=63)(w:World):Calls Tryz.prog 190 #[.int .u64 n,.int .i64 b] w fun e w'=>e = .returned (.int .u8 ((n / 2 ^ b % 256:Nat):Int))/\w=w':=by
  go_enter Tryz.func190,Tryz.ntmps190
  go_wp2
  go_ret
  exact⟨by simp,rfl⟩
def FixAt (m n k:Nat)(pre:List UInt8):Prop:=pre++fixL k n=fixL m n/\pre.length+k=m
theorem FixAt.start (m n:Nat):FixAt m n m []:=⟨rfl,by simp⟩
theorem FixAt.next {m n k:Nat}{pre:List UInt8}(h:FixAt m n (k+1) pre):FixAt m n k (pre++[UInt8.ofNat (n / 2 ^ (8*k) % 256)]):=by
  refine⟨?_,by have:=h.2;simp;omega⟩
  rw[<-h.1,fixL_succ,List.append_assoc,List.singleton_append]
  congr 2
  apply UInt8.toNat_inj.1
  rw[show (256:Nat) ^ k=2 ^ (8*k) from by rw[Nat.pow_mul]]
  simp[UInt8.toNat_ofNat']
theorem FixAt.last {m n:Nat}{pre:List UInt8}(h:FixAt m n 0 pre):pre=fixL m n:=by
  have:=h.1
  simpa[fixL] using this
theorem fixed32_gives (m n:Nat)(hm:m<=4)(w:World):Calls Tryz.prog 191 #[.int .u32 n,.int .i64 m,.func (.func 192) #[] #[]] w (GivesB w (fixL m n)):=by
  obtain⟨i0,hi,hz0,hz1,hz2⟩:=info_parts inf_u8
  go_enter Tryz.func191,Tryz.ntmps191
  go_wp2_with fail
  go_loopw [6,7] (fun v i wr=>∃(k:Nat) (pre:List UInt8),Hid (FixAt m n k pre)/\pre.length<=m/\k<=m/\i = .int .i64 ((k:Int) - 1)/\OwnB wr w.heap.size v pre/\Below w.heap.size w wr)
    (fun _ i _=>(intOf i+1).toNat)
  case atStart=>exact⟨m,[],Lib.hid (FixAt.start m n),by simp,by omega,rfl,OwnB.nil _ _,Below.refl _ _⟩
  case round =>
    obtain⟨k,pre,hF,hl,hk,rfl,hown,hB⟩:=hrel
    have hBs:=hB.size
    rcases k with _|k
    · have hi0:((0:Nat):Int) - 1<0:=by omega
      go_wp2_with fail
      go_ret
      have e:=hF.out.last
      subst e
      exact⟨_,rfl,hown,hB⟩
    · have e1:(((k+1:Nat):Int) - 1)=(k:Int):=by omega
      rw[e1]
      clear e1
      go_wp2_with fail
      rw[show (8*(k:Int))=((8*k:Nat):Int) from by omega]
      refine(four1_gives n (8*k) (by omega) _).mono ?_
      rintro e w' ⟨rfl,rfl⟩
      have hb8:n / 2 ^ (8*k) % 256<256:=by omega
      generalize hx:n / 2 ^ (8*k) % 256=x at *
      have hX:=Lib.hid hx
      clear hx
      go_wp2_with (at_builtin;refine wpList_append_own _ rfl _ _ 44 rfl w.heap.size 5 i0 (.int .u8 0) 1 1 Tryz.underlying44 hi hz0 hz1 hz2 rfl (by decide) _ _ _ rfl (World.ownsRow.alloc hown _) ⟨wr.heap.size,0,none⟩ 1 1 _ rfl rfl (cell_one_new _ _ _) (by simp[Value.oneCell']) (by unfold maxLen;omega) (by omega) (by simp;omega) ?_;intro v' w1 hown' hgrow _)
      have hNx:=hF.out.next
      rw[hX.out] at hNx
      rw[map_snoc_b8 pre x hb8] at hown'
      refine⟨⟨k,pre++[UInt8.ofNat x],Lib.hid hNx,?_,by omega,rfl,?_,(hB.alloc hBs _).grown hgrow (by simp;omega) (fun k hk=>(World.ownsRow.lt hown k hk).1)⟩,by simp[intOf]⟩
      · have:=hNx.2;omega
      · unfold OwnB
        simpa using hown'
theorem fixed64_gives (m n:Nat)(hm:m<=8)(w:World):Calls Tryz.prog 189 #[.int .u64 n,.int .i64 m,.func (.func 190) #[] #[]] w (GivesB w (fixL m n)):=by
  obtain⟨i0,hi,hz0,hz1,hz2⟩:=info_parts inf_u8
  go_enter Tryz.func189,Tryz.ntmps189
  go_wp2_with fail
  go_loopw [6,7] (fun v i wr=>∃(k:Nat) (pre:List UInt8),Hid (FixAt m n k pre)/\pre.length<=m/\k<=m/\i = .int .i64 ((k:Int) - 1)/\OwnB wr w.heap.size v pre/\Below w.heap.size w wr)
    (fun _ i _=>(intOf i+1).toNat)
  case atStart=>exact⟨m,[],Lib.hid (FixAt.start m n),by simp,by omega,rfl,OwnB.nil _ _,Below.refl _ _⟩
  case round =>
    obtain⟨k,pre,hF,hl,hk,rfl,hown,hB⟩:=hrel
    have hBs:=hB.size
    rcases k with _|k
    · have hi0:((0:Nat):Int) - 1<0:=by omega
      go_wp2_with fail
      go_ret
      have e:=hF.out.last
      subst e
      exact⟨_,rfl,hown,hB⟩
    · have e1:(((k+1:Nat):Int) - 1)=(k:Int):=by omega
      rw[e1]
      clear e1
      go_wp2_with fail
      rw[show (8*(k:Int))=((8*k:Nat):Int) from by omega]
      refine(eight1_gives n (8*k) (by omega) _).mono ?_
      rintro e w' ⟨rfl,rfl⟩
      have hb8:n / 2 ^ (8*k) % 256<256:=by omega
      generalize hx:n / 2 ^ (8*k) % 256=x at *
      have hX:=Lib.hid hx
      clear hx
      go_wp2_with (at_builtin;refine wpList_append_own _ rfl _ _ 44 rfl w.heap.size 5 i0 (.int .u8 0) 1 1 Tryz.underlying44 hi hz0 hz1 hz2 rfl (by decide) _ _ _ rfl (World.ownsRow.alloc hown _) ⟨wr.heap.size,0,none⟩ 1 1 _ rfl rfl (cell_one_new _ _ _) (by simp[Value.oneCell']) (by unfold maxLen;omega) (by omega) (by simp;omega) ?_;intro v' w1 hown' hgrow _)
      have hNx:=hF.out.next
      rw[hX.out] at hNx
      rw[map_snoc_b8 pre x hb8] at hown'
      refine⟨⟨k,pre++[UInt8.ofNat x],Lib.hid hNx,?_,by omega,rfl,?_,(hB.alloc hBs _).grown hgrow (by simp;omega) (fun k hk=>(World.ownsRow.lt hown k hk).1)⟩,by simp[intOf]⟩
      · have:=hNx.2;omega
      · unfold OwnB
        simpa using hown'
theorem four_gives (n:Nat)(w:World):Calls Tryz.prog 169 #[.int .u32 n] w (GivesB w (fixL 4 n)):=by
  go_enter Tryz.func169,Tryz.ntmps169
  go_wp2_with fail
  refine(fixed32_gives 4 n (by omega) _).mono ?_
  rintro e w' ⟨v,rfl,h1,h2⟩
  go_wp2
  go_ret
  exact⟨v,rfl,h1,h2⟩
theorem eight_gives (n:Nat)(w:World):Calls Tryz.prog 168 #[.int .u64 n] w (GivesB w (fixL 8 n)):=by
  go_enter Tryz.func168,Tryz.ntmps168
  go_wp2_with fail
  refine(fixed64_gives 8 n (by omega) _).mono ?_
  rintro e w' ⟨v,rfl,h1,h2⟩
  go_wp2
  go_ret
  exact⟨v,rfl,h1,h2⟩

def FxAt (m n0 n k:Nat)(l:List UInt8):Prop:=n=n0 / 256 ^ (m - k)/\l=List.replicate k 0++(fixL m n0).drop k
theorem FxAt.start (m n:Nat):FxAt m n n m (List.replicate m 0):=by
  refine⟨by simp,?_⟩
  rw[List.drop_eq_nil_of_le (by rw[fixL_length];exact Nat.le_refl _),List.append_nil]
theorem FxAt.length {m n0 n k:Nat}{l:List UInt8}(h:FxAt m n0 n k l)(hk:k<=m):l.length=m:=by
  rw[h.2];simp[fixL_length];omega
theorem FxAt.next {m n0 n k:Nat}{l:List UInt8}(h:FxAt m n0 n (k+1) l)(hk:k+1<=m):FxAt m n0 (n / 256) k (l.set k (UInt8.ofNat (n % 256))):=by
  obtain⟨h1,h2⟩:=h
  constructor
  · rw[h1,Nat.div_div_eq_div_mul,<-Nat.pow_succ,show m - k=(m - (k+1))+1 from by omega]
  · rw[h2,List.replicate_succ',List.append_assoc,List.set_append_right _ _ (by simp)]
    simp only[List.length_replicate,Nat.sub_self]
    have hl:k<(fixL m n0).length:=by rw[fixL_length];omega
    rw[List.drop_eq_getElem_cons hl]
    congr 1
    show UInt8.ofNat (n % 256)::_=_
    congr 1
    have:(fixL m n0)[k]=UInt8.ofNat (n0 / 256 ^ (m - 1 - k)):=by simp[fixL]
    rw[this,h1,show m - (k+1)=m - 1 - k from by omega]
    apply UInt8.toNat_inj.1
    simp[UInt8.toNat_ofNat']
theorem FxAt.last {m n0 n:Nat}{l:List UInt8}(h:FxAt m n0 n 0 l):l=fixL m n0:=by simpa using h.2
theorem refFixed_gives (m n0:Nat)(hm:m<=8)(h64:n0<2 ^ 64)(w:World):Calls Tryz.prog 70 #[.int .u64 n0,.int .i64 m] w (GivesB w (fixL m n0)):=by
  have hN:=Lib.hid h64
  clear h64
  go_enter Tryz.func70,Tryz.ntmps70
  go_wp2_with (at_make;refine wp_makeB rfl _ _ rfl w.heap.size _ _ m rfl rfl (by omega) (Nat.le_refl _) ?_;intro w1 hown1 hgrow1)
  have hB1:Below w.heap.size w w1:=(Below.refl _ _).grown hgrow1 (Nat.le_refl _) (fun k hk=>by cases hk)
  clear hgrow1
  go_loopw [0,6] (fun x i wr=>∃(k n:Nat) (l:List UInt8),k<=m/\i = .int .i64 ((k:Int) - 1)/\x = .int .u64 n/\Hid (FxAt m n0 n k l)/\OwnB wr w.heap.size (.slice (some ⟨w.heap.size,0,none⟩) m m) l/\Below w.heap.size w wr)
    (fun _ i _=>(intOf i+1).toNat)
  case atStart=>exact⟨m,n0,_,Nat.le_refl _,rfl,rfl,Lib.hid (FxAt.start m n0),hown1,hB1⟩
  case round =>
    obtain⟨k,n,l,hk,rfl,rfl,hF,hown,hB⟩:=hrel
    clear hown1 hB1
    rcases k with _|k
    · have hi0:((0:Nat):Int) - 1<0:=by omega
      go_wp2_with fail
      go_ret
      have e:=hF.out.last
      subst e
      exact⟨_,rfl,hown,hB⟩
    · have e1:(((k+1:Nat):Int) - 1)=(k:Int):=by omega
      rw[e1]
      clear e1
      have hll:k<l.length:=by have:=hF.out.length hk;omega
      have hc:=hown.cell k hll
      have hf:=hown.free k
      have hq:IntKind.u64.wrap ((n:Int) / 256)=(n:Int) / 256:=by
        have h64:=hN.out
        have hn:n<=n0:=by rw[hF.out.1];exact Nat.div_le_self _ _
        rw[IntKind.wrap_u64]
        omega
      have hset:=hown.set k (n % 256) (by omega)
      have hNx:=Lib.hid (hF.out.next hk)
      have hgw:w.heap.size<=w.heap.size:=Nat.le_refl _
      rw[show ((n % 256:Nat):Int)=(n:Int) % 256 from by omega] at hset
      have hSet:=Lib.hid hset
      clear hset
      go_wp2_with fail
      refine⟨⟨k,n / 256,_,by omega,rfl,by go_num,hNx,hSet.out,hB.setCell (p:=⟨w.heap.size,k,none⟩) hgw _⟩,by simp[intOf]⟩


theorem BlkIs.own' {w:World}{g base:Nat}{l:List UInt8}(h:BlkIs w g 5 (l.map b8).toArray)(hb:base<=g)(hm:l.length<=9223372036854775807):OwnB w base (.slice (some ⟨g,0,none⟩) l.length l.length) l :=
  ⟨by simp,.inr ⟨g,l.length,(l.map b8).toArray,rfl,hb,h,Nat.le_refl _,by unfold maxLen;omega,by simp,by simp[List.take_of_length_le]⟩⟩
theorem cut_from {ρ:Operand->Value}{w:World}{o:Oper}{x y:Operand}{g n m:Nat}(ho:o.op = .slice 44 x (some y) none none)(h1:ρ x = .slice (some ⟨g,0,none⟩) n n)(h2:ρ y = .int .i64 (m:Int))(hm:m<n) :
    (execOp ρ o).run Tryz.prog w = .ok (.value (.slice (some ⟨g,m,none⟩) (n - m) (n - m))) w:=by
  have ht:Tryz.prog.underlying 44=some (.slice (Tryz.prog.elem 44)):=by kernel_rfl
  have e:¬ n=m:=by omega
  have e2:m<=n:=by omega
  have ea:(⟨g,0,none⟩:Addr).add m=⟨g,m,none⟩:=by cases m<;>simp[Addr.add]
  simp[execOp,ho,h1,h2,go_sem,run_sliceAt_slice _ _ _ _ _ _ ht,Result.andThen,e,e2,ea]
theorem cut_to {ρ:Operand->Value}{w:World}{o:Oper}{x y:Operand}{g n m:Nat}(ho:o.op = .slice 44 x none (some y) none)(h1:ρ x = .slice (some ⟨g,0,none⟩) n n)(h2:ρ y = .int .i64 (m:Int))(hm:m<n) :
    (execOp ρ o).run Tryz.prog w = .ok (.value (.slice (some ⟨g,0,none⟩) m n)) w:=by
  have ht:Tryz.prog.underlying 44=some (.slice (Tryz.prog.elem 44)):=by kernel_rfl
  have e2:m<=n:=by omega
  simp[execOp,ho,h1,h2,go_sem,run_sliceAt_slice _ _ _ _ _ _ ht,Result.andThen,e2]
theorem repeat2_gives (w:World)(A:Option Addr)(c:Nat)(l:List UInt8)(h:InB w w.heap.size A c l)(hl:0<l.length)(hm:l.length<30000) :
    Calls Tryz.prog 181 #[.slice A l.length c,.int .i64 2] w (GivesB w (l++l)):=by
  have H:=mul_gives l.length 2 (by omega) (by omega) w
  have e1:IntKind.u64.wrap (l.length:Int)=(l.length:Int):=by
    show (l.length:Int) % 18446744073709551616=_
    omega
  have e2:IntKind.i64.wrap ((l.length*2:Nat):Int)=((l.length*2:Nat):Int):=wrap_i64_fr _ (by omega) (by omega)
  obtain⟨n,hn⟩:∃n,n=l.length*2:=⟨_,rfl⟩
  rw[<-hn] at H e2
  have hN:=Lib.hid hn
  have hnb:n<60000:=by omega
  clear hn
  go_enter Tryz.func181,Tryz.ntmps181
  go_wp2_with fail
  refine H.mono ?_
  rintro e w' ⟨rfl,rfl⟩
  go_wp2_with (first
    | (at_make;refine wp_makeB rfl (.tmp 29) (.tmp 29) rfl w.heap.size .i64 .i64 n rfl rfl (by omega) (Nat.le_refl _) ?_;intro w1 hown hg1;have hB1:Below w.heap.size w w1:=(Below.refl _ w).grown hg1 (Nat.le_refl _) (fun k hk=>by cases hk);obtain⟨hb1,_⟩:=OwnB.blk (l:=List.replicate n 0) (by rw[List.length_replicate];exact hown))
    | (refine wp_copyB rfl (.tmp 31) (.tmp 32) rfl w.heap.size 0 (List.replicate n 0) l A c _ n n rfl rfl hb1 (h.below hB1) (by simp) ?_))
  have hmn:min l.length n=l.length:=by have:=hN.out;omega
  have hs1:spliceB (List.replicate n 0) 0 n l=l++List.replicate l.length 0:=by
    have:=hN.out
    subst this
    simp only[spliceB,List.take_zero,List.nil_append,Nat.zero_add,List.drop_replicate]
    rw[List.take_of_length_le (by omega),Nat.min_eq_left (by omega)]
    congr 2
    omega
  rw[hs1]
  have hb2:=hb1.setRow ((l++List.replicate l.length 0).map b8).toArray
  have hB2:=below_setRow hB1 (Nat.le_refl _) (g:=w.heap.size) ((l++List.replicate l.length 0).map b8).toArray
  generalize w1.setRow w.heap.size ((l++List.replicate l.length 0).map b8).toArray=w2 at *
  rw[hmn]
  clear hB1 hb1 hown hg1 hmn hs1
  have hlt:(l.length:Int)<(n:Int):=by have:=hN.out;omega
  refine wp_loop_rounds 2 ?_
  rw[rounds_succ]
  go_wp2_with fail
  have hin2:InB w2 (w.heap.size+1) (some ⟨w.heap.size,0,none⟩) n l:=⟨by have:=hN.out;omega,by omega,(fun e=>by cases e),fun _=>⟨_,0,rfl,by omega,fun j hj=>by
    rw[hb2.cell]
    simp[b8,List.getElem?_append_left,hj]⟩⟩
  have hfit:l.length+(n - l.length)<=(l++List.replicate l.length (0:UInt8)).length:=by have:=hN.out;simp;omega
  have hln:l.length<n:=by omega
  have hadd:IntKind.i64.wrap ((l.length:Int)+(l.length:Int))=(n:Int):=by have:=hN.out;rw[wrap_i64_fr _ (by omega) (by omega)];omega
  let WI:Reg.WInv:=fun listed _ W=>BlkIs W w.heap.size 5 ((if listed.getD 7 false then l++l else l++List.replicate l.length 0).map b8).toArray/\Below w.heap.size w W
  have hkeep:∀i,i≠7->∀(listed:Array Bool) (a a':Act) (W W':World),WI listed a W->Grow W W'->WI (listed.setIfInBounds i true) a' W':=by
    intro i hi listed a a' W W' h hg
    have e:(listed.setIfInBounds i true).getD 7 false=listed.getD 7 false:=by simp[Array.getD_eq_getD_getElem?,hi]
    refine⟨?_,h.2.trans (hg.mono h.2.size)⟩
    rw[e]
    exact h.1.below hg h.1.lt
  have hwi0:∀(m:Nat) (a:Act),WI (Array.replicate m false) a w2.drew:=by
    intro m a
    have e:(Array.replicate m false).getD 7 false=false:=by simp[Array.getD]
    refine⟨?_,hB2.drew⟩
    rw[e]
    exact hb2.drew
  have hsp:spliceB (l++List.replicate l.length 0) l.length (n - l.length) l=l++l:=by
    have e:n - l.length=l.length:=by have:=hN.out;omega
    rw[e]
    simp[spliceB]
  have hcopy:∀(ops:Array Oper) (a0:Act) (L:List (Nat×Fact)) (o:Oper),o.guard=none->o.op = .call { callee:=.builtin .copy,args:=#[.tmp 41,.tmp 44],argTypes:=#[44,44] }->o.dst=some 45->7<ops.size ->
      (o.looksAt ops).contains 41=true->(o.looksAt ops).contains 44=true->Reg.ahead ops o 41=true->Reg.ahead ops o 44=true->factOf L 41 = .val (.slice (some ⟨w.heap.size,l.length,none⟩) (n - l.length) (n - l.length))->factOf L 44 = .val (.slice (some ⟨w.heap.size,0,none⟩) l.length n) ->
      factOf L 45 = .val (.int .i64 (l.length:Int))->Reg.allVal L=true->Reg.Op2 Tryz.prog ops a0 (FSof L) WI 7 o:=by
    intro ops a0 L o hg ho hd hsz c1 c2 h1 h2 f1 f2 f3 hv listed a W K Q hs hl _ hwi hlook _ hK
    rw[if_pos (by simp[Region.wanted,hg])]
    left
    have g1:(factOf L 41).holds (a.eval (.tmp 41)) W:=hlook 41 c1 h1
    have g2:(factOf L 44).holds (a.eval (.tmp 44)) W:=hlook 44 c2 h2
    rw[f1] at g1
    rw[f2] at g2
    have e7:listed.getD 7 false=false:=by
      have h7:7<listed.size:=by omega
      simpa[Array.getD,h7] using hl
    obtain⟨hb,hB⟩:=hwi
    rw[e7] at hb
    have hin:InB W (w.heap.size+1) (some ⟨w.heap.size,0,none⟩) n l:=⟨by omega,by omega,(fun e=>by cases e),fun _=>⟨_,0,rfl,by omega,fun j hj=>by
      rw[hb.cell]
      simp[b8,List.getElem?_append_left,hj]⟩⟩
    refine oper_copyB (.tmp 41) (.tmp 44) ho w.heap.size l.length (l++List.replicate l.length 0) l (some ⟨w.heap.size,0,none⟩) n (w.heap.size+1) (n - l.length) (n - l.length) g1 g2 hb hin hfit ?_
    rw[hsp,show min l.length (n - l.length)=l.length from by have:=hN.out;omega]
    refine hK _ _ (fun t u h=>Reg.factOf_val hv t u _ _ h) ?_ ?_
    · rw[hd]
      show (factOf L 45).holds _ _
      rw[f3]
      rfl
    · refine⟨?_,below_setRow hB (Nat.le_refl _) _⟩
      have e8:(listed.setIfInBounds 7 true).getD 7 false=true:=by
        have h7:7<listed.size:=by omega
        simp[Array.getD_eq_getD_getElem?,h7]
      rw[e8]
      exact hb.setRow _
  open Reg in
  refine region2_facts (by kernel_rfl) (by kernel_rfl) 48 rfl (by kernel_rfl) [38,39,40,41,42,43,44,45,46,8] (by kernel_rfl)
    [(7,.val (.slice (some ⟨w.heap.size,0,none⟩) n n))]
    [(38,.val (.int .i64 (l.length:Int))),(39,.val (.slice (some ⟨w.heap.size,0,none⟩) n n)),(40,.val (.int .i64 (l.length:Int))),(41,.val (.slice (some ⟨w.heap.size,l.length,none⟩) (n - l.length) (n - l.length))),(42,.val (.slice (some ⟨w.heap.size,0,none⟩) n n)),(43,.val (.int .i64 (l.length:Int))),(44,.val (.slice (some ⟨w.heap.size,0,none⟩) l.length n)),(45,.val (.int .i64 (l.length:Int))),(46,.val (.int .i64 (n:Int))),(8,.val (.int .i64 (n:Int)))]
    ⟨rfl,trivial⟩ (by kernel_rfl) (WI) (hwi0 _ { tmps:=#[],defers:=[] })
    (⟨op2_mv_old 8 rfl (.inl rfl) (by kernel_rfl) (fun w=>fsd (f:=.val (.int .i64 (l.length:Int))) (by kernel_rfl) rfl) (fun listed a v w w1 h hg=>hkeep 0 (by decide) listed a a w w1 h hg),
    ⟨op2_of (FSof.stable _) (fun _=>ok_none rfl (l_mvF 7 (.val (.slice (some ⟨w.heap.size,0,none⟩) n n)) (.inl rfl) (by kernel_rfl) (by kernel_rfl) (by kernel_rfl))) (by kernel_rfl) (fun listed a v w w1 h hg=>hkeep 1 (by decide) listed a a w w1 h hg),
    ⟨op2_mv_old 8 rfl (.inl rfl) (by kernel_rfl) (fun w=>fsd (f:=.val (.int .i64 (l.length:Int))) (by kernel_rfl) rfl) (fun listed a v w w1 h hg=>hkeep 2 (by decide) listed a a w w1 h hg),
    ⟨op2_of (FSof.stable _) (fun _=>ok_none rfl (l_run2W (.tmp 39) (.tmp 40) (.val (.slice (some ⟨w.heap.size,l.length,none⟩) (n - l.length) (n - l.length))) (.slice (some ⟨w.heap.size,0,none⟩) n n) (.int .i64 (l.length:Int)) (hs 39 _ (by kernel_rfl) (by kernel_rfl)) (hs 40 _ (by kernel_rfl) (by kernel_rfl)) (fun ρ w hg h1 h2=>⟨_,w,cut_from rfl h1 h2 hln,Grow.refl _,rfl⟩) (by kernel_rfl))) (by kernel_rfl) (fun listed a v w w1 h hg=>hkeep 3 (by decide) listed a a w w1 h hg),
    ⟨op2_of (FSof.stable _) (fun _=>ok_none rfl (l_mvF 7 (.val (.slice (some ⟨w.heap.size,0,none⟩) n n)) (.inl rfl) (by kernel_rfl) (by kernel_rfl) (by kernel_rfl))) (by kernel_rfl) (fun listed a v w w1 h hg=>hkeep 4 (by decide) listed a a w w1 h hg),
    ⟨op2_mv_old 8 rfl (.inl rfl) (by kernel_rfl) (fun w=>fsd (f:=.val (.int .i64 (l.length:Int))) (by kernel_rfl) rfl) (fun listed a v w w1 h hg=>hkeep 5 (by decide) listed a a w w1 h hg),
    ⟨op2_of (FSof.stable _) (fun _=>ok_none rfl (l_run2W (.tmp 42) (.tmp 43) (.val (.slice (some ⟨w.heap.size,0,none⟩) l.length n)) (.slice (some ⟨w.heap.size,0,none⟩) n n) (.int .i64 (l.length:Int)) (hs 42 _ (by kernel_rfl) (by kernel_rfl)) (hs 43 _ (by kernel_rfl) (by kernel_rfl)) (fun ρ w hg h1 h2=>⟨_,w,cut_to rfl h1 h2 hln,Grow.refl _,rfl⟩) (by kernel_rfl))) (by kernel_rfl) (fun listed a v w w1 h hg=>hkeep 6 (by decide) listed a a w w1 h hg),
    ⟨hcopy _ _ _ _ rfl rfl rfl (by decide) (by kernel_rfl) (by kernel_rfl) (by kernel_rfl) (by kernel_rfl) (by kernel_rfl) (by kernel_rfl) (by kernel_rfl) (by kernel_rfl),
    ⟨op2_of (FSof.stable _) (fun _=>ok_none rfl (run2 (.tmp 38) (.tmp 45) (hs 38 (.int .i64 (l.length:Int)) (by kernel_rfl) (by kernel_rfl)) (hs 45 (.int .i64 (l.length:Int)) (by kernel_rfl) (by kernel_rfl)) (fun ρ w h1 h2=>by simp[execOp,h1,h2,go_sem,hadd]) (fun _=>fsd (f:=.val (.int .i64 (n:Int))) (by kernel_rfl) rfl))) (by kernel_rfl) (fun listed a v w w1 h hg=>hkeep 8 (by decide) listed a a w w1 h hg),
    ⟨op2_of (FSof.stable _) (fun _=>ok_none rfl (l_mvF 46 (.val (.int .i64 (n:Int))) (.inr rfl) (by kernel_rfl) (by kernel_rfl) (by kernel_rfl))) (by kernel_rfl) (fun listed a v w w1 h hg=>hkeep 9 (by decide) listed a a w w1 h hg),
    trivial⟩⟩⟩⟩⟩⟩⟩⟩⟩⟩) ?_
  intro listed a w3 hall hJ hF
  have e8:a.eval (.tmp 8) = .int .i64 (n:Int):=hF 8
  have ha:=Reg.acts_eq [38,39,40,41,42,43,44,45,46,8] hJ.size hJ.defers hJ.rest
  obtain⟨hb3,hB3⟩:BlkIs w3 w.heap.size 5 ((l++l).map b8).toArray/\Below w.heap.size w w3:=by
    have h7:=hall 7 (by decide)
    have hs:listed.getD 7 false=true:=by
      cases h8:listed[7]? with
      | none =>
        exfalso
        have h9:=hJ.closed 9 _ rfl (hall 9 (by decide)) ⟨7,.chain⟩ (by simp) (by decide)
        simp[Array.getD_eq_getD_getElem?,h8] at h9
      | some b=>simpa[Array.getD_eq_getD_getElem?,h8] using h7
    have hw:=hJ.wi
    refine⟨?_,hw.2⟩
    have:=hw.1
    rw[hs] at this
    exact this
  clear hF hJ hall
  simp only[List.foldl_cons,List.foldl_nil,e8] at ha
  clear e8
  generalize a.eval (.tmp 38)=v38 at ha
  generalize a.eval (.tmp 39)=v39 at ha
  generalize a.eval (.tmp 40)=v40 at ha
  generalize a.eval (.tmp 41)=v41 at ha
  generalize a.eval (.tmp 42)=v42 at ha
  generalize a.eval (.tmp 43)=v43 at ha
  generalize a.eval (.tmp 44)=v44 at ha
  generalize a.eval (.tmp 45)=v45 at ha
  generalize a.eval (.tmp 46)=v46 at ha
  simp only[Act.put,List.setIfInBounds_toArray,List.set_cons_succ,List.set_cons_zero] at ha
  subst ha
  simp only[Exit.inBlock,Exit.then]
  rw[rounds_succ]
  go_wp2
  go_ret
  refine⟨_,rfl,?_,hB3⟩
  have hlen:(l++l).length=n:=by have:=hN.out;simp;omega
  rw[<-hlen]
  exact hb3.own' (Nat.le_refl _) (by rw[hlen];omega)
end Go.Proofs.YtmllnpjldmdaeaaGreat
namespace Go.Proofs.YtmllnpjldmdaeaaGreat
open Lou
def headB (s e z c:Nat):List UInt8:=[fixL 8 s,fixL 8 e,fixL 4 z,fixL 4 c].flatten
theorem headB_eq (s e z c:Nat):headB s e z c=fixL 8 s++(fixL 8 e++(fixL 4 z++fixL 4 c)):=by simp[headB]
theorem headB_length (s e z c:Nat):(headB s e z c).length=24:=by
  rw[headB_eq];simp only[List.length_append,fixL_length]
def onceB (b:List UInt8):List UInt8:=b++fixL 4 (sumL b)
theorem onceB_length (b:List UInt8):(onceB b).length=b.length+4:=by simp[onceB,fixL_length]
def twiceB (b:List UInt8):List UInt8:=onceB b++onceB b++List.replicate 8 0
theorem twiceB_length (b:List UInt8):(twiceB b).length=2*b.length+16:=by simp[twiceB,onceB_length];omega
def headW (s e z c:Nat):List UInt8:=twiceB (headB s e z c)
theorem headW_length (s e z c:Nat):(headW s e z c).length=64:=by simp[headW,twiceB_length,headB_length]
theorem twiceB_mid (b:List UInt8):((twiceB b).drop (b.length+4)).take b.length=b:=by
  have:twiceB b=onceB b++(b++(fixL 4 (sumL b)++List.replicate 8 0)):=by simp[twiceB,onceB,List.append_assoc]
  rw[this,List.drop_append_of_le_length (by rw[onceB_length];omega),<-onceB_length,List.drop_length,List.nil_append]
  simp
theorem rfix_fixL_lt {k n:Nat}(h:n<256 ^ k):rfix (fixL k n)=n:=by rw[rfix_fixL,Nat.mod_eq_of_lt h]
theorem headB_read {s e z c:Nat}(hs:s<2 ^ 64)(he:e<2 ^ 64)(hz:z<2 ^ 32)(hc:c<2 ^ 32)(r:List UInt8) :
    rfix ((headB s e z c++r).take 8)=s/\rfix (((headB s e z c++r).drop 8).take 8)=e/\rfix (((headB s e z c++r).drop 16).take 4)=z/\rfix (((headB s e z c++r).drop 20).take 4)=c:=by
  have l8:∀n,(fixL 8 n).length=8:=fixL_length 8
  have l4:∀n,(fixL 4 n).length=4:=fixL_length 4
  have e8:(256:Nat) ^ 8=2 ^ 64:=by decide
  have e4:(256:Nat) ^ 4=2 ^ 32:=by decide
  have t8:∀n (r:List UInt8),(fixL 8 n++r).take 8=fixL 8 n:=fun n r=>by rw[List.take_append_of_le_length (by rw[l8];omega)];rw[List.take_of_length_le (by rw[l8];omega)]
  have t4:∀n (r:List UInt8),(fixL 4 n++r).take 4=fixL 4 n:=fun n r=>by rw[List.take_append_of_le_length (by rw[l4];omega)];rw[List.take_of_length_le (by rw[l4];omega)]
  have d8:∀n (r:List UInt8),(fixL 8 n++r).drop 8=r:=fun n r=>by have:=List.drop_left (l₁:=fixL 8 n) (l₂:=r);rw[l8] at this;exact this
  have d4:∀n (r:List UInt8),(fixL 4 n++r).drop 4=r:=fun n r=>by have:=List.drop_left (l₁:=fixL 4 n) (l₂:=r);rw[l4] at this;exact this
  have h16:∀(l:List UInt8),l.drop 16=(l.drop 8).drop 8:=fun l=>by rw[List.drop_drop]
  have h20:∀(l:List UInt8),l.drop 20=((l.drop 8).drop 8).drop 4:=fun l=>by rw[List.drop_drop,List.drop_drop]
  rw[headB_eq]
  simp only[List.append_assoc]
  rw[h20,h16,t8,d8,t8,d8,t4,d4,t4]
  exact⟨rfix_fixL_lt (by omega),rfix_fixL_lt (by omega),rfix_fixL_lt (by omega),rfix_fixL_lt (by omega)⟩
def hdS (b:List UInt8):Nat:=rfix (b.take 8)
def hdE (b:List UInt8):Nat:=rfix ((b.drop 8).take 8)
def hdZ (b:List UInt8):Nat:=rfix ((b.drop 16).take 4)
def hdC (b:List UInt8):Nat:=rfix ((b.drop 20).take 4)
def isHead (b:List UInt8):Bool:=decide (b.length=64) && decide (hdZ b<=2000) && decide (hdC b<=2000) && decide (headW (hdS b) (hdE b) (hdZ b) (hdC b)=b)
theorem isHead_iff (b:List UInt8):isHead b=true↔b.length=64/\hdZ b<=2000/\hdC b<=2000/\headW (hdS b) (hdE b) (hdZ b) (hdC b)=b:=by
  simp[isHead,and_assoc]
theorem headW_split (s e z c:Nat):∃r,headW s e z c=headB s e z c++r:=⟨_,by unfold headW twiceB onceB;simp only[List.append_assoc];rfl⟩
theorem headW_read {s e z c:Nat}(hs:s<2 ^ 64)(he:e<2 ^ 64)(hz:z<=2000)(hc:c<=2000):hdS (headW s e z c)=s/\hdE (headW s e z c)=e/\hdZ (headW s e z c)=z/\hdC (headW s e z c)=c:=by
  obtain⟨r,hr⟩:=headW_split s e z c
  unfold hdS hdE hdZ hdC
  rw[hr]
  exact headB_read hs he (by omega) (by omega) r
theorem isHead_headW {s e z c:Nat}(hs:s<2 ^ 64)(he:e<2 ^ 64)(hz:z<=2000)(hc:c<=2000):isHead (headW s e z c)=true:=by
  obtain⟨h1,h2,h3,h4⟩:=headW_read hs he hz hc
  rw[isHead_iff,h1,h2,h3,h4]
  exact⟨headW_length _ _ _ _,hz,hc,rfl⟩
def partB (e i p:Nat)(f:Bool)(z l:Nat):List UInt8:=[fixL 8 e,fixL 4 i,fixL 4 p,[if f then 1 else 0],fixL 4 z,fixL 4 l].flatten
theorem partB_eq (e i p:Nat)(f:Bool)(z l:Nat):partB e i p f z l=fixL 8 e++(fixL 4 i++(fixL 4 p++((if f then 1 else 0)::(fixL 4 z++fixL 4 l)))):=by simp[partB]
theorem partB_length (e i p:Nat)(f:Bool)(z l:Nat):(partB e i p f z l).length=25:=by
  rw[partB_eq];simp only[List.length_append,List.length_cons,fixL_length]
def sectB (p y:List UInt8):List UInt8:=p++fixL 4 (sumL (p++y))++List.replicate 35 0
theorem sectB_length (p y:List UInt8):(sectB p y).length=p.length+39:=by simp[sectB,fixL_length]
def frameB (p y:List UInt8):List UInt8:=sectB p y++y
end Go.Proofs.YtmllnpjldmdaeaaGreat
namespace Go.Proofs.YtmllnpjldmdaeaaGreat
open Go Go.RowKit Lou
theorem conv_3_45 (r:Nat)(h:r<4294967296)(w:World):(convert 3 150 (.int .i64 r)).run Tryz.prog w = .ok (.int .u32 r) w:=by
  have e:IntKind.u32.wrap (r:Int)=r:=by
    show (r:Int) % 4294967296=r
    omega
  have k:Tryz.prog.intKind 150 = .u32:=by kernel_rfl
  have h:=run_convert_int (P:=Tryz.prog) (w:=w) 3 150 .i64 r (by kernel_rfl) (by kernel_rfl)
  rw[k,e] at h
  exact h
theorem head_gives (s e z c:Nat)(hz:z<=2000)(hc:c<=2000)(w:World) :
    Calls Tryz.prog 150 #[.agg #[.int .u64 (s:Int),.int .u64 (e:Int),.int .i64 (z:Int),.int .i64 (c:Int)]] w fun x w'=>x = .returned (.agg ((headW s e z c).map b8).toArray)/\Below w.heap.size w w':=by
  have hz32:=conv_3_45 z (by omega)
  have hc32:=conv_3_45 c (by omega)
  have hcat:∀w u,Lists [fixL 8 s,fixL 8 e,fixL 4 z,fixL 4 c] u w->Calls Tryz.prog 139 #[u] w fun e' w'=>∃v,e' = .returned v/\Grow w w'/\(Fact.res (headB s e z c)).holds v w':=fun w u hu =>
    Reg.gives_res (concatL_gives hu (by simp) (by have:=headB_length s e z c;unfold headB at this;omega))
  have hBw:Below w.heap.size w ((w.alloc (.cells #[.int .u64 (s:Int),.int .u64 (e:Int),.int .i64 (z:Int),.int .i64 (c:Int)] 111)).alloc (.cells #[.int .u8 0,.int .u8 0,.int .u8 0,.int .u8 0,.int .u8 0,.int .u8 0,.int .u8 0,.int .u8 0,.int .u8 0,.int .u8 0,.int .u8 0,.int .u8 0,.int .u8 0,.int .u8 0,.int .u8 0,.int .u8 0,.int .u8 0,.int .u8 0,.int .u8 0,.int .u8 0,.int .u8 0,.int .u8 0,.int .u8 0,.int .u8 0,.int .u8 0,.int .u8 0,.int .u8 0,.int .u8 0,.int .u8 0,.int .u8 0,.int .u8 0,.int .u8 0,.int .u8 0,.int .u8 0,.int .u8 0,.int .u8 0,.int .u8 0,.int .u8 0,.int .u8 0,.int .u8 0,.int .u8 0,.int .u8 0,.int .u8 0,.int .u8 0,.int .u8 0,.int .u8 0,.int .u8 0,.int .u8 0,.int .u8 0,.int .u8 0,.int .u8 0,.int .u8 0,.int .u8 0,.int .u8 0,.int .u8 0,.int .u8 0,.int .u8 0,.int .u8 0,.int .u8 0,.int .u8 0,.int .u8 0,.int .u8 0,.int .u8 0,.int .u8 0] 220)):=((Below.refl _ w).alloc (Nat.le_refl _) _).alloc (by simp) _
  have hbh:BlkIs ((w.alloc (.cells #[.int .u64 (s:Int),.int .u64 (e:Int),.int .i64 (z:Int),.int .i64 (c:Int)] 111)).alloc (.cells #[.int .u8 0,.int .u8 0,.int .u8 0,.int .u8 0,.int .u8 0,.int .u8 0,.int .u8 0,.int .u8 0,.int .u8 0,.int .u8 0,.int .u8 0,.int .u8 0,.int .u8 0,.int .u8 0,.int .u8 0,.int .u8 0,.int .u8 0,.int .u8 0,.int .u8 0,.int .u8 0,.int .u8 0,.int .u8 0,.int .u8 0,.int .u8 0,.int .u8 0,.int .u8 0,.int .u8 0,.int .u8 0,.int .u8 0,.int .u8 0,.int .u8 0,.int .u8 0,.int .u8 0,.int .u8 0,.int .u8 0,.int .u8 0,.int .u8 0,.int .u8 0,.int .u8 0,.int .u8 0,.int .u8 0,.int .u8 0,.int .u8 0,.int .u8 0,.int .u8 0,.int .u8 0,.int .u8 0,.int .u8 0,.int .u8 0,.int .u8 0,.int .u8 0,.int .u8 0,.int .u8 0,.int .u8 0,.int .u8 0,.int .u8 0,.int .u8 0,.int .u8 0,.int .u8 0,.int .u8 0,.int .u8 0,.int .u8 0,.int .u8 0,.int .u8 0] 220)) w.heap.size 111 #[.int .u64 (s:Int),.int .u64 (e:Int),.int .i64 (z:Int),.int .i64 (c:Int)]:=(BlkIs.new w 111 _).alloc _
  have hbs:BlkIs ((w.alloc (.cells #[.int .u64 (s:Int),.int .u64 (e:Int),.int .i64 (z:Int),.int .i64 (c:Int)] 111)).alloc (.cells #[.int .u8 0,.int .u8 0,.int .u8 0,.int .u8 0,.int .u8 0,.int .u8 0,.int .u8 0,.int .u8 0,.int .u8 0,.int .u8 0,.int .u8 0,.int .u8 0,.int .u8 0,.int .u8 0,.int .u8 0,.int .u8 0,.int .u8 0,.int .u8 0,.int .u8 0,.int .u8 0,.int .u8 0,.int .u8 0,.int .u8 0,.int .u8 0,.int .u8 0,.int .u8 0,.int .u8 0,.int .u8 0,.int .u8 0,.int .u8 0,.int .u8 0,.int .u8 0,.int .u8 0,.int .u8 0,.int .u8 0,.int .u8 0,.int .u8 0,.int .u8 0,.int .u8 0,.int .u8 0,.int .u8 0,.int .u8 0,.int .u8 0,.int .u8 0,.int .u8 0,.int .u8 0,.int .u8 0,.int .u8 0,.int .u8 0,.int .u8 0,.int .u8 0,.int .u8 0,.int .u8 0,.int .u8 0,.int .u8 0,.int .u8 0,.int .u8 0,.int .u8 0,.int .u8 0,.int .u8 0,.int .u8 0,.int .u8 0,.int .u8 0,.int .u8 0] 220)) (w.heap.size+1) 220 ((List.replicate 64 (0:UInt8)).map b8).toArray:=by
    have h:=BlkIs.new (w.alloc (.cells #[.int .u64 (s:Int),.int .u64 (e:Int),.int .i64 (z:Int),.int .i64 (c:Int)] 111)) 220 #[.int .u8 0,.int .u8 0,.int .u8 0,.int .u8 0,.int .u8 0,.int .u8 0,.int .u8 0,.int .u8 0,.int .u8 0,.int .u8 0,.int .u8 0,.int .u8 0,.int .u8 0,.int .u8 0,.int .u8 0,.int .u8 0,.int .u8 0,.int .u8 0,.int .u8 0,.int .u8 0,.int .u8 0,.int .u8 0,.int .u8 0,.int .u8 0,.int .u8 0,.int .u8 0,.int .u8 0,.int .u8 0,.int .u8 0,.int .u8 0,.int .u8 0,.int .u8 0,.int .u8 0,.int .u8 0,.int .u8 0,.int .u8 0,.int .u8 0,.int .u8 0,.int .u8 0,.int .u8 0,.int .u8 0,.int .u8 0,.int .u8 0,.int .u8 0,.int .u8 0,.int .u8 0,.int .u8 0,.int .u8 0,.int .u8 0,.int .u8 0,.int .u8 0,.int .u8 0,.int .u8 0,.int .u8 0,.int .u8 0,.int .u8 0,.int .u8 0,.int .u8 0,.int .u8 0,.int .u8 0,.int .u8 0,.int .u8 0,.int .u8 0,.int .u8 0]
    rw[World.size_alloc] at h
    exact h
  go_enter Tryz.func150,Tryz.ntmps150
  go_wp2_with fail
  generalize (w.alloc (.cells #[.int .u64 (s:Int),.int .u64 (e:Int),.int .i64 (z:Int),.int .i64 (c:Int)] 111)).alloc (.cells #[.int .u8 0,.int .u8 0,.int .u8 0,.int .u8 0,.int .u8 0,.int .u8 0,.int .u8 0,.int .u8 0,.int .u8 0,.int .u8 0,.int .u8 0,.int .u8 0,.int .u8 0,.int .u8 0,.int .u8 0,.int .u8 0,.int .u8 0,.int .u8 0,.int .u8 0,.int .u8 0,.int .u8 0,.int .u8 0,.int .u8 0,.int .u8 0,.int .u8 0,.int .u8 0,.int .u8 0,.int .u8 0,.int .u8 0,.int .u8 0,.int .u8 0,.int .u8 0,.int .u8 0,.int .u8 0,.int .u8 0,.int .u8 0,.int .u8 0,.int .u8 0,.int .u8 0,.int .u8 0,.int .u8 0,.int .u8 0,.int .u8 0,.int .u8 0,.int .u8 0,.int .u8 0,.int .u8 0,.int .u8 0,.int .u8 0,.int .u8 0,.int .u8 0,.int .u8 0,.int .u8 0,.int .u8 0,.int .u8 0,.int .u8 0,.int .u8 0,.int .u8 0,.int .u8 0,.int .u8 0,.int .u8 0,.int .u8 0,.int .u8 0,.int .u8 0] 220)=w1 at *
  have hc0:∀w',Grow w1 w'->w'.cell? ⟨w.heap.size,0,none⟩=some (.int .u64 s):=fun w' hg=>(hg.cell (p:=⟨w.heap.size,0,none⟩) hbh.lt).trans (by rw[hbh.cell];rfl)
  have hc1:∀w',Grow w1 w'->w'.cell? ⟨w.heap.size,1,none⟩=some (.int .u64 e):=fun w' hg=>(hg.cell (p:=⟨w.heap.size,1,none⟩) hbh.lt).trans (by rw[hbh.cell];rfl)
  have hc2:∀w',Grow w1 w'->w'.cell? ⟨w.heap.size,2,none⟩=some (.int .i64 z):=fun w' hg=>(hg.cell (p:=⟨w.heap.size,2,none⟩) hbh.lt).trans (by rw[hbh.cell];rfl)
  have hc3:∀w',Grow w1 w'->w'.cell? ⟨w.heap.size,3,none⟩=some (.int .i64 c):=fun w' hg=>(hg.cell (p:=⟨w.heap.size,3,none⟩) hbh.lt).trans (by rw[hbh.cell];rfl)
  open Reg in
  refine region_acts (by kernel_rfl) (by kernel_rfl) 33 rfl (by kernel_rfl) [5,6,7,8,9,10,11,12,13,14,15,16,17,18,19,20,3] (by kernel_rfl)
    [(1,.val (.pointer (some ⟨w.heap.size,0,none⟩)))]
    [(5,.val (.pointer (some ⟨w.heap.size,0,none⟩))),(6,.val (.int .u64 (s:Int))),(7,.res (fixL 8 s)),(8,.val (.pointer (some ⟨w.heap.size,1,none⟩))),(9,.val (.int .u64 (e:Int))),(10,.res (fixL 8 e)),(11,.val (.pointer (some ⟨w.heap.size,2,none⟩))),(12,.val (.int .i64 (z:Int))),(13,.val (.int .u32 (z:Int))),(14,.res (fixL 4 z)),(15,.val (.pointer (some ⟨w.heap.size,3,none⟩))),(16,.val (.int .i64 (c:Int))),(17,.val (.int .u32 (c:Int))),(18,.res (fixL 4 c)),(19,.pred (Lists [fixL 8 s,fixL 8 e,fixL 4 z,fixL 4 c]) (lists_stable _)),(20,.res (headB s e z c)),(3,.res (headB s e z c))]
    ⟨rfl,trivial⟩ (by kernel_rfl)
    (allOk_cons (ok_none rfl (l_run1 (.tmp 1) (.pointer (some ⟨w.heap.size,0,none⟩)) (.pointer (some ⟨w.heap.size,0,none⟩)) (hs 1 _ (by kernel_rfl) (by kernel_rfl)) (fun ρ w h=>by simp[execOp,h,go_sem,Result.andThen]) (by kernel_rfl)))
    <| allOk_cons (ok_none rfl (l_load (.tmp 5) (⟨w.heap.size,0,none⟩) _ (.int .u64 (s:Int)) (by intro w;simp[go_sem]) rfl (hs 5 (.pointer (some ⟨w.heap.size,0,none⟩)) (by kernel_rfl) (by kernel_rfl)) (fun w hg=>hc0 w hg) (by kernel_rfl)))
    <| allOk_cons (ok_none rfl (l_call 168 _ _ rfl (enters_of Tryz.func168 (by kernel_rfl) rfl) #[.int .u64 (s:Int)] (.res (fixL 8 s)) (args1 (hs 6 (.int .u64 (s:Int)) (by kernel_rfl) (by kernel_rfl))) (fun w hg=>gives_res (eight_gives s w)) (by kernel_rfl)))
    <| allOk_cons (ok_none rfl (l_run1 (.tmp 1) (.pointer (some ⟨w.heap.size,0,none⟩)) (.pointer (some ⟨w.heap.size,1,none⟩)) (hs 1 _ (by kernel_rfl) (by kernel_rfl)) (fun ρ w h=>by simp[execOp,h,go_sem,Result.andThen]) (by kernel_rfl)))
    <| allOk_cons (ok_none rfl (l_load (.tmp 8) (⟨w.heap.size,1,none⟩) _ (.int .u64 (e:Int)) (by intro w;simp[go_sem]) rfl (hs 8 (.pointer (some ⟨w.heap.size,1,none⟩)) (by kernel_rfl) (by kernel_rfl)) (fun w hg=>hc1 w hg) (by kernel_rfl)))
    <| allOk_cons (ok_none rfl (l_call 168 _ _ rfl (enters_of Tryz.func168 (by kernel_rfl) rfl) #[.int .u64 (e:Int)] (.res (fixL 8 e)) (args1 (hs 9 (.int .u64 (e:Int)) (by kernel_rfl) (by kernel_rfl))) (fun w hg=>gives_res (eight_gives e w)) (by kernel_rfl)))
    <| allOk_cons (ok_none rfl (l_run1 (.tmp 1) (.pointer (some ⟨w.heap.size,0,none⟩)) (.pointer (some ⟨w.heap.size,2,none⟩)) (hs 1 _ (by kernel_rfl) (by kernel_rfl)) (fun ρ w h=>by simp[execOp,h,go_sem,Result.andThen]) (by kernel_rfl)))
    <| allOk_cons (ok_none rfl (l_load (.tmp 11) (⟨w.heap.size,2,none⟩) _ (.int .i64 (z:Int)) (by intro w;simp[go_sem]) rfl (hs 11 (.pointer (some ⟨w.heap.size,2,none⟩)) (by kernel_rfl) (by kernel_rfl)) (fun w hg=>hc2 w hg) (by kernel_rfl)))
    <| allOk_cons (ok_none rfl (l_convS (.tmp 12) _ _ (.int .i64 (z:Int)) (.int .u32 (z:Int)) rfl (hs 12 (.int .i64 (z:Int)) (by kernel_rfl) (by kernel_rfl)) (fun w hg=>hz32 w) (by kernel_rfl)))
    <| allOk_cons (ok_none rfl (l_call 169 _ _ rfl (enters_of Tryz.func169 (by kernel_rfl) rfl) #[.int .u32 (z:Int)] (.res (fixL 4 z)) (args1 (hs 13 (.int .u32 (z:Int)) (by kernel_rfl) (by kernel_rfl))) (fun w hg=>gives_res (four_gives z w)) (by kernel_rfl)))
    <| allOk_cons (ok_none rfl (l_run1 (.tmp 1) (.pointer (some ⟨w.heap.size,0,none⟩)) (.pointer (some ⟨w.heap.size,3,none⟩)) (hs 1 _ (by kernel_rfl) (by kernel_rfl)) (fun ρ w h=>by simp[execOp,h,go_sem,Result.andThen]) (by kernel_rfl)))
    <| allOk_cons (ok_none rfl (l_load (.tmp 15) (⟨w.heap.size,3,none⟩) _ (.int .i64 (c:Int)) (by intro w;simp[go_sem]) rfl (hs 15 (.pointer (some ⟨w.heap.size,3,none⟩)) (by kernel_rfl) (by kernel_rfl)) (fun w hg=>hc3 w hg) (by kernel_rfl)))
    <| allOk_cons (ok_none rfl (l_convS (.tmp 16) _ _ (.int .i64 (c:Int)) (.int .u32 (c:Int)) rfl (hs 16 (.int .i64 (c:Int)) (by kernel_rfl) (by kernel_rfl)) (fun w hg=>hc32 w) (by kernel_rfl)))
    <| allOk_cons (ok_none rfl (l_call 169 _ _ rfl (enters_of Tryz.func169 (by kernel_rfl) rfl) #[.int .u32 (c:Int)] (.res (fixL 4 c)) (args1 (hs 17 (.int .u32 (c:Int)) (by kernel_rfl) (by kernel_rfl))) (fun w hg=>gives_res (four_gives c w)) (by kernel_rfl)))
    <| allOk_cons (ok_none rfl (l_build4 7 10 14 18 (fixL 8 s) (fixL 8 e) (fixL 4 z) (fixL 4 c) rfl (by kernel_rfl) (by kernel_rfl) (by kernel_rfl) (by kernel_rfl) (by kernel_rfl) (by kernel_rfl) (by kernel_rfl) (by kernel_rfl) (by kernel_rfl)))
    <| allOk_cons (ok_none rfl (l_callP 139 19 (Lists [fixL 8 s,fixL 8 e,fixL 4 z,fixL 4 c]) (lists_stable _) _ rfl (enters_of Tryz.func139 (by kernel_rfl) rfl) (.res (headB s e z c)) (by kernel_rfl) (by kernel_rfl) (fun w u hg hu=>hcat w u hu) (by kernel_rfl)))
    <| allOk_cons (ok_none rfl (l_mvF 20 (.res (headB s e z c)) (.inr rfl) (by kernel_rfl) (by kernel_rfl) (by kernel_rfl)))
    <| allOk_nil) ?_
  intro a w3 hsz hdef hGw3 hF hU
  obtain⟨A3,c3,e3,hin3⟩:=hF 3
  have ha:=Reg.acts_eq [5,6,7,8,9,10,11,12,13,14,15,16,17,18,19,20,3] hsz hdef hU
  clear hF hU hdef
  simp only[List.foldl_cons,List.foldl_nil,e3] at ha
  clear e3 hsz
  generalize a.eval (.tmp 5)=v5 at *
  generalize a.eval (.tmp 6)=v6 at *
  generalize a.eval (.tmp 7)=v7 at *
  generalize a.eval (.tmp 8)=v8 at *
  generalize a.eval (.tmp 9)=v9 at *
  generalize a.eval (.tmp 10)=v10 at *
  generalize a.eval (.tmp 11)=v11 at *
  generalize a.eval (.tmp 12)=v12 at *
  generalize a.eval (.tmp 13)=v13 at *
  generalize a.eval (.tmp 14)=v14 at *
  generalize a.eval (.tmp 15)=v15 at *
  generalize a.eval (.tmp 16)=v16 at *
  generalize a.eval (.tmp 17)=v17 at *
  generalize a.eval (.tmp 18)=v18 at *
  generalize a.eval (.tmp 19)=v19 at *
  generalize a.eval (.tmp 20)=v20 at *
  simp only[Act.put,List.setIfInBounds_toArray,List.set_cons_succ,List.set_cons_zero] at ha
  subst ha
  simp only[Exit.then]
  refine ‹∀(a:Act) (w:World),Code.wp Tryz.prog _ _ a w->_› _ w3 ?_
  have hs3:=hbs.below hGw3 hbs.lt
  have hB3:Below w.heap.size w w3:=hBw.trans (hGw3.mono hBw.size)
  have hl24:=headB_length s e z c
  generalize hbd:headB s e z c=b at *
  have HB:=Lib.hid hbd
  clear hbd
  have HL:=Lib.hid hl24
  clear hl24 hcat hz32 hc32 hc0 hc1 hc2 hc3 hbh hbs
  go_wp2_with fail
  refine(sum1_gives w3 A3 c3 b hin3).mono ?_
  rintro e4 w4 ⟨rfl,hB4⟩
  have hin4:=(hin3.below hB4).more hB4.size
  have hs4:=hs3.below hB4 hs3.lt
  go_wp2_with fail
  refine(four_gives _ _).mono ?_
  rintro e5 w5 ⟨v,rfl,hown5,hB5⟩
  obtain⟨A5,k5,rfl,hin5⟩:=hown5.inB
  have hc2:=concat2_gives w5 A3 A5 c3 k5 b _ ((hin4.below hB5).more hB5.size) hin5 (by have:=HL.out;simp[fixL_length];omega)
  rw[fixL_length] at hc2
  have hs5:=hs4.below hB5 hs4.lt
  have hB45:Below w.heap.size w w5:=(hB3.trans (hB4.mono hB3.size)).trans (hB5.mono (hB3.trans (hB4.mono hB3.size)).size)
  rw[fixL_length]
  go_wp2_with fail
  refine hc2.mono ?_
  rintro e6 w6 ⟨v6,rfl,hown6,hB6⟩
  obtain⟨A6,k6,rfl,hin6⟩:=hown6.inB
  have hs6:=hs5.below hB6 hs5.lt
  have hB06:Below w.heap.size w w6:=hB45.trans (hB6.mono hB45.size)
  have honce:b++fixL 4 (sumL b)=onceB b:=rfl
  rw[honce] at hin6 ⊢
  have hol:(onceB b).length=28:=by rw[onceB_length,HL.out]
  have HO:=Lib.hid hol
  clear hol honce hs3 hs4 hs5 hB3 hB4 hB5 hB45 hin3 hin4 hin5 hown5 hown6 hc2 hB6
  go_wp2_with fail
  have HR:=repeat2_gives w6.drew A6 k6 (onceB b) hin6.drew (by have:=HO.out;omega) (by have:=HO.out;omega)
  obtain⟨d,hd⟩:∃d,onceB b++onceB b=d:=⟨_,rfl⟩
  rw[hd] at HR
  have HD:=Lib.hid hd
  clear hd
  go_region_held3 (fun _=>True) (trivial) (first
    | (go_at_call 181;refine HR.mono ?_;rintro e7 w7 ⟨v7,rfl,hown7,hB7⟩;obtain⟨A7,k7,rfl,hin7⟩:=hown7.inB;have hs7:=hs6.drew.below hB7 hs6.lt)
    | (refine step_copyB (by rfl) (.tmp 28) (.tmp 30) (by rfl) (w.heap.size+1) 0 (List.replicate 64 0) d A7 k7 _ 64 64 (by rfl) (by rfl) hs7 hin7 (by simp) ?_))
  have hsp:spliceB (List.replicate 64 0) 0 64 d=twiceB b:=by
    have:=HO.out
    rw[<-HD.out]
    simp only[spliceB,twiceB,List.take_zero,List.nil_append,Nat.zero_add,List.drop_replicate,List.length_append]
    rw[List.take_of_length_le (by simp;omega),Nat.min_eq_left (by omega),this]
  rw[hsp]
  have hs8:=hs7.setRow ((twiceB b).map b8).toArray
  have hB8:Below w.heap.size w (w7.setRow (w.heap.size+1) ((twiceB b).map b8).toArray):=below_setRow (hB06.drew.trans (hB7.mono hB06.size)) (by omega) _
  generalize w7.setRow (w.heap.size+1) ((twiceB b).map b8).toArray=w8 at *
  clear hs7 hB7 hin7 hown7 HR hsp
  have h64:((twiceB b).map b8).toArray.size=64:=by
    have:=HL.out
    simp[twiceB_length];omega
  have hRow:RowTy Tryz.prog 220 ((twiceB b).map b8).toArray.size:=by rw[h64];exact rowSector
  clear h64
  go_wp2_with (first
    | (refine wp_loadW rfl 220 (.tmp 2) rfl (w.heap.size+1) rfl hRow hs8 rfl ?_)
    | (refine wp_storeW rfl 220 (.tmp 2) (.tmp 32) rfl (w.heap.size+1) rfl rfl hRow hs8 rfl rfl (b8_one _) ?_))
  have hself:w8.setRow (w.heap.size+1) ((twiceB b).map b8).toArray=w8:=setRow_self w8 _ _ _ _ hs8
  rw[hself]
  refine bodyPost_ret_by (results_cellW 2 rfl rfl hRow hs8 rfl) rfl ⟨?_,hB8⟩
  unfold headW
  rw[HB.out]
end Go.Proofs.YtmllnpjldmdaeaaGreat
