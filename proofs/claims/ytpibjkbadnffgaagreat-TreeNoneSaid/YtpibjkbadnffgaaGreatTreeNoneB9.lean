/- Texts that the proof of TreeNone leans on, part 9. -/
import Derived.Shelf.SlIterI.Nil
import Derived.Shelf.SortM.Plain
import Derived.Shelf.SortM.SortNone
import Derived.BigQuiet
import Derived.Shelf.SlSortCmp.Whole1
import Derived.Shelf.SlIterI.Collect
import Derived.Shelf.SlSortCmp.NoneTotal
import Derived.Laws.LoneSync
import Derived.Test.YtpibjkbadnffgaaGreatTreeNoneB8
open List renaming getElem?_eq_getElem → zM, map_toArray → zK, map_cons → zL, map_nil → zN, getElem_mem → qF, length_map → qM, mem_append → qK, mem_singleton → qN, setIfInBounds_toArray → zA, set_cons_zero → zG, set_cons_succ → zF, getElem_toArray → zE, getElem_cons_zero → zB, getElem_cons_succ → zD, size_toArray → zT, length_cons → zP, length_nil → qE, push_toArray → qD, append_toArray → qA, nil_append → zV, cons_append → qB, length_append → zJ, take_of_length_le → qI
open Nat renaming le_trans → zU, le_refl → zH, lt_of_lt_of_le → zO, zero_add → qC, reduceAdd → qO, reduceSub → qP
open Array renaming getElem?_toList → qH, getElem?_eq_some_iff → zI, length_toList → qL, replicate_succ → zX, replicate_zero → zY
set_option linter.unusedVariables false
set_option maxRecDepth 100000
set_option maxHeartbeats 8000000

namespace Go.Proofs.YtpibjkbadnffgaaGreat
open Go Go.RowKit Lou Go.Maps Go.Sort Go.Shelf
def layK_ren:Go.Shelf.Ren:=⟨fun|7=>200|10=>265|n=>n,fun|23=>205|26=>3|3=>87|28=>279|0=>0|27=>278|33=>202|4=>4|n=>n,fun|n=>n⟩
theorem layK:SlLaysZI.n7 Tryz.prog layK_ren:={
 mixed:=by kernel_rfl
 f7:=⟨Tryz.f200.name,by decide,Tryz.func200.trans (congrArg some (by kernel_rfl))⟩
 f10:=⟨Tryz.f265.name,by decide,Tryz.func265.trans (congrArg some (by kernel_rfl))⟩
 t0:=Tryz.underlying0
 a0:=Tryz.isAgg0
 z0:=Tryz.sizeOf0
 v0:=Tryz.zeroValue0
 t4:=Tryz.underlying4
 a4:=Tryz.isAgg4
 z4:=Tryz.sizeOf4
 v4:=Tryz.zeroValue4
 t23:=Tryz.underlying205
 a23:=Tryz.isAgg205
 z23:=Tryz.sizeOf205
 v23:=Tryz.zeroValue205
 t26:=Tryz.underlying3
 a26:=Tryz.isAgg3
 z26:=Tryz.sizeOf3
 v26:=Tryz.zeroValue3
 t27:=Tryz.underlying278
 a27:=Tryz.isAgg278
 z27:=Tryz.sizeOf278
 v27:=Tryz.zeroValue278
 t28:=Tryz.underlying279
 a28:=Tryz.isAgg279
 z28:=Tryz.sizeOf279
 v28:=Tryz.zeroValue279
 t33:=Tryz.underlying202
 a33:=Tryz.isAgg202
 z33:=Tryz.sizeOf202
 v33:=Tryz.zeroValue202 }

end Go.Proofs.YtpibjkbadnffgaaGreat
namespace Go.Proofs.YtpibjkbadnffgaaGreat
open Go Go.RowKit Lou
structure EnV (es:Array MapEntry)(f:Int->Option Value):Prop where
 keys:∀(i:Nat) e,es[i]? = some e->∃k l,f k=some l/\e.key = .int .i64 (k:Int)/\e.val=l
 all:∀k l,f k=some l->∃(i:Nat) (e:MapEntry),es[i]? = some e/\e.key = .int .i64 (k:Int)/\e.val=l
 inj:∀(i j:Nat) e e',es[i]? = some e->es[j]? = some e'->e.key=e'.key->i=j
theorem EnV.empty:EnV #[] (λ_=>none):=⟨λi e h=>by simp at h,λk l h=>by simp at h,λi j e g h=>by simp at h⟩
theorem keyI_inj {k m:Int}(h:Value.int .i64 k = .int .i64 m):k=m:=by injection h
def fsetV (f:Int->Option Value)(k:Int)(x:Option Value):Int->Option Value:=λm=>if m=k then x else f m
section
variable {es:Array MapEntry}{f:Int->Option Value}
theorem EnV.find (h:EnV es f)(k:Int):(Instr.findNow (.int .i64) (.int .i64 (k:Int)) es.toList 0=some none/\f k=none) ∨
  ∃j e l,Instr.findNow (.int .i64) (.int .i64 (k:Int)) es.toList 0=some (some (j,e.val))/\es[j]? = some e/\e.key = .int .i64 (k:Int)/\f k=some l/\e.val=l:=by
 have H:MapKept.IsKey (.int .i64) (.int .i64 (k:Int)):=rfl
 have u:∀x∈es.toList,MapKept.IsKey (.int .i64) x.key:=by
  intro x C
  obtain⟨i,A,rfl⟩:=List.getElem_of_mem C
  obtain⟨p,l,_,h2,_⟩:=h.keys i es.toList[i] (by rw[<-qH];exact zM A)
  rw[h2]
  rfl
 rcases MapKept.findNow_spec H es.toList 0 u with⟨h1,h2⟩|⟨j,e,h1,h2,h3⟩
 ·left
  refine⟨h1,?_⟩
  cases hf:f k with
  | none=>rfl
  | some l =>
   obtain⟨i,e,g,m,_⟩:=h.all k l hf
   exact absurd m (h2 e (Array.mem_toList_iff.2 (Array.mem_of_getElem? g)))
 ·right
  have g:es[j]? = some e:=by rw[<-qH];exact h2
  obtain⟨p,l,m,B,q⟩:=h.keys j e g
  have:p=k:=keyI_inj (B.symm.trans h3)
  subst this
  exact⟨j,e,l,by simpa using h1,g,h3,m,q⟩
theorem EnV.push (h:EnV es f){k:Int}(L:f k=none)(l:Value)(born:Nat):EnV (es.push { key:=.int .i64 (k:Int),val:=l,born:=born }) (fsetV f k (some l)):=by
 refine⟨λi e p => ?_,λm A C => ?_,λi j e B u g H => ?_⟩
 ·rw[Array.getElem?_push] at p
  split at p
  ·injection p with p
   subst p
   exact⟨k,l,by simp[fsetV],rfl,rfl⟩
  ·obtain⟨m,A,h1,h2,I⟩:=h.keys i e p
   refine⟨m,A,?_,h2,I⟩
   have:m≠k:=λe=>by subst e;rw[L] at h1;cases h1
   simp[fsetV,this,h1]
 ·by_cases e:m=k
  ·subst e
   simp[fsetV] at C
   subst C
   exact⟨es.size,{ key:=.int .i64 (m:Int),val:=l,born:=born },by simp,rfl,rfl⟩
  ·simp only[fsetV,if_neg e] at C
   obtain⟨i,B,h1,h2,I⟩:=h.all m A C
   refine⟨i,B,?_,h2,I⟩
   have:=(zI.1 h1).1
   rw[Array.getElem?_push,if_neg (by omega)]
   exact h1
 ·rw[Array.getElem?_push] at u g
  have K:∀(q:Nat) (e:MapEntry),es[q]? = some e->e.key≠.int .i64 (k:Int):=λq e p hq=>by
   obtain⟨m,A,h1,h2,_⟩:=h.keys q e p
   have:=keyI_inj (h2.symm.trans hq)
   subst this
   rw[L] at h1
   cases h1
  split at u
  ·split at g
   ·omega
   ·injection u with u
    subst u
    exact absurd H.symm (K j B g)
  ·split at g
   ·injection g with g
    subst g
    exact absurd H (K i e u)
   ·exact h.inj i j e B u g H
theorem EnV.modify (h:EnV es f){k:Int}{i:Nat}{e:MapEntry}(A:es[i]? = some e)(L:e.key = .int .i64 (k:Int))(l:Value):EnV (es.modify i λe => { e with key:=.int .i64 (k:Int),val:=l }) (fsetV f k (some l)):=by
 have C:∀j,(es.modify i λe => { e with key:=.int .i64 (k:Int),val:=l })[j]? = if i=j then some { e with key:=.int .i64 (k:Int),val:=l } else es[j]?:=λj=>by
  rw[Array.getElem?_modify]
  split
  ·rename_i p
   subst p
   rw[A]
   rfl
  ·rfl
 refine⟨λj B g => ?_,λm I H => ?_,λa b u e2 ha U X => ?_⟩
 ·rw[C] at g
  split at g
  ·injection g with g
   subst g
   exact⟨k,l,by simp[fsetV],rfl,rfl⟩
  ·rename_i p
   obtain⟨m,I,h1,h2,K⟩:=h.keys j B g
   refine⟨m,I,?_,h2,K⟩
   have:m≠k:=λq=>by
    subst q
    exact p (h.inj i j e B A g (by rw[L,h2]))
   simp[fsetV,this,h1]
 ·by_cases q:m=k
  ·subst q
   simp[fsetV] at H
   subst H
   exact⟨i,_,by rw[C,if_pos rfl],rfl,rfl⟩
  ·simp only[fsetV,if_neg q] at H
   obtain⟨j,B,h1,h2,K⟩:=h.all m I H
   have p:i≠j:=λp=>by
    subst p
    rw[A] at h1
    injection h1 with h1
    subst h1
    exact q (keyI_inj (h2.symm.trans L))
   exact⟨j,B,by rw[C,if_neg p];exact h1,h2,K⟩
 ·have M:∀(a:Nat) (u:MapEntry),(es.modify i λe => { e with key:=.int .i64 (k:Int),val:=l })[a]? = some u->∃N:MapEntry,es[a]? = some N/\N.key=u.key:=λa u ha=>by
   rw[C] at ha
   split at ha
   ·rename_i hia
    subst hia
    injection ha with ha
    subst ha
    exact⟨e,A,L⟩
   ·exact⟨u,ha,rfl⟩
  obtain⟨x,hx,Z⟩:=M a u ha
  obtain⟨y,O,aA⟩:=M b e2 U
  exact h.inj a b x y hx O (by rw[Z,aA,X])
end
section
variable {ρ:Operand->Value}{w:World}{o:Oper}{x y z:Operand}
variable {r clock:Nat}{k:Int}{es:Array MapEntry}{f:Int->Option Value}{l:Value}
theorem stampedSetV {w:Value}(p:MapKept.Stamped es clock){j:Nat}{e:MapEntry}(h:es[j]? = some e)(m:e.key=w)(v:Value):MapKept.Stamped (es.modify j λe => { e with key:=w,val:=v }) clock :=
 MapKept.stamped_modify p j (λe => { e with key:=w,val:=v }) (λe _=>rfl) (λq _ g=>by rw[h] at g;injection g with g;subst g;exact m.symm)
theorem x_putV (h:EnV es f)(q:MapKept.Stamped es clock)(K:MapIs w r es clock)(u:o.op = .mapUpdate 205 x y z)(h1:ρ x = .map (some r))(h2:ρ y = .int .i64 (k:Int))(A:ρ z=l) :
  ∃p clock',(execOp ρ o).run Tryz.prog w = .ok .skip (setMap w r p clock')/\EnV p (fsetV f k (some l))/\MapKept.Stamped p clock':=by
 have B:MapKept.IsKey (.int .i64) (.int .i64 (k:Int)):=rfl
 have hc:(Instr.checkKey false 10000 3 (.int .i64 (k:Int))).run Tryz.prog w = .ok () w:=MapKept.run_checkKey Tryz.underlying3 B false 9999
 have g:w.heap[r]? = some (.map es clock):=K
 rcases h.find k with⟨hf,hn⟩|⟨j,e,l0,hf,hj,hek,_,_⟩
 ·refine⟨_,clock+1,?_,h.push hn l clock,MapKept.stamped_push q λx I H=>by
   obtain⟨i,C,rfl⟩:=List.getElem_of_mem I
   obtain⟨m,L,h1,h2,_⟩:=h.keys i es.toList[i] (by rw[<-qH];exact zM C)
   have:=keyI_inj (h2.symm.trans H)
   subst this
   rw[hn] at h1
   cases h1⟩
  simp[execOp,u,h1,h2,A,Instr.mapUpdate,run_underlying Tryz.underlying205,MapKept.run_getObj_map g,hc,MapKept.run_findKey Tryz.underlying3 hf,MapKept.run_setObj_map _ g,Result.andThen,setMap]
 ·refine⟨_,clock,?_,h.modify hj hek l,stampedSetV q hj hek (l)⟩
  have M:(((es[j]?).map (·.key)).getD (.int .i64 (k:Int))) = .int .i64 (k:Int):=by rw[hj];exact hek
  simp[execOp,u,h1,h2,A,Instr.mapUpdate,run_underlying Tryz.underlying205,MapKept.run_getObj_map g,hc,MapKept.run_findKey Tryz.underlying3 hf,hj,hek,MapKept.run_keyThatStays B,MapKept.run_setObj_map _ g,Result.andThen,setMap]
end
section
variable {es:Array MapEntry}{f:Int->Option Value}
theorem EnV.erase (h:EnV es f){k:Int}{i:Nat}{e:MapEntry}(C:es[i]? = some e)(N:e.key = .int .i64 k):EnV (es.eraseIdxIfInBounds i) (fsetV f k none):=by
 have hi:=(zI.1 C).1
 have I:∀j,(es.eraseIdxIfInBounds i)[j]? = if j<i then es[j]? else es[j+1]?:=λj=>by
  unfold Array.eraseIdxIfInBounds
  rw[dif_pos hi]
  rw[<-qH,Array.toList_eraseIdx,List.getElem?_eraseIdx]
  split<;>rw[qH]
 have H:∀j g,(es.eraseIdxIfInBounds i)[j]? = some g->∃p,p≠i/\es[p]? = some g/\(j<i->p=j)/\(¬ j<i->p=j+1):=λj g u=>by
  rw[I] at u
  split at u
  ·exact⟨j,by omega,u,λ_=>rfl,λh=>by omega⟩
  ·exact⟨j+1,by omega,u,λh=>by omega,λ_=>rfl⟩
 refine⟨λj g u => ?_,λm B K => ?_,λa b Z e2 ha hb aA => ?_⟩
 ·obtain⟨p,aE,M,_⟩:=H j g u
  obtain⟨m,B,h1,h2,A⟩:=h.keys p g M
  refine⟨m,B,?_,h2,A⟩
  have:m≠k:=λq=>by
   subst q
   exact aE (h.inj p i g e M C (by rw[N,h2]))
  simp[fsetV,this,h1]
 ·by_cases q:m=k
  ·subst q
   simp[fsetV] at K
  ·simp only[fsetV,if_neg q] at K
   obtain⟨j,g,h1,h2,A⟩:=h.all m B K
   have O:j≠i:=λO=>by
    subst O
    rw[C] at h1
    injection h1 with h1
    subst h1
    exact q (keyI_inj (h2.symm.trans N))
   by_cases aB:j<i
   ·exact⟨j,g,by rw[I,if_pos aB];exact h1,h2,A⟩
   ·exact⟨j - 1,g,by rw[I,if_neg (by omega),show j - 1+1=j by omega];exact h1,h2,A⟩
 ·obtain⟨a',_,aC,L,U⟩:=H a Z ha
  obtain⟨b',_,aD,X,q2⟩:=H b e2 hb
  have:=h.inj a' b' Z e2 aC aD aA
  by_cases c1:a<i<;>by_cases c2:b<i
  ·have:=L c1;have:=X c2;omega
  ·have:=L c1;have:=q2 c2;omega
  ·have:=U c1;have:=X c2;omega
  ·have:=U c1;have:=q2 c2;omega
end
section
variable {ρ:Operand->Value}{w:World}{o:Oper}{x y z:Operand}{r clock:Nat}{k:Int}{es:Array MapEntry}{f:Int->Option Value}{T E:TypeId}
theorem x_putT {l:Value}(u:Tryz.prog.underlying T=some (.map 3 E))(h:EnV es f)(q:MapKept.Stamped es clock)(L:MapIs w r es clock)(A:o.op = .mapUpdate T x y z)(h1:ρ x = .map (some r))(h2:ρ y = .int .i64 k)(B:ρ z=l) :
  ∃p clock',(execOp ρ o).run Tryz.prog w = .ok .skip (setMap w r p clock')/\EnV p (fsetV f k (some l))/\MapKept.Stamped p clock':=by
 have C:MapKept.IsKey (.int .i64) (.int .i64 k):=rfl
 have hc:(Instr.checkKey false 10000 3 (.int .i64 k)).run Tryz.prog w = .ok () w:=MapKept.run_checkKey Tryz.underlying3 C false 9999
 have g:w.heap[r]? = some (.map es clock):=L
 rcases h.find k with⟨hf,hn⟩|⟨j,e,l0,hf,hj,hek,_,_⟩
 ·refine⟨_,clock+1,?_,h.push hn l clock,MapKept.stamped_push q λx K I=>by
   obtain⟨i,H,rfl⟩:=List.getElem_of_mem K
   obtain⟨m,M,h1,h2,_⟩:=h.keys i es.toList[i] (by rw[<-qH];exact zM H)
   have:=keyI_inj (h2.symm.trans I)
   subst this
   rw[hn] at h1
   cases h1⟩
  simp[execOp,A,h1,h2,B,Instr.mapUpdate,run_underlying u,MapKept.run_getObj_map g,hc,MapKept.run_findKey Tryz.underlying3 hf,MapKept.run_setObj_map _ g,Result.andThen,setMap]
 ·refine⟨_,clock,?_,h.modify hj hek l,stampedSetV q hj hek (l)⟩
  have N:(((es[j]?).map (·.key)).getD (.int .i64 k)) = .int .i64 k:=by rw[hj];exact hek
  simp[execOp,A,h1,h2,B,Instr.mapUpdate,run_underlying u,MapKept.run_getObj_map g,hc,MapKept.run_findKey Tryz.underlying3 hf,hj,hek,MapKept.run_keyThatStays C,MapKept.run_setObj_map _ g,Result.andThen,setMap]
theorem x_lookupT {z0 v:Value}(m:Tryz.prog.underlying T=some (.map 3 E))(B:(zeroValue E).run Tryz.prog w = .ok z0 w)(q:EnV es f)(u:MapIs w r es clock)(g:(f k).getD z0=v)(p:o.op = .lookup T x y false)(h1:ρ x = .map (some r))(h2:ρ y = .int .i64 k):(execOp ρ o).run Tryz.prog w = .ok (.value v) w:=by
 subst g
 have A:MapKept.IsKey (.int .i64) (.int .i64 k):=rfl
 have hc:(Instr.checkKey es.isEmpty 10000 3 (.int .i64 k)).run Tryz.prog w = .ok () w:=MapKept.run_checkKey Tryz.underlying3 A _ 9999
 have h:w.heap[r]? = some (.map es clock):=u
 rcases q.find k with⟨hf,hn⟩|⟨j,e,l0,hf,hj,hek,hfk,g⟩
 ·rw[hn]
  simp[execOp,p,h1,h2,Instr.lookup,run_underlying m,MapKept.run_getObj_map h,hc,MapKept.run_findKey Tryz.underlying3 hf,B,Result.andThen]
 ·rw[hfk]
  rw[g] at hf
  simp[execOp,p,h1,h2,Instr.lookup,run_underlying m,MapKept.run_getObj_map h,hc,MapKept.run_findKey Tryz.underlying3 hf,Result.andThen]
theorem fsetV_none (hn:f k=none):fsetV f k none=f:=by
 funext m
 unfold fsetV
 split
 ·rename_i e
  rw[e,hn]
 ·rfl
theorem x_lenT {K:TypeId}(e:Tryz.prog.underlying T=some (.map K E))(g:MapIs w r es clock)(m:o.op = .call { callee:=.builtin .len,args:=#[x],argTypes:=#[T] })(h1:ρ x = .map (some r)):(execOp ρ o).run Tryz.prog w = .ok (.value (.int .i64 (es.size:Int))) w:=by
 have j:Tryz.prog.underlying T=some (.map (Tryz.prog.mapKeyOf T) (Tryz.prog.mapElemOf T)):=by
  unfold Program.mapKeyOf Program.mapElemOf
  rw[e]
 have h:=run_len_map (P:=Tryz.prog) w T o.type r es clock j g
 simp only[execOp,m,resolve,invoke,builtin,Sem.run_bind,Sem.run_pure,Result.andThen_ok,zK,zL,zN,h1,h]
 rfl
end
section
variable {ρ:Operand->Value}{w:World}{o:Oper}{x y z:Operand}{r clock:Nat}{k:Int}{es:Array MapEntry}{f:Int->Option Value}
end
end Go.Proofs.YtpibjkbadnffgaaGreat
namespace Go.Proofs.YtpibjkbadnffgaaGreat
open Go Go.RowKit Lou Go.Maps Go.Sort Go.Shelf
attribute [local go_sem] Oper.semAt_some
def keysV (f:Int->Option Value)(many:Nat):List Nat:=(List.range many).filter λk=>(f (k:Int)).isSome
theorem keysV_mem {f:Int->Option Value}{many k:Nat}:k∈keysV f many↔k<many/\(f (k:Int)).isSome=true:=by simp[keysV]
theorem keysV_lt (f:Int->Option Value)(many:Nat):(keysV f many).Pairwise (· < ·):=List.pairwise_lt_range.filter _
theorem keysV_nodup (f:Int->Option Value)(many:Nat):(keysV f many).Nodup:=(keysV_lt f many).imp λh=>Nat.ne_of_lt h
theorem keysV_len (f:Int->Option Value)(many:Nat):(keysV f many).length<=many:=zU (List.length_filter_le _ _) (by simp)
def dRV:Value->Option (DataW Unit×List MemPlace):=λ_=>some (.nil,[])
def KeysB (f:Int->Option Value)(many:Nat):Prop:=∀k v,f k=some v->0<=k/\k<(many:Int)
theorem EnV.key {es:Array MapEntry}{f:Int->Option Value}{many:Nat}(h:EnV es f)(g:KeysB f many):∀e∈es.toList,∃k:Nat,k<many/\(f (k:Int)).isSome=true/\e.key = .int .i64 (k:Int):=λe j=>by
 obtain⟨i,m,rfl⟩:=List.getElem_of_mem j
 obtain⟨k,l,h1,h2,_⟩:=h.keys i es.toList[i] (by rw[<-qH];exact zM m)
 obtain⟨q,p⟩:=g k l h1
 have e:(k.toNat:Int)=k:=by omega
 exact⟨k.toNat,by omega,by rw[e,h1];rfl,by rw[e];exact h2⟩
def keyIv (e:MapEntry):Int:=match e.key with | .int _ k=>k|_=>0
theorem keyIv_of {e:MapEntry}{k:Int}(h:e.key = .int .i64 k):keyIv e=k:=by unfold keyIv;rw[h]
theorem EnV.perm {es:Array MapEntry}{f:Int->Option Value}{many:Nat}(h:EnV es f)(g:KeysB f many):(es.toList.map keyIv).Perm ((keysV f many).map λk:Nat=>(k:Int)):=by
 refine(List.perm_ext_iff_of_nodup ?_ ?_).2 λk => ?_
 ·rw[List.Nodup,List.pairwise_map]
  refine List.pairwise_iff_getElem.2 λi j A u I e => ?_
  obtain⟨a,_,_,ha⟩:=h.key g _ (qF A)
  obtain⟨b,_,_,q⟩:=h.key g _ (qF u)
  have:=h.inj i j es.toList[i] es.toList[j] (by rw[<-qH];exact zM A) (by rw[<-qH];exact zM u) (by
   rw[keyIv_of ha,keyIv_of q] at e
   rw[ha,q,e])
  omega
 ·rw[List.Nodup,List.pairwise_map]
  exact(keysV_lt f many).imp λh e=>by omega
 ·constructor
  ·intro p
   obtain⟨e,H,rfl⟩:=List.mem_map.1 p
   obtain⟨a,h1,h2,m⟩:=h.key g e H
   rw[keyIv_of m]
   exact List.mem_map.2 ⟨a,keysV_mem.2 ⟨h1,h2⟩,rfl⟩
  ·intro p
   obtain⟨a,ha,rfl⟩:=List.mem_map.1 p
   obtain⟨_,h2⟩:=keysV_mem.1 ha
   obtain⟨v,B⟩:=Option.isSome_iff_exists.1 h2
   obtain⟨i,e,m,C,_⟩:=h.all (a:Int) v B
   refine List.mem_map.2 ⟨e,Array.mem_toList_iff.2 (Array.mem_of_getElem? m),?_⟩
   exact keyIv_of C
theorem keyV_rd {e:MapEntry}{k:Nat}(h:e.key = .int .i64 (k:Int))(hl:k<100000):WideElems.rd Tryz.prog 3 dRV e=some (.int .i64 (k:Int),.nil):=by
 have g:keyOf Tryz.prog 3 e.key=some (.int .i64 (k:Int)):=by
  rw[h]
  exact Maps.keyOf_int_mk Tryz.underlying3 (by simp[Lit.wf,IntKind.min,IntKind.max,IntKind.signed,IntKind.bits];omega)
 unfold WideElems.rd
 rw[g]
 rfl
theorem own_mapV {w:World}{r many clock:Nat}{es:Array MapEntry}{f:Int->Option Value}(B:MapIs w r es clock)(q:EnV es f)(H:MapKept.Stamped es clock)(m:KeysB f many)(I:many<=40000) :
  ∃h,w.ownsMap Tryz.prog 3 dRV r many h/\Maps.size h<=many/\(intKeys h).Perm ((keysV f many).map λk:Nat=>(k:Int)):=by
 have A:=q.perm m
 have g:es.size<=many:=by
  have h1:=A.length_eq
  rw[qM,qM,qL] at h1
  have:=keysV_len f many
  omega
 have u:∀x∈es.toList,∃k:Nat,x.key = .int .i64 (k:Int)/\WideElems.rd Tryz.prog 3 dRV x=some (.int .i64 (k:Int),.nil):=λx e=>by
  obtain⟨k,K,_,j⟩:=q.key m x e
  exact⟨k,j,keyV_rd j (by omega)⟩
 have C:es.size<=maxLen:=zU (zU g I) (by decide)
 refine⟨.map ((es.toList.map (WideElems.rg Tryz.prog 3 dRV)).foldr DataW.insert []),⟨es,clock,B,⟨C,H,λx e=>by obtain⟨k,_,h2⟩:=u x e;exact⟨_,h2⟩⟩,g,rfl⟩,?_,?_⟩
 ·simp only[Maps.size]
  rw[length_read]
  exact g
 ·refine List.Perm.trans ?_ A
  show (((es.toList.map (WideElems.rg Tryz.prog 3 dRV)).foldr DataW.insert []).map λp=>Go.intOf p.1).Perm _
  refine((WideShapes.sorted_perm _).map _).trans ?_
  rw[List.map_map]
  refine List.Perm.of_eq (List.map_congr_left λx e => ?_)
  obtain⟨k,h1,h2⟩:=u x e
  simp only[Function.comp]
  rw[WideElems.rg_of h2,keyIv_of h1]
  rfl
theorem keysV_sort (f:Int->Option Value)(many:Nat):((keysV f many).map λk:Nat=>(k:Int)).mergeSort leI=(keysV f many).map λk:Nat=>(k:Int) :=
 List.mergeSort_of_pairwise (List.pairwise_map.2 ((keysV_lt f many).imp λh=>by simp[leI];omega))
section
variable {P:Program}{w w':World}{ops:Array Oper}{rest:List Oper}{o:Oper}{a:Act}{Q:Exit->Act->World->Prop}{n:Nat}
theorem wpV_exec {v:Value}(g:o.guard=none)(e:(execOp a.eval o).run P w = .ok (.value v) w')(h:wpListIn Fence.wide n P ops Q rest (a.put o.dst v) w'):wpListIn Fence.wide n P ops Q (o::rest) a w:=by
 unfold wpListIn
 rw[if_pos (by simp[Region.wanted,g])]
 refine⟨λ_ _=>trivial,?_⟩
 show Oper.uponIn _ _ _ _ _ _ _ ((execOp a.eval o).run P w)
 rw[e]
 exact h
end
section
variable {ρ:Operand->Value}{w:World}{o:Oper}{x y:Operand}{r clock:Nat}{k:Int}{es:Array MapEntry}{f:Int->Option Value}
theorem x_lookupF (m:EnV es f)(p:MapIs w r es clock)(h:o.op = .lookup 205 x y false)(h1:ρ x = .map (some r))(h2:ρ y = .int .i64 k):(execOp ρ o).run Tryz.prog w = .ok (.value ((f k).getD (.slice none 0 0))) w:=by
 have q:MapKept.IsKey (.int .i64) (.int .i64 k):=rfl
 have hc:(Instr.checkKey es.isEmpty 10000 3 (.int .i64 k)).run Tryz.prog w = .ok () w:=MapKept.run_checkKey Tryz.underlying3 q _ 9999
 have g:w.heap[r]? = some (.map es clock):=p
 have u:(zeroValue 87).run Tryz.prog w = .ok (.slice none 0 0) w:=by simp[go_sem]
 rcases m.find k with⟨hf,hn⟩|⟨j,e,l0,hf,hj,hek,hfk,hv⟩
 ·rw[hn]
  simp[execOp,h,h1,h2,Instr.lookup,run_underlying Tryz.underlying205,MapKept.run_getObj_map g,hc,MapKept.run_findKey Tryz.underlying3 hf,u,Result.andThen]
 ·rw[hfk]
  rw[hv] at hf
  simp[execOp,h,h1,h2,Instr.lookup,run_underlying Tryz.underlying205,MapKept.run_getObj_map g,hc,MapKept.run_findKey Tryz.underlying3 hf,Result.andThen]
end
end Go.Proofs.YtpibjkbadnffgaaGreat
namespace Go.Proofs.YtpibjkbadnffgaaGreat
open Go Go.RowKit Lou
section
variable {ρ:Operand->Value}{w:World}{o:Oper}{x y z:Operand}{r clock:Nat}{k:Int}{es:Array MapEntry}{f:Int->Option Value}
end
theorem LogIs.grow {w w':World}{l d:Nat}{fr pg:Int}{S:LgS}(h:LogIs w l d fr pg S)(hB:Below w.heap.size w w'):LogIs w' l d fr pg S:=by
 obtain⟨m,A,c,g,e,hF,j⟩:=h
 exact⟨m,A,c,g,e.below hB e.lt,hF.grow hB,j⟩
section
variable {ρ:Operand->Value}{w:World}{o:Oper}{x y z:Operand}
end
theorem lsizeL_gives {w:World}{l d:Nat}{fr pg:Int}{S:LgS}(h:LogIs w l d fr pg S):Calls Tryz.prog 113 #[.pointer (some ⟨l,0,none⟩)] w λe w'=>e = .returned (.int .i64 S.sz)/\w=w':=by
 obtain⟨_,A,c,j,g,_,_⟩:=h
 exact lsize_gives g
end Go.Proofs.YtpibjkbadnffgaaGreat
namespace Go.Proofs.YtpibjkbadnffgaaGreat
open Go Go.RowKit Lou Go.Shelf
attribute [local go_sem] Oper.semAt_some
def PgIs (w:World)(f:Int->Option Value)(Y:Int->Option (List UInt8)):Prop :=
 ∀k:Int,(f k=none/\Y k=none)∨∃A c y,f k=some (.slice A 512 c)/\Y k=some y/\y.length=512/\InB w w.heap.size A c y
theorem PgIs.grow {w w':World}{f:Int->Option Value}{Y:Int->Option (List UInt8)}(h:PgIs w f Y)(hB:Below w.heap.size w w'):PgIs w' f Y:=λk=>by
 rcases h k with h1|⟨A,c,y,h1,h2,g,e⟩
 ·exact .inl h1
 ·exact .inr ⟨A,c,y,h1,h2,g,(e.below hB).more hB.size⟩
theorem PgIs.keys {w:World}{f:Int->Option Value}{Y:Int->Option (List UInt8)}(h:PgIs w f Y){many:Nat}(g:∀k y,Y k=some y->0<=k/\k<(many:Int)):KeysB f many:=λk v e=>by
 rcases h k with⟨h1,_⟩|⟨A,c,y,h1,h2,_⟩
 ·rw[h1] at e;cases e
 ·exact g k y h2
section
variable {ρ:Operand->Value}{w:World}{o:Oper}{x y:Operand}{r clock:Nat}{k:Int}{es:Array MapEntry}{f:Int->Option Value}
theorem x_lookupFY {v:Value}(e:EnV es f)(g:MapIs w r es clock)(hf:f k=some v)(h:o.op = .lookup 205 x y false)(h1:ρ x = .map (some r))(h2:ρ y = .int .i64 k):(execOp ρ o).run Tryz.prog w = .ok (.value v) w:=by
 have:=x_lookupF e g h h1 h2
 rw[hf] at this
 exact this
end
def pgEnc (x:Nat×(Option Addr×Nat)):Array Value:=#[.int .i64 (x.1:Int),.slice x.2.1 512 x.2.2]
end Go.Proofs.YtpibjkbadnffgaaGreat
namespace Go.Proofs.YtpibjkbadnffgaaGreat
open Go Go.RowKit Lou
structure StP (fr pg:Int)(G:Nat->List UInt8)(S:LgS)(i:Nat):Prop where
 li:∃hz,LI G S hz
 sr:S.sr<=i+1
 ep:S.ep<=i+1
 fs:(S.fs.length:Int)<=fr
 sz:0<=S.sz/\S.sz<=pg
theorem StP.y {fr pg:Int}{G:Nat->List UInt8}{S:LgS}{i:Nat}(h:StP fr pg G S i):∀x∈S.fs,x.y.length=512:=λx m=>by
 obtain⟨p,g⟩:=h.li
 obtain⟨j,e,rfl⟩:=List.getElem_of_mem m
 exact((frOk_iff _ _ _ _ _).1 (g.on.fr.ok j e).2.2.1).1
theorem StP.begun {fr pg:Int}(h1:0<=fr)(h2:0<=pg):StP fr pg (laid (λ_=>zer64) (wrL 1 (hEnc 1 1 0 0) 1)) ⟨1,1,0,[]⟩ 0 :=
 ⟨⟨0,LI.begun⟩,zH _,zH _,h1,⟨Int.le_refl _,h2⟩⟩
section
variable {fr pg z x:Int}{G:Nat->List UInt8}{S S':LgS}{i n:Nat}{xs:Nat->Int×Option Addr×Nat}{pw:Nat->Int×List UInt8}{s':DS}
end
def flFC (l:Nat)(fr pg:Int):Array Value:=#[.pointer (some ⟨l,0,none⟩),.int .i64 fr,.int .i64 pg]
theorem fnone_gives {w:World}{f l:Nat}{fr pg:Int}(g:BlkIs w f 114 (flFC l fr pg)):Calls Tryz.prog 112 #[.pointer (some ⟨f,0,none⟩)] w λe w'=>e = .returned (.bool false)/\w=w':=by
 have c0:w.cell? ⟨f,0,none⟩=some (.pointer (some ⟨l,0,none⟩)):=by rw[g.cell];rfl
 go_enter Tryz.func112,Tryz.ntmps112
 go_wp2
 go_ret
 exact⟨rfl,rfl⟩
theorem fsize_gives {w:World}{f l d:Nat}{fr pg:Int}{S:LgS}(g:BlkIs w f 114 (flFC l fr pg))(j:LogIs w l d fr pg S):Calls Tryz.prog 61 #[.pointer (some ⟨f,0,none⟩)] w λe w'=>e = .returned (.int .i64 S.sz)/\w=w':=by
 have m:=fnone_gives g
 have h:=lsizeL_gives j
 have c0:w.cell? ⟨f,0,none⟩=some (.pointer (some ⟨l,0,none⟩)):=by rw[g.cell];rfl
 go_enter Tryz.func61,Tryz.ntmps61
 go_wp2_with (first
  | (go_at_call 112;refine m.mono ?_;rintro e w' ⟨rfl,rfl⟩)
  | (go_at_call 113;refine h.mono ?_;rintro e w' ⟨rfl,rfl⟩))
 go_ret
 exact⟨rfl,rfl⟩
end Go.Proofs.YtpibjkbadnffgaaGreat
namespace Go.Proofs.YtpibjkbadnffgaaGreat
open Go Go.RowKit Lou Go.Shelf
attribute [local go_sem] Oper.semAt_some
section
variable {F:Fence}{n:Nat}{P:Program}{ops:Array Oper}{Q:Exit->Act->World->Prop}{o:Oper}{rest:List Oper}{a:Act}{w w':World}
theorem wpR_mput {T:TypeId}{x y z:Operand}(p:o.guard=none)(e:o.op = .mapUpdate T x y z)(m:(execOp a.eval o).run P w = .ok .skip w')(h:wpListIn F n P ops Q rest (a.put o.dst undef) w'):wpListIn F n P ops Q (o::rest) a w :=
 wpListIn_plain p λq j=>by
  unfold Oper.wpIn
  refine⟨by simp[Oper.about,e],?_⟩
  rw[Oper.semAt_plain F _ _ (by rw[e];intro c g;cases g),m]
  exact j _ _ h
theorem x_makeMap {ρ:Operand->Value}(e:o.op = .makeMap 205 none):(execOp ρ o).run Tryz.prog w = .ok (.value (.map (some w.heap.size))) (w.alloc (.map #[] 0)):=by
 unfold execOp
 simp only[e,Option.map_none,run_makeMap,Sem.run_bind,Result.andThen_ok,Sem.run_pure]
theorem wpR_mputV {r clock:Nat}{k:Int}{es:Array MapEntry}{f:Int->Option Value}{l:Value}(B:o.guard=none)(x y z:Operand)(m:o.op = .mapUpdate 205 x y z)(h1:a.eval x = .map (some r))(h2:a.eval y = .int .i64 k)(q:a.eval z=l)(u:EnV es f)(p:MapKept.Stamped es clock)(j:MapIs w r es clock)
  (h:∀e g w',MapIs w' r e g->EnV e (fsetV f k (some l))->MapKept.Stamped e g->w.grownBy w' (some r)->wpListIn F n Tryz.prog ops Q rest (a.put o.dst undef) w'):wpListIn F n Tryz.prog ops Q (o::rest) a w:=by
 obtain⟨e,g,H,A,C⟩:=x_putV (ρ:=a.eval) (o:=o) u p j m h1 h2 q
 exact wpR_mput B m H (h e g _ (j.set _ _) A C (setMap_grown j _ _))
end
def OwnOf (W:World)(fm:Int->Option Value)(Y:Int->Option (List UInt8))(ks:List Nat):Prop :=
 ∀k:Int,((∀m∈ks,(m:Int)≠k)/\fm k=none)∨(∃m∈ks,(m:Int)=k)/\∃A c y,fm k=some (.slice A 512 c)/\Y k=some y/\y.length=512/\InB W W.heap.size A c y
theorem OwnOf.add {X Z:World}{r:Nat}{es:Array MapEntry}{clock:Nat}{C:Int->Option Value}{Y:Int->Option (List UInt8)}{ks:List Nat}{k:Nat}{A:Option Addr}{c:Nat}{y:List UInt8}(h:OwnOf X C Y ks)(p:MapIs X r es clock)(hg:X.grownBy Z (some r))(K:Y (k:Int)=some y)(I:y.length=512)(N:InB X X.heap.size A c y) :
  OwnOf Z (fsetV C (k:Int) (some (.slice A 512 c))) Y (ks++[k]):=by
 have U:GrowBut (λj=>j=r) X Z:=GrowBut.grown hg (λq e=>by injection e with e;exact .inl e.symm)
 have B:∀{A:Option Addr} {c:Nat} {y:List UInt8},InB X X.heap.size A c y->InB Z Z.heap.size A c y:=λ{A c y} hi=>U.inB hi (λg o e H M=>by
  obtain⟨g',o',u,_,hc⟩:=hi.lies H
  rw[e] at u
  injection u with u
  injection u with e1 e2
  subst e1 M
  have O:=hc 0 H
  have L:X.heap[g]? = some (.map es clock):=p
  simp[World.cell?,L] at O)
 intro q
 unfold fsetV
 by_cases hq:q=(k:Int)
 ·subst hq
  exact .inr ⟨⟨k,by simp,rfl⟩,A,c,y,by rw[if_pos rfl],K,I,B N⟩
 ·rw[if_neg hq]
  rcases h q with⟨h1,h2⟩|⟨⟨m,hm1,hm2⟩,A2,c2,y2,h2,h3,h4,h5⟩
  ·refine .inl ⟨λm p e => ?_,h2⟩
   rcases qK.1 p with p|p
   ·exact h1 m p e
   ·rw[qN] at p
    subst p
    exact hq e.symm
  ·exact .inr ⟨⟨m,by simp[hm1],hm2⟩,A2,c2,y2,h2,h3,h4,B h5⟩
theorem MapIs.abSm {B r clock:Nat}{es:Array MapEntry}{X Z:World}{row:Option Nat}(m:r<B)(h:MapIs X r es clock)(j:X.grownBy Z row)(g:∀q,row=some q->B<=q):MapIs Z r es clock :=
 h.grown j (λe=>by have:=g _ e.symm;omega)
end Go.Proofs.YtpibjkbadnffgaaGreat
namespace Go.Proofs.YtpibjkbadnffgaaGreat
open Go Go.RowKit Lou



end Go.Proofs.YtpibjkbadnffgaaGreat
namespace Go.Proofs.YtpibjkbadnffgaaGreat
open Go Go.RowKit Lou Go.Shelf
attribute [local go_sem] Oper.semAt_some
end Go.Proofs.YtpibjkbadnffgaaGreat
namespace Go.Proofs.YtpibjkbadnffgaaGreat
open Go Go.RowKit Lou



structure PwArgs (W:World)(B:Nat)(A1:Option Addr)(n:Nat)(xs:Nat->Int×Option Addr×Nat)(pw:Nat->Int×List UInt8):Prop where
 ge:∀g o,A1=some ⟨g,o,none⟩->B<=g
 row:1<=n->∃g o,A1=some ⟨g,o,none⟩/\PwIn W g o n xs/\g<W.heap.size
 bys:∀k,k<n->(pw k).1=(xs k).1/\(pw k).2.length=512/\InB W W.heap.size (xs k).2.1 (xs k).2.2 (pw k).2
 tys:∀k,k<n->TyB W (xs k).2.1
theorem PwArgs.grow {W W':World}{B:Nat}{u:Option Addr}{n:Nat}{xs:Nat->Int×Option Addr×Nat}{pw:Nat->Int×List UInt8}(h:PwArgs W B u n xs pw)(hB:Below W.heap.size W W'):PwArgs W' B u n xs pw:=by
 refine⟨h.ge,λh1 => ?_,λk m => ?_,λk m=>(h.tys k m).grow hB⟩
 ·obtain⟨g,o,e,I,A⟩:=h.row h1
  exact⟨g,o,e,λj C q v hq=>(hB.cell (p:=⟨g,o+j*2+q,none⟩) A).trans (I j C q v hq),zO A hB.size⟩
 ·obtain⟨h1,h2,H⟩:=h.bys k m
  exact⟨h1,h2,(H.below hB).more hB.size⟩




section
variable {fr pg z x:Int}{G:Nat->List UInt8}{S S':LgS}{i n P:Nat}{xs:Nat->Int×Option Addr×Nat}{pw:Nat->Int×List UInt8}{s':DS}
end
structure FhIs (W0:World)(d f l many:Nat)(fr pg:Int)(s:DS)(S:LgS)(W:World):Prop where
 up:Below W0.heap.size W0 W
 dk:DkS W d many s
 lg:LogIs W l d fr pg S
 fb:BlkIs W f 114 (flFC l fr pg)
 gd:W0.heap.size<=d
 gl:W0.heap.size<=l
section
variable {W0 W W':World}{d f l many:Nat}{fr pg:Int}{s s':DS}{S S':LgS}
theorem FhIs.grow (h:FhIs W0 d f l many fr pg s S W)(hB:Below W.heap.size W W'):FhIs W0 d f l many fr pg s S W' :=
 ⟨h.up.trans (hB.mono h.up.size),h.dk.grow hB,h.lg.grow hB,h.fb.below hB h.fb.lt,h.gd,h.gl⟩
theorem FhIs.apart (h:FhIs W0 d f l many fr pg s S W):¬ (f=d∨f=l):=λe=>by
 obtain⟨p,m,c',j,_⟩:=DkIs.has h.dk
 obtain⟨_,A,c,q,g,_⟩:=h.lg
 rcases e with rfl|rfl
 ·exact BlkIs.ne_type h.fb j (by decide) rfl
 ·exact BlkIs.ne_type h.fb g (by decide) rfl
theorem FhIs.ne (h:FhIs W0 d f l many fr pg s S W){g:Nat}{T:TypeId}{cs:Array Value}(j:BlkIs W g T cs)(h1:T≠109)(h2:T≠183):¬ (g=d∨g=l):=λe=>by
 obtain⟨u,q,c',p,_⟩:=DkIs.has h.dk
 obtain⟨_,A,c,B,m,_⟩:=h.lg
 rcases e with rfl|rfl
 ·exact BlkIs.ne_type j p h1 rfl
 ·exact BlkIs.ne_type j m h2 rfl
variable {G:Nat->List UInt8}{i P:Nat}
end
theorem fopenW_gives (w:World)(d:Nat)(fr pg:Int)(Q:Nat->World->Prop)(H:Calls Tryz.prog 59 #[.pointer (some ⟨d,0,none⟩),.agg #[.int .i64 fr,.int .i64 pg]] (w.alloc (.cells #[.int .i64 fr,.int .i64 pg] 59)) λe w'=>∃l,e = .returned (.tuple #[.pointer (some ⟨l,0,none⟩),.int .i64 0])/\BlkIs w' w.heap.size 59 #[.int .i64 fr,.int .i64 pg]/\Q l w') :
  Calls Tryz.prog 21 #[.pointer (some ⟨d,0,none⟩),.agg #[.int .i64 fr,.int .i64 pg]] w λe w'=>∃l g,e = .returned (.tuple #[.pointer (some ⟨g.heap.size,0,none⟩),.int .i64 0])/\Q l g/\w'=g.alloc (.cells (flFC l fr pg) 114):=by
 have m:=BlkIs.new w 59 #[.int .i64 fr,.int .i64 pg]
 go_enter Tryz.func21,Tryz.ntmps21
 go_wp2_with (first
  | (refine wp_loadW rfl 59 (.tmp 3) rfl w.heap.size rfl rowPlan (by first|exact h|exact m) rfl ?_)
  | (go_at_call 59;refine H.mono ?_;rintro e g ⟨l,rfl,h,j⟩))
 exact bodyPost_ret (results_tmp2 rfl _ _ _) rfl ⟨l,g,rfl,j,rfl⟩
def CaBlk (W:World)(k:Nat):Prop:=(∃es c,W.heap[k]? = some (.map es c))∨(∃T cs,BlkIs W k T cs/\cs.size<=64/\∀n,cs[0]? ≠ some (.int .u64 n))∨∃ds,W.heap[k]? = some (.deferred ds)
theorem CaBlk.notB {W:World}{n c:Nat}{A:Option Addr}{l:List UInt8}(h:InB W n A c l)(u:64<l.length){g o:Nat}(e:A=some ⟨g,o,none⟩):¬ CaBlk W g:=by
 obtain⟨B,o',m,_,hc⟩:=h.lies (by omega)
 rw[e] at m
 injection m with m
 injection m with e1 e2
 subst e1 e2
 have j:=hc 64 u
 rintro(⟨es,c',p⟩|⟨T,cs,q,hs,_⟩|⟨C,p⟩)
 ·simp[World.cell?,p] at j
 ·rw[q.cell,Array.getElem?_eq_none (by omega)] at j
  cases j
 ·simp[World.cell?,p] at j
theorem InB.keepC {Mu:Nat->Prop}{W W':World}{A:Option Addr}{c:Nat}{l:List UInt8}(h:InB W W.heap.size A c l)(p:64<l.length)(q:GrowBut Mu W W')(j:∀k,Mu k->CaBlk W k):InB W' W'.heap.size A c l :=
 q.inB h (λg o e _ m=>CaBlk.notB h p e (j g m))
theorem LogIs.keepC {Mu:Nat->Prop}{W W':World}{l d:Nat}{fr pg:Int}{S:LgS}(h:LogIs W l d fr pg S)(I:∀x∈S.fs,x.y.length=512)(q:GrowBut Mu W W')(B:∀k,Mu k->CaBlk W k)(hl:¬ Mu l):LogIs W' l d fr pg S:=by
 obtain⟨K,A,c,j,M,hF,H⟩:=h
 have O:∀v∈j,v.1.y.length=512:=λv m=>I v.1 (by rw[<-H];exact List.mem_map_of_mem m)
 refine⟨K,A,c,j,q.blk M hl,⟨hF.row.keepG q (λg o e N => ?_),hF.out,hF.nil,λv m=>⟨(hF.bys v m).1.keepC (by have:=O v m;omega) q B,(hF.bys v m).2⟩⟩,H⟩
 subst e
 have L:=(hF.out g o rfl).2
 subst L
 have hn:j≠[]:=λe=>by have:=hF.nil e;cases this
 have h1:0<j.length:=List.length_pos_iff.2 hn
 obtain⟨U,o',u,_,X⟩:=hF.row.lies (by omega)
 injection u with u
 injection u with e1 e2
 subst e1 e2
 have C:=hF.row.elem 0 h1
 rw[vsC_elem j 0 h1] at C
 have p:=C 0 (.int .u64 ((j[0]).1.e:Int)) rfl
 rcases B g N with⟨es,c',hmm⟩|⟨T,cs,hb,hs,hne⟩|⟨ds,hmm⟩
 ·simp[World.cell?,hmm] at p
 ·rw[hb.cell] at p
  exact hne _ p
 ·simp[World.cell?,hmm] at p
end Go.Proofs.YtpibjkbadnffgaaGreat
namespace Go.Proofs.YtpibjkbadnffgaaGreat
open Go Go.RowKit Lou Go.Shelf Go.Sort
theorem sortWorld_but {α : Type}[Inhabited α](enc : α -> Value)(w:World)(blk off m:Nat)(dk:Array α)(os:Array Obj):GrowBut (λk=>k=blk) w (sortWorld enc w blk off m dk os):=by
 refine⟨rfl,rfl,rfl,?_,λk g hn => ?_⟩
 ·simp[sortWorld,grow,putRow,mapBlock,Sort.ahead]
 ·have h:k<(w.heap.modify blk (onCells (putCells enc off dk))).size:=by simpa using g
  show ((w.heap.modify blk (onCells (putCells enc off dk)))++os)[k]? = w.heap[k]?
  rw[Array.getElem?_append_left h,Array.getElem?_modify,if_neg (λe=>hn e.symm)]
end Go.Proofs.YtpibjkbadnffgaaGreat
namespace Go.Proofs.YtpibjkbadnffgaaGreat
open Go Go.RowKit Lou Go.Maps Go.Sort Go.Shelf
def layC_ren:Go.Shelf.Ren:=⟨fun|8=>241|11=>301|n=>n,fun|26=>3|28=>279|24=>41|0=>0|33=>202|4=>4|n=>n,fun|n=>n⟩
theorem layC:SlLaysZI.n8 Tryz.prog layC_ren:={
 mixed:=by kernel_rfl
 f8:=⟨Tryz.f241.name,by decide,Tryz.func241.trans (congrArg some (by kernel_rfl))⟩
 f11:=⟨Tryz.f301.name,by decide,Tryz.func301.trans (congrArg some (by kernel_rfl))⟩
 t0:=Tryz.underlying0
 a0:=Tryz.isAgg0
 z0:=Tryz.sizeOf0
 v0:=Tryz.zeroValue0
 t24:=Tryz.underlying41
 a24:=Tryz.isAgg41
 z24:=Tryz.sizeOf41
 v24:=Tryz.zeroValue41
 t26:=Tryz.underlying3
 a26:=Tryz.isAgg3
 z26:=Tryz.sizeOf3
 v26:=Tryz.zeroValue3
 t28:=Tryz.underlying279
 a28:=Tryz.isAgg279
 z28:=Tryz.sizeOf279
 v28:=Tryz.zeroValue279
 i26:=by kernel_rfl }
def layF_ren:Go.Shelf.Ren:=⟨fun|6=>245|15=>304|14=>303|28=>337|29=>338|20=>329|21=>330|22=>331|23=>332|24=>333|25=>334|26=>335|27=>336|46=>361|47=>362|48=>363|49=>364|50=>365|57=>373|n=>n,fun|22=>41|24=>3|25=>262|3=>3|39=>291|0=>0|53=>144|55=>180|4=>4|46=>404|45=>403|50=>123|5=>5|9=>9|66=>427|70=>431|76=>436|77=>437|n=>n,fun|n=>n⟩
theorem layF:SlLaysF.n6 Tryz.prog layF_ren:={
 mixed:=by kernel_rfl
 f6:=⟨Tryz.f245.name,by decide,Tryz.func245.trans (congrArg some (by kernel_rfl))⟩
 f14:=⟨Tryz.f303.name,by decide,Tryz.func303.trans (congrArg some (by kernel_rfl))⟩
 f15:=Tryz.func304.trans (congrArg some (by kernel_rfl))
 f20:=⟨Tryz.f329.name,by decide,Tryz.func329.trans (congrArg some (by kernel_rfl))⟩
 f21:=⟨Tryz.f330.name,by decide,Tryz.func330.trans (congrArg some (by kernel_rfl))⟩
 f22:=⟨Tryz.f331.name,by decide,Tryz.func331.trans (congrArg some (by kernel_rfl))⟩
 f23:=⟨Tryz.f332.name,by decide,Tryz.func332.trans (congrArg some (by kernel_rfl))⟩
 f24:=⟨Tryz.f333.name,by decide,Tryz.func333.trans (congrArg some (by kernel_rfl))⟩
 f25:=⟨Tryz.f334.name,by decide,Tryz.func334.trans (congrArg some (by kernel_rfl))⟩
 f26:=⟨Tryz.f335.name,by decide,Tryz.func335.trans (congrArg some (by kernel_rfl))⟩
 f27:=⟨Tryz.f336.name,by decide,Tryz.func336.trans (congrArg some (by kernel_rfl))⟩
 f28:=Tryz.func337.trans (congrArg some (by kernel_rfl))
 f29:=Tryz.func338.trans (congrArg some (by kernel_rfl))
 f46:=⟨Tryz.f361.name,by decide,Tryz.func361.trans (congrArg some (by kernel_rfl))⟩
 f47:=Tryz.func362.trans (congrArg some (by kernel_rfl))
 f48:=Tryz.func363.trans (congrArg some (by kernel_rfl))
 f49:=⟨Tryz.f364.name,by decide,Tryz.func364.trans (congrArg some (by kernel_rfl))⟩
 f50:=⟨Tryz.f365.name,by decide,Tryz.func365.trans (congrArg some (by kernel_rfl))⟩
 f57:=⟨Tryz.f373.name,by decide,Tryz.func373.trans (congrArg some (by kernel_rfl))⟩
 t0:=Tryz.underlying0
 a0:=Tryz.isAgg0
 z0:=Tryz.sizeOf0
 v0:=Tryz.zeroValue0
 t3:=Tryz.underlying3
 a3:=Tryz.isAgg3
 z3:=Tryz.sizeOf3
 v3:=Tryz.zeroValue3
 t4:=Tryz.underlying4
 a4:=Tryz.isAgg4
 z4:=Tryz.sizeOf4
 v4:=Tryz.zeroValue4
 t5:=Tryz.underlying5
 a5:=Tryz.isAgg5
 z5:=Tryz.sizeOf5
 v5:=Tryz.zeroValue5
 t9:=Tryz.underlying9
 a9:=Tryz.isAgg9
 z9:=Tryz.sizeOf9
 v9:=Tryz.zeroValue9
 t22:=Tryz.underlying41
 a22:=Tryz.isAgg41
 z22:=Tryz.sizeOf41
 v22:=Tryz.zeroValue41
 a24:=Tryz.isAgg3
 z24:=Tryz.sizeOf3
 t25:=Tryz.underlying262
 a25:=Tryz.isAgg262
 z25:=Tryz.sizeOf262
 v25:=Tryz.zeroValue262
 t39:=Tryz.underlying291
 a39:=Tryz.isAgg291
 z39:=Tryz.sizeOf291
 v39:=Tryz.zeroValue291
 t45:=Tryz.underlying403
 a45:=Tryz.isAgg403
 z45:=Tryz.sizeOf403
 v45:=Tryz.zeroValue403
 t46:=Tryz.underlying404
 a46:=Tryz.isAgg404
 z46:=Tryz.sizeOf404
 v46:=Tryz.zeroValue404
 t50:=Tryz.underlying123
 a50:=Tryz.isAgg123
 z50:=Tryz.sizeOf123
 v50:=Tryz.zeroValue123
 t53:=Tryz.underlying144
 a53:=Tryz.isAgg144
 z53:=Tryz.sizeOf144
 v53:=Tryz.zeroValue144
 t55:=Tryz.underlying180
 a55:=Tryz.isAgg180
 z55:=Tryz.sizeOf180
 v55:=Tryz.zeroValue180
 t66:=Tryz.underlying427
 a66:=Tryz.isAgg427
 z66:=Tryz.sizeOf427
 v66:=Tryz.zeroValue427
 t70:=Tryz.underlying431
 a70:=Tryz.isAgg431
 z70:=Tryz.sizeOf431
 v70:=Tryz.zeroValue431
 t76:=Tryz.underlying436
 a76:=Tryz.isAgg436
 z76:=Tryz.sizeOf436
 v76:=Tryz.zeroValue436
 t77:=Tryz.underlying437
 a77:=Tryz.isAgg437
 z77:=Tryz.sizeOf437
 v77:=Tryz.zeroValue437 }
end Go.Proofs.YtpibjkbadnffgaaGreat
namespace Go.Proofs.YtpibjkbadnffgaaGreat
open Go Go.RowKit Lou Go.Shelf Go.Sort
theorem sortWorld_blk {α : Type}[Inhabited α]{enc : α -> Value}{w:World}{g off m:Nat}{T:TypeId}{cs:Array Value}(h:BlkIs w g T cs)(dk:Array α)(os:Array Obj):BlkIs (sortWorld enc w g off m dk os) g T (putCells enc off dk cs):=by
 have j:=h.lt
 show ((w.heap.modify g (onCells (putCells enc off dk)))++os)[g]? = _
 rw[Array.getElem?_append_left (by simpa using j),Array.getElem?_modify,if_pos rfl]
 have e:w.heap[g]? = some (.cells cs T (0,0)):=h
 rw[e]
 rfl
def encK (ks:List Int)(x : {k:Int // k∈ks}):Value:=.int .i64 x.val
theorem perm_attach {ks:List Int}{d:Array {k:Int // k∈ks}}(h:d.toList.Perm ks.attach):(d.toList.map Subtype.val).Perm ks:=by
 have:=h.map Subtype.val
 rwa [List.attach_map_subtype_val] at this
theorem sortF_gives (w:World)(g N:Nat)(ks:List Int)(cs:Array Value)(B:BlkIs w g 3 cs)(hr:∀j (h:j<ks.length),cs[j]? = some (.int .i64 ks[j]))(hl:ks.length<=1000000)(C:Int->Int->Int)(M:SWO (ltOf C))(u:Nat)(I:Array Value)(eg:∀args w,(callFunc u args).run Tryz.prog w = .ok (.enter u args) w)
  (hc:∀W,GrowBut (λk=>k=g) w W->∀x∈ks,∀y∈ks,Calls Tryz.prog u (#[.int .i64 x,.int .i64 y] ++ I) W λe w'=>e = .returned (.int .i64 (C x y))/\∃q os,w'=grow (W.drewN q) os) :
  Calls Tryz.prog 245 #[.slice (some ⟨g,0,none⟩) ks.length N,.func (.func u) #[] I] w λe w'=>e = .returned (.tuple #[])/\∃(K:List Int) (cs':Array Value),K.Perm ks/\K.Pairwise (λa b=>¬ C b a<0)/\BlkIs w' g 3 cs'/\(∀j (h:j<K.length),cs'[j]? = some (.int .i64 K[j]))/\GrowBut (λk=>k=g) w w':=by
 cases O:ks with
 | nil =>
  refine(AnyF.slices_SortFunc_none (P:=Tryz.prog) (ρ:=layF_ren) { layF with } (some ⟨g,0,none⟩) N (.func (.func u) #[] I) w).mono ?_
  rintro e w' ⟨rfl,rfl⟩
  exact⟨rfl,[],cs,List.Perm.refl _,List.Pairwise.nil,B,λj h=>absurd h (by simp),GrowBut.refl _ _⟩
 | cons k0 kr =>
  rw[<-O]
  haveI:Inhabited {k:Int // k∈ks}:=⟨⟨k0,by rw[O];simp⟩⟩
  obtain⟨d,hd⟩:∃d:Array {k:Int // k∈ks},d=ks.attach.toArray:=⟨_,rfl⟩
  have L:d.size=ks.length:=by rw[hd];simp
  have aE:∀j (h:j<ks.length),(d[j]!).val=ks[j]:=λj h=>by
   rw[getElem!_pos d j (by omega)]
   subst hd
   simp
  have X:Holds (encK ks) w g 0 d:=λj A=>⟨by rw[qC,B.cell,hr j (by omega)];unfold encK;rw[aE j (by omega)],by rw[qC];exact B.free j⟩
  have hS:CmpLays1 Tryz.prog u I (encK ks) (λx y=>C x.val y.val) g 0 d.size w:=λm os dk _ x y =>
   hc _ (sortWorld_but (encK ks) w g 0 m dk os) x.val x.property y.val y.property
  have aF:SWO (ltOf λx y : {k:Int // k∈ks}=>C x.val y.val):=⟨λx=>M.irrefl x.val,λx y z=>M.trans x.val y.val z.val,λx y z=>M.ntrans x.val y.val z.val⟩
  have U:=Any.slices_SortFunc (P:=Tryz.prog) (ρ:=layF_ren) layF (encK ks) (λ_=>rfl) (λx y=>C x.val y.val) aF u I g 0 N d w eg hS X B.lt (by omega)
  rw[L] at U
  refine U.mono ?_
  rintro e w' ⟨rfl,p,n,os,H,hs,rfl⟩
  have aD:p.size=ks.length:=by rw[H.1,L]
  have aA:p.toList.Perm d.toList:=by
   have:=H.2.2
   rw[<-L,<-H.1] at this
   have e1:(p.extract 0 p.size).toList=p.toList:=by simp
   have e2:(d.extract 0 p.size).toList=d.toList:=by rw[H.1];simp
   rwa [e1,e2] at this
  have aB:=holds_sortWorld (encK ks) w g 0 n d p os B.lt X H.1
  have Z:=sortWorld_blk (enc:=encK ks) (off:=0) (m:=n) B p os
  refine⟨rfl,p.toList.map Subtype.val,_,perm_attach (aA.trans (by rw[hd])),?_,Z,λj A => ?_,sortWorld_but _ _ _ _ _ _ _⟩
  ·rw[List.pairwise_map,List.pairwise_iff_getElem]
   intro i j hi A aC
   have h1:=hs i j (Nat.zero_le _) aC (by rw[<-aD];simpa using A)
   rw[getElem!_pos p i (by simpa using hi),getElem!_pos p j (by simpa using A)] at h1
   unfold ltOf at h1
   simpa using h1
  ·have h1:=(aB j (by simpa using A)).1
   rw[qC,Z.cell] at h1
   rw[h1,getElem!_pos p j (by simpa using A)]
   simp[encK]
end Go.Proofs.YtpibjkbadnffgaaGreat
namespace Go.Proofs.YtpibjkbadnffgaaGreat
open Go Go.RowKit Lou Go.Maps Go.Shelf Go.Sort
theorem deleteNone_gives (gf:Nat)(lb:Array Value)(W:World):Calls Tryz.prog 243 #[.slice none 0 0,.func (.func gf) #[] lb] W λe w'=>e = .returned (.slice none 0 0)/\w'=W:=by
 have g:Calls Tryz.prog 194 #[.slice none 0 0,.func (.func gf) #[] lb] W λe w'=>e = .returned (.int .i64 (-1))/\w'=W:=by
  go_enter Tryz.func194,Tryz.ntmps194
  go_wp2
  go_loopw [8] (λi wr=>i = .int .i64 0/\wr=W) (λ_ _=>0)
  case atStart=>exact⟨rfl,rfl⟩
  case round =>
   obtain⟨rfl,rfl⟩:=hrel
   go_wp2
   go_ret
   exact⟨rfl,rfl⟩
 go_enter Tryz.func243,Tryz.ntmps243
 go_wp2_with (go_at_call 194;refine g.mono ?_;rintro e h ⟨rfl,rfl⟩)
 go_ret
 exact⟨rfl,rfl⟩
def KeysSo (f:Int->Option Value)(p:Int->Bool)(cf:Int->Int->Int)(ks:List Int):Prop:=ks.Nodup/\(∀k,k∈ks↔(f k).isSome=true/\p k=true)/\ks.Pairwise λa b=>¬ cf b a<0
def RowInts (w w':World)(A:Option Addr)(ks:List Int):Prop:=∀j (h:j<ks.length),∃g,A=some ⟨g,0,none⟩/\w.heap.size<=g/\w'.cell? ⟨g,j,none⟩=some (.int .i64 ks[j])
section
variable {ρ:Operand->Value}{w:World}{o:Oper}{x y:Operand}{r clock:Nat}{k:Int}{es:Array MapEntry}{f:Int->Option Value}{v:Value}
theorem lookR (e:EnV es f)(g:MapIs w r es clock)(h:f k=some v)(j:o.op = .lookup 163 x y false)(h1:ρ x = .map (some r))(h2:ρ y = .int .i64 k):(execOp ρ o).run Tryz.prog w = .ok (.value v) w :=
 x_lookupT (z0:=(.pointer none)) Tryz.underlying163 (by simp[go_sem]) e g (by simp[h]) j h1 h2
theorem look0R (e:EnV es f)(g:MapIs w r es clock)(h:f k=none)(j:o.op = .lookup 163 x y false)(h1:ρ x = .map (some r))(h2:ρ y = .int .i64 k):(execOp ρ o).run Tryz.prog w = .ok (.value (.pointer none)) w :=
 x_lookupT (z0:=(.pointer none)) Tryz.underlying163 (by simp[go_sem]) e g (by simp[h]) j h1 h2
end
end Go.Proofs.YtpibjkbadnffgaaGreat
namespace Go.Proofs.YtpibjkbadnffgaaGreat
open Go Go.RowKit Lou
structure RowV where
 b:Nat
 at_:Int
 A:Option Addr
 c:Nat
 y:List UInt8
 d:Bool
abbrev RowsV:=Int->Option RowV
def rowC (v:RowV):Array Value:=#[.int .i64 v.at_,.slice v.A v.y.length v.c,.bool v.d]
def caC (f:Nat)(room now:Int)(r:Nat)(hh mm:Int):Array Value:=#[.pointer (some ⟨f,0,none⟩),.int .i64 room,.int .i64 now,.map (some r),.int .i64 hh,.int .i64 mm]
def ptrV (V:RowsV):Int->Option Value:=λk=>(V k).map λv => .pointer (some ⟨v.b,0,none⟩)
def updV (V:RowsV)(k:Int)(x:Option RowV):RowsV:=λj=>if j=k then x else V j
theorem ptrV_upd (V:RowsV)(k:Int)(x:Option RowV):ptrV (updV V k x)=fsetV (ptrV V) k (x.map λv => .pointer (some ⟨v.b,0,none⟩)):=by
 funext j
 unfold ptrV updV fsetV
 split<;>rfl
theorem updV_self (V:RowsV)(k:Int)(x:Option RowV):updV V k x k=x:=if_pos rfl
theorem updV_ne {V:RowsV}{k j:Int}{x:Option RowV}(h:j≠k):updV V k x j=V j:=if_neg h
theorem ptrV_some {V:RowsV}{k:Int}{v:RowV}(h:V k=some v):ptrV V k=some (.pointer (some ⟨v.b,0,none⟩)):=by unfold ptrV;rw[h];rfl
theorem ptrV_none {V:RowsV}{k:Int}(h:V k=none):ptrV V k=none:=by unfold ptrV;rw[h];rfl
theorem ptrV_ptr {V:RowsV}{k:Int}{x:Value}(h:ptrV V k=some x):∃v,V k=some v/\x = .pointer (some ⟨v.b,0,none⟩):=by
 unfold ptrV at h
 cases e:V k with
 | none=>rw[e] at h;cases h
 | some v=>rw[e] at h;injection h with h;exact⟨v,rfl,h.symm⟩
theorem ptrV_same {V:RowsV}{k:Int}{v v':RowV}(h:V k=some v)(g:v'.b=v.b):ptrV (updV V k (some v'))=ptrV V:=by
 rw[ptrV_upd]
 funext j
 unfold fsetV
 split
 ·rename_i e
  rw[e,ptrV_some h,Option.map_some,g]
 ·rfl
def caMu (a r:Nat)(V:RowsV)(k:Nat):Prop:=k=a∨k=r∨∃j v,V j=some v/\k=v.b
structure RowIs (W:World)(P:Nat)(now:Int)(k:Int)(v:RowV):Prop where
 blk:BlkIs W v.b 175 (rowC v)
 key:0<=k/\k<(P:Int)
 bys:InB W W.heap.size v.A v.c v.y
 len:v.y.length=512∨v.y=[]
 at0:0<=v.at_/\v.at_<=now
structure CaIs (W:World)(a f r P:Nat)(room now hh mm:Int)(V:RowsV):Prop where
 cb:BlkIs W a 171 (caC f room now r hh mm)
 mp:∃es clock,MapIs W r es clock/\EnV es (ptrV V)/\MapKept.Stamped es clock
 rows:∀k v,V k=some v->RowIs W P now k v
 inj:∀j k u v,V j=some u->V k=some v->u.b=v.b->j=k
 iat:∀j k u v,V j=some u->V k=some v->1<=u.at_->u.at_=v.at_->j=k
theorem InB.noB {W W':World}{n g c:Nat}{A:Option Addr}(h:InB W n A c []):InB W' g A c []:=⟨h.le,h.max,h.nil,λe=>absurd e (by simp)⟩
theorem RowIs.keepB {Mu:Nat->Prop}{W W':World}{A:Option Addr}{c:Nat}{y:List UInt8}(h:InB W W.heap.size A c y)(hl:y.length=512∨y=[])(g:GrowBut Mu W W')(e:∀k,Mu k->CaBlk W k):InB W' W'.heap.size A c y:=by
 rcases hl with hl|rfl
 ·exact h.keepC (by omega) g e
 ·exact h.noB
section
variable {W W':World}{a f r P:Nat}{room now hh mm:Int}{V V':RowsV}
theorem CaIs.ca (h:CaIs W a f r P room now hh mm V):∀k,caMu a r V k->CaBlk W k:=λk p=>by
 rcases p with rfl|rfl|⟨j,v,m,rfl⟩
 ·exact .inr (.inl ⟨_,_,h.cb,by show 6<=64;decide,λn e=>by cases e⟩)
 ·obtain⟨es,c,g,_⟩:=h.mp
  exact .inl ⟨es,c,g⟩
 ·exact .inr (.inl ⟨_,_,(h.rows j v m).blk,by show 3<=64;decide,λn e=>by cases e⟩)
theorem CaIs.lts (h:CaIs W a f r P room now hh mm V):∀k,caMu a r V k->k<W.heap.size:=λk m=>by
 rcases m with rfl|rfl|⟨j,v,g,rfl⟩
 ·exact h.cb.lt
 ·obtain⟨es,c,e,_⟩:=h.mp
  exact e.lt
 ·exact(h.rows j v g).blk.lt
theorem MapIs.notBlk {W:World}{r g c:Nat}{es:Array MapEntry}{T:TypeId}{cs:Array Value}(h:MapIs W r es c)(j:BlkIs W g T cs):r≠g:=λe=>by
 subst e
 have h1:W.heap[r]? = some (.map es c):=h
 have h2:W.heap[r]? = some (.cells cs T (0,0)):=j
 rw[h1] at h2
 cases h2
theorem CaIs.ar (h:CaIs W a f r P room now hh mm V):r≠a:=by
 obtain⟨es,c,e,_⟩:=h.mp
 exact e.notBlk h.cb
theorem CaIs.rb (h:CaIs W a f r P room now hh mm V){k:Int}{v:RowV}(g:V k=some v):r≠v.b:=by
 obtain⟨es,c,e,_⟩:=h.mp
 exact e.notBlk (h.rows k v g).blk
theorem CaIs.ab (h:CaIs W a f r P room now hh mm V){k:Int}{v:RowV}(e:V k=some v):a≠v.b:=BlkIs.ne_type h.cb (h.rows k v e).blk (by decide)
theorem CaIs.keep {Mu:Nat->Prop}(h:CaIs W a f r P room now hh mm V)(j:GrowBut Mu W W')(u:∀k,Mu k->CaBlk W k)(hn:∀k,Mu k->¬ caMu a r V k):CaIs W' a f r P room now hh mm V:=by
 obtain⟨es,c,m,q,hs⟩:=h.mp
 refine⟨j.blk h.cb (λe=>hn _ e (.inl rfl)),⟨es,c,(j.block r m.lt (λe=>hn _ e (.inr (.inl rfl)))).trans m,q,hs⟩,λk v p => ?_,h.inj,h.iat⟩
 have g:=h.rows k v p
 exact⟨j.blk g.blk (λe=>hn _ e (.inr (.inr ⟨k,v,p,rfl⟩))),g.key,RowIs.keepB g.bys g.len j u,g.len,g.at0⟩
theorem CaIs.below (h:CaIs W a f r P room now hh mm V)(hB:Below W.heap.size W W'):CaIs W' a f r P room now hh mm V :=
 h.keep (Mu:=λ_=>False) (GrowBut.below hB) (λ_ e=>e.elim) (λ_ e=>e.elim)
theorem CaIs.step {now' hh' mm':Int}(h:CaIs W a f r P room now hh mm V)(p:GrowBut (caMu a r V) W W')(cb:BlkIs W' a 171 (caC f room now' r hh' mm'))(mp:∃es clock,MapIs W' r es clock/\EnV es (ptrV V')/\MapKept.Stamped es clock)(m:now<=now')
  (g:∀k v,V' k=some v->(V k=some v/\W'.heap[v.b]? = W.heap[v.b]?)∨RowIs W' P now' k v) (inj:∀j k u v,V' j=some u->V' k=some v->u.b=v.b->j=k) (iat:∀j k u v,V' j=some u->V' k=some v->1<=u.at_->u.at_=v.at_->j=k):CaIs W' a f r P room now' hh' mm' V' :=
 ⟨cb,mp,λk v q=>by
  rcases g k v q with⟨h1,h2⟩|h1
  ·have e:=h.rows k v h1
   exact⟨h2.trans e.blk,e.key,RowIs.keepB e.bys e.len p h.ca,e.len,e.at0.1,Int.le_trans e.at0.2 m⟩
  ·exact h1,inj,iat⟩
theorem updV_inj (h:CaIs W a f r P room now hh mm V){p:Int}{v0 v1:RowV}(H:V p=some v0)(A:v1.b=v0.b):∀j k u v,updV V p (some v1) j=some u->updV V p (some v1) k=some v->u.b=v.b->j=k:=λj k u v g I e=>by
 have q:∀j u,updV V p (some v1) j=some u->∃m,V j=some m/\m.b=u.b:=λj u g=>by
  unfold updV at g
  split at g
  ·rename_i ej
   injection g with g
   rw[ej]
   exact⟨v0,H,by rw[<-g,A]⟩
  ·exact⟨u,g,rfl⟩
 obtain⟨m,h1,h2⟩:=q j u g
 obtain⟨v',C,B⟩:=q k v I
 exact h.inj j k m v' h1 C (by rw[h2,B,e])
theorem CaIs.setRow (h:CaIs W a f r P room now hh mm V){p:Int}{v0 v1:RowV}(q:V p=some v0)(L:v1.b=v0.b)(i:Nat)(x:Value)(Z:(rowC v0).setIfInBounds i x=rowC v1)(hB:v1.y=v0.y/\v1.A=v0.A/\v1.c=v0.c∨InB W W.heap.size v1.A v1.c v1.y/\(v1.y.length=512∨v1.y=[]))(X:0<=v1.at_/\v1.at_<=now)(hu:1<=v1.at_->∀k v,k≠p->V k=some v->v.at_≠v1.at_) :
  CaIs (W.setCell ⟨v0.b,i,none⟩ x) a f r P room now hh mm (updV V p (some v1))/\GrowBut (λk=>k=v0.b) W (W.setCell ⟨v0.b,i,none⟩ x):=by
 have I:=h.rows p v0 q
 have C:GrowBut (λk=>k=v0.b) W (W.setCell ⟨v0.b,i,none⟩ x):=GrowBut.setCell _ _ _ rfl
 have M:GrowBut (caMu a r V) W (W.setCell ⟨v0.b,i,none⟩ x):=C.more (λk e _ => .inr (.inr ⟨p,v0,q,e⟩))
 obtain⟨es,c,U,B,hs⟩:=h.mp
 have O:=I.blk.set i x
 rw[Z] at O
 refine⟨h.step M (C.blk h.cb (h.ab q)) ⟨es,c,(C.block r U.lt (h.rb q)).trans U,by rw[ptrV_same q L];exact B,hs⟩ (Int.le_refl _) (λk v g => ?_) (updV_inj h q L) (λj k u v m g h1 B => ?_),C⟩
 ·unfold updV at g
  split at g
  ·rename_i e
   injection g with g
   subst g
   rw[e]
   refine .inr ⟨by rw[L];exact O,I.key,?_,?_,X⟩
   ·rcases hB with⟨e1,N,e3⟩|⟨hB,hl⟩
    ·rw[e1,N,e3]
     exact RowIs.keepB I.bys I.len M h.ca
    ·exact RowIs.keepB hB hl M h.ca
   ·rcases hB with⟨e1,_,_⟩|⟨_,hl⟩
    ·rw[e1];exact I.len
    ·exact hl
  ·rename_i e
   exact .inl ⟨g,C.block v.b (h.rows k v g).blk.lt (λN=>e (h.inj k p v v0 g q N))⟩
 ·by_cases K:j=p<;>by_cases H:k=p
  ·rw[K,H]
  ·subst K
   rw[updV_self] at m
   rw[updV_ne H] at g
   injection m with m
   subst m
   exact absurd B.symm (hu h1 k v H g)
  ·subst H
   rw[updV_self] at g
   rw[updV_ne K] at m
   injection g with g
   subst g
   exact absurd B (hu (B▸h1) j u K m)
  ·rw[updV_ne K] at m
   rw[updV_ne H] at g
   exact h.iat j k u v m g h1 B
theorem CaIs.setCa {now' hh' mm':Int}(h:CaIs W a f r P room now hh mm V)(i:Nat)(x:Value)(A:(caC f room now r hh mm).setIfInBounds i x=caC f room now' r hh' mm')(q:now<=now') :
  CaIs (W.setCell ⟨a,i,none⟩ x) a f r P room now' hh' mm' V/\GrowBut (λk=>k=a) W (W.setCell ⟨a,i,none⟩ x):=by
 have g:GrowBut (λk=>k=a) W (W.setCell ⟨a,i,none⟩ x):=GrowBut.setCell _ _ _ rfl
 have B:GrowBut (caMu a r V) W (W.setCell ⟨a,i,none⟩ x):=g.more (λk e _ => .inl e)
 obtain⟨es,c,p,u,hs⟩:=h.mp
 have m:=h.cb.set i x
 rw[A] at m
 exact⟨h.step B m ⟨es,c,(g.block r p.lt h.ar).trans p,u,hs⟩ q (λk v j => .inl ⟨j,g.block v.b (h.rows k v j).blk.lt (λe=>h.ab j e.symm)⟩) h.inj h.iat,g⟩
theorem CaIs.del (h:CaIs W a f r P room now hh mm V)(B:Int){H:Array MapEntry}{c0:Nat}(C:MapIs W r H c0)(es:Array MapEntry)(c:Nat)(I:EnV es (fsetV (ptrV V) B none))(hs:MapKept.Stamped es c) :
  CaIs (setMap W r es c) a f r P room now hh mm (updV V B none)/\GrowBut (λk=>k=r) W (setMap W r es c):=by
 have A:GrowBut (λk=>k=r) W (setMap W r es c):=GrowBut.grown (setMap_grown C es c) (λq e=>by injection e with e;exact .inl e.symm)
 have K:GrowBut (caMu a r V) W (setMap W r es c):=A.more (λk e _ => .inr (.inl e))
 have m:∀j u,updV V B none j=some u->V j=some u:=λj u g=>by
  unfold updV at g
  split at g
  ·cases g
  ·exact g
 exact⟨h.step K (A.blk h.cb (λe=>h.ar e.symm)) ⟨es,c,C.set es c,by rw[ptrV_upd];exact I,hs⟩ (Int.le_refl _) (λk v p => .inl ⟨m k v p,A.block v.b (h.rows k v (m k v p)).blk.lt (λe=>h.rb (m k v p) e.symm)⟩) (λj k u v g p=>h.inj j k u v (m j u g) (m k v p)) (λj k u v g p=>h.iat j k u v (m j u g) (m k v p)),A⟩
theorem CaIs.fresh (h:CaIs W a f r P room now hh mm V){p:Int}(U:0<=p/\p<(P:Int))(X:V p=none)(M:0<=now){b:Nat}(H:BlkIs W b 175 (rowC ⟨b,0,none,0,[],false⟩))(I:∀k v,V k=some v->v.b≠b){L:Array MapEntry}{c0:Nat}(C:MapIs W r L c0)(es:Array MapEntry)(c:Nat)(N:EnV es (fsetV (ptrV V) p (some (.pointer (some ⟨b,0,none⟩)))))(hs:MapKept.Stamped es c) :
  CaIs (setMap W r es c) a f r P room now hh mm (updV V p (some ⟨b,0,none,0,[],false⟩))/\GrowBut (λk=>k=r) W (setMap W r es c):=by
 have A:GrowBut (λk=>k=r) W (setMap W r es c):=GrowBut.grown (setMap_grown C es c) (λq e=>by injection e with e;exact .inl e.symm)
 have O:GrowBut (caMu a r V) W (setMap W r es c):=A.more (λk e _ => .inr (.inl e))
 have K:r≠b:=C.notBlk H
 have B:∀j u,updV V p (some ⟨b,0,none,0,[],false⟩) j=some u->(j=p/\u=⟨b,0,none,0,[],false⟩)∨(j≠p/\V j=some u):=λj u g=>by
  unfold updV at g
  split at g
  ·rename_i e
   injection g with g
   exact .inl ⟨e,g.symm⟩
  ·rename_i e
   exact .inr ⟨e,g⟩
 refine⟨h.step O (A.blk h.cb (λe=>h.ar e.symm)) ⟨es,c,C.set es c,by rw[ptrV_upd];exact N,hs⟩ (Int.le_refl _) (λk v m => ?_) (λj k u v g m e => ?_) (λj k u v g m h1 e => ?_),A⟩
 ·rcases B k v m with⟨rfl,rfl⟩|⟨_,m⟩
  ·exact .inr ⟨A.blk H (λe=>K e.symm),U,⟨by simp,by simp,λ_=>rfl,λh=>absurd h (by simp)⟩,.inr rfl,Int.le_refl _,M⟩
  ·exact .inl ⟨m,A.block v.b (h.rows k v m).blk.lt (λe=>h.rb m e.symm)⟩
 ·rcases B j u g with⟨rfl,rfl⟩|⟨n1,hj'⟩<;>rcases B k v m with⟨rfl,rfl⟩|⟨n2,hk'⟩
  ·rfl
  ·exact absurd e.symm (I k v hk')
  ·exact absurd e (I j u hj')
  ·exact h.inj j k u v hj' hk' e
 ·rcases B j u g with⟨rfl,rfl⟩|⟨n1,hj'⟩<;>rcases B k v m with⟨rfl,rfl⟩|⟨n2,hk'⟩
  ·rfl
  ·exact absurd h1 (show ¬ (1:Int)<=0 by decide)
  ·rw[e] at h1
   exact absurd h1 (show ¬ (1:Int)<=0 by decide)
  ·exact h.iat j k u v hj' hk' h1 e
end
end Go.Proofs.YtpibjkbadnffgaaGreat
namespace Go.Proofs.YtpibjkbadnffgaaGreat
open Go Go.RowKit Lou Go.Shelf Go.Sort
theorem updV_updV (V:RowsV)(k:Int)(x y:Option RowV):updV (updV V k x) k y=updV V k y:=by
 funext j
 unfold updV
 split<;>rfl
theorem cmpZ_lt {a b:Int}:cmpZ a b<0↔a<b:=by
 unfold cmpZ
 split
 ·constructor<;>intro<;>omega
 ·split<;>constructor<;>intro<;>omega
theorem used_gives {W:World}{v:RowV}(g:BlkIs W v.b 175 (rowC v))(n:Int):Calls Tryz.prog 181 #[.pointer (some ⟨v.b,0,none⟩),.int .i64 n] W λe w'=>e = .returned (.tuple #[])/\w'=W.setCell ⟨v.b,0,none⟩ (.int .i64 n):=by
 have k2:W.cell? ⟨v.b,0,none⟩=some (.int .i64 v.at_):=by rw[g.cell];rfl
 have k3:=g.free 0
 go_enter Tryz.func181,Tryz.ntmps181
 go_wp2
 go_end0
 exact⟨rfl,rfl⟩
section
variable {ops:Array Oper}{Q:Exit->Act->World->Prop}{a:Act}{w:World}{r clock:Nat}{k:Int}{es:Array MapEntry}{f:Int->Option Value}{x y z:Operand}{o:Oper}
theorem wp_putR {rest:List Oper}{l:Value}(A:o.guard=none)(H:o.op = .mapUpdate 163 x y z)(h1:a.eval x = .map (some r))(h2:a.eval y = .int .i64 k)(j:a.eval z=l)(m:EnV es f)(B:MapKept.Stamped es clock)(p:MapIs w r es clock)
  (h:∀e g,EnV e (fsetV f k (some l))->MapKept.Stamped e g->wpList Tryz.prog ops Q rest (a.put o.dst undef) (setMap w r e g)):wpList Tryz.prog ops Q (o::rest) a w:=by
 obtain⟨e,g,u,q,C⟩:=x_putT (ρ:=a.eval) (o:=o) Tryz.underlying163 m B p H h1 h2 j
 exact wp_execS A u (h e g q C)
end
theorem CaIs.size {W:World}{a f r P:Nat}{room now hh mm:Int}{V:RowsV}(h:CaIs W a f r P room now hh mm V){es:Array MapEntry}(j:EnV es (ptrV V)):es.size=(keysV (ptrV V) P).length:=by
 have e:=(j.perm (many:=P) (λk x m=>by obtain⟨v,g,_⟩:=ptrV_ptr m;exact(h.rows k v g).key)).length_eq
 rw[qM,qM,qL] at e
 exact e
end Go.Proofs.YtpibjkbadnffgaaGreat
namespace Go.Proofs.YtpibjkbadnffgaaGreat
open Go Go.RowKit Lou
theorem fdisk_gives {w:World}{f l d:Nat}{fr pg:Int}{S:LgS}(g:BlkIs w f 114 (flFC l fr pg))(h:LogIs w l d fr pg S):Calls Tryz.prog 111 #[.pointer (some ⟨f,0,none⟩)] w λe w'=>e = .returned (.pointer (some ⟨d,0,none⟩))/\w=w':=by
 have p:=fnone_gives g
 obtain⟨_,A,c,q,m,_⟩:=h
 have j:=ldisk_gives m
 have c0:w.cell? ⟨f,0,none⟩=some (.pointer (some ⟨l,0,none⟩)):=by rw[g.cell];rfl
 go_enter Tryz.func111,Tryz.ntmps111
 go_wp2_with (first
  | (go_at_call 112;refine p.mono ?_;rintro e w' ⟨rfl,rfl⟩)
  | (go_at_call 175;refine j.mono ?_;rintro e w' ⟨rfl,rfl⟩))
 go_ret
 exact⟨rfl,rfl⟩
theorem fplan_gives {w:World}{f l:Nat}{fr pg:Int}(h:BlkIs w f 114 (flFC l fr pg)):Calls Tryz.prog 114 #[.pointer (some ⟨f,0,none⟩)] w λe w'=>e = .returned (.agg #[.int .i64 fr,.int .i64 pg])/\Below w.heap.size w w':=by
 have hB:Below w.heap.size w (w.alloc (.cells #[.int .i64 0,.int .i64 0] 59)):=(Below.refl _ w).alloc (zH _) _
 have p:=BlkIs.new w 59 #[.int .i64 0,.int .i64 0]
 have m:=h.below hB h.lt
 have u:=fnone_gives m
 have q:(w.alloc (.cells #[.int .i64 0,.int .i64 0] 59)).rangeAt f 1 [.int .i64 fr,.int .i64 pg]:=λj v g=>by
  rw[m.cell]
  match j,g with
  | 0,g=>exact g
  | 1,g=>exact g
  | j+2,g=>exact absurd g (by simp)
 go_enter Tryz.func114,Tryz.ntmps114
 go_wp2_with (first
  | (go_at_call 112;refine u.mono ?_;rintro e w' ⟨rfl,rfl⟩)
  | (refine wp_exec rfl (x_loadM rowPlan q rfl rfl rfl) ?_)
  | (fail;refine wp_storeW rfl 59 (.tmp 2) (.tmp 9) rfl w.heap.size rfl rfl rowPlan p (by rfl) (by rfl) (two_oneR rfl rfl) ?_))
 exact bodyPost_ret_by (results_cellW 2 rfl rfl rowPlan (BlkIs.new w _ _) (by rfl)) rfl ⟨rfl,(Below.refl _ w).alloc (zH _) _⟩
theorem cloneP_gives (w:World)(A:Option Addr)(c:Nat)(y:List UInt8)(h:InB w w.heap.size A c y)(hl:y.length<=100000):Calls Tryz.prog 116 #[.slice A y.length c] w λe w'=>∃j c',e = .returned (.slice j y.length c')/\InB w' w'.heap.size j c' y/\(∀g o,j=some ⟨g,o,none⟩->w.heap.size<=g)/\TyB w' j/\Below w.heap.size w w':=by
 refine(clone_gives w A c y h (by omega)).mono ?_
 rintro e w' ⟨v,rfl,own,q⟩
 have u:=ownG_ge own
 have p:=ownG_ty own
 obtain⟨j,c',rfl,m⟩:=own.inB
 exact⟨j,c',rfl,m,λg o e=>by subst e;exact u g rfl,λg o e=>by subst e;exact p g rfl,q⟩
theorem cnone_gives {w:World}{a f r:Nat}{room now hh mm:Int}(g:BlkIs w a 171 (caC f room now r hh mm)):Calls Tryz.prog 103 #[.pointer (some ⟨a,0,none⟩)] w λe w'=>e = .returned (.bool false)/\w=w':=by
 have c0:w.cell? ⟨a,3,none⟩=some (.map (some r)):=by rw[g.cell];rfl
 have hq:=λW=>run_eql_map_nil (P:=Tryz.prog) W 163 _ _ (some r) Tryz.underlying163
 go_enter Tryz.func103,Tryz.ntmps103
 go_wp2
 go_ret
 exact⟨rfl,rfl⟩
theorem add1_gives {w:World}{a:Addr}{x:Int}(hc:w.cell? a=some (.int .i64 x))(hf:w.frozen? a=false)(ha:a.spot=none)(hx : -1000000000<=x/\x<=1000000000):Calls Tryz.prog 120 #[.pointer (some a),.int .i64 1] w λe w'=>e = .returned (.int .i64 (x+1))/\w'=w.setCell a (.int .i64 (x+1)):=by
 obtain⟨g,o,s⟩:=a
 subst ha
 have h:IntKind.i64.wrap (x+1)=x+1:=wrap_i64_fr _ (by omega) (by omega)
 have j:=run_call_add (P:=Tryz.prog) Tryz.func190 (by kernel_rfl) (by kernel_rfl) (by kernel_rfl) .i64 (by kernel_rfl) (y:=1) (s:=x+1) hc hf (by simp[go_sem,h])
 go_enter Tryz.func120,Tryz.ntmps120
 go_wp2
 go_ret
 exact⟨rfl,rfl⟩
theorem RowIs.short {W:World}{P:Nat}{now k:Int}{v:RowV}(h:RowIs W P now k v):v.y.length<=100000:=by
 rcases h.len with h|h
 ·omega
 ·rw[h];simp
def NoRoom (P:Nat)(room:Int)(V:RowsV):Prop:=room<=((keysV (ptrV V) P).length:Int)/\∀k v,V k=some v->v.d=true
section
variable {w:World}{a f r P:Nat}{room now hh mm:Int}{V:RowsV}
end
theorem cnew_gives (w:World)(f l d P:Nat)(fr pg room:Int)(S:LgS)(q:BlkIs w f 114 (flFC l fr pg))(A:LogIs w l d fr pg S)(H:2<=room/\room<=2000) :
  Calls Tryz.prog 60 #[.pointer (some ⟨f,0,none⟩),.int .i64 room] w λe w'=>∃a r,e = .returned (.tuple #[.pointer (some ⟨a,0,none⟩),.int .i64 0])/\w.heap.size<=a/\w.heap.size<=r/\CaIs w' a f r P room 0 0 0 (λ_=>none)/\Below w.heap.size w w':=by
 have B:=fdisk_gives q A
 have h1:¬ room<2:=by omega
 have h2:¬ 2000<room:=by omega
 go_enter Tryz.func60,Tryz.ntmps60
 go_wp2_with (first
  | (refine wp_makeMap rfl rfl ?_;intro _)
  | (go_at_call 111;refine B.mono ?_;rintro e w' ⟨rfl,rfl⟩))
 have g:Below w.heap.size w (w.alloc (.map #[] 0)):=(Below.refl _ w).alloc (zH _) _
 have m:Below (w.alloc (.map #[] 0)).heap.size (w.alloc (.map #[] 0)) ((w.alloc (.map #[] 0)).alloc (.cells (caC f room 0 w.heap.size 0 0) 171)):=(Below.refl _ _).alloc (zH _) _
 have p:MapIs (w.alloc (.map #[] 0)) w.heap.size #[] 0:=World.alloc_heap_new w _
 have bb:=BlkIs.new (w.alloc (.map #[] 0)) 171 (caC f room 0 w.heap.size 0 0)
 rw[World.size_alloc] at bb
 have C:ptrV (λ_=>none)=λ_=>none:=rfl
 refine bodyPost_ret (results_tmp2 rfl _ _ _) rfl ⟨w.heap.size+1,w.heap.size,rfl,by omega,zH _,⟨bb,⟨#[],0,p.below m p.lt,by rw[C];exact EnV.empty,MapKept.stamped_empty 0⟩,λk v h=>(by cases h),λj k u v h=>(by cases h),λj k u v h=>(by cases h)⟩,g.trans (m.mono g.size)⟩
theorem planPages (fr pg:Int)(W:World):(Instr.field 59 (.agg #[.int .i64 fr,.int .i64 pg]) 1).run Tryz.prog W = .ok (.int .i64 pg) W:=by
 simp[Instr.field,run_underlying Tryz.underlying59,part,asAgg,go_sem,Result.andThen]
theorem cwrite_range (w:World)(a f l r:Nat)(fr pg room now hh mm:Int)(g:BlkIs w a 171 (caC f room now r hh mm))(hf:BlkIs w f 114 (flFC l fr pg))(page:Int)(A:Option Addr)(c:Nat)(hn:page<0∨pg<=page) :
  Calls Tryz.prog 62 #[.pointer (some ⟨a,0,none⟩),.int .i64 page,.slice A 512 c] w λe w'=>e = .returned (.int .i64 4)/\Below w.heap.size w w':=by
 have m:=cnone_gives g
 have h:=fplan_gives hf
 have p:w.cell? ⟨a,0,none⟩=some (.pointer (some ⟨f,0,none⟩)):=(g.cell _).trans rfl
 go_enter Tryz.func62,Tryz.ntmps62
 go_wp2_with fail
 refine wp_scope_jumps (rest:=?rest) 0 (λa w'=>(∃j u1 u2 u3 u4 u5 u7 u8 u9 u10 u11 u12 u13 u14 u15 u16 u17 u18 u19 u20 u21 u22 u23 u24 u25 u26 u27 u28 u29 u30 u31 u32 u33 u34 u35 u36 u37 u38 u39 u40 u41,a = { tmps:=#[j,u1,u2,u3,u4,u5,.int .i64 4,u7,u8,u9,u10,u11,u12,u13,u14,u15,u16,u17,u18,u19,u20,u21,u22,u23,u24,u25,u26,u27,u28,u29,u30,u31,u32,u33,u34,u35,u36,u37,u38,u39,u40,u41],defers:=[] })/\Below w.heap.size w w') (λ_ _=>0) ?hf ?first ?pass
 case hf=>exact rfl
 case pass =>
  rintro a w' ⟨⟨j,u1,u2,u3,u4,u5,u7,u8,u9,u10,u11,u12,u13,u14,u15,u16,u17,u18,u19,u20,u21,u22,u23,u24,u25,u26,u27,u28,u29,u30,u31,u32,u33,u34,u35,u36,u37,u38,u39,u40,u41,rfl⟩,hB⟩
  go_wp2
  simp only[Exit.jump]
  go_ret
  exact⟨rfl,hB⟩
 case first =>
  by_cases q:page<0
  ·go_wp2_with (first
    | (go_at_call 103;refine m.mono ?_;rintro e w' ⟨rfl,rfl⟩)
    | (go_at_call 114;refine h.mono ?_;rintro e w' ⟨rfl,hB⟩))
   go_step3
   exact⟨rfl,by repeat (first|exact rfl|apply Exists.intro),Below.refl _ _⟩
  ·have h1:pg<=page:=by omega
   have hq:=planPages fr pg
   go_wp2_with (first
    | (go_at_call 103;refine m.mono ?_;rintro e w' ⟨rfl,rfl⟩)
    | (go_at_call 114;refine h.mono ?_;rintro e w' ⟨rfl,hB⟩))
   go_step3
   exact⟨rfl,by repeat (first|exact rfl|apply Exists.intro),hB⟩
theorem CaIs.hu {W:World}{a f r P:Nat}{room now hh mm:Int}{V:RowsV}(h:CaIs W a f r P room now hh mm V){page:Int}{v:RowV}(g:V page=some v)(v1:RowV)(j:v1.at_=v.at_):1<=v1.at_->∀k u,k≠page->V k=some u->u.at_≠v1.at_:=λh1 k u m hu e=>m (h.iat k page u v hu g (by rw[e];exact h1) (by rw[e,j]))
theorem CaIs.fill {W:World}{a f r P:Nat}{room now hh mm:Int}{V:RowsV}(h:CaIs W a f r P room now hh mm V){page:Int}{v:RowV}(e:V page=some v){A:Option Addr}{c:Nat}{y:List UInt8}(j:y.length=512)(p:InB W W.heap.size A c y) :
  CaIs ((W.setCell ⟨v.b,1,none⟩ (.slice A 512 c)).setCell ⟨v.b,2,none⟩ (.bool true)) a f r P room now hh mm (updV V page (some ⟨v.b,v.at_,A,c,y,true⟩))/\GrowBut (λk=>k=v.b) W ((W.setCell ⟨v.b,1,none⟩ (.slice A 512 c)).setCell ⟨v.b,2,none⟩ (.bool true)):=by
 obtain⟨h1,m⟩:=h.setRow (v1:=⟨v.b,v.at_,A,c,y,v.d⟩) e rfl 1 (.slice A 512 c) (by simp[rowC,j]) (.inr ⟨p,.inl j⟩) (h.rows page v e).at0 (h.hu e _ rfl)
 have g:=updV_self V page (some ⟨v.b,v.at_,A,c,y,v.d⟩)
 obtain⟨h2,q⟩:=h1.setRow (v1:=⟨v.b,v.at_,A,c,y,true⟩) g rfl 2 (.bool true) (by simp[rowC]) (.inl ⟨rfl,rfl,rfl⟩) (h1.rows page _ g).at0 (h1.hu g _ rfl)
 rw[updV_updV] at h2
 exact⟨h2,m.trans q⟩


abbrev RowsC:=Int->Option (List UInt8×Bool)
def RowsOk (P:Nat)(Y:Nat->List UInt8)(R:RowsC):Prop:=∀p b d,R p=some (b,d)->(0<=p/\p<(P:Int))/\b.length=512/\(d=false->b=Y p.toNat)
def viewC (Y:Nat->List UInt8)(R:RowsC)(p:Nat):List UInt8:=match R (p:Int) with|some (b,true)=>b|_=>Y p
theorem RowsOk.view {P:Nat}{Y:Nat->List UInt8}{R:RowsC}(h:RowsOk P Y R){p:Nat}{b:List UInt8}{d:Bool}(e:R (p:Int)=some (b,d)):viewC Y R p=b:=by
 unfold viewC
 rw[e]
 cases d with
 | true=>rfl
 | false =>
  have:=(h _ b false e).2.2 rfl
  rw[Int.toNat_natCast] at this
  exact this.symm
def rowsPut (R:RowsC)(k:Int)(x:List UInt8×Bool):RowsC:=λp=>if p=k then some x else R p
theorem RowsOk.put {P:Nat}{Y:Nat->List UInt8}{R:RowsC}(h:RowsOk P Y R){k:Int}{b:List UInt8}{d:Bool}(m:0<=k/\k<(P:Int))(j:b.length=512)(hd:d=false->b=Y k.toNat):RowsOk P Y (rowsPut R k (b,d)):=λp c e g=>by
 unfold rowsPut at g
 by_cases q:p=k
 ·subst q
  rw[if_pos rfl] at g
  injection g with g
  injection g with h1 h2
  subst h1 h2
  exact⟨m,j,hd⟩
 ·rw[if_neg q] at g
  exact h p c e g
def dirtyL (R:RowsC):Nat->List (Nat×List UInt8)
 | 0=>[]
 | P+1=>dirtyL R P++(match R (P:Int) with|some (b,true)=>[(P,b)] | _=>[])
theorem dirtyL_mem {R:RowsC}:∀{P:Nat} {x:Nat×List UInt8},x∈dirtyL R P↔x.1<P/\R (x.1:Int)=some (x.2,true)
 | 0,x=>by simp[dirtyL]
 | P+1,x=>by
  unfold dirtyL
  rw[qK,dirtyL_mem]
  have hc:x∈(match R (P:Int) with|some (b,true)=>[(P,b)] | _=>[])↔x.1=P/\R (P:Int)=some (x.2,true):=by
   obtain⟨a,c⟩:=x
   split
   ·next b h =>
    rw[qN,h]
    constructor
    ·intro e
     injection e with j g
     subst j g
     exact⟨rfl,rfl⟩
    ·rintro⟨j,g⟩
     simp only at j g
     injection g with g
     injection g with g _
     rw[j,g]
   ·next h =>
    constructor
    ·intro e;cases e
    ·rintro⟨_,e⟩
     exact absurd e (h _)
  rw[hc]
  constructor
  ·rintro(⟨h1,h2⟩|⟨h1,h2⟩)
   ·exact⟨by omega,h2⟩
   ·rw[h1];exact⟨by omega,h2⟩
  ·rintro⟨h1,h2⟩
   by_cases e:x.1=P
   ·rw[e] at h2;exact .inr ⟨e,h2⟩
   ·exact .inl ⟨by omega,h2⟩
def pwL (l:List (Nat×List UInt8))(k:Nat):Int×List UInt8:=match l[k]? with|some x=>((x.1:Int),x.2)|none=>(0,[])
theorem DkIs.keepX {Mu:Nat->Prop}{W W':World}{d many:Nat}{g:Nat->List UInt8}{xs:List (Nat×List UInt8)}{left:Int}{st:Bool}(h:DkIs W d many g xs left st){k:Nat}(hk:¬ g k=zer64)(u:GrowBut Mu W W')(hd:¬ Mu d)
  (O:∀j,Mu j->(∃es c f,MapIs W j es c/\EnV es f/\∀k v,f k=some v->∃a,v = .pointer a)∨(∃T cs,BlkIs W j T cs/\cs.size<=64)∨∃M,W.heap[j]? = some (.deferred M)):DkIs W' d many g xs left st:=by
 obtain⟨r,A,c,Z,L,C,q⟩:=h.has
 have hr:¬ Mu r:=λaD=>by
  obtain⟨es,ck,aA,he,_⟩:=L.lies
  have K:W.heap[r]? = some (.map es ck):=aA
  rcases O r aD with⟨es1,c1,f,h1,h2,h3⟩|⟨T,cs,h1,_⟩|⟨M,h1⟩
  ·have m:W.heap[r]? = some (.map es1 c1):=h1
   rw[K] at m
   injection m with m
   injection m with e1 _
   subst e1
   obtain⟨i,e,h6,_,h7⟩:=he.all k (g k) (by unfold spar;rw[if_neg hk])
   obtain⟨k',l,h8,_,X⟩:=h2.keys i e h6
   obtain⟨a,ha⟩:=h3 k' l h8
   rw[h7,ha] at X
   cases X
  ·have m:W.heap[r]? = some (.cells cs T (0,0)):=h1
   rw[K] at m
   cases m
  ·rw[K] at h1
   cases h1
 refine⟨r,A,c,u.blk Z hd,L.keep (u.block r L.lt hr),C,⟨q.le,q.max,q.nil,q.len,q.one,λI => ?_⟩⟩
 obtain⟨b,o,e,N,aB⟩:=q.lies I
 subst e
 have aF:¬ Mu b:=λaE=>by
  have U:∀H,W.heap[b]? = some H->(∀cs T fr,H≠.cells cs T fr)->False:=λH m aG=>by
   have aC:=InW.elem (w:=W) (B:=W.heap.size) (c:=c) ⟨C,q⟩ 0 I
   have aH:=lsC_length (C xs[0] (qF I))
   have hc:=aC 0 ((lsC xs[0])[0]'(by omega)) (zM (by omega))
   cases H with
   | cells cs T fr=>exact aG cs T fr rfl
   | _=>simp[World.cell?,m] at hc
  rcases O b aE with⟨es1,c1,f,h1,_⟩|⟨T,cs,h1,hs⟩|⟨M,h1⟩
  ·exact U _ h1 (λcs T fr e=>by cases e)
  ·exact InW.notDisk (w:=W) (B:=W.heap.size) (c:=c) ⟨C,q⟩ I h1 hs rfl
  ·exact U _ h1 (λcs T fr e=>by cases e)
 exact⟨b,o,rfl,zO N u.size,λj v hj=>u.cell (p:=⟨b,o+j,none⟩) (aB j v hj) N aF⟩
def sysMu (d l a r:Nat)(V:RowsV)(k:Nat):Prop:=k=d∨k=l∨caMu a r V k
structure SmBlk (W:World)(k:Nat):Prop where
 ca:CaBlk W k
 dk:(∃es c g,MapIs W k es c/\EnV es g/\∀j v,g j=some v->∃p,v = .pointer p)∨(∃T cs,BlkIs W k T cs/\cs.size<=64)∨∃ds,W.heap[k]? = some (.deferred ds)
theorem CaIs.sm {W:World}{a f r P:Nat}{room now hh mm:Int}{V:RowsV}(h:CaIs W a f r P room now hh mm V):∀k,caMu a r V k->SmBlk W k:=λk g=>by
 refine⟨h.ca k g,?_⟩
 rcases g with rfl|rfl|⟨j,v,m,rfl⟩
 ·exact .inr (.inl ⟨_,_,h.cb,by show 6<=64;decide⟩)
 ·obtain⟨es,c,u,p,_⟩:=h.mp
  exact .inl ⟨es,c,ptrV V,u,p,λk x q=>by obtain⟨v,_,e⟩:=ptrV_ptr q;exact⟨_,e⟩⟩
 ·exact .inr (.inl ⟨_,_,(h.rows j v m).blk,by show 3<=64;decide⟩)
theorem LogIs.lg {W:World}{l d:Nat}{fr pg:Int}{S:LgS}(h:LogIs W l d fr pg S):∃A n c,BlkIs W l 183 (lgC (some ⟨d,0,none⟩) fr pg S.sr S.ep S.sz A n c):=by
 obtain⟨_,A,c,g,e,_⟩:=h
 exact⟨A,g.length,c,e⟩
theorem DkIs.bk {W:World}{d many:Nat}{g:Nat->List UInt8}{xs:List (Nat×List UInt8)}{left:Int}{st:Bool}(h:DkIs W d many g xs left st):∃r A n c,BlkIs W d 109 (dkC r many A n c left st):=by
 obtain⟨r,A,c,e,_⟩:=h.has
 exact⟨r,A,xs.length,c,e⟩
structure CfIs (W0:World)(d f l a r many P:Nat)(fr pg room now hh mm:Int)(s:DS)(S:LgS)(V:RowsV)(W:World):Prop where
 fh:FhIs W0 d f l many fr pg s S W
 ca:CaIs W a f r P room now hh mm V
 nb:∀k,caMu a r V k->W0.heap.size<=k
 nz:∃k,¬ s.g k=zer64
 y5:∀x∈S.fs,x.y.length=512
section
variable {W0 W W':World}{d f l a r many P:Nat}{fr pg room now hh mm now' hh' mm':Int}{s s':DS}{S S':LgS}{V V':RowsV}
theorem CaIs.notTy (h:CaIs W a f r P room now hh mm V){k:Nat}{T:TypeId}{cs:Array Value}(e:BlkIs W k T cs)(h1:T≠171)(h2:T≠175):¬ caMu a r V k:=λp=>by
 rcases p with rfl|rfl|⟨j,v,m,rfl⟩
 ·exact BlkIs.ne_type e h.cb h1 rfl
 ·obtain⟨es,c,g,_⟩:=h.mp
  exact g.notBlk e rfl
 ·exact BlkIs.ne_type e (h.rows j v m).blk h2 rfl
theorem CfIs.nd (h:CfIs W0 d f l a r many P fr pg room now hh mm s S V W):¬ caMu a r V d/\¬ caMu a r V l/\¬ caMu a r V f:=by
 obtain⟨_,_,_,_,e⟩:=DkIs.bk h.fh.dk
 obtain⟨_,_,_,hl⟩:=h.fh.lg.lg
 exact⟨h.ca.notTy e (by decide) (by decide),h.ca.notTy hl (by decide) (by decide),h.ca.notTy h.fh.fb (by decide) (by decide)⟩
theorem CfIs.ge (h:CfIs W0 d f l a r many P fr pg room now hh mm s S V W):∀k,sysMu d l a r V k->W0.heap.size<=k:=λk e=>by
 rcases e with rfl|rfl|e
 ·exact h.fh.gd
 ·exact h.fh.gl
 ·exact h.nb k e
theorem FhIs.keepX {Mu:Nat->Prop}(h:FhIs W0 d f l many fr pg s S W)(B:∃k,¬ s.g k=zer64)(u:∀x∈S.fs,x.y.length=512)(m:GrowBut Mu W W')(q:∀k,Mu k->SmBlk W k)(C:∀k,Mu k->W0.heap.size<=k)(hn:∀k,Mu k->k≠d/\k≠l/\k≠f):FhIs W0 d f l many fr pg s S W':=by
 obtain⟨k,A⟩:=B
 exact⟨h.up.trans (m.toBelow h.up.size C),DkIs.keepX h.dk A m (λe=>(hn _ e).1 rfl) (λj p=>(q j p).dk),h.lg.keepC u m (λj p=>(q j p).ca) (λe=>(hn _ e).2.1 rfl),m.blk h.fb (λe=>(hn _ e).2.2 rfl),h.gd,h.gl⟩
theorem CfIs.keep {Mu:Nat->Prop}(h:CfIs W0 d f l a r many P fr pg room now hh mm s S V W)(m:GrowBut Mu W W')(j:∀k,Mu k->SmBlk W k)(p:∀k,Mu k->W0.heap.size<=k)(hn:∀k,Mu k->¬ sysMu d l a r V k/\k≠f):CfIs W0 d f l a r many P fr pg room now hh mm s S V W' :=
 ⟨h.fh.keepX h.nz h.y5 m j p (λk g=>⟨λe=>(hn k g).1 (.inl e),λe=>(hn k g).1 (.inr (.inl e)),(hn k g).2⟩),h.ca.keep m (λk g=>(j k g).ca) (λk g e=>(hn k g).1 (.inr (.inr e))),h.nb,h.nz,h.y5⟩
theorem CfIs.grow (h:CfIs W0 d f l a r many P fr pg room now hh mm s S V W)(hB:Below W.heap.size W W'):CfIs W0 d f l a r many P fr pg room now hh mm s S V W' :=
 ⟨h.fh.grow hB,h.ca.below hB,h.nb,h.nz,h.y5⟩
theorem CfIs.turn (h:CfIs W0 d f l a r many P fr pg room now hh mm s S V W)(q:GrowBut (caMu a r V) W W')(j:CaIs W' a f r P room now' hh' mm' V')(p:∀k,caMu a r V' k->caMu a r V k∨W.heap.size<=k):CfIs W0 d f l a r many P fr pg room now' hh' mm' s S V' W':=by
 obtain⟨m,A,u⟩:=h.nd
 have B:=h.fh.up.size
 exact⟨h.fh.keepX h.nz h.y5 q h.ca.sm h.nb (λk g=>⟨λe=>m (e▸g),λe=>A (e▸g),λe=>u (e▸g)⟩),j,λk g=>(p k g).elim (h.nb k) (λe=>by omega),h.nz,h.y5⟩
end
structure CaSt where
 now:Int
 hh:Int
 mm:Int
 V:RowsV
def RdE (x:Int ⊕ List UInt8)(e:Ending)(w':World):Prop :=
 match x with
 | .inl er=>e = .returned (.tuple #[.slice none 0 0,.int .i64 er])
 | .inr y=>∃A c,e = .returned (.tuple #[.slice A y.length c,.int .i64 0])/\InB w' w'.heap.size A c y/\TyB w' A
theorem caMu_upd {a r n:Nat}{V g:RowsV}{page:Int}{b:Nat}{v:RowV}(p:∀k u,g k=some u->V k=some u)(m:v.b=b)(h:(∃u,V page=some u/\b=u.b)∨n<=b):∀k,caMu a r (updV g page (some v)) k->caMu a r V k∨n<=k:=λk e=>by
 rcases e with e|e|⟨j,u,hu,rfl⟩
 ·exact .inl (.inl e)
 ·exact .inl (.inr (.inl e))
 ·unfold updV at hu
  split at hu
  ·injection hu with hu
   subst hu
   rw[m]
   rcases h with⟨u,h1,h2⟩|h
   ·exact .inl (.inr (.inr ⟨page,u,h1,h2⟩))
   ·exact .inr h
  ·exact .inl (.inr (.inr ⟨j,u,p j u hu,rfl⟩))
structure CaSt.Ok (c:CaSt)(N:Nat):Prop where
 now:0<=c.now/\c.now<=(N:Int)
 hh:0<=c.hh/\c.hh<=(N:Int)
 mm:0<=c.mm/\c.mm<=(N:Int)
theorem CaSt.Ok.more {c:CaSt}{N M:Nat}(h:c.Ok N)(e:N<=M):c.Ok M:=⟨by have:=h.now;omega,by have:=h.hh;omega,by have:=h.mm;omega⟩
abbrev CsIs (W0:World)(d f l a r many P:Nat)(fr pg room:Int)(s:DS)(S:LgS)(c:CaSt)(W:World):Prop:=CfIs W0 d f l a r many P fr pg room c.now c.hh c.mm s S c.V W
section
variable {W0 W W':World}{d f l a r many P:Nat}{fr pg room:Int}{s:DS}{S:LgS}{c:CaSt}
end
def SeenIs (es:Array MapEntry)(seen:Array Nat)(pd:Int->Bool):Prop:=∀e∈es.toList,∀k:Int,e.key = .int .i64 k->(pd k=true↔seen.contains e.born=true)
def pdPush (pd:Int->Bool)(k:Int):Int->Bool:=λj=>decide (j=k) || pd j
theorem pdPush_self (pd:Int->Bool)(k:Int):pdPush pd k k=true:=by simp[pdPush]
theorem pdPush_ne {pd:Int->Bool}{k j:Int}(h:j≠k):pdPush pd k j=pd j:=by simp[pdPush,h]
theorem SeenIs.start (es:Array MapEntry):SeenIs es #[] (λ_=>false):=λe _ k _=>by simp
theorem SeenIs.sub {es g:Array MapEntry}{j:Array Nat}{pd:Int->Bool}(h:SeenIs es j pd)(hs:∀x∈g.toList,x∈es.toList):SeenIs g j pd:=λe m=>h e (hs e m)
theorem EnV.at_ {es:Array MapEntry}{f:Int->Option Value}(h:EnV es f){e:MapEntry}(g:e∈es.toList):∃(k:Int) (v:Value),f k=some v/\e.key = .int .i64 k/\e.val=v:=by
 obtain⟨i,j,rfl⟩:=List.getElem_of_mem g
 exact h.keys i es.toList[i] (by rw[<-qH];exact zM j)
theorem EnV.keyInj {es:Array MapEntry}{f:Int->Option Value}(h:EnV es f){e e':MapEntry}(m:e∈es.toList)(p:e'∈es.toList)(q:e.key=e'.key):e=e':=by
 obtain⟨i,u,rfl⟩:=List.getElem_of_mem m
 obtain⟨j,g,rfl⟩:=List.getElem_of_mem p
 have:=h.inj i j _ _ (by rw[<-qH];exact zM u) (by rw[<-qH];exact zM g) q
 subst this
 rfl
theorem SeenIs.next {es:Array MapEntry}{f:Int->Option Value}{A:Array Nat}{pd:Int->Bool}{clock:Nat}(h:SeenIs es A pd)(H:EnV es f)(C:MapKept.Stamped es clock){e:MapEntry}(m:e∈es.toList){k:Int}(p:e.key = .int .i64 k):SeenIs es (A.push e.born) (pdPush pd k):=λq j u g=>by
 have I:=((MapKept.stamped_iff es clock).1 C).2.1
 rw[contains_push,Bool.or_eq_true]
 unfold pdPush
 rw[Bool.or_eq_true,h q j u g]
 constructor
 ·rintro(hd|hs)
  ·have L:u=k:=by simpa using hd
   subst L
   have:=H.keyInj j m (g.trans p.symm)
   subst this
   exact .inr (by simp)
  ·exact .inl hs
 ·rintro(hs|B)
  ·exact .inr hs
  ·have K:q.born=e.born:=by simpa using B
   obtain rfl:=born_inj I j m K
   exact .inl (by simpa using keyI_inj (g.symm.trans p))
theorem SeenIs.fin {es:Array MapEntry}{f:Int->Option Value}{j:Array Nat}{pd:Int->Bool}(h:SeenIs es j pd)(p:EnV es f)(m:∀x∈es.toList,j.contains x.born=true):∀k v,f k=some v->pd k=true:=λk v q=>by
 obtain⟨i,e,h1,h2,_⟩:=p.all k v q
 have g:e∈es.toList:=Array.mem_toList_iff.2 (Array.mem_of_getElem? h1)
 exact(h e g k h2).2 (m e g)
theorem iterV {w:World}{r m g clock:Nat}{j:Array Nat}{es:Array MapEntry}{f:Int->Option Value}{pd:Int->Bool}(p:TypeId)(h:IterAt w r m g j)(M:MapIs w m es clock)(q:EnV es f)(B:MapKept.Stamped es clock)(I:∀x∈es.toList,x.born<g)(hc:g<=clock)(L:m<r)(N:r<w.heap.size)(u:SeenIs es j pd) :
  ((∀k v,f k=some v->pd k=true)/\(Instr.next (.pointer (some ⟨r,0,none⟩)) false p).run Tryz.prog w = .ok (.tuple #[.bool false]) w) ∨
  ∃k v b,∃w':World,f k=some v/\pd k=false/\(Instr.next (.pointer (some ⟨r,0,none⟩)) false p).run Tryz.prog w = .ok (.tuple #[.bool true,.int .i64 k,v]) w'/\IterAt w' r m g (j.push b)/\Below r w w'/\w'.rangeLeft m r<w.rangeLeft m r /\
   (Instr.entry (.pointer (some ⟨r,0,none⟩))).run Tryz.prog w' = .ok (.tuple #[.int .i64 k,v]) w'/\SeenIs es (j.push b) (pdPush pd k):=by
 rcases iter_next p h M I hc B L N with⟨h1,h2⟩|⟨e,w',h1,h2,h3,h4,h5,h6,h7⟩
 ·exact .inl ⟨u.fin q h1,h2⟩
 ·obtain⟨k,v,K,A,H⟩:=q.at_ h1
  rw[A,H] at h3 h7
  refine .inr ⟨k,v,e.born,w',K,?_,h3,h4,h5,h6,h7,u.next q B h1 A⟩
  cases C:pd k with
  | false=>rfl
  | true =>
   have:=(u e h1 k A).1 C
   rw[h2] at this
   cases this
theorem leftOf_sub {es j:Array MapEntry}(g:Array Nat)(h:j.toList.Sublist es.toList):(leftOf j g).size<=(leftOf es g).size:=by
 unfold leftOf
 have e:∀xs:Array MapEntry,(xs.filter λe => !g.contains e.born).size=(xs.toList.filter λe => !g.contains e.born).length:=λxs=>by
  rw[<-Array.toList_filter,qL]
 rw[e,e]
 exact(h.filter _).length_le
theorem erase_sub (es:Array MapEntry)(i:Nat):(es.eraseIdxIfInBounds i).toList.Sublist es.toList:=by
 unfold Array.eraseIdxIfInBounds
 split
 ·rw[Array.toList_eraseIdx]
  exact List.eraseIdx_sublist _ _
 ·exact List.Sublist.refl _
theorem IterAt.keep {w w':World}{r m e:Nat}{seen:Array Nat}(h:IterAt w r m e seen)(j:w'.heap[r]? = w.heap[r]?):IterAt w' r m e seen:=by
 obtain⟨c0,p,g⟩:=h
 exact⟨c0,j.trans p,g⟩
theorem rangeLeft_keep {w w':World}{m r:Nat}(h1:w'.heap[m]? = w.heap[m]?)(h2:w'.heap[r]? = w.heap[r]?):w'.rangeLeft m r=w.rangeLeft m r:=by
 unfold World.rangeLeft
 rw[h1,h2]
section
variable {ops:Array Oper}{Q:Exit->Act->World->Prop}{a:Act}{w:World}{r clock:Nat}{k:Int}{es:Array MapEntry}{f:Int->Option Value}{x y z:Operand}{o:Oper}
theorem opPutB {i:Nat}{K:Act->World->Prop}{l:Value}(I:ops[i]? = some o)(B:o.guard=none)(j:o.op = .mapUpdate 205 x y z)(h1:a.eval x = .map (some r))(h2:a.eval y = .int .i64 k)(m:a.eval z=l)(p:EnV es f)(C:MapKept.Stamped es clock)(q:MapIs w r es clock)
  (h:∀e g,EnV e (fsetV f k (some l))->MapKept.Stamped e g->K (a.put o.dst undef) (setMap w r e g)):wpOp Tryz.prog ops Q i K a w:=by
 obtain⟨e,g,A,u,H⟩:=x_putT (ρ:=a.eval) (o:=o) Tryz.underlying205 p C q j h1 h2 m
 exact RegF.opS I B A (h e g u H)
end
section
variable {ρ:Operand->Value}{w:World}{o:Oper}{x y z:Operand}{r clock:Nat}{k:Int}{es:Array MapEntry}{f:Int->Option Value}{T E:TypeId}
theorem x_delT2 (p:Tryz.prog.underlying T=some (.map 3 E))(m:EnV es f)(q:MapKept.Stamped es clock)(A:MapIs w r es clock)(u:o.op = .call { callee:=.builtin .delete,args:=#[x,y],argTypes:=#[T,3] })(h1:ρ x = .map (some r))(h2:ρ y = .int .i64 k) :
  ∃h,(execOp ρ o).run Tryz.prog w = .ok (.value (.tuple #[])) (setMap w r h clock)/\EnV h (fsetV f k none)/\MapKept.Stamped h clock/\h.toList.Sublist es.toList:=by
 have B:MapKept.IsKey (.int .i64) (.int .i64 k):=rfl
 have hc:(Instr.checkKey es.isEmpty 10000 3 (.int .i64 k)).run Tryz.prog w = .ok () w:=MapKept.run_checkKey Tryz.underlying3 B _ 9999
 have g:w.heap[r]? = some (.map es clock):=A
 rcases m.find k with⟨hf,hn⟩|⟨j,e,l0,hf,hj,hek,_,_⟩
 ·refine⟨es,?_,by rw[fsetV_none hn];exact m,q,List.Sublist.refl _⟩
  simp[execOp,u,h1,h2,resolve,invoke,builtin,Builtin.delete_,run_underlying p,MapKept.run_getObj_map g,hc,MapKept.run_findKey Tryz.underlying3 hf,MapKept.run_setObj_map _ g,Result.andThen,setMap]
 ·refine⟨_,?_,m.erase hj hek,MapKept.stamped_erase q j,erase_sub es j⟩
  simp[execOp,u,h1,h2,resolve,invoke,builtin,Builtin.delete_,run_underlying p,MapKept.run_getObj_map g,hc,MapKept.run_findKey Tryz.underlying3 hf,MapKept.run_setObj_map _ g,Result.andThen,setMap]
end
def dirtyF (V:RowsV):Int->Option Value:=λk=>match V k with|some v=>if v.d then some (.slice v.A v.y.length v.c) else none|none=>none
def dirtyY (V:RowsV):Int->Option (List UInt8):=λk=>match V k with|some v=>if v.d then some v.y else none|none=>none
theorem dirtyF_none {V:RowsV}{k:Int}{v:RowV}(h:V k=some v)(hd:v.d=false):dirtyF V k=none:=by unfold dirtyF;rw[h];simp only[hd,Bool.false_eq_true,if_false]
theorem dirtyF_some {V:RowsV}{k:Int}{v:RowV}(h:V k=some v)(hd:v.d=true):dirtyF V k=some (.slice v.A v.y.length v.c):=by unfold dirtyF;rw[h];simp only[hd,if_true]
def come (pd:Int->Bool)(g:Int->Option Value):Int->Option Value:=λk=>if pd k then g k else none
theorem come_start (g:Int->Option Value):come (λ_=>false) g=λ_=>none:=rfl
theorem come_some {pd:Int->Bool}{g:Int->Option Value}{k:Int}{x:Value}(h:g k=some x):come (pdPush pd k) g=fsetV (come pd g) k (some x):=by
 funext j
 unfold come fsetV
 by_cases e:j=k
 ·subst e
  rw[pdPush_self,if_pos rfl,if_pos rfl,h]
 ·rw[pdPush_ne e,if_neg e]
theorem come_none {pd:Int->Bool}{g:Int->Option Value}{k:Int}(h:g k=none):come (pdPush pd k) g=come pd g:=by
 funext j
 unfold come
 by_cases e:j=k
 ·subst e
  rw[h]
  split<;>split<;>rfl
 ·rw[pdPush_ne e]
theorem come_all {pd:Int->Bool}{g:Int->Option Value}(h:∀k x,g k=some x->pd k=true):come pd g=g:=by
 funext j
 unfold come
 cases e:g j with
 | none=>split<;>rfl
 | some x=>rw[h j x e,if_pos rfl]
theorem dirtyPg {W:World}{a f r P:Nat}{room now hh mm:Int}{V:RowsV}(h:CaIs W a f r P room now hh mm V)(hf:∀k v,V k=some v->v.y.length=512):PgIs W (dirtyF V) (dirtyY V):=λk=>by
 cases e:V k with
 | none=>exact .inl ⟨by unfold dirtyF;rw[e],by unfold dirtyY;rw[e]⟩
 | some v =>
  cases hd:v.d with
  | false=>exact .inl ⟨dirtyF_none e hd,by unfold dirtyY;rw[e];simp[hd]⟩
  | true=>exact .inr ⟨v.A,v.c,v.y,by rw[dirtyF_some e hd,hf k v e],by unfold dirtyY;rw[e];simp[hd],hf k v e,(h.rows k v e).bys⟩
structure DirtyAt (w:World)(s r clock:Nat)(es:Array MapEntry)(g:Int->Option Value)(seen:Array Nat)(pd:Int->Bool)(W:World):Prop where
 it:IterAt W (s+1+1) r clock seen
 sn:SeenIs es seen pd
 mp:∃eo co,MapIs W s eo co/\EnV eo (come pd g)/\MapKept.Stamped eo co
 bx:BlkIs W (s+1) 205 #[.map (some s)]
 up:Below s w W
 sz:s+1+1<W.heap.size
theorem cdirty_gives (w:World)(a f r P:Nat)(room now hh mm:Int)(V:RowsV)(h:CaIs w a f r P room now hh mm V) :
  Calls Tryz.prog 117 #[.pointer (some ⟨a,0,none⟩)] w λe w'=>∃q s p K,e = .returned (.func (.func 182) #[] #[.pointer (some ⟨q,0,none⟩)])/\BlkIs w' q 205 #[.map (some s)]/\MapIs w' s p K/\EnV p (dirtyF V)/\MapKept.Stamped p K/\Below w.heap.size w w'/\w.heap.size<=s/\w.heap.size<=q:=by
 obtain⟨W2,C⟩:∃W2,W2=((w.alloc (.map #[] 0)).alloc (.cells #[.map (some w.heap.size)] 205)):=⟨_,rfl⟩
 have a0:Below w.heap.size w (w.alloc (.map #[] 0)):=(Below.refl _ w).alloc (zH _) _
 have X:Below w.heap.size w W2:=by rw[C];exact a0.alloc (by simp) _
 have s2:W2.heap.size=w.heap.size+1+1:=by rw[C];simp
 have aQ:MapIs W2 w.heap.size #[] 0:=by
  rw[C]
  exact(show MapIs (w.alloc (.map #[] 0)) w.heap.size #[] 0 from heap_alloc_new w _).below ((Below.refl _ _).alloc (zH _) _) (by simp)
 have b2:BlkIs W2 (w.heap.size+1) 205 #[.map (some w.heap.size)]:=by
  have:=BlkIs.new (w.alloc (.map #[] 0)) 205 #[.map (some w.heap.size)]
  rw[World.size_alloc] at this
  rw[C]
  exact this
 have h2:=h.below X
 have HN:=cnone_gives h2.cb
 have k3:W2.cell? ⟨a,3,none⟩=some (.map (some r)):=(h2.cb.cell _).trans rfl
 obtain⟨es,clock,hm,he,aK⟩:=h.mp
 have aZ:MapIs W2 r es clock:=hm.below X hm.lt
 have aV:=hm.lt
 have a2:∀x∈es.toList,x.born<clock:=((MapKept.stamped_iff es clock).1 aK).1
 obtain⟨W3,M⟩:∃W3,W3=W2.alloc (.mapIter (some r) clock #[] clock):=⟨_,rfl⟩
 have aF:Below W2.heap.size W2 W3:=by rw[M];exact(Below.refl _ _).alloc (zH _) _
 have a8:IterAt W3 (w.heap.size+1+1) r clock #[]:=⟨clock,by rw[M,<-s2];exact heap_alloc_new W2 _,zH _⟩
 have bA:Below w.heap.size w W3:=X.trans (aF.mono X.size)
 have s3:w.heap.size+1+1<W3.heap.size:=by rw[M];simp;omega
 have at0:DirtyAt w w.heap.size r clock es (dirtyF V) #[] (λ_=>false) W3:=⟨a8,SeenIs.start es,⟨#[],0,aQ.below aF aQ.lt,by rw[come_start];exact EnV.empty,MapKept.stamped_empty 0⟩,b2.below aF b2.lt,bA,s3⟩
 have bC:=Lib.hid C.symm
 have a6:=Lib.hid M.symm
 have a5:=Lib.hid s2
 clear C M s2
 go_enter Tryz.func117,Tryz.ntmps117
 go_wp2_with (first
  | (refine wp_makeMap rfl rfl ?_;intro _)
  | (go_at_call 103;rw[bC.out];refine HN.mono ?_;rintro e w' ⟨rfl,rfl⟩)
  | (refine wp_exec rfl (x_range aZ Tryz.underlying163 rfl rfl) ?_;rw[a6.out,a5.out]))
 simp only[Act.put,zA,zG,zF]
 go_loopw [15] (λ_ wr=>∃N pd,DirtyAt w w.heap.size r clock es (dirtyF V) N pd wr) (λ_ wr=>wr.rangeLeft r (w.heap.size+1+1))
 case atStart=>exact⟨_,_,at0⟩
 case round =>
  obtain⟨N,pd,hD⟩:=hrel
  obtain⟨a1,aX,⟨p,K,aT,U,aG⟩,aI,aH,aM⟩:=hD
  have a9:MapIs wr r es clock:=(aH.block r aV).trans hm
  rcases iterV 0 a1 a9 he aK a2 (zH _) (by omega) aM aX with⟨hall,hrun⟩|⟨k,x,b,w4,hk,hpk,hrun,hit4,hB4,hdec,hent,hsn4⟩
  ·have j:come pd (dirtyF V)=dirtyF V:=come_all λk x hx=>by
    unfold dirtyF at hx
    cases B:V k with
    | none=>rw[B] at hx;cases hx
    | some v=>exact hall k _ (ptrV_some B)
   rw[j] at U
   clear j
   go_wp2_with (refine wp_exec rfl (x_next hrun rfl) ?_)
   go_ret
   exact⟨_,_,p,K,rfl,aI,aT,U,aG,aH,zH _,by omega⟩
  ·obtain⟨v,B,rfl⟩:=ptrV_ptr hk
   have O:Below w.heap.size w w4:=aH.trans (hB4.mono (by omega))
   have h4:=h.below O
   have aL:=h4.rows k v B
   have aE:=aT.below hB4 (by omega)
   have aA:=aI.below hB4 (by omega)
   have aJ:w.heap.size+1+1<w4.heap.size:=zO aM hB4.size
   have k2:w4.cell? ⟨v.b,2,none⟩=some (.bool v.d):=(aL.blk.cell _).trans rfl
   cases hd:v.d with
   | false =>
    rw[hd] at k2
    have j:=come_none (pd:=pd) (dirtyF_none B hd)
    have aY:DirtyAt w w.heap.size r clock es (dirtyF V) (N.push b) (pdPush pd k) w4:=⟨hit4,hsn4,⟨p,K,aE,by rw[j];exact U,aG⟩,aA,O,aJ⟩
    clear j hd
    go_wp2_with (first
     | (refine wp_exec rfl (x_next hrun rfl) ?_)
     | (refine wp_exec rfl (x_entry hent rfl) ?_))
    exact⟨⟨_,_,aY⟩,hdec⟩
   | true =>
    rw[hd] at k2
    have aR:=dirtyF_some B hd
    have j:=come_some (pd:=pd) aR
    have k1:w4.cell? ⟨v.b,1,none⟩=some (.slice v.A v.y.length v.c):=(aL.blk.cell _).trans rfl
    have kb:w4.cell? ⟨w.heap.size+1,0,none⟩=some (.map (some w.heap.size)):=aA.boxed
    have m:w4.drew.cell? ⟨v.b,1,none⟩=some (.slice v.A v.y.length v.c)/\w4.drew.cell? ⟨w.heap.size+1,0,none⟩=some (.map (some w.heap.size)):=⟨k1,kb⟩
    have Z:Below w4.heap.size w4 w4.drew:=(Below.refl _ _).drew
    have aB:=aE.below Z aE.lt
    have aP:=aA.below Z aA.lt
    have aN:Below w.heap.size w w4.drew:=O.trans (Z.mono O.size)
    have aU:IterAt w4.drew (w.heap.size+1+1) r clock (N.push b):=hit4
    have aO:w4.drew.rangeLeft r (w.heap.size+1+1)<wr.rangeLeft r (w.heap.size+1+1):=hdec
    have aD:w.heap.size+1+1<w4.drew.heap.size:=aJ
    have bB:=Lib.hid j
    clear hd j aR k1 kb
    go_wp2_with (first
     | (refine wp_exec rfl (x_next hrun rfl) ?_)
     | (refine wp_exec rfl (x_entry hent rfl) ?_))
    refine RegF.start (λW:World=>W.cell? ⟨v.b,1,none⟩=some (.slice v.A v.y.length v.c)/\W.cell? ⟨w.heap.size+1,0,none⟩=some (.map (some w.heap.size))) 6 (by kernel_rfl) ?_
    refine RegF.t 0 (.map (some w.heap.size)) rfl m (λW ⟨I,g⟩=>by go_simp) ?_
    simp only[zE,zB,Act.put,zA,zG,zF]
    refine RegF.t 1 (.int .i64 k) rfl m (λW ⟨I,g⟩=>by go_simp) ?_
    simp only[zE,zD,zB,Act.put,zA,zG,zF]
    refine RegF.t 2 (.pointer (some ⟨v.b,0,none⟩)) rfl m (λW ⟨I,g⟩=>by go_simp) ?_
    simp only[zE,zD,zB,Act.put,zA,zG,zF]
    refine RegF.t 3 (.pointer (some ⟨v.b,0,none⟩)) rfl m (λW ⟨I,g⟩=>by go_simp) ?_
    simp only[zE,zD,zB,Act.put,zA,zG,zF]
    refine RegF.t 4 (.pointer (some ⟨v.b,1,none⟩)) rfl m (λW ⟨I,g⟩=>by go_simp) ?_
    simp only[zE,zD,zB,Act.put,zA,zG,zF]
    refine RegF.t 5 (.slice v.A v.y.length v.c) rfl m (λW ⟨I,g⟩=>by go_simp) ?_
    simp only[zE,zD,zB,Act.put,zA,zG,zF]
    refine RegF.one 6 (by kernel_rfl) ?_
    refine opPutB rfl rfl rfl rfl rfl rfl U aG aB ?_
    intro H L aC a4
    refine⟨λh=>absurd rfl h,RegF.done (by kernel_rfl) ?_⟩
    simp only[zE,zD,zB,Act.put]
    replace aC:EnV H (fsetV (come pd (dirtyF V)) k (some (.slice v.A v.y.length v.c))):=aC
    rw[<-bB.out] at aC
    have u:=setMap_grown aB H L
    have aS:=aB.set H L
    have aW:Below w.heap.size w4.drew (setMap w4.drew w.heap.size H L):=grown_below u (by omega) (λr e=>by injection e with e;omega)
    generalize setMap w4.drew w.heap.size H L=w6 at *
    have g:=u.block (w.heap.size+1+1) aD (λe=>by injection e with e;omega)
    have e2:=u.block r (Nat.lt_trans aV (by omega)) (λe=>by injection e with e;omega)
    have a3:DirtyAt w w.heap.size r clock es (dirtyF V) (N.push b) (pdPush pd k) w6:=⟨aU.keep g,hsn4,⟨H,L,aS,aC,a4⟩,aP.grown u (λe=>by injection e with e;omega),aN.trans aW,zO aD u.size⟩
    have a7:w6.rangeLeft r (w.heap.size+1+1)<wr.rangeLeft r (w.heap.size+1+1):=by rw[rangeLeft_keep e2 g];exact aO
    clear u aS aW g e2 m Z aB aP aN aU aO aD
    go_wp2
    exact⟨⟨_,_,a3⟩,a7⟩
end Go.Proofs.YtpibjkbadnffgaaGreat
namespace Go.Proofs.YtpibjkbadnffgaaGreat
open Go Go.RowKit Lou Go.Maps Go.Shelf Go.Sort
theorem collectB_gives (w:World)(b r many clock:Nat)(es:Array MapEntry)(f:Int->Option Value)(j:BlkIs w b 205 #[.map (some r)])(p:MapIs w r es clock)(H:EnV es f)(A:MapKept.Stamped es clock)(B:KeysB f many)(m:many<=40000) :
  Calls Tryz.prog 241 #[.func (.func 265) #[] #[.pointer (some ⟨b,0,none⟩)]] w λe w'=>∃v,∃g:List Int,e = .returned v/\g.Perm ((keysV f many).map λk:Nat=>(k:Int))/\w'.ownsRow w.heap.size 3 1 v g.length (g.map encZ)/\(v = .slice none 0 0↔g=[])/\Below w.heap.size w w':=by
 obtain⟨h,I,u,N⟩:=own_mapV p H A B m
 have C:Maps.size h<=maxLen:=zU u (zU m (by decide))
 have O:Maps.size h*8<=140737488355328:=by omega
 refine(callsIn_wide (n:=6)).1 ?_
 have L:SeqGives Fence.wide 4 Tryz.prog 265 #[.pointer (some ⟨b,0,none⟩)] encZ (λg=>g.Perm (intKeys h)) (Maps.size h) w :=
  AnyZI.keys_gives (ρ:=layK_ren) { layK with } Fence.wide _ trivial rfl (by omega) b r many h _ j.lt j.boxed I
 refine(AnyZI.collect_in layC Fence.wide 6 trivial trivial rfl (by omega) 265 #[.pointer (some ⟨b,0,none⟩)] trivial (enters_of Tryz.func265 (by kernel_rfl) rfl) _ _ C O w L).mono ?_
 rintro e w' ⟨v,g,rfl,q,M,K,hB⟩
 exact⟨v,g,rfl,q.trans N,M,K,hB⟩
theorem keysB_gives (g:Option Nat)(w:World):Calls Tryz.prog 200 #[.map g] w λe w'=>e = .returned (.func (.func 265) #[] #[.pointer (some ⟨w.heap.size,0,none⟩)])/\w'=w.alloc (.cells #[.map g] 205) :=
 (callsIn_wide (n:=6)).1 (AnyZI.keys_in layK Fence.wide 6 trivial rfl g w)
section
variable {ρ:Operand->Value}{w:World}{o:Oper}{x y:Operand}{r clock:Nat}{k:Int}{es:Array MapEntry}{f:Int->Option Value}{v:Value}
theorem lookB (e:EnV es f)(g:MapIs w r es clock)(h:f k=some v)(j:o.op = .lookup 205 x y false)(h1:ρ x = .map (some r))(h2:ρ y = .int .i64 k):(execOp ρ o).run Tryz.prog w = .ok (.value v) w :=
 x_lookupT (z0:=(.slice none 0 0)) Tryz.underlying205 (by simp[go_sem]) e g (by simp[h]) j h1 h2
end
theorem notB_gives (W:World)(m j r clock:Nat)(es:Array MapEntry)(f:Int->Option Value)(g:Nat)(h:Array Value)(A:∀args w,(callFunc g args).run Tryz.prog w = .ok (.enter g args) w)(h1:BlkIs W m 236 #[.func (.func g) #[] h])(h2:BlkIs W j 205 #[.map (some r)])(p:MapIs W r es clock)(q:EnV es f)(k:Int)(v:Value)(u:f k=some v)(b:Bool)(hs:Calls Tryz.prog g (#[v] ++ h) W λe w'=>e = .returned (.bool b)/\W=w') :
  Calls Tryz.prog 247 #[.int .i64 k,.pointer (some ⟨m,0,none⟩),.pointer (some ⟨j,0,none⟩)] W λe w'=>e = .returned (.bool (!b))/\W=w':=by
 have c1:=h1.boxed
 have c2:=h2.boxed
 go_enter Tryz.func247,Tryz.ntmps247
 go_wp2_with (first
  | (refine wp_exec rfl (lookB q p u rfl rfl rfl) ?_)
  | (refine hs.mono ?_;rintro e w' ⟨rfl,rfl⟩))
 go_ret
 exact⟨rfl,rfl⟩
theorem sortedB_gives (w:World)(r many clock:Nat)(es:Array MapEntry)(f:Int->Option Value)(aC:MapIs w r es clock)(he:EnV es f)(aP:MapKept.Stamped es clock)(aK:KeysB f many)(hm:many<=40000)
  (m:Nat) (B:Array Value) (aS:∀args w,(callFunc m args).run Tryz.prog w = .ok (.enter m args) w) (p:Int->Bool) (aN:∀W,Below w.heap.size w W->∀k v,f k=some v->Calls Tryz.prog m (#[v] ++ B) W λe w'=>e = .returned (.bool (p k))/\W=w')
  (L:Nat) (bl:Array Value) (aX:∀args w,(callFunc L args).run Tryz.prog w = .ok (.enter L args) w) (cf:Int->Int->Int) (hO:SWO (ltOf cf)) (a3:∀W,Below w.heap.size w W->∀x y,(f x).isSome=true->(f y).isSome=true->p x=true->p y=true->Calls Tryz.prog L (#[.int .i64 x,.int .i64 y] ++ bl) W λe w'=>e = .returned (.int .i64 (cf x y))/\∃q os,w'=grow (W.drewN q) os) :
  Calls Tryz.prog 183 #[.map (some r),.func (.func m) #[] B,.func (.func L) #[] bl] w λe w'=>∃(A:Option Addr) (c:Nat) (ks:List Int),e = .returned (.slice A ks.length c)/\KeysSo f p cf ks/\RowInts w w' A ks/\Below w.heap.size w w':=by
 have aF:Below w.heap.size w ((w.alloc (.cells #[.map (some r)] 205)).alloc (.cells #[.func (.func m) #[] B] 236)):=((Below.refl _ w).alloc (zH _) _).alloc (by simp) _
 have b0:BlkIs ((w.alloc (.cells #[.map (some r)] 205)).alloc (.cells #[.func (.func m) #[] B] 236)) w.heap.size 205 #[.map (some r)]:=(BlkIs.new w _ _).alloc _
 have b1:BlkIs ((w.alloc (.cells #[.map (some r)] 205)).alloc (.cells #[.func (.func m) #[] B] 236)) (w.heap.size+1) 236 #[.func (.func m) #[] B]:=by
  have:=BlkIs.new (w.alloc (.cells #[.map (some r)] 205)) 236 #[.func (.func m) #[] B]
  rwa [World.size_alloc] at this
 have c0:=b0.boxed
 have aT:=keysB_gives (some r)
 obtain⟨W0,K⟩:∃W0,W0=(w.alloc (.cells #[.map (some r)] 205)).alloc (.cells #[.func (.func m) #[] B] 236):=⟨_,rfl⟩
 have bE:W0.heap.size=w.heap.size+2:=by rw[K];simp
 rw[<-K] at aF b0 b1 c0
 have U:Below W0.heap.size W0 (W0.alloc (.cells #[.map (some r)] 205)):=(Below.refl _ _).alloc (zH _) _
 have bA:BlkIs (W0.alloc (.cells #[.map (some r)] 205)) W0.heap.size 205 #[.map (some r)]:=BlkIs.new _ _ _
 have aM:=aC.lt
 have HC:=collectB_gives _ _ r many clock es f bA ((aC.below aF aM).below U (by omega)) he aP aK hm
 rw[K] at HC
 simp only[World.size_alloc] at HC
 clear bA
 have aY:=@deleteNone_gives
 have aI:=λW fv=>AnyF.slices_SortFunc_none (P:=Tryz.prog) (ρ:=layF_ren) { layF with } none 0 fv W
 change ∀W fv,Calls Tryz.prog 245 _ _ _ at aI
 go_enter Tryz.func183,Tryz.ntmps183
 go_wp2_with (first
  | (go_at_call 200;refine(aT _).mono ?_;rintro e w1 ⟨rfl,rfl⟩)
  | (go_at_call 241;refine HC.mono ?_;rintro e w2 ⟨v,g,rfl,aH,aQ,aL,aD⟩))
 have N:∀k,k∈g↔(f k).isSome=true:=λk=>by
  rw[aH.mem_iff,List.mem_map]
  constructor
  ·rintro⟨a,ha,rfl⟩
   exact(keysV_mem.1 ha).2
  ·intro h
   obtain⟨v,X⟩:=Option.isSome_iff_exists.1 h
   obtain⟨h3,h4⟩:=aK k v X
   have e:(k.toNat:Int)=k:=by omega
   exact⟨k.toNat,keysV_mem.2 ⟨by omega,by rw[e];exact h⟩,e⟩
 have aZ:g.Nodup:=aH.nodup_iff.2 (List.pairwise_map.2 ((keysV_lt f many).imp λh e=>by omega))
 have bC:g.length<=many:=by
  have h1:=aH.length_eq
  rw[qM] at h1
  have:=keysV_len f many
  omega
 have H:Below w.heap.size w w2:=by
  have h1:Below w.heap.size (W0.alloc (.cells #[.map (some r)] 205)) w2:=by rw[K];exact aD.mono (by omega)
  exact(aF.trans (U.mono (by omega))).trans h1
 by_cases aE:g=[]
 ·rw[aL.2 aE]
  go_wp2_with (first
   | (go_at_call 243;refine(aY _ _ _).mono ?_;rintro e w3 ⟨rfl,rfl⟩)
   | (go_at_call 245;refine(aI _ _).mono ?_;rintro e w3 ⟨rfl,rfl⟩))
  go_ret
  refine⟨none,0,[],rfl,⟨List.nodup_nil,λk=>⟨λh=>absurd h (by simp),λh => ?_⟩,List.Pairwise.nil⟩,λj h=>absurd h (by simp),H⟩
  have:=(N k).2 h.1
  rw[aE] at this
  exact absurd this (by simp)
 ·obtain⟨gb,u,C,rfl,a8,aB,r1,r2,r3,Z⟩:∃gb u C,v = .slice (some ⟨gb,0,none⟩) g.length u/\w.heap.size+2<gb/\BlkIs w2 gb 3 C/\g.length<=u/\u<=maxLen/\C.size=u*1/\C.toList.take (g.length*1)=g.map encZ:=by
   rcases aQ.2 with⟨rfl,hz⟩|⟨gb,u,C,rfl,a8,aB,r1,r2,r3,Z⟩
   ·exact absurd (aL.1 rfl) aE
   ·exact⟨gb,u,C,rfl,by omega,aB,r1,r2,r3,Z⟩
  have a0:∀j (h:j<g.length),C[j]? = some (.int .i64 g[j]):=λj O=>by
   rw[Nat.mul_one] at Z
   have h1:(C.toList.take g.length)[j]? = (g.map encZ)[j]?:=by rw[Z]
   rw[List.getElem?_take_of_lt O,List.getElem?_map,zM O,qH] at h1
   exact h1
  have q0:BlkIs w2 w.heap.size 205 #[.map (some r)]:=by
   have M:=(b0.below U (by omega))
   rw[K] at M
   exact M.below aD (by omega)
  have q1:BlkIs w2 (w.heap.size+1) 236 #[.func (.func m) #[] B]:=by
   have M:=(b1.below U (by omega))
   rw[K] at M
   exact M.below aD (by omega)
  have aJ:MapIs w2 r es clock:=aC.below H aM
  have HD:=delete_gives w2 247 #[.pointer (some ⟨w.heap.size+1,0,none⟩),.pointer (some ⟨w.heap.size,0,none⟩)] (enters_of Tryz.func247 (by kernel_rfl) rfl) (λk => !p k) gb u g C aB a0 r1 (by omega) (λW I k hk=>by
   obtain⟨v,X⟩:=Option.isSome_iff_exists.1 ((N k).1 hk)
   have n0:¬ w.heap.size=gb:=by omega
   have n1:¬ w.heap.size+1=gb:=by omega
   have n2:¬ r=gb:=by omega
   exact notB_gives W (w.heap.size+1) w.heap.size r clock es f m B aS (I.blk q1 n1) (I.blk q0 n0) ((I.block r aJ.lt n2).trans aJ) he k v X (p k) (aN W (H.trans (I.toBelow H.size (λk e=>by omega))) k v X))
  have ef:(g.filter λk => !(!p k))=g.filter p:=by congr 1;funext k;simp
  rw[ef] at HD
  have bB:(g.filter p).length<=g.length:=List.length_filter_le _ _
  go_wp2_with (go_at_call 243;refine HD.mono ?_;rintro e w3 ⟨aV,rfl,a7,aO,a5⟩)
  have aA:Below w.heap.size w w3:=H.trans (a5.toBelow H.size (λk e=>by omega))
  have HS:=sortF_gives w3 gb u (g.filter p) aV a7 aO (by omega) cf hO L bl aX (λW I x hx y hy=>by
   obtain⟨a2,a6⟩:=List.mem_filter.1 hx
   obtain⟨a4,a1⟩:=List.mem_filter.1 hy
   exact a3 W (aA.trans (I.toBelow aA.size (λk e=>by omega))) x y ((N x).1 a2) ((N y).1 a4) a6 a1)
  go_wp2_with (go_at_call 245;refine HS.mono ?_;rintro e w4 ⟨rfl,ks,bD,aG,aU,a9,aW,aR⟩)
  go_ret
  refine⟨some ⟨gb,0,none⟩,u,ks,by rw[aG.length_eq];rfl,⟨aG.nodup_iff.2 (aZ.filter _),λk=>by rw[aG.mem_iff,List.mem_filter,N],aU.imp λh=>by omega⟩,λj O=>⟨gb,rfl,by omega,by rw[a9.cell];exact aW j O⟩,aA.trans (aR.toBelow aA.size (λk e=>by omega))⟩
end Go.Proofs.YtpibjkbadnffgaaGreat
namespace Go.Proofs.YtpibjkbadnffgaaGreat
open Go Go.RowKit Lou Go.Shelf Go.Sort
attribute [local go_sem] Oper.semAt_some
theorem swoZ:SWO (ltOf cmpZ):=by
 have e:∀x y,ltOf cmpZ x y=decide (x<y):=λx y=>by unfold ltOf;simp only[cmpZ_lt]
 refine⟨λx => ?_,λx y z h1 h2 => ?_,λx y z h1 h2 => ?_⟩<;>simp only[e,decide_eq_true_eq,decide_eq_false_iff_not] at *<;>omega
theorem keysSo_all {f:Int->Option Value}{many:Nat}{ks:List Int}(h:KeysSo f (λ_=>true) cmpZ ks)(m:KeysB f many):ks=(keysV f many).map λk:Nat=>(k:Int):=by
 obtain⟨h1,h2,p⟩:=h
 have q:ks.Perm ((keysV f many).map λk:Nat=>(k:Int)):=by
  refine(List.perm_ext_iff_of_nodup h1 (List.pairwise_map.2 ((keysV_lt f many).imp λh e=>by omega))).2 λk => ?_
  rw[h2,List.mem_map]
  constructor
  ·rintro⟨h,_⟩
   obtain⟨v,j⟩:=Option.isSome_iff_exists.1 h
   obtain⟨A,B⟩:=m k v j
   have e:(k.toNat:Int)=k:=by omega
   exact⟨k.toNat,keysV_mem.2 ⟨by omega,by rw[e];exact h⟩,e⟩
  ·rintro⟨a,ha,rfl⟩
   exact⟨(keysV_mem.1 ha).2,rfl⟩
 have g:=(mergeSort_of_perm_i q).trans (keysV_sort f many)
 have u:ks.mergeSort (λx y=>decide (x<=y))=ks:=List.mergeSort_of_pairwise (p.imp λh=>by
  rw[cmpZ_lt] at h
  simp
  omega)
 rw[u] at g
 exact g
theorem yes_gives (W:World)(v:Value):Calls Tryz.prog 184 #[v] W λe w'=>e = .returned (.bool true)/\W=w':=by
 go_enter Tryz.func184,Tryz.ntmps184
 go_wp2
 go_ret
 exact⟨rfl,rfl⟩
theorem byInt_gives (W:World)(x y:Int):Calls Tryz.prog 185 #[.int .i64 x,.int .i64 y] W λe w'=>e = .returned (.int .i64 (cmpZ x y))/\∃q os,w'=grow (W.drewN q) os:=by
 go_enter Tryz.func185,Tryz.ntmps185
 go_wp2_with (go_at_call 180;refine(cmpInt_gives _ _ _).mono ?_;rintro e w' ⟨rfl,rfl⟩)
 go_ret
 exact⟨rfl,0,#[],by rw[grow_empty];rfl⟩
theorem sortedBK_gives (w:World)(r many clock:Nat)(es:Array MapEntry)(f:Int->Option Value)(p:MapIs w r es clock)(B:EnV es f)(q:MapKept.Stamped es clock)(m:KeysB f many)(I:many<=40000) :
  Calls Tryz.prog 183 #[.map (some r),.func (.func 184) #[] #[],.func (.func 185) #[] #[]] w λe w'=>∃(A:Option Addr) (c:Nat),e = .returned (.slice A (keysV f many).length c)/\Below w.heap.size w w' /\
   ∀(j:Nat) (h:j<(keysV f many).length),∃gb,A=some ⟨gb,0,none⟩/\w.heap.size<=gb/\w'.cell? ⟨gb,j,none⟩=some (.int .i64 (((keysV f many)[j]:Nat):Int)):=by
 refine(sortedB_gives w r many clock es f p B q m I 184 #[] (enters_of Tryz.func184 (by kernel_rfl) rfl) (λ_=>true) (λW _ k v _=>yes_gives W v) 185 #[] (enters_of Tryz.func185 (by kernel_rfl) rfl) cmpZ swoZ (λW _ x y _ _ _ _=>byInt_gives W x y)).mono ?_
 rintro e w' ⟨A,c,ks,rfl,H,C,hB⟩
 obtain rfl:=keysSo_all H m
 refine⟨A,c,by rw[qM],hB,λj h => ?_⟩
 obtain⟨g,h1,h2,u⟩:=C j (by rw[qM];exact h)
 exact⟨g,h1,h2,by rw[u,List.getElem_map]⟩
theorem TyB.ownFrom {B:Nat}(A:Option Addr):OwnFrom B (λ(_:Unit) W=>TyB W A):=λ_ X Y row hs m p g o e=>by
 obtain⟨cs,j⟩:=hs g o e
 refine⟨cs,(m.block g j.lt λe => ?_).trans j⟩
 obtain⟨_,q,h1,h2⟩:=p g e.symm
 have h:X.heap[g]? = some (.cells cs 5 (0,0)):=j
 rw[h1] at h
 injection h with h
 rw[h] at h2
 cases h2
def DrRd (K:List Nat)(Y:Int->Option (List UInt8))(pre:List (Nat×(Option Addr×Nat)))(x:Nat×(Option Addr×Nat))(W:World):Prop :=
 K[pre.length]? = some x.1/\pre.map (·.1)=K.take pre.length/\∃y,Y (x.1:Int)=some y/\y.length=512/\InB W W.heap.size x.2.1 x.2.2 y/\TyB W x.2.1
theorem KeepU.step {g U:Nat->Prop}{j m W3:World}(h:KeepU g j m)(q:LaterU j.heap.size g U)(k:KeepU U m W3):KeepU g j W3 :=
 ⟨zU h.1 k.1,λi o p hn=>k.2 i o (h.2 i o p hn) λe=>(q i e).elim hn (λh=>by have:=(zI.1 p).1;omega)⟩
def SmU (W:World)(k:Nat):Prop:=(∃em cm,W.heap[k]? = some (.map em cm))∨∃T cs,BlkIs W k T cs/\cs.size<=64
theorem SmU.below {W W':World}{k:Nat}(h:SmU W k)(hB:Below W.heap.size W W'):SmU W' k:=by
 rcases h with⟨em,cm,h⟩|⟨T,cs,h,hs⟩
 ·exact .inl ⟨em,cm,(hB.block k (zI.1 h).1).trans h⟩
 ·exact .inr ⟨T,cs,h.below hB h.lt,hs⟩
theorem SmU.notB {W:World}{n c:Nat}{A:Option Addr}{y:List UInt8}(h:InB W n A c y)(hl:64<y.length){g o:Nat}(e:A=some ⟨g,o,none⟩):¬ SmU W g:=λhs=>by
 obtain⟨p,o',j,_,hc⟩:=h.lies (by omega)
 rw[e] at j
 injection j with j
 injection j with e1 e2
 subst e1 e2
 have m:=hc 64 hl
 rcases hs with⟨em,cm,hm⟩|⟨T,cs,hb,hsz⟩
 ·simp[World.cell?,hm] at m
 ·rw[hb.cell,Array.getElem?_eq_none (by omega)] at m
  cases m
theorem dirty1_in (n:Nat)(hn:6<=n)(l q r many clock:Nat)(es:Array MapEntry)(f:Int->Option Value)(Y:Int->Option (List UInt8))(J Jx:List (Nat×(Option Addr×Nat))->(Nat->Prop)->World->Prop)(m:Nat->Prop)(W:World)(a5:¬ m q)(bC:¬ m r)(aO:∀k,m k->SmU W k)(aN:StB J)(a8:∀s U X,J s U X->∀k,U k->k<X.heap.size)
  (hY:∀h x U W1,J h U W1->DrRd (keysV f many) Y h x W1->YieldAt Fence.wide (n - 1) Tryz.prog l (pgEnc x) W1 λe W' =>
   (e = .returned (.bool true)/\∃u,LaterU W1.heap.size U u/\J (h++[x]) u W'/\KeepU U W1 W')∨(e = .returned (.bool false)/\∃u,Jx (h++[x]) u W'))
  (hq:BlkIs W q 205 #[.map (some r)]) (Z:MapIs W r es clock) (he:EnV es f) (aE:MapKept.Stamped es clock) (hP:PgIs W f Y) (I:KeysB f many) (aJ:many<=40000) (L:J [] m W) :
  CallsIn Fence.wide n Tryz.prog 182 #[.func (.yield l) #[] #[],.pointer (some ⟨q,0,none⟩)] W λe W'=>(∃v,e = .returned v) /\
   ((∃ys u,ys.map (·.1)=keysV f many/\J ys u W')∨(∃h u,h.length<=(keysV f many).length/\Jx h u W')):=by
 have h1:1<=n:=by omega
 have a6:=hq.boxed
 have HS:=sortedBK_gives W r many clock es f Z he aE I aJ
 have aB:∀k∈keysV f many,(f (k:Int)).isSome=true:=λk C=>(keysV_mem.1 C).2
 have aK:=a8 _ _ _ L
 obtain⟨K,O⟩:∃K,K=keysV f many:=⟨_,rfl⟩
 have bE:K.length<=40000:=by rw[O];exact zU (keysV_len f many) aJ
 rw[<-O] at HS aB
 rw[<-O] at hY ⊢
 clear O I aE
 refine callsIn_of_wp Tryz.func182 rfl trivial ?_ rfl
 simp only[Tryz.ntmps182,zT,zP,qE,qO,qP,zX,zY,qD,qA,zV,qB]
 gi_wp2
 refine wpIn_scope_wide ?_
 gi_wp2
 refine wpIn_label ?_
 gi_wp2_with (refine⟨trivial,?_⟩;gi_at_call 183;refine(callsIn_wide.2 HS).mono ?_;rintro e W1 ⟨A,c,rfl,H,aS⟩)
 have aY:J [] m W1:=aN _ _ _ _ L H
 have q1:=hq.below H hq.lt
 have m1:=Z.below H Z.lt
 have aH:=hP.grow H
 have a2:∀k,m k->SmU W1 k:=λk C=>(aO k C).below H
 have aU:∀gb,W.heap.size<=gb->¬ m gb:=λgb aF e=>by have:=aK gb e;omega
 clear HS a6 H hq Z hP aO aK L
 gi_loopw [8] (λi wr=>∃(h:List (Nat×(Option Addr×Nat))) (U:Nat->Prop),i = .int .i64 (h.length:Int)/\h.length<=K.length/\h.map (·.1)=K.take h.length/\J h U wr/\LaterU W1.heap.size m U/\KeepU m W1 wr)
  (λi _=>K.length - (intOf i).toNat)
 case atStart=>exact⟨[],m,rfl,Nat.zero_le _,rfl,aY,LaterU.refl _ _,KeepU.refl _ _⟩
 case round =>
  obtain⟨h,U,rfl,bH,M,aL,aG,B⟩:=hrel
  by_cases I:h.length<K.length
  ·obtain⟨gb,rfl,aF,a9⟩:=aS h.length I
   have bA:=B.cell (p:=⟨gb,h.length,none⟩) a9 (aU gb aF)
   have bG:=(B.blk q1 a5).boxed
   have a7:MapIs wr r es clock:=B.2 _ _ m1 bC
   have N:K[h.length]? = some K[h.length]:=zM I
   have aC:=aB K[h.length] (qF I)
   obtain⟨k,C⟩:∃k,k=K[h.length]:=⟨_,rfl⟩
   rw[<-C] at bA N aC
   rcases aH (k:Int) with⟨h2,_⟩|⟨A0,c0,y,h2,h3,h4,h5⟩
   ·rw[h2] at aC
    cases aC
   ·have bD:InB wr wr.heap.size A0 c0 y:=by
     refine⟨h5.le,h5.max,h5.nil,λL => ?_⟩
     obtain⟨g,o,e,hg,hc⟩:=h5.lies L
     have aZ:¬ m g:=λaT=>SmU.notB h5 (by omega) e (a2 g aT)
     exact⟨g,o,e,zO hg B.1,λj hj=>B.cell (hc j hj) aZ⟩
    have hC:=cloneP_gives wr A0 c0 y bD (by omega)
    rw[h4] at hC
    have aI:∀z,(h++[(k,z)]).map (·.1)=K.take (h++[(k,z)]).length:=λz=>by
     rw[List.map_append,M,zJ,List.length_singleton,List.take_add_one,N]
     rfl
    have bF:IntKind.i64.wrap ((h.length:Int)+1)=(h.length:Int)+1:=wrap_i64_id' _ (by omega) (by omega)
    have H2:=Lib.hid h2
    have H3:=Lib.hid h3
    have H4:=Lib.hid h4
    have aV:=Lib.hid M
    have a3:=Lib.hid aI
    have HK:=Lib.hid C
    have a4:=Lib.hid N
    clear h2 h3 h4 M aI C N aS aB aH h5
    gi_wp2_with (first
     | (refine wpV_exec rfl (x_lookupFY he a7 H2.out rfl rfl rfl) ?_)
     | (refine⟨trivial,?_⟩;gi_at_call 116;refine(callsIn_wide.2 hC).mono ?_;rintro e W6 ⟨A6,c6,rfl,aW,_,a1,aD⟩;obtain⟨fn,tmps,assign,body,aP,hR⟩:=hY h (k,(A6,c6)) U W6 (aN _ _ _ _ aL aD) ⟨a4.out,aV.out,y,H3.out,H4.out,aW,a1⟩;unfold pgEnc at aP;dsimp only at aP))
    refine hR.mono ?_
    rintro e W4 (⟨rfl,U4,aR,a0,aQ⟩|⟨rfl,U4,aX⟩)
    ·have s6:=aD.size
     have k6:KeepU U wr W4:=(KeepU.grow U aD).trans aQ
     have L4:LaterU W1.heap.size m U4:=aG.trans aR (zU B.1 s6)
     have k4:=B.step aG k6
     have aA:(h++[(k,(A6,c6))]).length<=K.length:=by simp;omega
     clear k6 aR aQ
     gi_wp2
     go_roundw
     case rel=>exact⟨_,U4,by simp,aA,a3.out _,a0,L4,k4⟩
     case measure=>simp[intOf];omega
    ·have aA:(h++[(k,(A6,c6))]).length<=K.length:=by simp;omega
     gi_wp2
     simp only[Exit.noGoto]
     go_end0
     exact⟨⟨_,rfl⟩,.inr ⟨_,U4,aA,aX⟩⟩
  ·have aM:h.map (·.1)=K:=by rw[M,qI (by omega)]
   have bB:=Lib.hid aM
   clear aM M
   gi_wp2
   simp only[Exit.noGoto]
   go_end0
   exact⟨⟨_,rfl⟩,.inl ⟨h,U,bB.out,aL⟩⟩
theorem dirty1_seq (n:Nat)(hn:6<=n)(q r many clock:Nat)(es:Array MapEntry)(f:Int->Option Value)(Y:Int->Option (List UInt8))(w:World)
  (hq:BlkIs w q 205 #[.map (some r)]) (h:MapIs w r es clock) (B:EnV es f) (p:MapKept.Stamped es clock) (hP:PgIs w f Y) (A:KeysB f many) (K:many<=40000) :
  SeqU Fence.wide n Tryz.prog 182 #[.pointer (some ⟨q,0,none⟩)] pgEnc (λU=>¬ U q/\¬ U r/\∀k,U k->SmU w k) (DrRd (keysV f many) Y) (λL=>L.map (·.1)=keysV f many) (λm=>m.length<=(keysV f many).length) w:=λl J I H W e g j C u M =>
 dirty1_in n hn l q r many clock es f Y J I H W g.1 g.2.1 (λk N=>(g.2.2 k N).below e) j C u (hq.below e hq.lt) (h.below e h.lt) B p (hP.grow e) A K M
end Go.Proofs.YtpibjkbadnffgaaGreat
