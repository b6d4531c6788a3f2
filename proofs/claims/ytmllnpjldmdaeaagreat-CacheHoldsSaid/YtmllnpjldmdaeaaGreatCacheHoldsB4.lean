/- Texts that the proof of CacheHolds leans on, part 4. -/
import Derived.Laws.Externs
import Derived.OrdersHeld
import Derived.Deep.OwnRows
import Derived.Deep.DeepCutAuto
import Derived.Deep.CutBlock
import Derived.Test.YtmllnpjldmdaeaaGreatCacheHoldsB3
set_option maxRecDepth 100000
set_option maxHeartbeats 8000000

namespace Go.Proofs.YtmllnpjldmdaeaaGreat
open Go Go.RowKit Lou
theorem run_eq_nil {P:Program}(w:World)(t e:TypeId)(A:Option Addr)(n c:Nat)(ht:P.underlying t=some (.slice e)):(binOp .eql t (.slice A n c) (.slice none 0 0)).run P w = .ok (.bool A.isNone) w:=by
  have e1:binOp .eql t (.slice A n c) (.slice none 0 0)=(do pure (.bool (<-Op.equalIn (9999+1) t (.slice A n c) (.slice none 0 0)))):=rfl
  have h:(Op.equalIn (9999+1) t (.slice A n c) (.slice none 0 0)).run P w = .ok A.isNone w:=by
    unfold Op.equalIn
    cases A<;>simp[run_underlying ht]
  rw[e1]
  simp only[Sem.run_bind,h,Result.andThen,Sem.run_pure]
theorem clone_gives (w:World)(A:Option Addr)(c:Nat)(l:List UInt8)(h:InB w w.heap.size A c l)(hl:l.length<=100000000000):Calls Tryz.prog 24 #[.slice A l.length c] w (GivesB w l):=by
  have hle:=h.le
  rcases A with _|ad
  · have hc:=h.nil rfl
    subst hc
    obtain rfl:l=[]:=List.eq_nil_of_length_eq_zero (by omega)
    have hq:=fun W=>run_eq_nil (P:=Tryz.prog) W 44 5 none 0 0 Tryz.underlying44
    go_enter Tryz.func24,Tryz.ntmps24
    go_wp2
    go_ret
    exact⟨_,rfl,OwnB.nil _ _,Below.refl _ _⟩
  · have e0:OwnB (w.alloc (.cells #[] 5)) w.heap.size (.slice (some ⟨w.heap.size,0,none⟩) 0 0) []:=World.ownsRow_lit w #[] 0 (Nat.le_refl _) (by unfold maxLen;omega) rfl
    have hB0:Below w.heap.size w (w.alloc (.cells #[] 5)):=(Below.refl _ w).alloc (Nat.le_refl _) _
    have h1:=h.below hB0
    have hq:=fun W=>run_eq_nil (P:=Tryz.prog) W 44 5 (some ad) l.length c Tryz.underlying44
    go_enter Tryz.func24,Tryz.ntmps24
    go_wp2_with (at_builtin;refine wp_appB rfl (.tmp 5) (.tmp 6) rfl w.heap.size (.slice (some ⟨w.heap.size,0,none⟩) 0 0) [] rfl e0 _ (some ad) c l rfl h1 (by simp;omega) (by simp) ?_;intro v1 w1 own1 hg1)
    go_ret
    rw[List.nil_append] at own1
    exact⟨_,rfl,own1,hB0.trans (grown_below hg1 hB0.size e0.ownGe)⟩
def zeroFr:Array Value:=#[.int .u64 0,.int .i64 0,.int .i64 0,.bool false,.int .i64 0,.int .u32 0,.slice none 0 0]
theorem frCells_one (e:Nat)(i p:Int)(f:Bool)(z:Int)(n:Nat)(A:Option Addr)(len k:Nat):∀v∈(frCells e i p f z n A len k).toList,v.oneCell'=true:=by
  intro v hv
  simp[frCells] at hv
  rcases hv with rfl|rfl|rfl|rfl|rfl|rfl|rfl<;>rfl
namespace Reg
variable {L:List (Nat×Fact)}{ops:Array Oper}{w0:World}{o:Oper}{P:Program}
end Reg
theorem setCell_grownBy (w:World)(p:Addr)(u:Value):w.grownBy (w.setCell p u) (some p.block):=⟨rfl,rfl,rfl,by simp,fun k _ hk=>Below.heap_setCell w p u k (fun e=>hk (by rw[e]))⟩
def zer64:List UInt8:=List.replicate 64 0
@[reducible] def secV (l:List UInt8):Value:=.agg (l.map b8).toArray
structure Ents (es:Array MapEntry)(f:Nat->Option (List UInt8)):Prop where
  keys:∀(i:Nat) e,es[i]? = some e->∃k l,f k=some l/\e.key = .int .i64 (k:Int)/\e.val=secV l
  all:∀k l,f k=some l->∃(i:Nat) (e:MapEntry),es[i]? = some e/\e.key = .int .i64 (k:Int)/\e.val=secV l
  inj:∀(i j:Nat) e e',es[i]? = some e->es[j]? = some e'->e.key=e'.key->i=j
theorem Ents.empty:Ents #[] (fun _=>none):=⟨fun i e h=>by simp at h,fun k l h=>by simp at h,fun i j e e' h=>by simp at h⟩
theorem key_inj {k m:Nat}(h:Value.int .i64 (k:Int) = .int .i64 (m:Int)):k=m:=by injection h with _ h;omega
def fset (f:Nat->Option (List UInt8))(k:Nat)(x:Option (List UInt8)):Nat->Option (List UInt8):=fun m=>if m=k then x else f m
section
variable {es:Array MapEntry}{f:Nat->Option (List UInt8)}
theorem Ents.find (h:Ents es f)(k:Nat):(Instr.findNow (.int .i64) (.int .i64 (k:Int)) es.toList 0=some none/\f k=none) ∨
    ∃j e l,Instr.findNow (.int .i64) (.int .i64 (k:Int)) es.toList 0=some (some (j,e.val))/\es[j]? = some e/\e.key = .int .i64 (k:Int)/\f k=some l/\e.val=secV l:=by
  have hk:MapKept.IsKey (.int .i64) (.int .i64 (k:Int)):=rfl
  have hall:∀x∈es.toList,MapKept.IsKey (.int .i64) x.key:=by
    intro x hx
    obtain⟨i,hi,rfl⟩:=List.getElem_of_mem hx
    obtain⟨k',l,_,h2,_⟩:=h.keys i es.toList[i] (by rw[<-Array.getElem?_toList];exact List.getElem?_eq_getElem hi)
    rw[h2]
    rfl
  rcases MapKept.findNow_spec hk es.toList 0 hall with⟨h1,h2⟩|⟨j,e,h1,h2,h3⟩
  · left
    refine⟨h1,?_⟩
    cases hf:f k with
    | none=>rfl
    | some l =>
      obtain⟨i,e,h4,h5,_⟩:=h.all k l hf
      exact absurd h5 (h2 e (Array.mem_toList_iff.2 (Array.mem_of_getElem? h4)))
  · right
    have h4:es[j]? = some e:=by rw[<-Array.getElem?_toList];exact h2
    obtain⟨k',l,h5,h6,h7⟩:=h.keys j e h4
    have:k'=k:=key_inj (h6.symm.trans h3)
    subst this
    exact⟨j,e,l,by simpa using h1,h4,h3,h5,h7⟩
theorem Ents.push (h:Ents es f){k:Nat}(hk:f k=none)(l:List UInt8)(born:Nat):Ents (es.push { key:=.int .i64 (k:Int),val:=secV l,born:=born }) (fset f k (some l)):=by
  refine⟨fun i e he => ?_,fun m l' hm => ?_,fun i j e e' hi hj hkey => ?_⟩
  · rw[Array.getElem?_push] at he
    split at he
    · injection he with he
      subst he
      exact⟨k,l,by simp[fset],rfl,rfl⟩
    · obtain⟨m,l',h1,h2,h3⟩:=h.keys i e he
      refine⟨m,l',?_,h2,h3⟩
      have:m≠k:=fun e=>by subst e;rw[hk] at h1;cases h1
      simp[fset,this,h1]
  · by_cases e:m=k
    · subst e
      simp[fset] at hm
      subst hm
      exact⟨es.size,{ key:=.int .i64 (m:Int),val:=secV l,born:=born },by simp,rfl,rfl⟩
    · simp only[fset,if_neg e] at hm
      obtain⟨i,e',h1,h2,h3⟩:=h.all m l' hm
      refine⟨i,e',?_,h2,h3⟩
      have:=(Array.getElem?_eq_some_iff.1 h1).1
      rw[Array.getElem?_push,if_neg (by omega)]
      exact h1
  · rw[Array.getElem?_push] at hi hj
    have hno:∀(q:Nat) (e:MapEntry),es[q]? = some e->e.key≠.int .i64 (k:Int):=fun q e he hq=>by
      obtain⟨m,l',h1,h2,_⟩:=h.keys q e he
      have:=key_inj (h2.symm.trans hq)
      subst this
      rw[hk] at h1
      cases h1
    split at hi
    · split at hj
      · omega
      · injection hi with hi
        subst hi
        exact absurd hkey.symm (hno j e' hj)
    · split at hj
      · injection hj with hj
        subst hj
        exact absurd hkey (hno i e hi)
      · exact h.inj i j e e' hi hj hkey
theorem Ents.modify (h:Ents es f){k i:Nat}{e:MapEntry}(he:es[i]? = some e)(hek:e.key = .int .i64 (k:Int))(l:List UInt8):Ents (es.modify i fun e => { e with key:=.int .i64 (k:Int),val:=secV l }) (fset f k (some l)):=by
  have hget:∀j,(es.modify i fun e => { e with key:=.int .i64 (k:Int),val:=secV l })[j]? = if i=j then some { e with key:=.int .i64 (k:Int),val:=secV l } else es[j]?:=fun j=>by
    rw[Array.getElem?_modify]
    split
    · rename_i hij
      subst hij
      rw[he]
      rfl
    · rfl
  refine⟨fun j e' hj => ?_,fun m l' hm => ?_,fun a b e1 e2 ha hb hkey => ?_⟩
  · rw[hget] at hj
    split at hj
    · injection hj with hj
      subst hj
      exact⟨k,l,by simp[fset],rfl,rfl⟩
    · rename_i hij
      obtain⟨m,l',h1,h2,h3⟩:=h.keys j e' hj
      refine⟨m,l',?_,h2,h3⟩
      have:m≠k:=fun q=>by
        subst q
        exact hij (h.inj i j e e' he hj (by rw[hek,h2]))
      simp[fset,this,h1]
  · by_cases q:m=k
    · subst q
      simp[fset] at hm
      subst hm
      exact⟨i,_,by rw[hget,if_pos rfl],rfl,rfl⟩
    · simp only[fset,if_neg q] at hm
      obtain⟨j,e',h1,h2,h3⟩:=h.all m l' hm
      have hij:i≠j:=fun hij=>by
        subst hij
        rw[he] at h1
        injection h1 with h1
        subst h1
        exact q (key_inj (h2.symm.trans hek))
      exact⟨j,e',by rw[hget,if_neg hij];exact h1,h2,h3⟩
  · have hk1:∀(a:Nat) (e1:MapEntry),(es.modify i fun e => { e with key:=.int .i64 (k:Int),val:=secV l })[a]? = some e1->∃e0:MapEntry,es[a]? = some e0/\e0.key=e1.key:=fun a e1 ha=>by
      rw[hget] at ha
      split at ha
      · rename_i hia
        subst hia
        injection ha with ha
        subst ha
        exact⟨e,he,hek⟩
      · exact⟨e1,ha,rfl⟩
    obtain⟨x,hx,hxk⟩:=hk1 a e1 ha
    obtain⟨y,hy,hyk⟩:=hk1 b e2 hb
    exact h.inj a b x y hx hy (by rw[hxk,hyk,hkey])
theorem Ents.erase (h:Ents es f){k i:Nat}{e:MapEntry}(he:es[i]? = some e)(hek:e.key = .int .i64 (k:Int)):Ents (es.eraseIdxIfInBounds i) (fset f k none):=by
  have hi:=(Array.getElem?_eq_some_iff.1 he).1
  have hget:∀j,(es.eraseIdxIfInBounds i)[j]? = if j<i then es[j]? else es[j+1]?:=fun j=>by
    unfold Array.eraseIdxIfInBounds
    rw[dif_pos hi]
    rw[<-Array.getElem?_toList,Array.toList_eraseIdx,List.getElem?_eraseIdx]
    split<;>rw[Array.getElem?_toList]
  have back:∀j e',(es.eraseIdxIfInBounds i)[j]? = some e'->∃j',j'≠i/\es[j']? = some e'/\(j<i->j'=j)/\(¬ j<i->j'=j+1):=fun j e' hj=>by
    rw[hget] at hj
    split at hj
    · exact⟨j,by omega,hj,fun _=>rfl,fun h=>by omega⟩
    · exact⟨j+1,by omega,hj,fun h=>by omega,fun _=>rfl⟩
  refine⟨fun j e' hj => ?_,fun m l' hm => ?_,fun a b e1 e2 ha hb hkey => ?_⟩
  · obtain⟨j',hne,hj',_⟩:=back j e' hj
    obtain⟨m,l',h1,h2,h3⟩:=h.keys j' e' hj'
    refine⟨m,l',?_,h2,h3⟩
    have:m≠k:=fun q=>by
      subst q
      exact hne (h.inj j' i e' e hj' he (by rw[hek,h2]))
    simp[fset,this,h1]
  · by_cases q:m=k
    · subst q
      simp[fset] at hm
    · simp only[fset,if_neg q] at hm
      obtain⟨j,e',h1,h2,h3⟩:=h.all m l' hm
      have hij:j≠i:=fun hij=>by
        subst hij
        rw[he] at h1
        injection h1 with h1
        subst h1
        exact q (key_inj (h2.symm.trans hek))
      by_cases hlt:j<i
      · exact⟨j,e',by rw[hget,if_pos hlt];exact h1,h2,h3⟩
      · exact⟨j - 1,e',by rw[hget,if_neg (by omega),show j - 1+1=j by omega];exact h1,h2,h3⟩
  · obtain⟨a',_,ha',p1,p2⟩:=back a e1 ha
    obtain⟨b',_,hb',q1,q2⟩:=back b e2 hb
    have:=h.inj a' b' e1 e2 ha' hb' hkey
    by_cases c1:a<i<;>by_cases c2:b<i
    · have:=p1 c1;have:=q1 c2;omega
    · have:=p1 c1;have:=q2 c2;omega
    · have:=p2 c1;have:=q1 c2;omega
    · have:=p2 c1;have:=q2 c2;omega
end
def spar (g:Nat->List UInt8):Nat->Option (List UInt8):=fun k=>if g k=zer64 then none else some (g k)
structure MapF (w:World)(r:Nat)(g:Nat->List UInt8):Prop where
  len:∀k,(g k).length=64
  lies:∃es clock,MapIs w r es clock/\Ents es (spar g)/\MapKept.Stamped es clock
def gset (g:Nat->List UInt8)(k:Nat)(l:List UInt8):Nat->List UInt8:=fun m=>if m=k then l else g m
theorem MapF.lt {w:World}{r:Nat}{g:Nat->List UInt8}(h:MapF w r g):r<w.heap.size:=by obtain⟨es,c,hm,_⟩:=h.lies;exact hm.lt
theorem MapF.keep {w w':World}{r:Nat}{g:Nat->List UInt8}(h:MapF w r g)(hk:w'.heap[r]? = w.heap[r]?):MapF w' r g:=by
  obtain⟨es,c,hm,he⟩:=h.lies
  exact⟨h.len,es,c,hk.trans hm,he⟩
theorem MapF.below {w w':World}{B r:Nat}{g:Nat->List UInt8}(h:MapF w r g)(hB:Below B w w')(hr:r<B):MapF w' r g:=h.keep (hB.block r hr)
theorem MapF.grow {w w':World}{r:Nat}{g:Nat->List UInt8}(h:MapF w r g)(hB:Below w.heap.size w w'):MapF w' r g:=h.below hB h.lt
theorem MapF.setCell {w:World}{r:Nat}{g:Nat->List UInt8}(h:MapF w r g)(p:Addr)(v:Value):MapF (w.setCell p v) r g:=by
  by_cases hp:p.block=r
  · obtain⟨es,c,hm,he⟩:=h.lies
    refine⟨h.len,es,c,?_,he⟩
    have hm':w.heap[r]? = some (.map es c):=hm
    subst hp
    unfold MapIs World.setCell
    simp[Array.getElem?_modify,hm']
  · exact h.keep (Below.heap_setCell w p v r (fun e=>hp e.symm))
theorem rowDSec:RowTy Tryz.prog 175 64:=⟨⟨_,Tryz.underlying175,rfl⟩,by kernel_rfl⟩
section
variable {P:Program}{w w':World}{ops:Array Oper}{rest:List Oper}{o:Oper}{a:Act}{Q:Exit->Act->World->Prop}
theorem wp_exec {v:Value}(hg:o.guard=none)(hr:(execOp a.eval o).run P w = .ok (.value v) w')(h:wpList P ops Q rest (a.put o.dst v) w'):wpList P ops Q (o::rest) a w :=
  wpList_plain hg fun _ hK=>by
    unfold Oper.wp
    rw[hr]
    exact hK _ _ h
theorem wp_execS (hg:o.guard=none)(hr:(execOp a.eval o).run P w = .ok .skip w')(h:wpList P ops Q rest (a.put o.dst undef) w'):wpList P ops Q (o::rest) a w :=
  wpList_plain hg fun _ hK=>by
    unfold Oper.wp
    rw[hr]
    exact hK _ _ h
theorem wp_execG {v:Value}(hw:Region.wanted o (yielded ops a.tmps)=true)(hr:(execOp a.eval o).run P w = .ok (.value v) w')(h:wpList P ops Q rest (a.put o.dst v) w'):wpList P ops Q (o::rest) a w :=
  wpList_step fun _ hK=>by
    rw[if_pos hw]
    unfold Oper.wp
    rw[hr]
    exact hK _ _ h
end
section
variable {ρ:Operand->Value}{w:World}{o:Oper}{x y z:Operand}
theorem x_eqSec {xs ys:List UInt8}(hx1:xs.length=64)(hy1:ys.length=64){T:TypeId}(ho:o.op = .binOp .eql 175 x y T)(h1:ρ x=secV xs)(h2:ρ y=secV ys):(execOp ρ o).run Tryz.prog w = .ok (.value (.bool (xs == ys))) w:=by
  unfold secV at h1 h2
  have hr:(binOp .eql 175 (.agg (xs.map b8).toArray) (.agg (ys.map b8).toArray)).run Tryz.prog w = .ok (.bool (xs == ys)) w :=
    run_eql_bytes w 175 5 64 Tryz.underlying175 Tryz.underlying5 (fun w=>by simp[go_sem]) xs ys hx1 hy1
  have hm:Tryz.prog.eqGuardType Tryz.prog.depth 175=false:=by kernel_rfl
  simp only[execOp,ho,h1,h2,Sem.run_bind,run_eqGuard_agg w .eql 175 x y _ _ hm,Result.andThen_ok,hr,Sem.run_pure]
theorem x_zeroSec (ho:o.op = .build 175 #[]):(execOp ρ o).run Tryz.prog w = .ok (.value (secV zer64)) w:=by
  simp[execOp,ho,go_sem,Result.andThen]
  kernel_rfl
section
variable {r k clock:Nat}{es:Array MapEntry}{f:Nat->Option (List UInt8)}{l:List UInt8}
theorem stampedSet {w:Value}(hst:MapKept.Stamped es clock){j:Nat}{e:MapEntry}(hj:es[j]? = some e)(hek:e.key=w)(v:Value):MapKept.Stamped (es.modify j fun e => { e with key:=w,val:=v }) clock :=
  MapKept.stamped_modify hst j (fun e => { e with key:=w,val:=v }) (fun e _=>rfl) (fun e' _ he'=>by rw[hj] at he';injection he' with he';subst he';exact hek.symm)
theorem x_put (he:Ents es f)(hst:MapKept.Stamped es clock)(hm:MapIs w r es clock)(ho:o.op = .mapUpdate 100 x y z)(h1:ρ x = .map (some r))(h2:ρ y = .int .i64 (k:Int))(h3:ρ z=secV l) :
    ∃es' clock',(execOp ρ o).run Tryz.prog w = .ok .skip (setMap w r es' clock')/\Ents es' (fset f k (some l))/\MapKept.Stamped es' clock':=by
  have hk:MapKept.IsKey (.int .i64) (.int .i64 (k:Int)):=rfl
  have hc:(Instr.checkKey false 10000 3 (.int .i64 (k:Int))).run Tryz.prog w = .ok () w:=MapKept.run_checkKey Tryz.underlying3 hk false 9999
  have hm':w.heap[r]? = some (.map es clock):=hm
  rcases he.find k with⟨hf,hn⟩|⟨j,e,l0,hf,hj,hek,_,_⟩
  · refine⟨_,clock+1,?_,he.push hn l clock,MapKept.stamped_push hst fun x hx heq=>by
      obtain⟨i,hi,rfl⟩:=List.getElem_of_mem hx
      obtain⟨m,l',h1,h2,_⟩:=he.keys i es.toList[i] (by rw[<-Array.getElem?_toList];exact List.getElem?_eq_getElem hi)
      have:=key_inj (h2.symm.trans heq)
      subst this
      rw[hn] at h1
      cases h1⟩
    simp[execOp,ho,h1,h2,h3,Instr.mapUpdate,run_underlying Tryz.underlying100,MapKept.run_getObj_map hm',hc,MapKept.run_findKey Tryz.underlying3 hf,MapKept.run_setObj_map _ hm',Result.andThen,setMap]
  · refine⟨_,clock,?_,he.modify hj hek l,stampedSet hst hj hek (secV l)⟩
    have hkey:(((es[j]?).map (·.key)).getD (.int .i64 (k:Int))) = .int .i64 (k:Int):=by rw[hj];exact hek
    simp[execOp,ho,h1,h2,h3,Instr.mapUpdate,run_underlying Tryz.underlying100,MapKept.run_getObj_map hm',hc,MapKept.run_findKey Tryz.underlying3 hf,hj,hek,MapKept.run_keyThatStays hk,MapKept.run_setObj_map _ hm',Result.andThen,setMap]
theorem x_del (he:Ents es f)(hst:MapKept.Stamped es clock)(hm:MapIs w r es clock)(ho:o.op = .call { callee:=.builtin .delete,args:=#[x,y],argTypes:=#[100,3] })(h1:ρ x = .map (some r))(h2:ρ y = .int .i64 (k:Int)) :
    ∃es',(execOp ρ o).run Tryz.prog w = .ok (.value (.tuple #[])) (setMap w r es' clock)/\Ents es' (fset f k none)/\MapKept.Stamped es' clock:=by
  have hk:MapKept.IsKey (.int .i64) (.int .i64 (k:Int)):=rfl
  have hc:(Instr.checkKey es.isEmpty 10000 3 (.int .i64 (k:Int))).run Tryz.prog w = .ok () w:=MapKept.run_checkKey Tryz.underlying3 hk _ 9999
  have hm':w.heap[r]? = some (.map es clock):=hm
  rcases he.find k with⟨hf,hn⟩|⟨j,e,l0,hf,hj,hek,_,_⟩
  · refine⟨es,?_,?_⟩
    · simp[execOp,ho,h1,h2,resolve,invoke,builtin,Builtin.delete_,run_underlying Tryz.underlying100,MapKept.run_getObj_map hm',hc,MapKept.run_findKey Tryz.underlying3 hf,MapKept.run_setObj_map _ hm',Result.andThen,setMap]
    · have:fset f k none=f:=by
        funext m
        unfold fset
        split
        · rename_i e
          rw[e,hn]
        · rfl
      rw[this]
      exact⟨he,hst⟩
  · refine⟨_,?_,he.erase hj hek,MapKept.stamped_erase hst j⟩
    simp[execOp,ho,h1,h2,resolve,invoke,builtin,Builtin.delete_,run_underlying Tryz.underlying100,MapKept.run_getObj_map hm',hc,MapKept.run_findKey Tryz.underlying3 hf,MapKept.run_setObj_map _ hm',Result.andThen,setMap]
theorem x_lookup {g:Nat->List UInt8}(h:MapF w r g)(ho:o.op = .lookup 100 x y false)(h1:ρ x = .map (some r))(h2:ρ y = .int .i64 (k:Int)):(execOp ρ o).run Tryz.prog w = .ok (.value (secV (g k))) w:=by
  obtain⟨es,clock,hm,he,_⟩:=h.lies
  have hk:MapKept.IsKey (.int .i64) (.int .i64 (k:Int)):=rfl
  have hc:(Instr.checkKey es.isEmpty 10000 3 (.int .i64 (k:Int))).run Tryz.prog w = .ok () w:=MapKept.run_checkKey Tryz.underlying3 hk _ 9999
  have hm':w.heap[r]? = some (.map es clock):=hm
  rcases he.find k with⟨hf,hn⟩|⟨j,e,l0,hf,hj,hek,hfk,hv⟩
  · have hz:g k=zer64:=by
      unfold spar at hn
      split at hn
      · assumption
      · cases hn
    rw[hz]
    have zv:(zeroValue 175).run Tryz.prog w = .ok (secV zer64) w:=by
      simp[go_sem]
      kernel_rfl
    simp[execOp,ho,h1,h2,Instr.lookup,run_underlying Tryz.underlying100,MapKept.run_getObj_map hm',hc,MapKept.run_findKey Tryz.underlying3 hf,zv,Result.andThen]
  · have hg:l0=g k:=by
      unfold spar at hfk
      split at hfk
      · cases hfk
      · injection hfk with hfk
        exact hfk.symm
    subst hg
    rw[<-hv]
    simp[execOp,ho,h1,h2,Instr.lookup,run_underlying Tryz.underlying100,MapKept.run_getObj_map hm',hc,MapKept.run_findKey Tryz.underlying3 hf,Result.andThen]
end
end
section
variable {w:World}{ops:Array Oper}{rest:List Oper}{o:Oper}{a:Act}{Q:Exit->Act->World->Prop}{r k clock:Nat}{es:Array MapEntry}{f:Nat->Option (List UInt8)}{l:List UInt8}
theorem wp_mput (hg:o.guard=none)(x y z:Operand)(ho:o.op = .mapUpdate 100 x y z)(h1:a.eval x = .map (some r))(h2:a.eval y = .int .i64 (k:Int))(h3:a.eval z=secV l)(he:Ents es f)(hst:MapKept.Stamped es clock)(hm:MapIs w r es clock)
    (h:∀es' clock',Ents es' (fset f k (some l))->MapKept.Stamped es' clock'->wpList Tryz.prog ops Q rest (a.put o.dst undef) (setMap w r es' clock')):wpList Tryz.prog ops Q (o::rest) a w:=by
  obtain⟨es',clock',hr,he',hs'⟩:=x_put he hst hm ho h1 h2 h3
  exact wp_execS hg hr (h _ _ he' hs')
theorem wp_mdel (hg:o.guard=none)(x y:Operand)(ho:o.op = .call { callee:=.builtin .delete,args:=#[x,y],argTypes:=#[100,3] })(h1:a.eval x = .map (some r))(h2:a.eval y = .int .i64 (k:Int))(he:Ents es f)(hst:MapKept.Stamped es clock)(hm:MapIs w r es clock)
    (h:∀es',Ents es' (fset f k none)->MapKept.Stamped es' clock->wpList Tryz.prog ops Q rest (a.put o.dst (.tuple #[])) (setMap w r es' clock)):wpList Tryz.prog ops Q (o::rest) a w:=by
  obtain⟨es',hr,he',hs'⟩:=x_del he hst hm ho h1 h2
  exact wp_exec hg hr (h _ he' hs')
end
theorem spar_set {g:Nat->List UInt8}{k:Nat}{l:List UInt8}(h:l≠zer64):fset (spar g) k (some l)=spar (gset g k l):=by
  funext m
  unfold fset spar gset
  by_cases e:m=k<;>simp[e,h]
theorem spar_del {g:Nat->List UInt8}{k:Nat}(x:Option (List UInt8)):fset (fset (spar g) k x) k none=spar (gset g k zer64):=by
  funext m
  unfold fset spar gset
  by_cases e:m=k<;>simp[e]
section
variable {P:Program}(w:World)
theorem run_eql_map_nil (t k e:TypeId)(p:Option Nat)(h:P.underlying t=some (.map k e)):(binOp .eql t (.map p) (.map none)).run P w = .ok (.bool p.isNone) w:=by
  have e1:binOp .eql t (.map p) (.map none)=(do pure (.bool (<-Op.equalIn (9999+1) t (.map p) (.map none)))):=rfl
  have h1:(Op.equalIn (9999+1) t (.map p) (.map none)).run P w = .ok p.isNone w:=by
    unfold Op.equalIn
    cases p<;>simp[run_underlying h]
  rw[e1]
  simp only[Sem.run_bind,h1,Result.andThen,Sem.run_pure]
theorem run_typeAssert_map (t xT k e:TypeId)(v:Value)(h:P.underlying t=some (.map k e)):(Instr.typeAssert (.iface t v) xT t false).run P w = .ok v w:=by
  simp[Instr.typeAssert,run_underlying h,go_sem,Result.andThen]
theorem run_mclone {r:Nat}{es:Array MapEntry}{clock:Nat}(t:TypeId)(hb:w.heap[r]? = some (.map es clock)) :
    (Extern.MapsClone.clone #[.iface t (.map (some r))]).run P w = .ok (.iface t (.map (some w.heap.size))) (w.alloc (.map es clock)):=by
  have e:Extern.MapsClone.clone #[.iface t (.map (some r))]=(getObj r >>= fun o=>match o with
      | .map entries clock=>(newObj (.map entries clock) >>= fun n=>pure (.iface t (.map (some n))))
      | _ => stuck "maps.clone: a map expected") := rfl
  rw[e]
  simp[MapKept.run_getObj_map hb,Result.andThen,go_sem]
end
theorem put_gives (w:World)(r k:Nat)(g:Nat->List UInt8)(l:List UInt8)(hl:l.length=64)(h:MapF w r g) :
    Calls Tryz.prog 177 #[.map (some r),.int .i64 (k:Int),secV l] w fun e w'=>(∃v,e = .returned v)/\MapF w' r (gset g k l)/\w.grownBy w' (some r):=by
  obtain⟨es,clock,hm,he,hst⟩:=h.lies
  have hb:=BlkIs.new w 175 (l.map b8).toArray
  have hg0:w.grownBy (w.alloc (.cells (l.map b8).toArray 175)) (some r):=⟨rfl,rfl,rfl,by simp,fun j hj _=>Below.heap_alloc w _ j hj⟩
  have hm0:MapIs (w.alloc (.cells (l.map b8).toArray 175)) r es clock:=(Below.heap_alloc w _ r hm.lt).trans hm
  have hlen:∀m,(gset g k l m).length=64:=fun m=>by unfold gset;split;exact hl;exact h.len m
  have hsz:(l.map b8).toArray.size=64:=by simp[hl]
  have hRow:RowTy Tryz.prog 175 (l.map b8).toArray.size:=by rw[hsz];exact rowDSec
  have HL:=Lib.hid hl
  have hz:zer64.length=64:=by decide
  clear hl hsz
  go_enter Tryz.func177,Tryz.ntmps177
  by_cases hlz:l=zer64
  · have hq:(l == zer64)=true:=by simpa using hlz
    have HZ:=Lib.hid hlz
    clear hlz
    go_wp2_with (first
      | (refine wp_loadW rfl 175 (.tmp 5) rfl w.heap.size rfl hRow (by with_reducible assumption) rfl ?_)
      | (refine wp_mput rfl (.tmp 6) (.tmp 7) (.tmp 8) rfl rfl rfl rfl he hst hm0 ?_;intro es1 ck1 he1 hs1;have hm1:=hm0.set es1 ck1;have hg1:=grownBy_trans hg0 (setMap_grown hm0 es1 ck1);have hb1:=hb.setMap hm0 es1 ck1)
      | (refine wp_exec rfl (x_zeroSec rfl) ?_)
      | (refine wp_exec rfl (x_eqSec HL.out hz rfl rfl rfl) ?_;rw[hq])
      | (refine wp_mdel rfl (.tmp 12) (.tmp 13) rfl rfl rfl he1 hs1 hm1 ?_;intro es2 he2 hs2;have hm2:=hm1.set es2 ck1;have hg2:=grownBy_trans hg1 (setMap_grown hm1 es2 ck1)))
    go_end0
    refine⟨⟨_,rfl⟩,⟨hlen,es2,ck1,hm2,?_,hs2⟩,hg2⟩
    rw[HZ.out,<-spar_del (some l)]
    exact he2
  · have hq:(l == zer64)=false:=by simpa using hlz
    have HZ:=Lib.hid hlz
    clear hlz
    go_wp2_with (first
      | (refine wp_loadW rfl 175 (.tmp 5) rfl w.heap.size rfl hRow (by with_reducible assumption) rfl ?_)
      | (refine wp_mput rfl (.tmp 6) (.tmp 7) (.tmp 8) rfl rfl rfl rfl he hst hm0 ?_;intro es1 ck1 he1 hs1;have hm1:=hm0.set es1 ck1;have hg1:=grownBy_trans hg0 (setMap_grown hm0 es1 ck1);have hb1:=hb.setMap hm0 es1 ck1)
      | (refine wp_exec rfl (x_zeroSec rfl) ?_)
      | (refine wp_exec rfl (x_eqSec HL.out hz rfl rfl rfl) ?_;rw[hq]))
    go_end0
    refine⟨⟨_,rfl⟩,⟨hlen,es1,ck1,hm1,?_,hs1⟩,hg1⟩
    rw[<-spar_set HZ.out]
    exact he1
theorem mclone_gives (w:World)(r:Nat)(g:Nat->List UInt8)(h:MapF w r g) :
    Calls Tryz.prog 176 #[.map (some r)] w fun e w'=>e = .returned (.map (some w.heap.size))/\MapF w' w.heap.size g/\Below w.heap.size w w':=by
  obtain⟨es,clock,hm,he⟩:=h.lies
  have hm':w.heap[r]? = some (.map es clock):=hm
  have hnew:MapF (w.alloc (.map es clock)) w.heap.size g:=⟨h.len,es,clock,heap_alloc_new w _,he⟩
  have hB:Below w.heap.size w (w.alloc (.map es clock)):=(Below.refl _ _).alloc (Nat.le_refl _) _
  go_enter Tryz.func176,Tryz.ntmps176
  have hq:=fun W=>run_eql_map_nil (P:=Tryz.prog) W 100 _ _ (some r) Tryz.underlying100
  go_wp2_with fail
  rw[run_callFunc_extern Tryz.func196 (by kernel_rfl) (by kernel_rfl) (by kernel_rfl) (e:=Extern.MapsClone.clone) (by kernel_rfl),run_mclone w 100 hm']
  simp only[Result.andThen]
  rw[Oper.upon_value]
  go_wp2
  rw[run_typeAssert_map _ 100 20 _ _ _ Tryz.underlying100]
  simp only[Result.andThen]
  rw[Oper.upon_value]
  go_wp2
  go_ret
  exact⟨rfl,hnew,hB⟩
def lsC (x:Nat×List UInt8):List Value:=.int .i64 (x.1:Int)::x.2.map b8
def flC (xs:List (Nat×List UInt8)):List Value:=(xs.map lsC).flatten
def Wide (xs:List (Nat×List UInt8)):Prop:=∀x∈xs,x.2.length=64
theorem lsC_length {x:Nat×List UInt8}(h:x.2.length=64):(lsC x).length=65:=by simp[lsC,h]
theorem flC_length {xs:List (Nat×List UInt8)}(h:Wide xs):(flC xs).length=xs.length*65:=by
  induction xs with
  | nil=>rfl
  | cons x xs ih =>
    have h1:=ih (fun y hy=>h y (by simp[hy]))
    have h2:=lsC_length (h x (by simp))
    have e:flC (x::xs)=lsC x++flC xs:=rfl
    rw[e,List.length_append,h1,h2,List.length_cons]
    omega
theorem flC_append (xs ys:List (Nat×List UInt8)):flC (xs++ys)=flC xs++flC ys:=by simp[flC]
theorem flC_elem {xs:List (Nat×List UInt8)}(h:Wide xs)(j:Nat)(hj:j<xs.length):((flC xs).drop (j*65)).take 65=lsC xs[j]:=by
  have e:flC xs=flC (xs.take j)++(lsC xs[j] ++ flC (xs.drop (j+1))):=by
    have e2:lsC xs[j] ++ flC (xs.drop (j+1))=flC (xs[j] :: xs.drop (j+1)):=rfl
    rw[e2,<-flC_append,<-List.drop_eq_getElem_cons hj,List.take_append_drop]
  have hl:(flC (xs.take j)).length=j*65:=by
    rw[flC_length (fun x hx=>h x (List.mem_of_mem_take hx)),List.length_take]
    congr 1
    omega
  rw[e,<-hl,List.drop_left]
  have h5:=lsC_length (h xs[j] (List.getElem_mem hj))
  rw[List.take_append_of_le_length (by omega),List.take_of_length_le (by omega)]
theorem lsC_one (x:Nat×List UInt8):∀v∈lsC x,v.oneCell'=true:=by
  intro v hv
  simp[lsC] at hv
  rcases hv with rfl|⟨y,_,rfl⟩<;>rfl
theorem flC_one (xs:List (Nat×List UInt8)):∀v∈flC xs,v.oneCell'=true:=by
  intro v hv
  unfold flC at hv
  obtain⟨l,hl,hv⟩:=List.mem_flatten.1 hv
  obtain⟨x,_,rfl⟩:=List.mem_map.1 hl
  exact lsC_one _ v hv
def zeroLs:Value:=.agg (lsC (0,zer64)).toArray
theorem rowLoose:RowTy Tryz.prog 214 65:=⟨⟨_,Tryz.underlying214,rfl⟩,by kernel_rfl⟩
theorem elLoose:ElT 101 214 65 72 zeroLs:=⟨Tryz.underlying101,by kernel_rfl,by kernel_rfl,by decide⟩
def InW (w:World)(B:Nat)(A:Option Addr)(c:Nat)(xs:List (Nat×List UInt8)):Prop:=Wide xs/\InG w B 65 A xs.length c (flC xs)
theorem InW.grow {w w':World}{A:Option Addr}{c:Nat}{xs:List (Nat×List UInt8)}(h:InW w w.heap.size A c xs)(hb:Below w.heap.size w w'):InW w' w'.heap.size A c xs:=⟨h.1,h.2.grow hb⟩
theorem InW.mt (w:World)(B:Nat):InW w B none 0 []:=⟨fun x h=>by simp at h,InG.mt _ _ _⟩
theorem InW.elem {w:World}{B g o c:Nat}{xs:List (Nat×List UInt8)}(h:InW w B (some ⟨g,o,none⟩) c xs)(j:Nat)(hj:j<xs.length):w.rangeAt g (o+j*65) (lsC xs[j]):=by
  have:=h.2.elem j hj
  rw[flC_elem h.1 j hj] at this
  exact this
def dkC (r:Nat)(many:Int)(A:Option Addr)(n c:Nat)(left:Int)(stops:Bool):Array Value:=#[.map (some r),.int .i64 many,.slice A n c,.int .i64 left,.bool stops]
structure DkIs (w:World)(p:Nat)(many:Nat)(g:Nat->List UInt8)(xs:List (Nat×List UInt8))(left:Int)(stops:Bool):Prop where
  has:∃r A c,BlkIs w p 103 (dkC r many A xs.length c left stops)/\MapF w r g/\InW w w.heap.size A c xs
theorem DkIs.lt {w:World}{p many:Nat}{g:Nat->List UInt8}{xs:List (Nat×List UInt8)}{left:Int}{stops:Bool}(h:DkIs w p many g xs left stops):p<w.heap.size:=by
  obtain⟨r,A,c,hb,_⟩:=h.has
  exact hb.lt
theorem DkIs.grow {w w':World}{p many:Nat}{g:Nat->List UInt8}{xs:List (Nat×List UInt8)}{left:Int}{stops:Bool}(h:DkIs w p many g xs left stops)(hB:Below w.heap.size w w'):DkIs w' p many g xs left stops:=by
  obtain⟨r,A,c,hb,hm,hx⟩:=h.has
  exact⟨r,A,c,hb.below hB hb.lt,hm.grow hB,hx.grow hB⟩
theorem InW.notDisk {w:World}{B q g o c:Nat}{xs:List (Nat×List UInt8)}{cs:Array Value}{T:TypeId}(h:InW w B (some ⟨g,o,none⟩) c xs)(h0:0<xs.length)(hb:BlkIs w q T cs)(hs:cs.size<=64):g≠q:=by
  intro e
  subst e
  have hr:=h.elem 0 h0
  have hl:=lsC_length (h.1 xs[0] (List.getElem_mem h0))
  have:=hr 64 ((lsC xs[0])[64]'(by omega)) (List.getElem?_eq_getElem (by omega))
  rw[hb.cell] at this
  have h2:=(Array.getElem?_eq_some_iff.1 this).1
  omega
theorem DkIs.other {w w':World}{p q many:Nat}{g:Nat->List UInt8}{xs:List (Nat×List UInt8)}{left:Int}{stops:Bool}(h:DkIs w p many g xs left stops){cs:Array Value}{T:TypeId}(hq:BlkIs w q T cs)(hs:cs.size<=64)(hne:p≠q)(hg:w.grownBy w' (some q)):DkIs w' p many g xs left stops:=by
  obtain⟨r,A,c,hb,hm,hw,hx⟩:=h.has
  have hrq:r≠q:=fun e=>by
    subst e
    obtain⟨es,ck,h1,_⟩:=hm.lies
    have h2:w.heap[r]? = some (.cells cs T (0,0)):=hq
    have h1':w.heap[r]? = some (.map es ck):=h1
    rw[h1'] at h2
    cases h2
  refine⟨r,A,c,hb.grown hg (fun e=>hne (by injection e)),hm.keep (hg.block r hm.lt (fun e=>hrq (by injection e))),hw,?_⟩
  refine⟨hx.le,hx.max,hx.nil,hx.len,hx.one,fun h0 => ?_⟩
  obtain⟨b,o,e,hbl,hr⟩:=hx.lies h0
  subst e
  have hbq:b≠q:=InW.notDisk (w:=w) (B:=w.heap.size) (c:=c) ⟨hw,hx⟩ h0 hq hs
  exact⟨b,o,rfl,Nat.lt_of_lt_of_le hbl hg.size,fun j v hj=>(World.cell?_of_block (hg.block b hbl (fun e=>hbq (by injection e)))).trans (hr j v hj)⟩
theorem lclone_gives (w:World)(A:Option Addr)(c:Nat)(xs:List (Nat×List UInt8))(h:InW w w.heap.size A c xs)(hl:xs.length<=1000000) :
    Calls Tryz.prog 175 #[.slice A xs.length c] w fun e w'=>∃v,e = .returned v/\w'.ownsRow w.heap.size 214 65 v xs.length (flC xs)/\Below w.heap.size w w':=by
  obtain⟨hw,hx⟩:=h
  rcases A with _|ad
  · have hc:=hx.nil rfl
    subst hc
    have hle:=hx.le
    obtain rfl:xs=[]:=List.eq_nil_of_length_eq_zero (by omega)
    have hq:=fun W=>run_eq_nil (P:=Tryz.prog) W 101 214 none 0 0 Tryz.underlying101
    go_enter Tryz.func175,Tryz.ntmps175
    go_wp2
    go_ret
    exact⟨_,rfl,World.ownsRow_nil _ _ _ _,Below.refl _ _⟩
  · have e0:(w.alloc (.cells #[] 214)).ownsRow w.heap.size 214 65 (.slice (some ⟨w.heap.size,0,none⟩) 0 0) 0 []:=World.ownsRow_lit w #[] 0 (Nat.le_refl _) (by unfold maxLen;omega) rfl
    have hB0:Below w.heap.size w (w.alloc (.cells #[] 214)):=(Below.refl _ w).alloc (Nat.le_refl _) _
    have h1:=hx.below hB0
    have hq:=fun W=>run_eq_nil (P:=Tryz.prog) W 101 214 (some ad) xs.length c Tryz.underlying101
    go_enter Tryz.func175,Tryz.ntmps175
    go_wp2_with (at_builtin;refine wp_appG rfl elLoose (.tmp 5) (.tmp 6) rfl w.heap.size (.slice (some ⟨w.heap.size,0,none⟩) 0 0) 0 [] rfl e0 _ (some ad) xs.length c (flC xs) rfl h1 (by unfold maxLen;omega) (by omega) (by simp) ?_;intro v1 w1 own1 hg1)
    go_ret
    rw[List.nil_append,Nat.zero_add] at own1
    exact⟨_,rfl,own1,hB0.trans (grown_below hg1 hB0.size (ownG_ge e0))⟩
section
variable (w:World)(p many:Nat)(g:Nat->List UInt8)(xs:List (Nat×List UInt8))(left:Int)(stops:Bool)
theorem none_gives (h:DkIs w p many g xs left stops):Calls Tryz.prog 109 #[.pointer (some ⟨p,0,none⟩)] w fun e w'=>e = .returned (.bool false)/\w=w':=by
  obtain⟨r,A,c,hb,hm,hx⟩:=h.has
  have c0:w.cell? ⟨p,0,none⟩=some (.map (some r)):=by rw[hb.cell];rfl
  have hq:=fun W=>run_eql_map_nil (P:=Tryz.prog) W 100 _ _ (some r) Tryz.underlying100
  go_enter Tryz.func109,Tryz.ntmps109
  go_wp2
  go_ret
  exact⟨rfl,rfl⟩
theorem stopped_gives (h:DkIs w p many g xs left stops):Calls Tryz.prog 130 #[.pointer (some ⟨p,0,none⟩)] w fun e w'=>e = .returned (.bool (stops && left == 0))/\w=w':=by
  have HN:=none_gives w p many g xs left stops h
  obtain⟨r,A,c,hb,hm,hx⟩:=h.has
  have c3:w.cell? ⟨p,3,none⟩=some (.int .i64 left):=by rw[hb.cell];rfl
  have c4:w.cell? ⟨p,4,none⟩=some (.bool stops):=by rw[hb.cell];rfl
  cases stops
  all_goals
    go_enter Tryz.func130,Tryz.ntmps130
    go_wp2_with (go_at_call 109;refine HN.mono ?_;rintro e w' ⟨rfl,rfl⟩)
    go_ret
    exact⟨by simp,rfl⟩
theorem done_gives (h:DkIs w p many g xs left stops)(hl : -1000000<=left)(hl2:left<=9223372036854775807) :
    Calls Tryz.prog 143 #[.pointer (some ⟨p,0,none⟩)] w fun e w'=>(∃v,e = .returned v)/\DkIs w' p many g xs (if stops then left - 1 else left) stops/\w.grownBy w' (some p)/\w'.cell? ⟨p,2,none⟩=w.cell? ⟨p,2,none⟩:=by
  have hDk:=h
  obtain⟨r,A,c,hb,hm,hx⟩:=h.has
  have c3:w.cell? ⟨p,3,none⟩=some (.int .i64 left):=by rw[hb.cell];rfl
  have c4:w.cell? ⟨p,4,none⟩=some (.bool stops):=by rw[hb.cell];rfl
  have f3:=hb.free 3
  have hw:IntKind.i64.wrap (left - 1)=left - 1:=wrap_i64_fr _ (by omega) (by omega)
  cases stops with
  | false =>
    go_enter Tryz.func143,Tryz.ntmps143
    go_wp2
    go_end0
    exact⟨⟨_,rfl⟩,hDk,World.grownBy.refl _ _,rfl⟩
  | true =>
    go_enter Tryz.func143,Tryz.ntmps143
    go_wp2
    go_end0
    have hg:=setCell_grownBy w ⟨p,3,none⟩ (.int .i64 (left - 1))
    refine⟨⟨_,rfl⟩,⟨r,A,c,hb.set 3 _,hm.setCell _ _,hx.1,?_⟩,hg,World.cell?_setCell_other _ _ _ _ (by simp)⟩
    refine⟨hx.2.le,hx.2.max,hx.2.nil,hx.2.len,hx.2.one,fun h0 => ?_⟩
    obtain⟨b,o,e,hbl,hr⟩:=hx.2.lies h0
    subst e
    have hbq:b≠p:=InW.notDisk hx h0 hb (by simp[dkC])
    exact⟨b,o,rfl,by simpa using hbl,fun j v hj=>(World.cell?_of_block (hg.block b hbl (fun e=>hbq (by injection e)))).trans (hr j v hj)⟩
end
structure Ask where
  f:Nat
  bd:Array Value
  lb:Array Value
  e:Int
  b:Bool
def Ask.fn (x:Ask):Value:=.func (.func x.f) x.bd x.lb
def askC (l:List Ask):List Value:=(l.map fun x=>[x.fn,.int .i64 x.e]).flatten
theorem askC_cons (x:Ask)(l:List Ask):askC (x::l)=x.fn :: .int .i64 x.e::askC l:=rfl
theorem askC_length (l:List Ask):(askC l).length=l.length*2:=by
  induction l with
  | nil=>rfl
  | cons x l ih=>rw[askC_cons,List.length_cons,List.length_cons,ih,List.length_cons];omega
theorem askC_get (l:List Ask)(k:Nat)(hk:k<l.length):(askC l)[k*2]? = some l[k].fn/\(askC l)[k*2+1]? = some (.int .i64 l[k].e):=by
  induction l generalizing k with
  | nil=>simp at hk
  | cons x l ih =>
    cases k with
    | zero=>exact⟨rfl,rfl⟩
    | succ k =>
      have:=ih k (by simpa using hk)
      rw[askC_cons]
      have e:(k+1)*2=k*2+1+1:=by omega
      rw[e]
      simpa using this
theorem askC_one (l:List Ask):∀v∈askC l,v.oneCell'=true:=by
  intro v hv
  unfold askC at hv
  obtain⟨m,hm,hv⟩:=List.mem_flatten.1 hv
  obtain⟨x,_,rfl⟩:=List.mem_map.1 hm
  simp at hv
  rcases hv with rfl|rfl<;>rfl
def firstE:List Ask->Int
  | []=>0
  | x::l=>if x.b then x.e else firstE l
theorem firstE_at (l:List Ask)(k:Nat)(hk:k<l.length)(hno:∀j (h:j<l.length),j<k->l[j].b=false)(hb:l[k].b=true):firstE l=l[k].e:=by
  induction l generalizing k with
  | nil=>simp at hk
  | cons x l ih =>
    cases k with
    | zero=>simp at hb;simp[firstE,hb]
    | succ k =>
      have h0:=hno 0 (by simp) (by omega)
      simp at h0
      have:=ih k (by simpa using hk) (fun j h hj=>by have:=hno (j+1) (by simpa using h) (by omega);simpa using this) (by simpa using hb)
      simp[firstE,h0,this]
theorem firstE_none (l:List Ask)(hno:∀j (h:j<l.length),l[j].b=false):firstE l=0:=by
  induction l with
  | nil=>rfl
  | cons x l ih =>
    have h0:=hno 0 (by simp)
    simp at h0
    have:=ih (fun j h=>by have:=hno (j+1) (by simpa using h);simpa using this)
    simp[firstE,h0,this]
theorem elAsk:ElT 209 171 2 16 (.agg #[.nilFunc,.int .i64 0]):=⟨Tryz.underlying209,by kernel_rfl,by kernel_rfl,by decide⟩
theorem rowAsk:RowTy Tryz.prog 171 2:=⟨⟨_,Tryz.underlying171,rfl⟩,by kernel_rfl⟩
theorem ask_one (f:Nat)(bd lb:Array Value)(e:Int):∀v∈(#[.func (.func f) bd lb,.int .i64 e]:Array Value).toList,v.oneCell'=true:=by
  intro v hv
  simp at hv
  rcases hv with rfl|rfl<;>rfl
def Answers (w:World)(l:List Ask):Prop:=∀x∈l,(∀args w,(callFunc x.f args).run Tryz.prog w = .ok (.enter x.f args) w)/\∀W,Below w.heap.size w W->Calls Tryz.prog x.f (x.bd++x.lb) W fun e w'=>e = .returned (.bool x.b)/\Below W.heap.size W w'
def AskNone (e:Int)(a:Act):Prop:=∃u0 u1 u2 u3 u5 u6 u7 u8 u9 u10 u11 u12 u13 u14 u15 u16 u17 u18 u19 u20 u21 u22 u23 u24,a = { tmps:=#[u0,u1,u2,u3,.int .i64 e,u5,u6,u7,u8,u9,u10,u11,u12,u13,u14,u15,u16,u17,u18,u19,u20,u21,u22,u23,u24],defers:=[] }
theorem asked_gives (w:World)(p many:Nat)(g:Nat->List UInt8)(xs:List (Nat×List UInt8))(left:Int)(stops:Bool)(hD:DkIs w p many g xs left stops)(l:List Ask)(A:Option Addr)(c:Nat)
    (hin:InG w w.heap.size 2 A l.length c (askC l)) (hl:l.length<=100) (hok:Answers w l) :
    Calls Tryz.prog 87 #[.pointer (some ⟨p,0,none⟩),.slice A l.length c] w fun e w'=>e = .returned (.int .i64 (firstE l))/\Below w.heap.size w w':=by
  obtain⟨a0,ha0⟩:∃a0:Ask,a0=⟨109,#[.pointer (some ⟨p,0,none⟩)],#[],1,false⟩:=⟨_,rfl⟩
  have hB0:Below w.heap.size w (w.alloc (.cells #[.func (.func 109) #[.pointer (some ⟨p,0,none⟩)] #[],.int .i64 1] 171)):=(Below.refl _ w).alloc (Nat.le_refl _) _
  have own0:(w.alloc (.cells #[.func (.func 109) #[.pointer (some ⟨p,0,none⟩)] #[],.int .i64 1] 171)).ownsRow w.heap.size 171 2 (.slice (some ⟨w.heap.size,0,none⟩) 1 1) 1 (askC [a0]):=by
    rw[ha0]
    exact World.ownsRow_lit w #[.func (.func 109) #[.pointer (some ⟨p,0,none⟩)] #[],.int .i64 1] 1 (Nat.le_refl _) (by unfold maxLen;omega) rfl
  have hin0:=hin.below hB0
  have hall:firstE (a0::l)=firstE l:=by rw[ha0];rfl
  have hok0:Answers w (a0::l):=by
    intro x hx
    rcases List.mem_cons.1 hx with rfl|hx
    · rw[ha0]
      exact⟨enters_of Tryz.func109 (by kernel_rfl) rfl,fun W hB=>(none_gives W p many g xs left stops (hD.grow hB)).mono fun e w' ⟨h1,h2⟩=>⟨h1,h2▸Below.refl _ _⟩⟩
    · exact hok x hx
  rw[<-hall]
  obtain⟨v,hv⟩:∃v,v=firstE (a0::l):=⟨_,rfl⟩
  rw[<-hv]
  have hV:=Lib.hid hv
  clear hall hok hD hv
  go_enter Tryz.func87,Tryz.ntmps87
  go_wp2_with fail
  refine wp_scope_jumps (rest:=?rest) 0 (fun a w'=>AskNone v a/\Below w.heap.size w w') (fun _ _=>0) ?hf ?first ?pass
  case hf=>exact rfl
  case pass =>
    rintro a w' ⟨⟨u0,u1,u2,u3,u5,u6,u7,u8,u9,u10,u11,u12,u13,u14,u15,u16,u17,u18,u19,u20,u21,u22,u23,u24,rfl⟩,hB⟩
    go_wp2
    simp only[Exit.jump]
    go_wp2
    go_ret
    exact⟨rfl,hB⟩
  case first =>
    go_wp2_with (at_builtin;refine wp_appG rfl elAsk (.tmp 10) (.tmp 11) rfl w.heap.size (.slice (some ⟨w.heap.size,0,none⟩) 1 1) 1 (askC [a0]) rfl own0 _ A l.length c (askC l) rfl hin0 (by unfold maxLen;omega) (by omega) (by simp) ?_;intro v1 w1 own1 hg1;have hB1:=hB0.trans (grown_below hg1 hB0.size (ownG_ge own0));obtain⟨A1,c1,rfl,hin1⟩:=ownG_in own1 (fun v hv=>by rcases List.mem_append.1 hv with h|h;exact askC_one _ v h;exact askC_one _ v h))
    have hAll:∀k,k<1+l.length->k<(a0::l).length:=fun k h=>by simp;omega
    have hAll2:∀k,k<(a0::l).length->k<1+l.length:=fun k h=>by simp at h;omega
    have hcat:askC [a0] ++ askC l=askC (a0::l):=rfl
    rw[hcat] at hin1
    clear own0 own1 hg1 hin0 hin hcat ha0
    generalize a0::l=qs at *
    go_loopw [14] (fun i wr=>∃k:Nat,k<=1+l.length/\i = .int .i64 k/\Hid (∀j (h:j<qs.length),j<k->qs[j].b=false)/\Below w1.heap.size w1 wr) (fun i _=>1+l.length - (intOf i).toNat)
    case atStart=>exact⟨0,by omega,rfl,Lib.hid (fun j h hj=>by omega),Below.refl _ _⟩
    case round =>
      obtain⟨k,hk,rfl,hno,hBr⟩:=hrel
      by_cases hlt:k<1+l.length
      · obtain⟨g1,o1,rfl,hg1,hr⟩:=hin1.lies (by omega)
        have hka:=hAll k hlt
        obtain⟨q1,q2⟩:=askC_get qs k (hAll k hlt)
        have c1:wr.cell? ⟨g1,o1+k*2,none⟩=some qs[k].fn:=(hBr.cell (p:=⟨g1,o1+k*2,none⟩) hg1).trans (hr _ _ q1)
        have c2:wr.cell? ⟨g1,o1+k*2+1,none⟩=some (.int .i64 qs[k].e):=(hBr.cell (p:=⟨g1,o1+k*2+1,none⟩) hg1).trans (hr _ _ q2)
        obtain⟨hent,hcall⟩:=hok0 qs[k] (List.getElem_mem (hAll k hlt))
        have hyes:qs[k].b=true->v=qs[k].e:=fun h=>by rw[hV.out];exact firstE_at _ k (hAll k hlt) hno.out h
        have hstep:qs[k].b=false->∀j (h:j<qs.length),j<k+1->qs[j].b=false:=fun hb j h hj=>by
          by_cases e:j=k
          · subst e;exact hb
          · exact hno.out j h (by omega)
        have hwk:IntKind.i64.wrap ((k:Int)+1)=(k:Int)+1:=wrap_i64_fr _ (by omega) (by omega)
        obtain⟨x,hx⟩:∃x,x=qs[k]:=⟨_,rfl⟩
        rw[<-hx] at c1 c2 hent hcall hyes
        have hst:x.b=false->Hid (∀j (h:j<qs.length),j<k+1->qs[j].b=false):=fun h=>Lib.hid (hstep (by rw[<-hx];exact h))
        unfold Ask.fn at c1
        clear hr q1 q2 hstep hx hno
        obtain⟨xf,xb,xl,xe,xr⟩:=x
        simp only at c1 c2 hent hcall hyes hst
        have hBw:Below w.heap.size w wr:=hB1.trans (hBr.mono hB1.size)
        have nb:=(BlkIs.new wr 171 #[.nilFunc,.int .i64 0]).setRow #[.func (.func xf) xb xl,.int .i64 xe]
        have nB:Below w1.heap.size w1 ((wr.alloc (.cells #[.nilFunc,.int .i64 0] 171)).setRow wr.heap.size #[.func (.func xf) xb xl,.int .i64 xe]):=below_setRow (hBr.alloc hBr.size _) hBr.size _
        have d0:((wr.alloc (.cells #[.nilFunc,.int .i64 0] 171)).setRow wr.heap.size #[.func (.func xf) xb xl,.int .i64 xe]).cell? ⟨wr.heap.size,0,none⟩=some (.func (.func xf) xb xl):=by rw[nb.cell];rfl
        have d1:((wr.alloc (.cells #[.nilFunc,.int .i64 0] 171)).setRow wr.heap.size #[.func (.func xf) xb xl,.int .i64 xe]).cell? ⟨wr.heap.size,1,none⟩=some (.int .i64 xe):=by rw[nb.cell];rfl
        have hC:=hcall _ (hB1.trans (nB.mono hB1.size))
        cases xr with
        | true =>
          have hv:=hyes rfl
          subst hv
          clear hyes hst hcall
          go_wp2_with (refine wp_storeW rfl 171 (.tmp 6) (.tmp 17) rfl wr.heap.size rfl rfl rowAsk (BlkIs.new wr 171 #[.nilFunc,.int .i64 0]) (by rfl) (by rfl) (ask_one _ _ _ _) ?_)
          refine hC.mono ?_
          rintro e w2 ⟨rfl,hB2⟩
          go_wp2
          go_step3
          exact⟨rfl,by repeat (first|exact rfl|apply Exists.intro),hB1.trans ((nB.trans (hB2.mono nB.size)).mono hB1.size)⟩
        | false =>
          have hN:=hst rfl
          clear hyes hst hcall
          go_wp2_with (refine wp_storeW rfl 171 (.tmp 6) (.tmp 17) rfl wr.heap.size rfl rfl rowAsk (BlkIs.new wr 171 #[.nilFunc,.int .i64 0]) (by rfl) (by rfl) (ask_one _ _ _ _) ?_)
          refine hC.mono ?_
          rintro e w2 ⟨rfl,hB2⟩
          go_wp2
          exact⟨⟨k+1,by omega,by simp,hN,nB.trans (hB2.mono nB.size)⟩,by simp[intOf];omega⟩
      · obtain rfl:k=1+l.length:=by omega
        have h0:v=0:=by rw[hV.out];exact firstE_none _ (fun j h=>hno.out j h (hAll2 j h))
        subst h0
        go_wp2
        simp only[Exit.jump]
        go_ret
        exact⟨rfl,hB1.trans (hBr.mono hB1.size)⟩
theorem new_gives (w:World)(n:Nat)(h1:1<=n)(h2:n<=40000) :
    Calls Tryz.prog 15 #[.int .i64 (n:Int)] w fun e w'=>∃p,e = .returned (.tuple #[.pointer (some ⟨p,0,none⟩),.int .i64 0])/\w.heap.size<=p/\DkIs w' p n (fun _=>zer64) [] 0 false/\Below w.heap.size w w':=by
  have a1:¬ (n:Int)<1:=by omega
  have a2:¬ (40000:Int)<(n:Int):=by omega
  have hm:MapIs (w.alloc (.map #[] 0)) w.heap.size #[] 0:=heap_alloc_new w _
  have hB:Below w.heap.size w (w.alloc (.map #[] 0)):=(Below.refl _ w).alloc (Nat.le_refl _) _
  have hB2:=hB.alloc hB.size (.cells (dkC w.heap.size n none 0 0 0 false) 103)
  have hb:=BlkIs.new (w.alloc (.map #[] 0)) 103 (dkC w.heap.size n none 0 0 0 false)
  unfold dkC at *
  go_enter Tryz.func15,Tryz.ntmps15
  go_wp2_with (refine wp_makeMap rfl rfl ?_;intro _)
  refine bodyPost_ret (results_tmp2 rfl _ _ _) rfl ⟨w.heap.size+1,?_,by omega,?_,hB2⟩
  · simp
  · rw[World.size_alloc] at hb
    refine⟨w.heap.size,none,0,hb,⟨fun _=>by decide,#[],0,(Below.heap_alloc _ _ _ hm.lt).trans hm,?_⟩,InW.mt _ _⟩
    have:spar (fun _=>zer64)=fun _=>none:=by funext k;simp[spar]
    rw[this]
    exact⟨Ents.empty,MapKept.stamped_empty 0⟩
section
variable (w:World)(p many:Nat)(g:Nat->List UInt8)(xs:List (Nat×List UInt8))(left:Int)(stops:Bool)
theorem there_gives (at_:Int):Calls Tryz.prog 88 #[.pointer (some ⟨p,0,none⟩),.int .i64 at_] w fun e w' =>
      e = .returned (.agg #[.func (.func 129) #[] #[.pointer (some ⟨w.heap.size+1,0,none⟩),.pointer (some ⟨w.heap.size,0,none⟩)],.int .i64 4])/\BlkIs w' w.heap.size 29 #[.pointer (some ⟨p,0,none⟩)]/\BlkIs w' (w.heap.size+1) 3 #[.int .i64 at_]/\Below w.heap.size w w':=by
  have hB:Below w.heap.size w (((w.alloc (.cells #[.pointer (some ⟨p,0,none⟩)] 29)).alloc (.cells #[.int .i64 at_] 3)).alloc (.cells #[.nilFunc,.int .i64 0] 171)):=(((Below.refl _ w).alloc (Nat.le_refl _) _).alloc (by simp) _).alloc (by simp;omega) _
  have b0:=((BlkIs.new w 29 #[.pointer (some ⟨p,0,none⟩)]).alloc (.cells #[.int .i64 at_] 3)).alloc (.cells #[.nilFunc,.int .i64 0] 171)
  have b1:=(BlkIs.new (w.alloc (.cells #[.pointer (some ⟨p,0,none⟩)] 29)) 3 #[.int .i64 at_]).alloc (.cells #[.nilFunc,.int .i64 0] 171)
  have b2:=BlkIs.new ((w.alloc (.cells #[.pointer (some ⟨p,0,none⟩)] 29)).alloc (.cells #[.int .i64 at_] 3)) 171 #[.nilFunc,.int .i64 0]
  rw[World.size_alloc] at b1
  rw[World.size_alloc,World.size_alloc] at b2
  go_enter Tryz.func88,Tryz.ntmps88
  go_wp2_with (refine wp_storeW rfl 171 (.tmp 4) (.tmp 6) rfl (w.heap.size+1+1) rfl rfl rowAsk b2 (by rfl) (by rfl) (ask_one _ _ _ _) ?_)
  refine bodyPost_ret_by (results_cellW 4 rfl rfl rowAsk (b2.setRow _) (by rfl)) rfl ⟨rfl,b0.setRow_ne (by omega) _,b1.setRow_ne (by omega) _,below_setRow hB (by omega) _⟩
theorem goes_gives:Calls Tryz.prog 89 #[.pointer (some ⟨p,0,none⟩)] w fun e w' =>
      e = .returned (.agg #[.func (.func 130) #[.pointer (some ⟨p,0,none⟩)] #[],.int .i64 140])/\Below w.heap.size w w':=by
  have hB:Below w.heap.size w (w.alloc (.cells #[.nilFunc,.int .i64 0] 171)):=(Below.refl _ w).alloc (Nat.le_refl _) _
  have b2:=BlkIs.new w 171 #[.nilFunc,.int .i64 0]
  go_enter Tryz.func89,Tryz.ntmps89
  go_wp2_with (refine wp_storeW rfl 171 (.tmp 2) (.tmp 5) rfl w.heap.size rfl rfl rowAsk b2 (by rfl) (by rfl) (ask_one _ _ _ _) ?_)
  refine bodyPost_ret_by (results_cellW 2 rfl rfl rowAsk (b2.setRow _) (by rfl)) rfl ⟨rfl,below_setRow hB (Nat.le_refl _) _⟩
theorem write1_gives (b:Nat)(A:Option Addr)(n c:Nat)(h:BlkIs w b 44 #[.slice A n c]):Calls Tryz.prog 174 #[.pointer (some ⟨b,0,none⟩)] w fun e w'=>e = .returned (.bool ((n:Int) != 64))/\Below w.heap.size w w':=by
  have hc:=h.boxed
  go_enter Tryz.func174,Tryz.ntmps174
  go_wp2
  go_ret
  exact⟨rfl,Below.refl _ _⟩
theorem there1_gives (at_:Int)(s0 s1:Nat)(h:DkIs w p many g xs left stops)(h0:BlkIs w s0 29 #[.pointer (some ⟨p,0,none⟩)])(h1:BlkIs w s1 3 #[.int .i64 at_]) :
    Calls Tryz.prog 129 #[.pointer (some ⟨s1,0,none⟩),.pointer (some ⟨s0,0,none⟩)] w fun e w'=>e = .returned (.bool (decide (at_<0) || decide ((many:Int)<=at_)))/\Below w.heap.size w w':=by
  obtain⟨r,A,c,hb,hm,hx⟩:=h.has
  have c1:w.cell? ⟨p,1,none⟩=some (.int .i64 (many:Int)):=by rw[hb.cell];rfl
  have d0:=h0.boxed
  have d1:=h1.boxed
  rcases ha:decide (at_<0) with _|_
  · rw[Bool.false_or]
    go_enter Tryz.func129,Tryz.ntmps129
    go_wp2_with fail
    go_region
    go_wp2
    go_ret
    exact⟨by simp[ha],(Below.refl _ w).drew⟩
  · rw[Bool.true_or]
    go_enter Tryz.func129,Tryz.ntmps129
    go_wp2_with fail
    go_region
    go_wp2
    go_ret
    exact⟨by simp,(Below.refl _ w).drew⟩
def askLen (b n:Nat):Ask:=⟨174,#[],#[.pointer (some ⟨b,0,none⟩)],2,(n:Int) != 64⟩
def askThere (s0 s1 many:Nat)(at_:Int):Ask:=⟨129,#[],#[.pointer (some ⟨s1,0,none⟩),.pointer (some ⟨s0,0,none⟩)],4,decide (at_<0) || decide ((many:Int)<=at_)⟩
def askGoes (p:Nat)(left:Int)(stops:Bool):Ask:=⟨130,#[.pointer (some ⟨p,0,none⟩)],#[],140,stops && left == 0⟩
def Answer (w:World)(x:Ask):Prop:=(∀args w,(callFunc x.f args).run Tryz.prog w = .ok (.enter x.f args) w)/\∀W,Below w.heap.size w W->Calls Tryz.prog x.f (x.bd++x.lb) W fun e w'=>e = .returned (.bool x.b)/\Below W.heap.size W w'
theorem ans_len (b:Nat)(A:Option Addr)(n c:Nat)(h:BlkIs w b 44 #[.slice A n c]):Answer w (askLen b n) :=
  ⟨enters_of Tryz.func174 (by kernel_rfl) rfl,fun W hB=>write1_gives W b A n c (h.below hB h.lt)⟩
theorem ans_there (at_:Int)(s0 s1:Nat)(h:DkIs w p many g xs left stops)(h0:BlkIs w s0 29 #[.pointer (some ⟨p,0,none⟩)])(h1:BlkIs w s1 3 #[.int .i64 at_]):Answer w (askThere s0 s1 many at_) :=
  ⟨enters_of Tryz.func129 (by kernel_rfl) rfl,fun W hB=>there1_gives W p many g xs left stops at_ s0 s1 (h.grow hB) (h0.below hB h0.lt) (h1.below hB h1.lt)⟩
theorem ans_goes (h:DkIs w p many g xs left stops):Answer w (askGoes p left stops) :=
  ⟨enters_of Tryz.func130 (by kernel_rfl) rfl,fun W hB=>(stopped_gives W p many g xs left stops (h.grow hB)).mono fun e w' ⟨h1,h2⟩=>⟨h1,h2▸Below.refl _ _⟩⟩
end
theorem Answer.grow {w w':World}{x:Ask}(h:Answer w x)(hB:Below w.heap.size w w'):Answer w' x:=⟨h.1,fun W hW=>h.2 W (hB.trans (hW.mono hB.size))⟩
theorem asks_new (w:World)(l:List Ask)(hm:l.length<=100):InG (w.alloc (.cells (askC l).toArray 171)) (w.alloc (.cells (askC l).toArray 171)).heap.size 2 (some ⟨w.heap.size,0,none⟩) l.length l.length (askC l) :=
  ⟨Nat.le_refl _,by omega,(fun e=>by cases e),askC_length l,askC_one l,fun _=>⟨w.heap.size,0,rfl,by simp,fun j v hj=>by
    rw[(BlkIs.new w 171 (askC l).toArray).cell,Nat.zero_add]
    simpa using hj⟩⟩
def laid (g:Nat->List UInt8)(xs:List (Nat×List UInt8)):Nat->List UInt8:=xs.foldl (fun g x=>gset g x.1 x.2) g
theorem laid_snoc (g:Nat->List UInt8)(xs:List (Nat×List UInt8))(k:Nat)(h:k<xs.length):laid g (xs.take (k+1))=gset (laid g (xs.take k)) xs[k].1 xs[k].2:=by
  unfold laid
  rw[List.take_add_one,List.getElem?_eq_getElem h,List.foldl_append]
  rfl
section
variable {w:World}{o:Oper}{ρ:Operand->Value}
theorem x_allocLs (ho:o.op = .alloc 214):(execOp ρ o).run Tryz.prog w = .ok (.value (.pointer (some ⟨w.heap.size,0,none⟩))) (w.alloc (.cells (lsC (0,zer64)).toArray 214)):=by
  have hz:(Tryz.prog.info? 214).map (fun i=>i.zero)=some (some zeroLs):=by kernel_rfl
  obtain⟨i,hi,hz⟩:=Option.map_eq_some_iff.1 hz
  have hq:Tryz.zeroCells214=(lsC (0,zer64)).toArray:=by kernel_rfl
  have hc:zeroLs.cells=(lsC (0,zer64)).toArray:=by kernel_rfl
  simp[execOp,ho,Instr.alloc,newVar,newRow,go_sem,hq,Result.andThen]
end
theorem now_gives (w:World)(r:Nat)(g:Nat->List UInt8)(A:Option Addr)(c:Nat)(xs:List (Nat×List UInt8))(h:MapF w r g)(hx:InW w w.heap.size A c xs)(hl:xs.length<=1000000) :
    Calls Tryz.prog 142 #[.map (some r),.slice A xs.length c] w fun e w'=>e = .returned (.map (some w.heap.size))/\MapF w' w.heap.size (laid g xs)/\Below w.heap.size w w':=by
  have hM:=mclone_gives w r g h
  have hfin:laid g (xs.take xs.length)=laid g xs:=by rw[List.take_length]
  have hsn:=laid_snoc g xs
  obtain⟨F,hF⟩:∃F,F=fun k=>laid g (xs.take k):=⟨_,rfl⟩
  have hF0:F 0=g:=by rw[hF];rfl
  have hFn:F xs.length=laid g xs:=by rw[hF];exact hfin
  have hFs:Hid (∀k (h:k<xs.length),F (k+1)=gset (F k) xs[k].1 xs[k].2):=Lib.hid (by rw[hF];exact hsn)
  rw[<-hFn]
  clear hfin hsn hF hFn
  go_enter Tryz.func142,Tryz.ntmps142
  go_wp2_with (go_at_call 176;refine hM.mono ?_;rintro e w1 ⟨rfl,hm1,hB1⟩)
  rw[<-hF0] at hm1
  clear hM hF0 h
  go_loopw [12] (fun i wr=>∃k:Nat,k<=xs.length/\i = .int .i64 k/\MapF wr w.heap.size (F k)/\Below w.heap.size w wr) (fun i _=>xs.length - (intOf i).toNat)
  case atStart=>exact⟨0,by omega,rfl,hm1,hB1⟩
  case round =>
    obtain⟨k,hk,rfl,hmr,hBr⟩:=hrel
    by_cases hlt:k<xs.length
    · obtain⟨g1,o1,rfl,hg1,_⟩:=hx.2.lies (by omega)
      have hr:wr.rangeAt g1 (o1+k*65) (lsC xs[k]):=fun j v hj=>(hBr.cell (p:=⟨g1,o1+k*65+j,none⟩) hg1).trans (hx.elem k hlt j v hj)
      have hw6:xs[k].2.length=64:=hx.1 _ (List.getElem_mem hlt)
      have hs:=hFs.out k hlt
      have hwk:IntKind.i64.wrap ((k:Int)+1)=(k:Int)+1:=wrap_i64_fr _ (by omega) (by omega)
      obtain⟨x,hxe⟩:∃x,x=xs[k]:=⟨_,rfl⟩
      rw[<-hxe] at hr hw6 hs
      obtain⟨x1,x2⟩:=x
      have L65:=lsC_length hw6
      simp only at hw6 hs
      have hS:=Lib.hid hs
      have H6:=Lib.hid hw6
      have H65:=Lib.hid L65
      have HR:=Lib.hid hr
      have n0:=BlkIs.new wr 214 (lsC (0,zer64)).toArray
      have hz1:(lsC (x1,x2)).toArray.size=(lsC (0,zer64)).toArray.size:=by rw[List.size_toArray,List.size_toArray,L65];rfl
      have nb:=n0.setRow (lsC (x1,x2)).toArray
      have nB:Below w.heap.size w ((wr.alloc (.cells (lsC (0,zer64)).toArray 214)).setRow wr.heap.size (lsC (x1,x2)).toArray):=below_setRow (hBr.alloc hBr.size _) hBr.size _
      obtain⟨W,hW⟩:∃W,W=(wr.alloc (.cells (lsC (0,zer64)).toArray 214)).setRow wr.heap.size (lsC (x1,x2)).toArray:=⟨_,rfl⟩
      rw[<-hW] at nb nB
      have hWm:MapF W w.heap.size (F k):=by
        rw[hW]
        have h1:=hmr.grow ((Below.refl _ wr).alloc (Nat.le_refl _) (.cells (lsC (0,zer64)).toArray 214))
        exact h1.below (below_setRow (Below.refl wr.heap.size _) (Nat.le_refl _) _) hmr.lt
      have d0:W.cell? ⟨wr.heap.size,0,none⟩=some (.int .i64 (x1:Int)):=by rw[nb.cell];rfl
      have dr:W.rangeAt wr.heap.size 1 (x2.map b8):=fun j v hj=>by
        rw[nb.cell]
        simpa[lsC,Nat.add_comm] using hj
      have hP:=put_gives W w.heap.size x1 (F k) x2 hw6 hWm
      have hl6:(x2.map b8).length=64:=by rw[List.length_map];exact hw6
      have HL6:=Lib.hid hl6
      have HZ1:=Lib.hid hz1
      have HW:=Lib.hid hW
      clear hs hw6 L65 hr hxe hz1 hl6 hW
      go_wp2_with (first
        | (refine wp_exec rfl (x_loadM rowLoose HR.out H65.out rfl rfl) ?_)
        | (refine wp_exec rfl (x_allocLs rfl) ?_)
        | (refine wp_storeW rfl 214 (.tmp 7) (.tmp 15) rfl wr.heap.size rfl rfl rowLoose n0 (by rfl) HZ1.out (lsC_one _) ?_;rw[<-HW.out])
        | (refine wp_exec rfl (x_loadM rowDSec dr HL6.out rfl rfl) ?_)
        | (go_at_call 177;refine hP.mono ?_;rintro e w2 ⟨⟨v2,rfl⟩,hm2,hg2⟩))
      rw[<-hS.out] at hm2
      exact⟨⟨k+1,by omega,by simp,hm2,grown_below hg2 nB.size (fun r hr=>by cases hr;exact Nat.le_refl _) |> nB.trans⟩,by simp[intOf];omega⟩
    · obtain rfl:k=xs.length:=by omega
      go_wp2
      go_ret
      exact⟨rfl,hmr,hBr⟩
theorem below_grownBy {w w':World}(h:Below w.heap.size w w')(p:Nat):w.grownBy w' (some p):=⟨h.os,h.tape,h.output,h.size,fun j hj _=>h.block j hj⟩
def lft (stops:Bool)(left:Int):Int:=if stops then left - 1 else left
theorem InB.notDisk {w:World}{B q b o c:Nat}{l:List UInt8}(h:InB w B (some ⟨b,o,none⟩) c l)(h0:0<l.length){r many n c':Nat}{A:Option Addr}{left:Int}{stops:Bool}{T:TypeId}(hb:BlkIs w q T (dkC r many A n c' left stops)):b≠q:=by
  intro e
  subst e
  obtain⟨b',o',e,_,hc⟩:=h.lies h0
  injection e with e
  injection e with e1 e2
  subst e1 e2
  have h1:=hc 0 h0
  rw[hb.cell] at h1
  have hm:=Array.mem_of_getElem? h1
  simp[dkC] at hm
section
variable (w:World)(p many:Nat)(g:Nat->List UInt8)(xs:List (Nat×List UInt8))(left:Int)(stops:Bool)
theorem asked3_gives (hD:DkIs w p many g xs left stops)(a b c:Ask)(ha:Answer w a)(hb:Answer w b)(hc:Answer w c) :
    Calls Tryz.prog 87 #[.pointer (some ⟨p,0,none⟩),.slice (some ⟨w.heap.size,0,none⟩) 3 3] (w.alloc (.cells #[a.fn,.int .i64 a.e,b.fn,.int .i64 b.e,c.fn,.int .i64 c.e] 171)) fun e w'=>e = .returned (.int .i64 (firstE [a,b,c]))/\Below w.heap.size w w':=by
  have hB:Below w.heap.size w (w.alloc (.cells (askC [a,b,c]).toArray 171)):=(Below.refl _ w).alloc (Nat.le_refl _) _
  have h:=asked_gives _ p many g xs left stops (hD.grow hB) [a,b,c] _ _ (asks_new w [a,b,c] (by simp)) (by simp) (fun x hx=>by
    simp at hx
    rcases hx with rfl|rfl|rfl
    · exact ha.grow hB
    · exact hb.grow hB
    · exact hc.grow hB)
  exact h.mono fun e w' ⟨h1,h2⟩=>⟨h1,hB.trans (h2.mono hB.size)⟩
theorem asked2_gives (hD:DkIs w p many g xs left stops)(a b:Ask)(ha:Answer w a)(hb:Answer w b) :
    Calls Tryz.prog 87 #[.pointer (some ⟨p,0,none⟩),.slice (some ⟨w.heap.size,0,none⟩) 2 2] (w.alloc (.cells #[a.fn,.int .i64 a.e,b.fn,.int .i64 b.e] 171)) fun e w'=>e = .returned (.int .i64 (firstE [a,b]))/\Below w.heap.size w w':=by
  have hB:Below w.heap.size w (w.alloc (.cells (askC [a,b]).toArray 171)):=(Below.refl _ w).alloc (Nat.le_refl _) _
  have h:=asked_gives _ p many g xs left stops (hD.grow hB) [a,b] _ _ (asks_new w [a,b] (by simp)) (by simp) (fun x hx=>by
    simp at hx
    rcases hx with rfl|rfl
    · exact ha.grow hB
    · exact hb.grow hB)
  exact h.mono fun e w' ⟨h1,h2⟩=>⟨h1,hB.trans (h2.mono hB.size)⟩
theorem asked1_gives (hD:DkIs w p many g xs left stops)(a:Ask)(ha:Answer w a) :
    Calls Tryz.prog 87 #[.pointer (some ⟨p,0,none⟩),.slice (some ⟨w.heap.size,0,none⟩) 1 1] (w.alloc (.cells #[a.fn,.int .i64 a.e] 171)) fun e w'=>e = .returned (.int .i64 (firstE [a]))/\Below w.heap.size w w':=by
  have hB:Below w.heap.size w (w.alloc (.cells (askC [a]).toArray 171)):=(Below.refl _ w).alloc (Nat.le_refl _) _
  have h:=asked_gives _ p many g xs left stops (hD.grow hB) [a] _ _ (asks_new w [a] (by simp)) (by simp) (fun x hx=>by
    simp at hx
    rcases hx with rfl
    exact ha.grow hB)
  exact h.mono fun e w' ⟨h1,h2⟩=>⟨h1,hB.trans (h2.mono hB.size)⟩
theorem sync_gives (hD:DkIs w p many g xs left stops)(hs:(stops && left == 0)=false)(hl:xs.length<=1000000)(h1 : -1000000<=left)(h2:left<=9223372036854775807) :
    Calls Tryz.prog 101 #[.pointer (some ⟨p,0,none⟩)] w fun e w'=>e = .returned (.int .i64 0)/\DkIs w' p many (laid g xs) [] (lft stops left) stops/\w.grownBy w' (some p):=by
  have HG:=goes_gives w p
  have HA:∀W,Below w.heap.size w W->Calls Tryz.prog 87 #[.pointer (some ⟨p,0,none⟩),.slice (some ⟨W.heap.size,0,none⟩) 1 1] (W.alloc (.cells #[.func (.func 130) #[.pointer (some ⟨p,0,none⟩)] #[],.int .i64 140] 171)) fun e w'=>e = .returned (.int .i64 0)/\Below W.heap.size W w':=by
    intro W hB
    have:=asked1_gives W p many g xs left stops (hD.grow hB) (askGoes p left stops) (ans_goes W p many g xs left stops (hD.grow hB))
    have hf:firstE [askGoes p left stops]=0:=firstE_none _ (fun j h=>by
      have:j=0:=by simp at h;omega
      subst this
      exact hs)
    rw[hf] at this
    exact this
  clear hs
  go_enter Tryz.func101,Tryz.ntmps101
  go_wp2_with (first
    | (go_at_call 89;refine HG.mono ?_;rintro e w1 ⟨rfl,hB1⟩)
    | (go_at_call 87;refine(HA _ hB1).mono ?_;rintro e w2 ⟨rfl,hB2⟩))
  have hB3:Below w.heap.size w w2:=hB1.trans (hB2.mono hB1.size)
  have hD2:=hD.grow hB3
  obtain⟨r,A,c,hb,hm,hx⟩:=hD2.has
  have c0:w2.drew.cell? ⟨p,0,none⟩=some (.map (some r)):=by rw[show w2.drew.cell? ⟨p,0,none⟩=w2.cell? ⟨p,0,none⟩ from rfl,hb.cell];rfl
  have c2:w2.drew.cell? ⟨p,2,none⟩=some (.slice A xs.length c):=by rw[show w2.drew.cell? ⟨p,2,none⟩=w2.cell? ⟨p,2,none⟩ from rfl,hb.cell];rfl
  have hBd:Below w2.heap.size w2 w2.drew:=(Below.refl _ w2).drew
  have HN:=now_gives w2.drew r g A c xs (hm.grow hBd) (hx.grow hBd) hl
  clear HA HG hB1 hB2
  go_region_with (go_at_call 142;refine HN.mono ?_;rintro e w4 ⟨rfl,hm4,hB4⟩;have hb4:BlkIs w4 p _ _:=hb.below (hBd.trans (hB4.mono hBd.size)) hb.lt;have f0:=hb4.free 0;have f2:=hb4.free 2;have k0:w4.cell? ⟨p,0,none⟩=some (.map (some r)):=(by rw[hb4.cell];rfl);have k2:w4.cell? ⟨p,2,none⟩=some (.slice A xs.length c):=(by rw[hb4.cell];rfl))
  all_goals
    have hD5:DkIs ((w4.setCell ⟨p,0,none⟩ (.map (some w2.heap.size))).setCell ⟨p,2,none⟩ (.slice none 0 0)) p many (laid g xs) [] left stops:=⟨w2.heap.size,none,0,(hb4.set 0 _).set 2 _,(hm4.setCell _ _).setCell _ _,InW.mt _ _⟩
    have hg5:w.grownBy ((w4.setCell ⟨p,0,none⟩ (.map (some w2.heap.size))).setCell ⟨p,2,none⟩ (.slice none 0 0)) (some p):=grownBy_trans (below_grownBy (hB3.trans ((hBd.trans (hB4.mono hBd.size)).mono hB3.size)) p) (grownBy_trans (setCell_grownBy w4 ⟨p,0,none⟩ _) (setCell_grownBy _ ⟨p,2,none⟩ _))
    generalize (w4.setCell ⟨p,0,none⟩ (.map (some w2.heap.size))).setCell ⟨p,2,none⟩ (.slice none 0 0)=w5 at *
    go_wp2_with (go_at_call 143;refine(done_gives _ p many _ [] left stops hD5 h1 h2).mono ?_;rintro e w6 ⟨⟨v,rfl⟩,hD6,hg6,-⟩)
    go_ret
    exact⟨rfl,hD6,grownBy_trans hg5 hg6⟩
end
namespace RegF
section
variable {P:Program}{ops:Array Oper}{Q:Exit->Act->World->Prop}{md:Region.Mode}{S:World->Prop}{fin:Nat}
def wpAnyF (P:Program)(md:Region.Mode)(ops:Array Oper)(Q:Exit->Act->World->Prop)(S:World->Prop)(fin:Nat):Nat->Array Bool->Act->World->Prop
  | 0,listed,a,w=>Region.ready md ops listed=[]/\Q .normal a w
  | fuel+1,listed,a,w =>
    (Region.ready md ops listed=[]->Q .normal a w) /\
    ∀i∈Region.ready md ops listed,wpOp P ops Q i (fun a' w'=>(i≠fin->S w')/\wpAnyF P md ops Q S fin fuel (listed.setIfInBounds i true) a' w') a w
theorem to_any:∀(fuel:Nat) (listed:Array Bool)(a:Act)(w:World),wpAnyF P md ops Q S fin fuel listed a w->wpAny P md ops Q fuel listed a w
  | 0,_,_,_,h=>h
  | fuel+1,_,_,_,h=>⟨h.1,fun i hi=>wpOp_mono (fun a' w' h'=>to_any fuel _ a' w' h'.2) (h.2 i hi)⟩
def waitsFor (md:Region.Mode)(ops:Array Oper)(i j:Nat):Bool:=match ops[i]? with|some o=>o.after.toList.any fun e=>Region.binds md e && e.on == j|none=>false
theorem waits_spec {i j:Nat}{o:Oper}(h:waitsFor md ops i j=true)(ho:ops[i]? = some o):∃e∈o.after,Region.binds md e=true/\e.on=j:=by
  simp only[waitsFor,ho,List.any_eq_true,Bool.and_eq_true,beq_iff_eq] at h
  obtain⟨e,hm,hb,he⟩:=h
  exact⟨e,Array.mem_toList_iff.1 hm,hb,he⟩
theorem first {i:Nat}{oi:Oper}{v:Value}(hi:ops[i]? = some oi)(hsel:∀(j:Nat) (o:Oper) cs b,ops[j]? = some o->o.op≠.select cs b)
    (hQ:∀c a w,Q (.panic c) (a.put oi.dst v) w->Q (.panic c) a w) (hfin:waitsFor md ops fin i=true) :
    ∀(fuel:Nat) (listed:Array Bool) (a:Act) (w:World),
      (∀j oj,ops[j]? = some oj->j≠i->listed.getD j true=false->(∀e∈oj.after,Region.binds md e=true->e.on≠i)->oi.apart ops oj=true) ->
      i∈Region.ready md ops listed->YieldsIf P ops S oi v a->S w ->
      wpAnyF P md ops Q S fin fuel (listed.setIfInBounds i true) (a.put oi.dst v) w->wpAnyF P md ops Q S fin (fuel+1) listed a w:=by
  intro fuel
  induction fuel with
  | zero =>
    intro listed a w _ hr hy hS H
    refine⟨fun h=>(by rw[h] at hr;cases hr),fun j hj => ?_⟩
    by_cases hji:j=i
    · subst hji;exact hy.wpOp hi hS ⟨fun _=>hS,H⟩
    · have:=ready_mono hj hji
      rw[H.1] at this
      cases this
  | succ fuel ih =>
    intro listed a w hfree hr hy hS H
    refine⟨fun h=>(by rw[h] at hr;cases hr),fun j hj => ?_⟩
    by_cases hji:j=i
    · subst hji;exact hy.wpOp hi hS ⟨fun _=>hS,H⟩
    · have h1:=H.2 j (ready_mono hj hji)
      obtain⟨hjun,oj,hoj,hall⟩:=mem_ready.1 hj
      have hnot:∀e∈oj.after,Region.binds md e=true->e.on≠i:=fun e he hb heq=>by
        have h1:=hall e he hb
        have h0:=(mem_ready.1 hr).1
        rw[heq] at h1
        rcases Nat.lt_or_ge i listed.size with h' | h'
        · simp[h'] at h0 h1;rw[h0] at h1;cases h1
        · simp[Array.getElem?_eq_none h'] at h1
      have hjf:j≠fin:=fun e=>by
        subst e
        obtain⟨e,he,hb,hon⟩:=waits_spec hfin hoj
        exact hnot e he hb hon
      have h2:=wpOp_putIf hoj (hfree j oj hoj hji hjun hnot) (fun cs b=>hsel i oi cs b hi) (fun cs b=>hsel j oj cs b hoj) hQ hy h1
      have hfree':∀k ok,ops[k]? = some ok->k≠i->(listed.setIfInBounds j true).getD k true=false ->
          (∀e∈ok.after,Region.binds md e=true->e.on≠i)->oi.apart ops ok=true:=fun k ok hk hki hun hno=>by
        refine hfree k ok hk hki ?_ hno
        by_cases hjk:j=k
        · subst hjk;exact hjun
        · rw[getD_set_ne true hjk] at hun;exact hun
      refine wpOp_mono (fun a' w' h3=>⟨h3.2.1,ih (listed.setIfInBounds j true) a' w' hfree' (ready_mono hr (Ne.symm hji)) h3.1 (h3.2.1 hjf) ?_⟩) h2
      rw[Array.setIfInBounds_comm _ _ hji]
      exact h3.2.2
theorem take {fuel:Nat}{listed:Array Bool}{a:Act}{w:World}(i:Nat){oi:Oper}(v:Value)(hi:ops[i]? = some oi)
    (hs:Region.noSelect ops=true) (hf:Region.free md ops listed i=true) (hr:(Region.ready md ops listed).contains i=true) (hfin:waitsFor md ops fin i=true)
    (hQ:∀c a w,Q (.panic c) (a.put oi.dst v) w->Q (.panic c) a w) (hS:S w) (hy:YieldsIf P ops S oi v a)
    (h:wpAnyF P md ops Q S fin fuel (listed.setIfInBounds i true) (a.put oi.dst v) w):wpAnyF P md ops Q S fin (fuel+1) listed a w :=
  first hi (Region.noSelect_spec hs) hQ hfin fuel listed a w (Region.free_spec hi hf) (by simpa using hr) hy hS h
theorem yld {o:Oper}{v:Value}{a:Act}(hg:o.guard=none)(h:∀w,S w->(execOp a.eval o).run P w = .ok (.value v) w):YieldsIf P ops S o v a:=.inl ⟨by simp[Region.wanted,hg],h⟩
theorem one {fuel:Nat}{listed:Array Bool}{a:Act}{w:World}(i:Nat)(hr:Region.ready md ops listed=[i])
    (h:wpOp P ops Q i (fun a' w'=>(i≠fin->S w')/\wpAnyF P md ops Q S fin fuel (listed.setIfInBounds i true) a' w') a w):wpAnyF P md ops Q S fin (fuel+1) listed a w :=
  ⟨fun h0=>(by rw[hr] at h0;cases h0),fun j hj=>by
    rw[hr] at hj
    obtain rfl:j=i:=by simpa using hj
    exact h⟩
theorem two {fuel:Nat}{listed:Array Bool}{a:Act}{w:World}(i j:Nat)(hr:Region.ready md ops listed=[i,j])
    (h1:wpOp P ops Q i (fun a' w'=>(i≠fin->S w')/\wpAnyF P md ops Q S fin fuel (listed.setIfInBounds i true) a' w') a w)
    (h2:wpOp P ops Q j (fun a' w'=>(j≠fin->S w')/\wpAnyF P md ops Q S fin fuel (listed.setIfInBounds j true) a' w') a w):wpAnyF P md ops Q S fin (fuel+1) listed a w :=
  ⟨fun h0=>(by rw[hr] at h0;cases h0),fun k hk=>by
    rw[hr] at hk
    rcases List.mem_cons.1 hk with rfl|hk
    · exact h1
    · obtain rfl:k=j:=by simpa using hk
      exact h2⟩
theorem done {fuel:Nat}{listed:Array Bool}{a:Act}{w:World}(hr:Region.ready md ops listed=[])(h:Q .normal a w):wpAnyF P md ops Q S fin fuel listed a w:=by
  cases fuel with
  | zero=>exact⟨hr,h⟩
  | succ n=>exact⟨fun _=>h,by rw[hr];simp⟩
theorem start {id:Nat}{a:Act}{w:World}(S:World->Prop)(fin:Nat)(hm:P.follows .mixedOrders=true)(h:wpAnyF P .any ops Q S fin ops.size (Array.replicate ops.size false) a w.drew):(Code.region id ops true).wp P Q a w :=
  wp_region_any hm (to_any _ _ _ _ h)
theorem opV {i:Nat}{o:Oper}{K:Act->World->Prop}{a:Act}{w w':World}(v:Value)(ho:ops[i]? = some o)(hg:o.guard=none)(hr:(execOp a.eval o).run P w = .ok (.value v) w')(h:K (a.put o.dst v) w'):wpOp P ops Q i K a w:=by
  unfold wpOp
  simp only[ho]
  rw[if_pos (by simp[Region.wanted,hg])]
  left
  unfold Oper.wp
  rw[hr]
  exact h
theorem opS {i:Nat}{o:Oper}{K:Act->World->Prop}{a:Act}{w w':World}(ho:ops[i]? = some o)(hg:o.guard=none)(hr:(execOp a.eval o).run P w = .ok .skip w')(h:K (a.put o.dst undef) w'):wpOp P ops Q i K a w:=by
  unfold wpOp
  simp only[ho]
  rw[if_pos (by simp[Region.wanted,hg])]
  left
  unfold Oper.wp
  rw[hr]
  exact h
theorem opC {i:Nat}{o:Oper}{K:Act->World->Prop}{a:Act}{w:World}(f:FuncId)(xs:Array Operand)(ts:Array TypeId)(ho:ops[i]? = some o)(hg:o.guard=none)(hc:o.op = .call { callee:=.value (.func f),args:=xs,argTypes:=ts })
    (hent:∀args w,(callFunc f args).run P w = .ok (.enter f args) w) (args:Array Value) (ha:xs.map a.eval=args) (h:Calls P f args w fun e w'=>∃v,e = .returned v/\K (a.put o.dst v) w'):wpOp P ops Q i K a w:=by
  unfold wpOp
  simp only[ho]
  rw[if_pos (by simp[Region.wanted,hg])]
  left
  have hr:(execOp a.eval o).run P w = .ok (.enter f args) w:=by
    have ef:a.eval (.func f) = .func (.func f) #[] #[]:=rfl
    simp[execOp,hc,resolve,ha,ef,Deferred.ofValue,invoke,hent args w]
  unfold Oper.wp
  rw[hr,Oper.upon_enter]
  refine h.mono ?_
  rintro e w' ⟨v,rfl,hK⟩
  exact hK
end
end RegF
section
variable {w:World}{o:Oper}{ρ:Operand->Value}{x y:Operand}
theorem fold_get (off:Nat):∀(vs:List Value) (k:Nat) (arr:Array Value) (j:Nat),((vs.zipIdx k).foldl (fun cs x=>cs.setIfInBounds (off+x.snd) x.fst) arr)[j]? = if off+k<=j/\j<off+k+vs.length/\j<arr.size then vs[j - (off+k)]? else arr[j]?
  | [],k,arr,j=>by
    rw[if_neg (by simp;omega)]
    rfl
  | v::vs,k,arr,j=>by
    rw[List.zipIdx_cons,List.foldl_cons,fold_get off vs (k+1)]
    simp only[Array.size_setIfInBounds,List.length_cons,Array.getElem?_setIfInBounds]
    by_cases h1:off+(k+1)<=j/\j<off+(k+1)+vs.length/\j<arr.size
    · rw[if_pos h1,if_pos (by omega),show j - (off+k)=(j - (off+(k+1)))+1 from by omega]
      rfl
    · rw[if_neg h1]
      by_cases h2:off+k=j
      · subst h2
        by_cases h3:off+k<arr.size
        · rw[if_pos rfl,if_pos h3,if_pos (by omega),Nat.sub_self]
          rfl
        · rw[if_pos rfl,if_neg h3,if_neg (by omega)]
          rw[Array.getElem?_eq_none (by omega)]
      · rw[if_neg h2,if_neg (by omega)]
theorem fold0 (vs:List Value)(arr:Array Value)(hs:arr.size=vs.length):vs.zipIdx.foldl (fun cs x=>cs.setIfInBounds x.snd x.fst) arr=vs.toArray:=by
  apply Array.ext_getElem?
  intro j
  have h:=fold_get 0 vs 0 arr j
  simp only[Nat.zero_add] at h
  rw[h]
  by_cases hj:j<vs.length
  · rw[if_pos (by omega)]
    simp
  · rw[if_neg (by omega),Array.getElem?_eq_none (by omega),Array.getElem?_eq_none (by simp;omega)]
theorem fold1 (u:Value)(vs:List Value)(arr:Array Value)(hs:arr.size=vs.length+1):vs.zipIdx.foldl (fun cs x=>cs.setIfInBounds (1+x.snd) x.fst) (arr.setIfInBounds 0 u)=(u::vs).toArray:=by
  apply Array.ext_getElem?
  intro j
  rw[fold_get 1 vs 0]
  simp only[Array.size_setIfInBounds,Array.getElem?_setIfInBounds]
  rcases j with _|j
  · rw[if_neg (by omega),if_pos rfl,if_pos (by omega)]
    rfl
  · by_cases hj:j<vs.length
    · rw[if_pos (by omega),show j+1 - (1+0)=j from by omega]
      simp
    · rw[if_neg (by omega),if_neg (by omega),Array.getElem?_eq_none (by omega),Array.getElem?_eq_none (by simp;omega)]
theorem x_buildLs (k:Nat)(l:List UInt8)(ho:o.op = .build 214 #[(0,x),(1,y)])(h1:ρ x = .int .i64 (k:Int))(h2:ρ y = .agg (l.map b8).toArray)(hl:l.length=64):(execOp ρ o).run Tryz.prog w = .ok (.value (.agg (lsC (k,l)).toArray)) w:=by
  have hz:Tryz.zeroCells214.size=65:=by kernel_rfl
  have key:=fold1 (.int .i64 (k:Int)) (l.map b8) Tryz.zeroCells214 (by rw[hz,List.length_map,hl])
  simp[execOp,ho,h1,h2,go_sem,lsC,Result.andThen,hl,key]
theorem x_sliceLs (k:Nat)(l:List UInt8)(hl:l.length=64)(ho:o.op = .buildSlice 101 1 #[(0,x)])(h1:ρ x = .agg (lsC (k,l)).toArray):(execOp ρ o).run Tryz.prog w = .ok (.value (.slice (some ⟨w.heap.size,0,none⟩) 1 1)) (w.alloc (.cells (lsC (k,l)).toArray 214)):=by
  have h65:=lsC_length (x:=(k,l)) hl
  have key:=fun arr hs=>fold0 (lsC (k,l)) arr hs
  rw[h65] at key
  simp[execOp,ho,h1,go_sem,Result.andThen,h65,key]
theorem row_new (w:World)(k:Nat)(l:List UInt8)(hl:l.length=64):InG (w.alloc (.cells (lsC (k,l)).toArray 214)) (w.alloc (.cells (lsC (k,l)).toArray 214)).heap.size 65 (some ⟨w.heap.size,0,none⟩) 1 1 (lsC (k,l)) :=
  ⟨Nat.le_refl _,by omega,(fun e=>by cases e),by rw[lsC_length hl],lsC_one _,fun _=>⟨w.heap.size,0,rfl,by simp,fun j v hj=>by
    rw[(BlkIs.new w 214 (lsC (k,l)).toArray).cell,Nat.zero_add]
    simpa using hj⟩⟩
end
section
variable {w:World}{ops:Array Oper}{i:Nat}{o:Oper}{a:Act}{Q:Exit->Act->World->Prop}{K:Act->World->Prop}
theorem opApp (ho:ops[i]? = some o)(hgd:o.guard=none){S T:TypeId}{sz by_:Nat}{z:Value}(hT:ElT S T sz by_ z)(s x:Operand)(hc:o.op = .call { callee:=.builtin .append,args:=#[s,x],argTypes:=#[S,S] })
    (base:Nat) (v:Value) (n:Nat) (cs:List Value) (hs:a.eval s=v) (hown:w.ownsRow base T sz v n cs) (B:Nat) (A:Option Addr) (m c:Nat) (cs2:List Value) (hx:a.eval x = .slice A m c) (hin:InG w B sz A m c cs2)
    (hm:n+m<=maxLen) (hbytes:(n+m)*by_<=140737488355328) (hbase:base<=w.heap.size)
    (h:∀v' w',w'.ownsRow base T sz v' (n+m) (cs++cs2)->w.grownBy w' v.ownBlock->K (a.put o.dst v') w'):wpOp Tryz.prog ops Q i K a w:=by
  obtain⟨v',w',hr,h2,h3⟩:=run_appG (w:=w) o.type hT base v n cs hown B A m c cs2 hin hm hbytes hbase
  refine RegF.opV v' ho hgd (w':=w') ?_ (h v' w' h2 h3)
  unfold execOp
  simp only[hc,resolve,invoke,builtin,Sem.run_bind,Sem.run_pure,Result.andThen_ok,List.map_toArray,List.map_cons,List.map_nil,hs,hx,hr]
end
section
variable (w:World)(p many:Nat)(g:Nat->List UInt8)(xs:List (Nat×List UInt8))(left:Int)(stops:Bool)
def wrE (stops:Bool)(left:Int):Int:=if stops && left == 0 then 140 else 0
theorem wr_asks (hD:DkIs w p many g xs left stops)(k:Nat)(hk:k<many)(A:Option Addr)(c:Nat)(w0 w1 w2:World)(s:Nat)(hs:BlkIs w0 s 44 #[.slice A 64 c])(hB0:Below w.heap.size w w0)(hB1:Below w0.heap.size w0 w1)(hB2:Below w1.heap.size w1 w2)
    (b0:BlkIs w1 w0.heap.size 29 #[.pointer (some ⟨p,0,none⟩)]) (b1:BlkIs w1 (w0.heap.size+1) 3 #[.int .i64 (k:Int)]) :
    Calls Tryz.prog 87 #[.pointer (some ⟨p,0,none⟩),.slice (some ⟨w2.heap.size,0,none⟩) 3 3] (w2.alloc (.cells #[.func (.func 174) #[] #[.pointer (some ⟨s,0,none⟩)],.int .i64 2,.func (.func 129) #[] #[.pointer (some ⟨w0.heap.size+1,0,none⟩),.pointer (some ⟨w0.heap.size,0,none⟩)],.int .i64 4,.func (.func 130) #[.pointer (some ⟨p,0,none⟩)] #[],.int .i64 140] 171))
      fun e w'=>e = .returned (.int .i64 (wrE stops left))/\Below w2.heap.size w2 w':=by
  have h1:=hD.grow (hB0.trans ((hB1.trans (hB2.mono hB1.size)).mono hB0.size))
  have h12:=hB1.trans (hB2.mono hB1.size)
  have e3:=asked3_gives w2 p many g xs left stops h1 (askLen s 64) (askThere w0.heap.size (w0.heap.size+1) many k) (askGoes p left stops)
    (ans_len w2 s A 64 c (hs.below h12 hs.lt)) (ans_there w2 p many g xs left stops k _ _ h1 (b0.below hB2 b0.lt) (b1.below hB2 b1.lt)) (ans_goes w2 p many g xs left stops h1)
  have hf:firstE [askLen s 64,askThere w0.heap.size (w0.heap.size+1) many k,askGoes p left stops]=wrE stops left:=by
    have a1:decide ((k:Int)<0)=false:=by simp
    have a2:¬ many<=k:=by omega
    unfold wrE
    cases stops<;>by_cases hl:left=0<;>simp[firstE,askLen,askThere,askGoes,hl,a1,a2]
  rw[hf] at e3
  exact e3
theorem write_stop (hD:DkIs w p many g xs left stops)(hs:(stops && left == 0)=true)(k:Nat)(hk:k<many)(A:Option Addr)(c:Nat) :
    Calls Tryz.prog 141 #[.pointer (some ⟨p,0,none⟩),.int .i64 (k:Int),.slice A 64 c] w fun e w'=>e = .returned (.int .i64 140)/\Below w.heap.size w w':=by
  have hB0:Below w.heap.size w (w.alloc (.cells #[.slice A 64 c] 44)):=(Below.refl _ w).alloc (Nat.le_refl _) _
  have b0:=BlkIs.new w 44 #[.slice A 64 c]
  have HT:=there_gives (w.alloc (.cells #[.slice A 64 c] 44)) p k
  have HA:=fun w1 w2 hB1 hB2 b0' b1'=>wr_asks w p many g xs left stops hD k hk A c (w.alloc (.cells #[.slice A 64 c] 44)) w1 w2 w.heap.size b0 hB0 hB1 hB2 b0' b1'
  have hE:wrE stops left=140:=by unfold wrE;rw[hs];rfl
  rw[hE] at HA
  have hs0:(w.alloc (.cells #[.slice A 64 c] 44)).heap.size=w.heap.size+1:=World.size_alloc _ _
  rw[hs0] at HT
  simp only[hs0] at HA
  have HS0:=Lib.hid hs0
  clear hs hE hs0
  go_enter Tryz.func141,Tryz.ntmps141
  go_wp2_with (first
    | (go_at_call 88;refine HT.mono ?_;rintro e w1 ⟨rfl,s1,s2,hB1⟩)
    | (go_at_call 89;refine(goes_gives w1 p).mono ?_;rintro e w2 ⟨rfl,hB2⟩)
    | (go_at_call 87;refine(HA w1 w2 hB1 hB2 s1 s2).mono ?_;rintro e w3 ⟨rfl,hB3⟩))
  go_ret
  have s0:=hB0.size
  have s1:=HS0.out▸hB1.size
  exact⟨rfl,hB0.trans ((hB1.trans ((hB2.trans (hB3.mono hB2.size)).mono s1)).mono (by omega))⟩
theorem write_ok (hD:DkIs w p many g xs left stops)(hs:(stops && left == 0)=false)(k:Nat)(hk:k<many)(A:Option Addr)(c:Nat)(l:List UInt8)(hl:l.length=64)(hin:InB w w.heap.size A c l)(hx1:xs.length<=1000000)(h1 : -1000000<=left)(h2:left<=9223372036854775807) :
    Calls Tryz.prog 141 #[.pointer (some ⟨p,0,none⟩),.int .i64 (k:Int),.slice A 64 c] w fun e w'=>e = .returned (.int .i64 0)/\DkIs w' p many g (xs++[(k,l)]) (lft stops left) stops/\w.grownBy w' (some p)/\∃b c,w'.cell? ⟨p,2,none⟩=some (.slice (some ⟨b,0,none⟩) (xs.length+1) c)/\w.heap.size<=b:=by
  have hB0:Below w.heap.size w (w.alloc (.cells #[.slice A 64 c] 44)):=(Below.refl _ w).alloc (Nat.le_refl _) _
  have b0:=BlkIs.new w 44 #[.slice A 64 c]
  have HT:=there_gives (w.alloc (.cells #[.slice A 64 c] 44)) p k
  have HA:=fun w1 w2 hB1 hB2 b0' b1'=>wr_asks w p many g xs left stops hD k hk A c (w.alloc (.cells #[.slice A 64 c] 44)) w1 w2 w.heap.size b0 hB0 hB1 hB2 b0' b1'
  have hE:wrE stops left=0:=by unfold wrE;rw[hs];rfl
  rw[hE] at HA
  have hs0:(w.alloc (.cells #[.slice A 64 c] 44)).heap.size=w.heap.size+1:=World.size_alloc _ _
  rw[hs0] at HT
  simp only[hs0] at HA
  have HS0:=Lib.hid hs0
  have HL:=Lib.hid hl
  obtain⟨gb,ob,rfl,hgb,hcb⟩:=hin.lies (by omega)
  clear hs hE hs0 hl
  go_enter Tryz.func141,Tryz.ntmps141
  go_wp2_with (first
    | (go_at_call 88;refine HT.mono ?_;rintro e w1 ⟨rfl,s1,s2,hB1⟩)
    | (go_at_call 89;refine(goes_gives w1 p).mono ?_;rintro e w2 ⟨rfl,hB2⟩)
    | (go_at_call 87;refine(HA w1 w2 hB1 hB2 s1 s2).mono ?_;rintro e w3 ⟨rfl,hB3⟩))
  have z1:w.heap.size+1<=w1.heap.size:=HS0.out▸hB1.size
  have hB13:=hB1.trans ((hB2.trans (hB3.mono hB2.size)).mono z1)
  have hB03:Below w.heap.size w w3:=hB0.trans (hB13.mono (by omega))
  have b3:=b0.below hB13 (Nat.lt_succ_self _)
  have hD3:=hD.grow hB03
  obtain⟨r,A3,c3,hb,hm,hx⟩:=hD3.has
  have k2:w3.cell? ⟨p,2,none⟩=some (.slice A3 xs.length c3):=by rw[hb.cell];rfl
  have k5:w3.cell? ⟨w.heap.size,0,none⟩=some (.slice (some ⟨gb,ob,none⟩) 64 c):=by rw[b3.cell];rfl
  have hp3:=hb.lt
  have hw3:=b3.lt
  have hr3:w3.rangeAt gb ob (l.map b8):=fun j v hj=>by
    have hj2:j<l.length:=by have:=(List.getElem?_eq_some_iff.1 hj).1;simpa using this
    rw[hB03.cell (p:=⟨gb,ob+j,none⟩) hgb,hcb j hj2]
    simpa[hj2,b8] using hj
  have hgb3:gb<w3.heap.size:=Nat.lt_of_lt_of_le hgb hB03.size
  have HLD:∀W,Below w3.heap.size w3 W->(Instr.loadAt 175 (.pointer (some ⟨gb,ob,none⟩))).run Tryz.prog W = .ok (.agg (l.map b8).toArray) W:=by
    intro W hW
    obtain⟨d,hu,hd⟩:=rowDSec.desc
    exact run_loadAt_mid (P:=Tryz.prog) W gb ob 175 (l.map b8) d (fun j v hj=>(hW.cell (p:=⟨gb,ob+j,none⟩) hgb3).trans (hr3 j v hj)) hu hd (by rw[rowDSec.size,List.length_map,HL.out])
  have HLV:∀W,Below w3.heap.size w3 W->(loadVar 175 ⟨gb,ob,none⟩).run Tryz.prog W = .ok (.agg (l.map b8).toArray) W:=by
    intro W hW
    obtain⟨d,hu,hd⟩:=rowDSec.desc
    exact run_loadVar_mid (P:=Tryz.prog) W gb ob 175 (l.map b8) d (fun j v hj=>(hW.cell (p:=⟨gb,ob+j,none⟩) hgb3).trans (hr3 j v hj)) hu hd (by rw[rowDSec.size,List.length_map,HL.out])
  have HAR:∀W,(Instr.arrayAt 175 (.slice (some ⟨gb,ob,none⟩) 64 c)).run Tryz.prog W = .ok (.pointer (some ⟨gb,ob,none⟩)) W:=fun W=>by
    simp[Instr.arrayAt,run_underlying Tryz.underlying175,go_sem]
  have HC2:∀W,Below w3.heap.size w3 W->W.cell? ⟨p,2,none⟩=some (.slice A3 xs.length c3):=fun W hW=>(hW.cell (p:=⟨p,2,none⟩) hp3).trans k2
  have HC5:∀W,Below w3.heap.size w3 W->W.cell? ⟨w.heap.size,0,none⟩=some (.slice (some ⟨gb,ob,none⟩) 64 c):=fun W hW=>(hW.cell (p:=⟨w.heap.size,0,none⟩) hw3).trans k5
  have HCL:∀W,Below w3.heap.size w3 W->Calls Tryz.prog 175 #[.slice A3 xs.length c3] W fun e w'=>∃v,e = .returned v/\w'.ownsRow W.heap.size 214 65 v xs.length (flC xs)/\Below W.heap.size W w':=fun W hW=>lclone_gives W A3 c3 xs (hx.grow hW) hx1
  have hBd:Below w3.heap.size w3 w3.drew:=(Below.refl _ w3).drew
  have HBa:∀W cs T,Below w3.heap.size w3 W->Below w3.heap.size w3 (W.alloc (.cells cs T)):=fun W cs T h=>h.alloc h.size _
  clear HT HA hB1 hB2 hB3 hB13 k2 k5
  refine RegF.start (fun W=>Below w3.heap.size w3 W) 15 (by kernel_rfl) ?_
  refine RegF.take 0 (.pointer (some ⟨p,0,none⟩)) rfl (by kernel_rfl) (by kernel_rfl) (by kernel_rfl) (by kernel_rfl) (fun _ _ _ h=>h) hBd (RegF.yld rfl (fun W hW=>by go_simp)) ?_
  simp only[List.getElem_toArray,List.getElem_cons_zero,Act.put,List.setIfInBounds_toArray,List.set_cons_zero,List.set_cons_succ]
  refine RegF.take 1 (.pointer (some ⟨p,0,none⟩)) rfl (by kernel_rfl) (by kernel_rfl) (by kernel_rfl) (by kernel_rfl) (fun _ _ _ h=>h) hBd (RegF.yld rfl (fun W hW=>by go_simp)) ?_
  simp only[List.getElem_toArray,List.getElem_cons_succ,List.getElem_cons_zero,Act.put,List.setIfInBounds_toArray,List.set_cons_zero,List.set_cons_succ]
  refine RegF.take 2 (.pointer (some ⟨p,0,none⟩)) rfl (by kernel_rfl) (by kernel_rfl) (by kernel_rfl) (by kernel_rfl) (fun _ _ _ h=>h) hBd (RegF.yld rfl (fun W hW=>by go_simp)) ?_
  simp only[List.getElem_toArray,List.getElem_cons_succ,List.getElem_cons_zero,Act.put,List.setIfInBounds_toArray,List.set_cons_zero,List.set_cons_succ]
  refine RegF.take 3 (.pointer (some ⟨p,2,none⟩)) rfl (by kernel_rfl) (by kernel_rfl) (by kernel_rfl) (by kernel_rfl) (fun _ _ _ h=>h) hBd (RegF.yld rfl (fun W hW=>by go_simp)) ?_
  simp only[List.getElem_toArray,List.getElem_cons_succ,List.getElem_cons_zero,Act.put,List.setIfInBounds_toArray,List.set_cons_zero,List.set_cons_succ]
  refine RegF.take 6 (.int .i64 (k:Int)) rfl (by kernel_rfl) (by kernel_rfl) (by kernel_rfl) (by kernel_rfl) (fun _ _ _ h=>h) hBd (RegF.yld rfl (fun W hW=>by go_simp)) ?_
  simp only[List.getElem_toArray,List.getElem_cons_succ,List.getElem_cons_zero,Act.put,List.setIfInBounds_toArray,List.set_cons_zero,List.set_cons_succ]
  refine RegF.take 7 (.slice (some ⟨gb,ob,none⟩) 64 c) rfl (by kernel_rfl) (by kernel_rfl) (by kernel_rfl) (by kernel_rfl) (fun _ _ _ h=>h) hBd (RegF.yld rfl (fun W hW=>by have e:=HC5 W hW;go_simp)) ?_
  simp only[List.getElem_toArray,List.getElem_cons_succ,List.getElem_cons_zero,Act.put,List.setIfInBounds_toArray,List.set_cons_zero,List.set_cons_succ]
  refine RegF.take 8 (.pointer (some ⟨gb,ob,none⟩)) rfl (by kernel_rfl) (by kernel_rfl) (by kernel_rfl) (by kernel_rfl) (fun _ _ _ h=>h) hBd (RegF.yld rfl (fun W hW=>by have e:=HAR W;go_simp)) ?_
  simp only[List.getElem_toArray,List.getElem_cons_succ,List.getElem_cons_zero,Act.put,List.setIfInBounds_toArray,List.set_cons_zero,List.set_cons_succ]
  refine RegF.take 9 (.agg (l.map b8).toArray) rfl (by kernel_rfl) (by kernel_rfl) (by kernel_rfl) (by kernel_rfl) (fun _ _ _ h=>h) hBd (RegF.yld rfl (fun W hW=>x_loadM rowDSec (fun j v hj=>(hW.cell (p:=⟨gb,ob+j,none⟩) hgb3).trans (hr3 j v hj)) (by rw[List.length_map,HL.out]) rfl rfl)) ?_
  simp only[List.getElem_toArray,List.getElem_cons_succ,List.getElem_cons_zero,Act.put,List.setIfInBounds_toArray,List.set_cons_zero,List.set_cons_succ]
  refine RegF.take 10 (.agg (lsC (k,l)).toArray) rfl (by kernel_rfl) (by kernel_rfl) (by kernel_rfl) (by kernel_rfl) (fun _ _ _ h=>h) hBd (RegF.yld rfl (fun W hW=>x_buildLs k l rfl rfl rfl HL.out)) ?_
  simp only[List.getElem_toArray,List.getElem_cons_succ,List.getElem_cons_zero,Act.put,List.setIfInBounds_toArray,List.set_cons_zero,List.set_cons_succ]
  refine RegF.take 4 (.slice A3 xs.length c3) rfl (by kernel_rfl) (by kernel_rfl) (by kernel_rfl) (by kernel_rfl) (fun _ _ _ h=>h) hBd (RegF.yld rfl (fun W hW=>by have e:=HC2 W hW;go_simp)) ?_
  simp only[List.getElem_toArray,List.getElem_cons_succ,List.getElem_cons_zero,Act.put,List.setIfInBounds_toArray,List.set_cons_zero,List.set_cons_succ]
  refine RegF.two 5 11 (by kernel_rfl) ?_ ?_
  case' refine_1 =>
    refine RegF.opC 175 #[.tmp 24] #[101] rfl rfl rfl (enters_of Tryz.func175 (by kernel_rfl) rfl) #[.slice A3 xs.length c3] (by simp only[List.map_toArray,List.map_cons,List.map_nil];rfl) ((HCL _ hBd).mono ?_)
    rintro e w4 ⟨v4,rfl,own4,hB4⟩
    have hB4w:Below w3.heap.size w3 w4:=hBd.trans (hB4.mono hBd.size)
    refine⟨v4,rfl,fun _=>hB4w,?_⟩
    simp only[List.getElem_toArray,List.getElem_cons_succ,List.getElem_cons_zero,Act.put,List.setIfInBounds_toArray,List.set_cons_zero,List.set_cons_succ]
    refine RegF.one 11 (by kernel_rfl) ?_
    refine RegF.opV _ rfl rfl (x_sliceLs k l HL.out rfl rfl) ⟨fun _=>HBa _ _ _ hB4w,?_⟩
    simp only[List.getElem_toArray,List.getElem_cons_succ,List.getElem_cons_zero,Act.put,List.setIfInBounds_toArray,List.set_cons_zero,List.set_cons_succ]
    refine RegF.one 12 (by kernel_rfl) ?_
    refine opApp rfl rfl elLoose (.tmp 25) (.tmp 31) rfl w3.heap.size v4 xs.length (flC xs) rfl (ownG_grow (ownG_base own4 (Nat.le_refl _)) ((Below.refl _ w4).alloc (Nat.le_refl _) _)) _ _ 1 1 (lsC (k,l)) rfl (row_new w4 k l HL.out) (by unfold maxLen;omega) (by omega) (HBa _ _ _ hB4w).size ?_
    intro v5 w5 own5 hg5
    have hB5:Below w3.heap.size w3 w5:=(HBa _ _ _ hB4w).trans (grown_below hg5 (HBa _ _ _ hB4w).size (ownG_ge (ownG_base own4 (Nat.le_refl _))))
    refine⟨fun _=>hB5,?_⟩
    simp only[List.getElem_toArray,List.getElem_cons_succ,List.getElem_cons_zero,Act.put,List.setIfInBounds_toArray,List.set_cons_zero,List.set_cons_succ]
    clear hg5 own4 hB4 hB4w
  case' refine_2 =>
    refine RegF.opV _ rfl rfl (x_sliceLs k l HL.out rfl rfl) ⟨fun _=>HBa _ _ _ hBd,?_⟩
    simp only[List.getElem_toArray,List.getElem_cons_succ,List.getElem_cons_zero,Act.put,List.setIfInBounds_toArray,List.set_cons_zero,List.set_cons_succ]
    refine RegF.one 5 (by kernel_rfl) ?_
    refine RegF.opC 175 #[.tmp 24] #[101] rfl rfl rfl (enters_of Tryz.func175 (by kernel_rfl) rfl) #[.slice A3 xs.length c3] (by simp only[List.map_toArray,List.map_cons,List.map_nil];rfl) ((HCL _ (HBa _ _ _ hBd)).mono ?_)
    rintro e w4 ⟨v4,rfl,own4,hB4⟩
    have hB4w:Below w3.heap.size w3 w4:=(HBa _ _ _ hBd).trans (hB4.mono (HBa _ _ _ hBd).size)
    refine⟨v4,rfl,fun _=>hB4w,?_⟩
    simp only[List.getElem_toArray,List.getElem_cons_succ,List.getElem_cons_zero,Act.put,List.setIfInBounds_toArray,List.set_cons_zero,List.set_cons_succ]
    refine RegF.one 12 (by kernel_rfl) ?_
    refine opApp rfl rfl elLoose (.tmp 25) (.tmp 31) rfl w3.heap.size v4 xs.length (flC xs) rfl (ownG_base own4 (HBa _ _ _ hBd).size) _ _ 1 1 (lsC (k,l)) rfl ((row_new w3.drew k l HL.out).grow hB4) (by unfold maxLen;omega) (by omega) hB4w.size ?_
    intro v5 w5 own5 hg5
    have hB5:Below w3.heap.size w3 w5:=hB4w.trans (grown_below hg5 hB4w.size (ownG_ge (ownG_base own4 (HBa _ _ _ hBd).size)))
    refine⟨fun _=>hB5,?_⟩
    simp only[List.getElem_toArray,List.getElem_cons_succ,List.getElem_cons_zero,Act.put,List.setIfInBounds_toArray,List.set_cons_zero,List.set_cons_succ]
    clear hg5 own4 hB4 hB4w
  all_goals
    have hb5:=hb.below hB5 hp3
    have c5:w5.cell? ⟨p,2,none⟩=some (.slice A3 xs.length c3):=HC2 _ hB5
    have f5:=hb5.free 2
    have own6:(w5.setCell ⟨p,2,none⟩ v5).ownsRow w3.heap.size 214 65 v5 (xs.length+1) (flC xs++lsC (k,l)):=ownG_later own5 fun r hr=>Below.heap_setCell w5 ⟨p,2,none⟩ v5 r (fun e=>by have:=ownG_ge own5 r hr;simp at e;omega)
    obtain⟨A5,cc5,rfl,hin5⟩:=ownG_in own6 (fun v hv=>by rcases List.mem_append.1 hv with h|h;exact flC_one _ v h;exact lsC_one _ v h)
    refine RegF.one 13 (by kernel_rfl) ?_
    refine RegF.opV (.pointer (some ⟨p,0,none⟩)) rfl rfl (by go_simp) ⟨fun _=>hB5,?_⟩
    simp only[List.getElem_toArray,List.getElem_cons_succ,List.getElem_cons_zero,Act.put,List.setIfInBounds_toArray,List.set_cons_zero,List.set_cons_succ]
    refine RegF.one 14 (by kernel_rfl) ?_
    refine RegF.opV (.pointer (some ⟨p,2,none⟩)) rfl rfl (by go_simp) ⟨fun _=>hB5,?_⟩
    simp only[List.getElem_toArray,List.getElem_cons_succ,List.getElem_cons_zero,Act.put,List.setIfInBounds_toArray,List.set_cons_zero,List.set_cons_succ]
    refine RegF.one 15 (by kernel_rfl) ?_
    refine RegF.opS (w':=w5.setCell ⟨p,2,none⟩ (.slice A5 (xs.length+1) cc5)) rfl rfl (by go_simp) ⟨fun h=>absurd rfl h,?_⟩
    simp only[List.getElem_toArray,List.getElem_cons_succ,List.getElem_cons_zero,Act.put]
    refine RegF.done (by kernel_rfl) ?_
    have hwx:Wide (xs++[(k,l)]):=fun x hx'=>by
      rcases List.mem_append.1 hx' with h|h
      · exact hx.1 x h
      · obtain rfl:x=(k,l):=by simpa using h
        exact HL.out
    have hfl:flC (xs++[(k,l)])=flC xs++lsC (k,l):=by rw[flC_append];simp[flC]
    have hln:(xs++[(k,l)]).length=xs.length+1:=by simp
    have hD6:DkIs (w5.setCell ⟨p,2,none⟩ (.slice A5 (xs.length+1) cc5)) p many g (xs++[(k,l)]) left stops:=by
      refine⟨r,A5,cc5,?_,(hm.grow hB5).setCell _ _,hwx,?_⟩
      · rw[hln]
        exact hb5.set 2 _
      · rw[hln,hfl]
        exact hin5
    have hg6:w.grownBy (w5.setCell ⟨p,2,none⟩ (.slice A5 (xs.length+1) cc5)) (some p):=grownBy_trans (below_grownBy (hB03.trans (hB5.mono hB03.size)) p) (setCell_grownBy w5 ⟨p,2,none⟩ _)
    obtain⟨g9,h9,hg9⟩:∃g9,A5=some ⟨g9,0,none⟩/\w.heap.size<=g9:=by
      rcases own6.2 with⟨_,e⟩|⟨g9,cap,cur,e,hb9,_⟩
      · omega
      · injection e with e1
        exact⟨g9,e1,Nat.le_trans hB03.size hb9⟩
    have hc6:(w5.setCell ⟨p,2,none⟩ (.slice A5 (xs.length+1) cc5)).cell? ⟨p,2,none⟩=some (.slice (some ⟨g9,0,none⟩) (xs.length+1) cc5):=by rw[<-h9];exact World.cell?_setCell_same _ _ _ c5
    clear own5 own6 hin5 hb5 c5 f5 hB5 HC2 HC5 HLD HLV HAR HCL HBa hwx hfl hln
    generalize w5.setCell ⟨p,2,none⟩ (.slice A5 (xs.length+1) cc5)=w6 at *
    go_wp2_with (go_at_call 143;refine(done_gives _ p many _ _ left stops hD6 h1 h2).mono ?_;rintro e w7 ⟨⟨v,rfl⟩,hD7,hg7,hc7⟩)
    go_ret
    exact⟨rfl,hD7,grownBy_trans hg6 hg7,g9,cc5,hc7.trans hc6,hg9⟩
end
section
variable (w:World)(p many:Nat)(g:Nat->List UInt8)(xs:List (Nat×List UInt8))(left:Int)(stops:Bool)
end

section
variable (w:World)(p many:Nat)(g:Nat->List UInt8)(xs:List (Nat×List UInt8))(left:Int)(stops:Bool)
end
def prC (x:UInt8×UInt8):List Value:=[b8 x.1,b8 x.2]
def fpC (ls:List (UInt8×UInt8)):List Value:=(ls.map prC).flatten
theorem fpC_at:∀(ls:List (UInt8×UInt8)) (j:Nat) (h:j<ls.length),(fpC ls)[j*2]? = some (b8 ls[j].1)/\(fpC ls)[j*2+1]? = some (b8 ls[j].2)
  | x::ls,0,_=>⟨rfl,rfl⟩
  | x::ls,j+1,h=>by
    have e:fpC (x::ls)=b8 x.1::b8 x.2::fpC ls:=rfl
    have:=fpC_at ls j (by simpa using h)
    rw[e,show (j+1)*2=(j*2+1)+1 from by omega,List.getElem?_cons_succ,List.getElem?_cons_succ,List.getElem?_cons_succ]
    exact this
def InP (w:World)(B:Nat)(A:Option Addr)(c:Nat)(ls:List (UInt8×UInt8)):Prop:=InG w B 2 A ls.length c (fpC ls)
theorem InP.lies {w:World}{B:Nat}{A:Option Addr}{c:Nat}{ls:List (UInt8×UInt8)}(h:InP w B A c ls)(h0:0<ls.length):∃g o,A=some ⟨g,o,none⟩/\g<B/\∀j,(hj:j<ls.length)->w.cell? ⟨g,o+j*2,none⟩=some (.int .u8 (ls[j].1.toNat:Int))/\w.cell? ⟨g,o+j*2+1,none⟩=some (.int .u8 (ls[j].2.toNat:Int)):=by
  obtain⟨g,o,e,hg,hr⟩:=InG.lies h h0
  refine⟨g,o,e,hg,fun j hj => ?_⟩
  obtain⟨h1,h2⟩:=fpC_at ls j hj
  exact⟨hr _ _ h1,hr _ _ h2⟩
theorem DkIs.own {w w':World}{p many:Nat}{g:Nat->List UInt8}{xs:List (Nat×List UInt8)}{left:Int}{stops:Bool}(h:DkIs w p many g xs left stops){b n c r:Nat}{cs:Array Value}{T:TypeId}(hc:w.cell? ⟨p,2,none⟩=some (.slice (some ⟨b,0,none⟩) n c))(hb:b≠r)(hp:p≠r)(hr:BlkIs w r T cs)(hg:w.grownBy w' (some r)):DkIs w' p many g xs left stops:=by
  obtain⟨m,A,k,hbl,hm,hw,hx⟩:=h.has
  have e:=hbl.cell 2
  rw[hc] at e
  have e2:(dkC m many A xs.length k left stops)[2]? = some (.slice A xs.length k):=rfl
  rw[e2] at e
  injection e with e
  injection e with e1 e2 e3
  subst e1 e3
  have hmr:m≠r:=fun e=>by
    subst e
    obtain⟨es,ck,h1,_⟩:=hm.lies
    have h2:w.heap[m]? = some (.cells cs T (0,0)):=hr
    have h1':w.heap[m]? = some (.map es ck):=h1
    rw[h1'] at h2
    cases h2
  refine⟨m,_,_,hbl.grown hg (fun e=>hp (by injection e)),hm.keep (hg.block m hm.lt (fun e=>hmr (by injection e))),hw,?_⟩
  refine⟨hx.le,hx.max,hx.nil,hx.len,hx.one,fun h0 => ?_⟩
  obtain⟨b',o,e,hbl',hr'⟩:=hx.lies h0
  have eb:b=b':=by
    injection e with e
    injection e
  subst eb
  exact⟨b,o,e,Nat.lt_of_lt_of_le hbl' hg.size,fun j v hj=>(World.cell?_of_block (hg.block b hbl' (fun e=>hb (by injection e)))).trans (hr' j v hj)⟩
def wrC (x:Nat×List UInt8):List Value:=[.int .i64 (x.1:Int),.string (str x.2)]
def wsC (xs:List (Nat×List UInt8)):List Value:=(xs.map wrC).flatten
theorem wsC_elem:∀(xs:List (Nat×List UInt8)) (j:Nat) (h:j<xs.length),((wsC xs).drop (j*2)).take 2=wrC xs[j]
  | x::xs,0,_=>by
    have e:wsC (x::xs)=wrC x++wsC xs:=rfl
    rw[e]
    rfl
  | x::xs,j+1,h=>by
    have e:wsC (x::xs)=wrC x++wsC xs:=rfl
    rw[e,show (j+1)*2=2+j*2 from by omega,<-List.drop_drop]
    have e2:(wrC x++wsC xs).drop 2=wsC xs:=rfl
    rw[e2,wsC_elem xs j (by simpa using h)]
    rfl
theorem wsC_append (xs ys:List (Nat×List UInt8)):wsC (xs++ys)=wsC xs++wsC ys:=by simp[wsC]
theorem wrC_one (x:Nat×List UInt8):∀v∈wrC x,v.oneCell'=true:=by
  intro v hv
  simp[wrC] at hv
  rcases hv with rfl|rfl<;>rfl
theorem wsC_one (xs:List (Nat×List UInt8)):∀v∈wsC xs,v.oneCell'=true:=by
  intro v hv
  obtain⟨l,hl,hv⟩:=List.mem_flatten.1 hv
  obtain⟨c,_,rfl⟩:=List.mem_map.1 hl
  exact wrC_one c v hv
theorem rowRDisk:RowTy Tryz.prog 32 4:=⟨⟨_,Tryz.underlying32,rfl⟩,by kernel_rfl⟩
theorem elRW:ElT 30 199 2 24 (.agg #[.int .i64 0,.string ByteArray.empty]):=⟨Tryz.underlying30,by kernel_rfl,by kernel_rfl,by decide⟩
structure RIs (w:World)(B:Nat)(sy ls:List (Nat×List UInt8))(As:Option Addr)(cs:Nat)(Al:Option Addr)(cl:Nat):Prop where
  s:InG w B 2 As sy.length cs (wsC sy)
  l:InG w B 2 Al ls.length cl (wsC ls)
theorem RIs.grow {w w':World}{sy ls:List (Nat×List UInt8)}{As Al:Option Addr}{cs cl:Nat}(h:RIs w w.heap.size sy ls As cs Al cl)(hB:Below w.heap.size w w'):RIs w' w'.heap.size sy ls As cs Al cl:=⟨h.s.grow hB,h.l.grow hB⟩
theorem wr_at {w wr:World}{B g o n c:Nat}{xs:List (Nat×List UInt8)}(h:InG w B 2 (some ⟨g,o,none⟩) n c (wsC xs))(hn:n=xs.length)(k:Nat)(hk:k<xs.length)(hB:Below B w wr) :
    wr.cell? ⟨g,o+k*2,none⟩=some (.int .i64 (xs[k].1:Int))/\wr.cell? ⟨g,o+k*2+1,none⟩=some (.string (str xs[k].2)):=by
  obtain⟨g',o',e,hg,_⟩:=h.lies (by omega)
  injection e with e
  injection e with e1 e2
  subst e1 e2
  have hr:=h.elem k (by omega)
  rw[wsC_elem xs k hk] at hr
  exact⟨(hB.cell (p:=⟨g,o+k*2,none⟩) hg).trans (hr 0 _ rfl),(hB.cell (p:=⟨g,o+k*2+1,none⟩) hg).trans (hr 1 _ rfl)⟩
def lastB (xs:List (Nat×List UInt8))(at_:Int):List UInt8:=xs.foldl (fun s x=>if (x.1:Int)=at_ then x.2 else s) zer64
theorem lastB_next (xs:List (Nat×List UInt8))(at_:Int)(k:Nat)(hk:k<xs.length):lastB (xs.take (k+1)) at_=if (xs[k].1:Int)=at_ then xs[k].2 else lastB (xs.take k) at_:=by
  unfold lastB
  rw[List.take_succ_eq_append_getElem hk,List.foldl_append]
  rfl
theorem last_gives (w:World)(A:Option Addr)(c:Nat)(xs:List (Nat×List UInt8))(h:InG w w.heap.size 2 A xs.length c (wsC xs))(hl:xs.length<=1000000)(at_:Int) :
    Calls Tryz.prog 153 #[.slice A xs.length c,.int .i64 at_] w fun e w'=>e = .returned (.string (str (lastB xs at_)))/\Below w.heap.size w w':=by
  have hle:=h.le
  have h0:lastB (xs.take 0) at_=zer64:=rfl
  have hfin:lastB (xs.take xs.length) at_=lastB xs at_:=by rw[List.take_length]
  have HN:=Lib.hid (lastB_next xs at_)
  have HF:=Lib.hid hfin
  clear hfin h0
  go_enter Tryz.func153,Tryz.ntmps153
  go_wp2_with (refine wp_makeB rfl (.const (.int .i64 64)) (.const (.int .i64 64)) rfl w.heap.size .i64 .i64 64 rfl rfl (by omega) (Nat.le_refl _) ?_;intro w1 own1 hg1;obtain⟨A1,c1,e1,in1⟩:=own1.inB;have s1:=in1.string;rw[<-e1] at s1;replace s1:(convert 44 9 (.slice (some ⟨w.heap.size,0,none⟩) 64 64)).run Tryz.prog w1 = .ok (.string (str zer64)) w1:=s1;obtain⟨st0,hst0⟩:∃x,x=str zer64:=⟨_,rfl⟩;rw[<-hst0] at s1;have HST0:=Lib.hid hst0;clear hst0 e1)
  have hB1:Below w.heap.size w w1:=grown_below hg1 (Nat.le_refl _) (fun r e=>by cases e)
  clear s1 in1 own1 hg1
  go_loopw [5,6] (fun s i wr=>∃(k:Nat) (st:ByteArray),k<=xs.length/\i = .int .i64 k/\s = .string st/\Hid (st=str (lastB (xs.take k) at_))/\Below w.heap.size w wr) (fun _ i _=>xs.length - (intOf i).toNat)
  case atStart=>exact⟨0,st0,by omega,rfl,rfl,HST0,hB1⟩
  case round =>
    obtain⟨k,st,hk,rfl,rfl,HS,hB⟩:=hrel
    by_cases hlt:k<xs.length
    · obtain⟨g,o,rfl,hg,_⟩:=h.lies (by omega)
      obtain⟨d0,d1⟩:=wr_at h rfl k hlt hB
      have i1:(0:Int)<=(k:Int):=by omega
      have i2:(k:Int)<(xs.length:Int):=by omega
      have hwk:IntKind.i64.wrap ((k:Int)+1)=(k:Int)+1:=wrap_i64_fr _ (by omega) (by omega)
      have HX:=HN.out k hlt
      by_cases ha:(xs[k].1:Int)=at_
      · rw[if_pos ha] at HX
        have HX2:Hid (str xs[k].2=str (lastB (xs.take (k+1)) at_)):=Lib.hid (by rw[HX])
        rw[ha] at d0
        generalize str xs[k].2=st2 at *
        clear ha HX
        go_wp2
        exact⟨⟨k+1,st2,by omega,by simp,rfl,HX2,hB⟩,by simp[intOf];omega⟩
      · rw[if_neg ha] at HX
        have HX2:Hid (st=str (lastB (xs.take (k+1)) at_)):=Lib.hid (by rw[HX];exact HS.out)
        generalize (xs[k].1:Int)=a0 at *
        clear HX
        go_wp2
        exact⟨⟨k+1,st,by omega,by simp,rfl,HX2,hB⟩,by simp[intOf];omega⟩
    · obtain rfl:k=xs.length:=by omega
      have HE:Hid (st=str (lastB xs at_)):=Lib.hid (by rw[HS.out,HF.out])
      go_wp2
      go_ret
      exact⟨by rw[HE.out];rfl,hB⟩
section
variable {w:World}{ops:Array Oper}{i:Nat}{o:Oper}{a:Act}{Q:Exit->Act->World->Prop}{K:Act->World->Prop}
theorem opAppR (ho:ops[i]? = some o)(hgd:o.guard=none){S T:TypeId}{sz by_:Nat}{z:Value}(hT:ElT S T sz by_ z)(s x:Operand)(hc:o.op = .call { callee:=.builtin .append,args:=#[s,x],argTypes:=#[S,S] })
    (base:Nat) (v:Value) (n:Nat) (cs:List Value) (hs:a.eval s=v) (hown:w.ownsRow base T sz v n cs) (B:Nat) (A:Option Addr) (m c:Nat) (cs2:List Value) (hx:a.eval x = .slice A m c) (hin:InG w B sz A m c cs2)
    (hm:n+m<=maxLen) (hbytes:(n+m)*by_<=140737488355328) (hbase:base<=w.heap.size)
    (h:∀v' w',w'.ownsRow base T sz v' (n+m) (cs++cs2)->w.grownBy w' v.ownBlock->K (a.put o.dst v') w'):wpOp Tryz.prog ops Q i K a w:=by
  obtain⟨v',w',hr,h2,h3⟩:=run_appG (w:=w) o.type hT base v n cs hown B A m c cs2 hin hm hbytes hbase
  refine RegF.opV v' ho hgd (w':=w') ?_ (h v' w' h2 h3)
  unfold execOp
  simp only[hc,resolve,invoke,builtin,Sem.run_bind,Sem.run_pure,Result.andThen_ok,List.map_toArray,List.map_cons,List.map_nil,hs,hx,hr]
end
theorem four_oneR {v0 v1 v2 v3:Value}(h0:v0.oneCell'=true)(h1:v1.oneCell'=true)(h2:v2.oneCell'=true)(h3:v3.oneCell'=true):∀v∈(#[v0,v1,v2,v3]:Array Value).toList,v.oneCell'=true:=by
  intro v hv
  simp at hv
  rcases hv with rfl|rfl|rfl|rfl<;>assumption
theorem row_litR (w:World)(T:TypeId)(sz:Nat)(cs:List Value)(hn:cs.length=sz)(h1:∀v∈cs,v.oneCell'=true):InG (w.alloc (.cells cs.toArray T)) (w.alloc (.cells cs.toArray T)).heap.size sz (some ⟨w.heap.size,0,none⟩) 1 1 cs :=
  ⟨Nat.le_refl _,by omega,(fun e=>by cases e),by omega,h1,fun _=>⟨w.heap.size,0,rfl,by simp,fun j v hj=>by
    rw[(BlkIs.new w T cs.toArray).cell,Nat.zero_add]
    simpa using hj⟩⟩
theorem ownG_rest {w:World}{base r:Nat}{T:TypeId}{sz n:Nat}{v:Value}{xs:List Value}(h:w.ownsRow base T sz v n xs)(hr:r<base)(i:Nat)(u:Value):(w.setCell ⟨r,i,none⟩ u).ownsRow base T sz v n xs :=
  ownG_later h fun q hq=>Below.heap_setCell w ⟨r,i,none⟩ u q (fun e=>by have:=ownG_ge h q hq;simp at e;omega)
def zeroR:Array Value:=#[.int .i64 0,.slice none 0 0,.slice none 0 0,.int .i64 0]
def rcW (w:World)(cs:Array Value):World:=(w.alloc (.cells cs 32)).alloc (.cells zeroR 32)
theorem rcW_is (w:World)(cs:Array Value):BlkIs (rcW w cs) w.heap.size 32 cs/\BlkIs (rcW w cs) (w.heap.size+1) 32 #[.int .i64 0,.slice none 0 0,.slice none 0 0,.int .i64 0]/\Below w.heap.size w (rcW w cs):=by
  have b0:=BlkIs.new w 32 cs
  have b2:=BlkIs.new (w.alloc (.cells cs 32)) 32 zeroR
  rw[World.size_alloc] at b2
  exact⟨b0.alloc _,b2,((Below.refl _ w).alloc (Nat.le_refl _) _).alloc (by simp) _⟩
def rlft (left:Int):Int:=if 0<left then left - 1 else left
def VAL (many:Int)(As:Option Addr)(ns cs:Nat)(Al:Option Addr)(nl cl:Nat)(left:Int):Value:=.agg #[.int .i64 many,.slice As ns cs,.slice Al nl cl,.int .i64 left]
theorem rnew_gives (w:World)(n:Int):Calls Tryz.prog 41 #[.int .i64 n] w fun e w'=>e = .returned (VAL n none 0 0 none 0 0 (-1))/\Below w.heap.size w w':=by
  have b0:=BlkIs.new w 32 #[.int .i64 0,.slice none 0 0,.slice none 0 0,.int .i64 0]
  have hB:Below w.heap.size w (w.alloc (.cells #[.int .i64 0,.slice none 0 0,.slice none 0 0,.int .i64 0] 32)):=(Below.refl _ w).alloc (Nat.le_refl _) _
  go_enter Tryz.func41,Tryz.ntmps41
  go_wp2_with (refine wp_storeW rfl 32 (.tmp 2) (.tmp 4) rfl w.heap.size rfl rfl rowRDisk b0 (by rfl) (by rfl) (four_oneR rfl rfl rfl rfl) ?_)
  exact bodyPost_ret (results_cellW 2 rfl rfl rowRDisk (b0.setRow _) (by rfl)) rfl ⟨rfl,below_setRow hB (Nat.le_refl _) _⟩
theorem rdone_gives (w:World)(many:Int)(As:Option Addr)(ns cs:Nat)(Al:Option Addr)(nl cl:Nat)(left:Int)(h1 : -1000000<=left)(h2:left<=9223372036854775807):Calls Tryz.prog 73 #[VAL many As ns cs Al nl cl left] w fun e w'=>e = .returned (VAL many As ns cs Al nl cl (rlft left))/\Below w.heap.size w w':=by
  obtain⟨b1,b2,hB1⟩:=rcW_is w #[.int .i64 many,.slice As ns cs,.slice Al nl cl,.int .i64 left]
  unfold VAL at *
  obtain⟨W1,hW1⟩:∃W1,W1=rcW w #[.int .i64 many,.slice As ns cs,.slice Al nl cl,.int .i64 left]:=⟨_,rfl⟩
  rw[<-hW1] at b1 b2 hB1
  unfold rcW zeroR at hW1
  have HW1:=Lib.hid hW1
  clear hW1
  have a0:W1.cell? ⟨w.heap.size,0,none⟩=some (.int .i64 many):=by rw[b1.cell];rfl
  have a1:W1.cell? ⟨w.heap.size,1,none⟩=some (.slice As ns cs):=by rw[b1.cell];rfl
  have a2:W1.cell? ⟨w.heap.size,2,none⟩=some (.slice Al nl cl):=by rw[b1.cell];rfl
  have a3:W1.cell? ⟨w.heap.size,3,none⟩=some (.int .i64 left):=by rw[b1.cell];rfl
  have f3:=b1.free 3
  by_cases hl:0<left
  · have e:rlft left=left - 1:=if_pos hl
    have hw0:IntKind.i64.wrap (left - 1)=left - 1:=wrap_i64_fr _ (by omega) (by omega)
    rw[e]
    obtain⟨l2,hl2⟩:∃x,x=left - 1:=⟨_,rfl⟩
    have hw:IntKind.i64.wrap (left - 1)=l2:=by rw[hl2];exact hw0
    rw[<-hl2]
    clear hw0 hl2 e
    have b1':=b1.set 3 (.int .i64 l2)
    have b2':=b2.other (p:=⟨w.heap.size,3,none⟩) (by simp) (.int .i64 l2)
    have hB2:=hB1.setCell (p:=⟨w.heap.size,3,none⟩) (by simp) (.int .i64 l2)
    clear h1 h2
    go_enter Tryz.func73,Tryz.ntmps73
    go_upto_region 1 with fail
    rw[<-HW1.out]
    clear HW1
    go_wp2_with (first
      | (refine wp_loadW rfl 32 (.tmp 1) rfl (w.heap.size) rfl rowRDisk b1' (by rfl) ?_)
      | (refine wp_storeW rfl 32 (.tmp 2) (.tmp 10) rfl (w.heap.size+1) rfl rfl rowRDisk b2' (by rfl) (by rfl) (four_oneR rfl rfl rfl rfl) ?_))
    exact bodyPost_ret (results_cellW 2 rfl rfl rowRDisk (b2'.setRow _) (by rfl)) rfl ⟨rfl,below_setRow hB2 (by omega) _⟩
  · have e:rlft left=left:=if_neg hl
    rw[e]
    clear h1 h2
    go_enter Tryz.func73,Tryz.ntmps73
    go_upto_region 1 with fail
    rw[<-HW1.out]
    clear HW1
    go_wp2_with (first
      | (refine wp_loadW rfl 32 (.tmp 1) rfl (w.heap.size) rfl rowRDisk b1 (by rfl) ?_)
      | (refine wp_storeW rfl 32 (.tmp 2) (.tmp 10) rfl (w.heap.size+1) rfl rfl rowRDisk b2 (by rfl) (by rfl) (four_oneR rfl rfl rfl rfl) ?_))
    exact bodyPost_ret (results_cellW 2 rfl rfl rowRDisk (b2.setRow _) (by rfl)) rfl ⟨rfl,below_setRow hB1 (by omega) _⟩
theorem rsector_gives (w:World)(many:Int)(sy ls:List (Nat×List UInt8))(As:Option Addr)(cs:Nat)(Al:Option Addr)(cl:Nat)(left:Int)(h:RIs w w.heap.size sy ls As cs Al cl)(hn1:sy.length<=400000)(hn2:ls.length<=400000)(at_:Int):Calls Tryz.prog 120 #[VAL many As sy.length cs Al ls.length cl left,.int .i64 at_] w fun e w'=>e = .returned (.string (str (lastB (sy++ls) at_)))/\Below w.heap.size w w':=by
  have b1:=BlkIs.new w 32 #[.int .i64 many,.slice As sy.length cs,.slice Al ls.length cl,.int .i64 left]
  have hB1:Below w.heap.size w (w.alloc (.cells #[.int .i64 many,.slice As sy.length cs,.slice Al ls.length cl,.int .i64 left] 32)):=(Below.refl _ w).alloc (Nat.le_refl _) _
  unfold VAL at *
  obtain⟨W1,hW1⟩:∃W1,W1=w.alloc (.cells #[.int .i64 many,.slice As sy.length cs,.slice Al ls.length cl,.int .i64 left] 32):=⟨_,rfl⟩
  rw[<-hW1] at b1 hB1
  have HW1:=Lib.hid hW1
  clear hW1
  have a1:W1.cell? ⟨w.heap.size,1,none⟩=some (.slice As sy.length cs):=by rw[b1.cell];rfl
  have a2:W1.cell? ⟨w.heap.size,2,none⟩=some (.slice Al ls.length cl):=by rw[b1.cell];rfl
  have hs:=(h.s.below hB1).more hB1.size
  have hl2:=(h.l.below hB1).more hB1.size
  have HP1:w.heap.size<W1.heap.size:=b1.lt
  have HP2:=HP1
  have hlen:sy.length+ls.length=(sy++ls).length:=by rw[List.length_append]
  have HLen:=Lib.hid hlen
  clear hlen h
  go_enter Tryz.func120,Tryz.ntmps120
  go_upto_region 1 with fail
  rw[<-HW1.out]
  clear HW1
  have hSd:W1.drew.cell? ⟨w.heap.size,1,none⟩=some (.slice As sy.length cs)/\W1.drew.cell? ⟨w.heap.size,2,none⟩=some (.slice Al ls.length cl):=⟨a1,a2⟩
  have hBd:Below W1.heap.size W1 W1.drew:=(Below.refl _ W1).drew
  refine RegF.start (fun W=>W.cell? ⟨w.heap.size,1,none⟩=some (.slice As sy.length cs)/\W.cell? ⟨w.heap.size,2,none⟩=some (.slice Al ls.length cl)) 9 (by kernel_rfl) ?_
  refine RegF.take 1 (.pointer (some ⟨w.heap.size,1,none⟩)) rfl (by kernel_rfl) (by kernel_rfl) (by kernel_rfl) (by kernel_rfl) (fun _ _ _ h=>h) hSd (RegF.yld rfl (fun W hW=>by obtain⟨hW1,hW2⟩:=hW;go_simp)) ?_
  simp only[List.getElem_toArray,List.getElem_cons_succ,List.getElem_cons_zero,Act.put,List.setIfInBounds_toArray,List.set_cons_zero,List.set_cons_succ]
  refine RegF.take 2 (.slice As sy.length cs) rfl (by kernel_rfl) (by kernel_rfl) (by kernel_rfl) (by kernel_rfl) (fun _ _ _ h=>h) hSd (RegF.yld rfl (fun W hW=>by obtain⟨hW1,hW2⟩:=hW;go_simp)) ?_
  simp only[List.getElem_toArray,List.getElem_cons_succ,List.getElem_cons_zero,Act.put,List.setIfInBounds_toArray,List.set_cons_zero,List.set_cons_succ]
  refine RegF.take 4 (.pointer (some ⟨w.heap.size,2,none⟩)) rfl (by kernel_rfl) (by kernel_rfl) (by kernel_rfl) (by kernel_rfl) (fun _ _ _ h=>h) hSd (RegF.yld rfl (fun W hW=>by obtain⟨hW1,hW2⟩:=hW;go_simp)) ?_
  simp only[List.getElem_toArray,List.getElem_cons_succ,List.getElem_cons_zero,Act.put,List.setIfInBounds_toArray,List.set_cons_zero,List.set_cons_succ]
  refine RegF.take 5 (.slice Al ls.length cl) rfl (by kernel_rfl) (by kernel_rfl) (by kernel_rfl) (by kernel_rfl) (fun _ _ _ h=>h) hSd (RegF.yld rfl (fun W hW=>by obtain⟨hW1,hW2⟩:=hW;go_simp)) ?_
  simp only[List.getElem_toArray,List.getElem_cons_succ,List.getElem_cons_zero,Act.put,List.setIfInBounds_toArray,List.set_cons_zero,List.set_cons_succ]
  refine RegF.take 7 (.int .i64 at_) rfl (by kernel_rfl) (by kernel_rfl) (by kernel_rfl) (by kernel_rfl) (fun _ _ _ h=>h) hSd (RegF.yld rfl (fun W hW=>by obtain⟨hW1,hW2⟩:=hW;go_simp)) ?_
  simp only[List.getElem_toArray,List.getElem_cons_succ,List.getElem_cons_zero,Act.put,List.setIfInBounds_toArray,List.set_cons_zero,List.set_cons_succ]
  have hBe:=hBd.alloc (Nat.le_refl _) (.cells #[] 199)
  have e0:(W1.drew.alloc (.cells #[] 199)).ownsRow W1.heap.size 199 2 (.slice (some ⟨W1.heap.size,0,none⟩) 0 0) 0 []:=World.ownsRow_lit W1.drew #[] 0 (Nat.le_refl _) (by unfold maxLen;omega) rfl
  have hSk:∀W',Below W1.heap.size W1 W'->W'.cell? ⟨w.heap.size,1,none⟩=some (.slice As sy.length cs)/\W'.cell? ⟨w.heap.size,2,none⟩=some (.slice Al ls.length cl):=fun W' hB=>⟨(hB.cell (p:=⟨w.heap.size,1,none⟩) HP1).trans a1,(hB.cell (p:=⟨w.heap.size,2,none⟩) HP2).trans a2⟩
  refine RegF.one 0 (by kernel_rfl) ?_
  refine RegF.opV (w':=W1.drew.alloc (.cells #[] 199)) (.slice (some ⟨W1.heap.size,0,none⟩) 0 0) rfl rfl (by go_simp) ⟨fun _=>hSk _ hBe,?_⟩
  simp only[List.getElem_toArray,List.getElem_cons_zero,Act.put,List.setIfInBounds_toArray,List.set_cons_zero,List.set_cons_succ]
  refine RegF.one 3 (by kernel_rfl) ?_
  refine opAppR rfl rfl elRW (.tmp 5) (.tmp 7) rfl W1.heap.size (.slice (some ⟨W1.heap.size,0,none⟩) 0 0) 0 [] rfl e0 _ As sy.length cs (wsC sy) rfl (hs.below hBe) (by unfold maxLen;omega) (by omega) hBe.size ?_
  intro v3 w3 own3 hg3
  have hB3:=hBe.trans (grown_below hg3 hBe.size (ownG_ge e0))
  rw[List.nil_append,Nat.zero_add] at own3
  refine⟨fun _=>hSk _ hB3,?_⟩
  simp only[List.getElem_toArray,List.getElem_cons_succ,List.getElem_cons_zero,Act.put,List.setIfInBounds_toArray,List.set_cons_zero,List.set_cons_succ]
  refine RegF.one 6 (by kernel_rfl) ?_
  refine opAppR rfl rfl elRW (.tmp 8) (.tmp 10) rfl W1.heap.size v3 sy.length (wsC sy) rfl own3 _ Al ls.length cl (wsC ls) rfl (hl2.below hB3) (by unfold maxLen;omega) (by omega) hB3.size ?_
  intro v6 w6 own6 hg6
  have hB6:=hB3.trans (grown_below hg6 hB3.size (ownG_ge own3))
  rw[<-wsC_append] at own6
  obtain⟨A6,c6,rfl,in6⟩:=ownG_in own6 (wsC_one _)
  refine⟨fun _=>hSk _ hB6,?_⟩
  simp only[List.getElem_toArray,List.getElem_cons_succ,List.getElem_cons_zero,Act.put,List.setIfInBounds_toArray,List.set_cons_zero,List.set_cons_succ]
  have in6':InG w6 w6.heap.size 2 A6 (sy++ls).length c6 (wsC (sy++ls)):=by rw[<-HLen.out];exact in6
  have HL:=last_gives w6 A6 c6 (sy++ls) in6' (by rw[List.length_append];omega) at_
  rw[<-HLen.out] at HL
  obtain⟨st,hst⟩:∃x,x=str (lastB (sy++ls) at_):=⟨_,rfl⟩
  rw[<-hst] at HL
  have HST:=Lib.hid hst
  clear hst
  refine RegF.one 8 (by kernel_rfl) ?_
  refine RegF.opC 153 #[.tmp 11,.tmp 12] #[30,3] rfl rfl rfl (enters_of Tryz.func153 (by kernel_rfl) rfl) #[.slice A6 (sy.length+ls.length) c6,.int .i64 at_] (by simp only[List.map_toArray,List.map_cons,List.map_nil];rfl) (HL.mono ?_)
  rintro e w8 ⟨rfl,hB8⟩
  have hB18:=hB6.trans (hB8.mono hB6.size)
  refine⟨_,rfl,fun _=>hSk _ hB18,?_⟩
  simp only[List.getElem_toArray,List.getElem_cons_succ,List.getElem_cons_zero,Act.put,List.setIfInBounds_toArray,List.set_cons_zero,List.set_cons_succ]
  refine RegF.one 9 (by kernel_rfl) ?_
  refine RegF.opV (w':=w8) (.string st) rfl rfl (by go_simp) ⟨fun h=>absurd rfl h,?_⟩
  simp only[List.getElem_toArray,List.getElem_cons_succ,List.getElem_cons_zero,Act.put,List.setIfInBounds_toArray,List.set_cons_zero,List.set_cons_succ]
  refine RegF.done (by kernel_rfl) ?_
  go_wp2
  go_ret
  exact⟨by rw[<-HST.out];rfl,hB1.trans (hB18.mono hB1.size)⟩
end Go.Proofs.YtmllnpjldmdaeaaGreat
