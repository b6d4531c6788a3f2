/- Texts that the proof of TreeNone leans on, part 4. -/
import Derived.OrdersHeld
import Derived.Deep.OwnRows
import Derived.Deep.DeepCutAuto
import Derived.Deep.CutBlock
import Derived.Test.YtpibjkbadnffgaaGreatTreeNoneB3
open List renaming length_cons → zP, length_map → qM, map_toArray → zK, map_cons → zL, map_nil → zN, getElem_toArray → zE, getElem_cons_zero → zB, setIfInBounds_toArray → zA, set_cons_zero → zG, set_cons_succ → zF, getElem_cons_succ → zD, mem_append → qK, size_toArray → zT, length_nil → qE, push_toArray → qD, append_toArray → qA, nil_append → zV, cons_append → qB, getElem_mem → qF, getElem?_eq_getElem → zM, length_append → zJ, all_eq_true → qJ
open Nat renaming zero_add → qC, le_refl → zH, lt_of_lt_of_le → zO, le_trans → zU, reduceAdd → qO, reduceSub → qP
open Array renaming getElem?_setIfInBounds → zQ, getElem?_eq_some_iff → zI, replicate_succ → zX, replicate_zero → zY, getD_eq_getD_getElem? → zS
set_option linter.unusedVariables false
set_option maxRecDepth 100000
set_option maxHeartbeats 8000000

namespace Go.Proofs.YtpibjkbadnffgaaGreat
open Go Go.RowKit Lou
namespace RegF
section
variable {P:Program}{ops:Array Oper}{Q:Exit->Act->World->Prop}{md:Region.Mode}{S:World->Prop}{fin:Nat}
def wpAnyF (P:Program)(md:Region.Mode)(ops:Array Oper)(Q:Exit->Act->World->Prop)(S:World->Prop)(fin:Nat):Nat->Array Bool->Act->World->Prop
 | 0,listed,a,w=>Region.ready md ops listed=[]/\Q .normal a w
 | fuel+1,listed,a,w =>
  (Region.ready md ops listed=[]->Q .normal a w) /\
  ∀i∈Region.ready md ops listed,wpOp P ops Q i (λa' w'=>(i≠fin->S w')/\wpAnyF P md ops Q S fin fuel (listed.setIfInBounds i true) a' w') a w
theorem to_any:∀(e:Nat) (listed:Array Bool) (a:Act) (w:World),wpAnyF P md ops Q S fin e listed a w->wpAny P md ops Q e listed a w
 | 0,_,_,_,h=>h
 | e+1,_,_,_,h=>⟨h.1,λi j=>wpOp_mono (λk w' f=>to_any e _ k w' f.2) (h.2 i j)⟩
def waitsFor (md:Region.Mode)(ops:Array Oper)(i j:Nat):Bool:=match ops[i]? with|some o=>o.after.toList.any λe=>Region.binds md e && e.on == j|none=>false
theorem waits_spec {i j:Nat}{o:Oper}(h:waitsFor md ops i j=true)(m:ops[i]? = some o):∃e∈o.after,Region.binds md e=true/\e.on=j:=by
 simp only[waitsFor,m,List.any_eq_true,Bool.and_eq_true,beq_iff_eq] at h
 obtain⟨e,k,f,q⟩:=h
 exact⟨e,Array.mem_toList_iff.1 k,f,q⟩
theorem first {i:Nat}{r:Oper}{v:Value}(M:ops[i]? = some r)(N:∀(j:Nat) (o:Oper) cs b,ops[j]? = some o->o.op≠.select cs b)
  (hQ:∀c a w,Q (.panic c) (a.put r.dst v) w->Q (.panic c) a w) (aD:waitsFor md ops fin i=true) :
  ∀(u:Nat) (listed:Array Bool) (a:Act) (w:World),
   (∀j m,ops[j]? = some m->j≠i->listed.getD j true=false->(∀e∈m.after,Region.binds md e=true->e.on≠i)->r.apart ops m=true) ->
   i∈Region.ready md ops listed->YieldsIf P ops S r v a->S w ->
   wpAnyF P md ops Q S fin u (listed.setIfInBounds i true) (a.put r.dst v) w->wpAnyF P md ops Q S fin (u+1) listed a w:=by
 intro u
 induction u with
 | zero =>
  intro listed a w _ q B s H
  refine⟨λh=>(by rw[h] at q;cases q),λj E => ?_⟩
  by_cases f:j=i
  ·subst f;exact B.wpOp M s ⟨λ_=>s,H⟩
  ·have:=ready_mono E f
   rw[H.1] at this
   cases this
 | succ u ih =>
  intro listed a w T q B s H
  refine⟨λh=>(by rw[h] at q;cases q),λj E => ?_⟩
  by_cases f:j=i
  ·subst f;exact B.wpOp M s ⟨λ_=>s,H⟩
  ·have h1:=H.2 j (ready_mono E f)
   obtain⟨W,m,C,aF⟩:=mem_ready.1 E
   have O:∀e∈m.after,Region.binds md e=true->e.on≠i:=λe G L aE=>by
    have h1:=aF e G L
    have X:=(mem_ready.1 q).1
    rw[aE] at h1
    rcases Nat.lt_or_ge i listed.size with I | I
    ·simp[I] at X h1;rw[X] at h1;cases h1
    ·simp[Array.getElem?_eq_none I] at h1
   have aA:j≠fin:=λe=>by
    subst e
    obtain⟨e,G,L,aG⟩:=waits_spec aD C
    exact O e G L aG
   have h2:=wpOp_putIf C (T j m C f W O) (λcs b=>N i r cs b M) (λcs b=>N j m cs b C) hQ B h1
   have aC:∀k ok,ops[k]? = some ok->k≠i->(listed.setIfInBounds j true).getD k true=false ->
     (∀e∈ok.after,Region.binds md e=true->e.on≠i)->r.apart ops ok=true:=λk ok hk Z V aB=>by
    refine T k ok hk Z ?_ aB
    by_cases U:j=k
    ·subst U;exact W
    ·rw[getD_set_ne true U] at V;exact V
   refine wpOp_mono (λa' w' z=>⟨z.2.1,ih (listed.setIfInBounds j true) a' w' aC (ready_mono q (Ne.symm f)) z.1 (z.2.1 aA) ?_⟩) h2
   rw[Array.setIfInBounds_comm _ _ f]
   exact z.2.2
theorem take {f:Nat}{listed:Array Bool}{a:Act}{w:World}(i:Nat){e:Oper}(v:Value)(j:ops[i]? = some e)
  (hs:Region.noSelect ops=true) (hf:Region.free md ops listed i=true) (s:(Region.ready md ops listed).contains i=true) (k:waitsFor md ops fin i=true)
  (m:∀c a w,Q (.panic c) (a.put e.dst v) w->Q (.panic c) a w) (r:S w) (q:YieldsIf P ops S e v a)
  (h:wpAnyF P md ops Q S fin f (listed.setIfInBounds i true) (a.put e.dst v) w):wpAnyF P md ops Q S fin (f+1) listed a w :=
 first j (Region.noSelect_spec hs) m k f listed a w (Region.free_spec j hf) (by simpa using s) q r h
theorem yld {o:Oper}{v:Value}{a:Act}(e:o.guard=none)(h:∀w,S w->(execOp a.eval o).run P w = .ok (.value v) w):YieldsIf P ops S o v a:=.inl ⟨by simp[Region.wanted,e],h⟩
theorem one {f:Nat}{listed:Array Bool}{a:Act}{w:World}(i:Nat)(m:Region.ready md ops listed=[i])
  (h:wpOp P ops Q i (λq w'=>(i≠fin->S w')/\wpAnyF P md ops Q S fin f (listed.setIfInBounds i true) q w') a w):wpAnyF P md ops Q S fin (f+1) listed a w :=
 ⟨λk=>(by rw[m] at k;cases k),λj e=>by
  rw[m] at e
  obtain rfl:j=i:=by simpa using e
  exact h⟩
theorem two {f:Nat}{listed:Array Bool}{a:Act}{w:World}(i j:Nat)(q:Region.ready md ops listed=[i,j])
  (h1:wpOp P ops Q i (λh w'=>(i≠fin->S w')/\wpAnyF P md ops Q S fin f (listed.setIfInBounds i true) h w') a w)
  (h2:wpOp P ops Q j (λh w'=>(j≠fin->S w')/\wpAnyF P md ops Q S fin f (listed.setIfInBounds j true) h w') a w):wpAnyF P md ops Q S fin (f+1) listed a w :=
 ⟨λm=>(by rw[q] at m;cases m),λk e=>by
  rw[q] at e
  rcases List.mem_cons.1 e with rfl|e
  ·exact h1
  ·obtain rfl:k=j:=by simpa using e
   exact h2⟩
theorem done {e:Nat}{listed:Array Bool}{a:Act}{w:World}(f:Region.ready md ops listed=[])(h:Q .normal a w):wpAnyF P md ops Q S fin e listed a w:=by
 cases e with
 | zero=>exact⟨f,h⟩
 | succ n=>exact⟨λ_=>h,by rw[f];simp⟩
theorem start {f:Nat}{a:Act}{w:World}(S:World->Prop)(fin:Nat)(e:P.follows .mixedOrders=true)(h:wpAnyF P .any ops Q S fin ops.size (Array.replicate ops.size false) a w.drew):(Code.region f ops true).wp P Q a w :=
 wp_region_any e (to_any _ _ _ _ h)
theorem opV {i:Nat}{o:Oper}{K:Act->World->Prop}{a:Act}{w w':World}(v:Value)(f:ops[i]? = some o)(e:o.guard=none)(j:(execOp a.eval o).run P w = .ok (.value v) w')(h:K (a.put o.dst v) w'):wpOp P ops Q i K a w:=by
 unfold wpOp
 simp only[f]
 rw[if_pos (by simp[Region.wanted,e])]
 left
 unfold Oper.wp
 rw[j]
 exact h
theorem opS {i:Nat}{o:Oper}{K:Act->World->Prop}{a:Act}{w w':World}(f:ops[i]? = some o)(e:o.guard=none)(j:(execOp a.eval o).run P w = .ok .skip w')(h:K (a.put o.dst undef) w'):wpOp P ops Q i K a w:=by
 unfold wpOp
 simp only[f]
 rw[if_pos (by simp[Region.wanted,e])]
 left
 unfold Oper.wp
 rw[j]
 exact h
theorem opC {i:Nat}{o:Oper}{K:Act->World->Prop}{a:Act}{w:World}(f:FuncId)(xs:Array Operand)(u:Array TypeId)(q:ops[i]? = some o)(j:o.guard=none)(hc:o.op = .call { callee:=.value (.func f),args:=xs,argTypes:=u })
  (m:∀args w,(callFunc f args).run P w = .ok (.enter f args) w) (args:Array Value) (ha:xs.map a.eval=args) (h:Calls P f args w λe w'=>∃v,e = .returned v/\K (a.put o.dst v) w'):wpOp P ops Q i K a w:=by
 unfold wpOp
 simp only[q]
 rw[if_pos (by simp[Region.wanted,j])]
 left
 have r:(execOp a.eval o).run P w = .ok (.enter f args) w:=by
  have s:a.eval (.func f) = .func (.func f) #[] #[]:=rfl
  simp[execOp,hc,resolve,ha,s,Deferred.ofValue,invoke,m args w]
 unfold Oper.wp
 rw[r,Oper.upon_enter]
 refine h.mono ?_
 rintro e w' ⟨v,rfl,k⟩
 exact k
theorem t {f:Nat}{listed:Array Bool}{a:Act}{w:World}(i:Nat){e:Oper}(v:Value)(s:ops[i]? = some e)(k:S w)(h1:∀W,S W->(execOp a.eval e).run P W = .ok (.value v) W)(h:wpAnyF P md ops Q S fin f (listed.setIfInBounds i true) (a.put e.dst v) w)(hs:Region.noSelect ops=true:=by kernel_rfl)(hf:Region.free md ops listed i=true:=by kernel_rfl)(m:(Region.ready md ops listed).contains i=true:=by kernel_rfl)(r:waitsFor md ops fin i=true:=by kernel_rfl)(q:∀c a w,Q (.panic c) (a.put e.dst v) w->Q (.panic c) a w:=by exact λ_ _ _ h=>h)(j:e.guard=none:=by rfl):wpAnyF P md ops Q S fin (f+1) listed a w :=
 take i v s hs hf m r q k (yld j h1) h
end
end RegF
section
variable {w:World}{o:Oper}{ρ:Operand->Value}{x y:Operand}
theorem fold_get (off:Nat):∀(e:List Value) (k:Nat) (arr:Array Value) (j:Nat),((e.zipIdx k).foldl (λcs x=>cs.setIfInBounds (off+x.snd) x.fst) arr)[j]? = if off+k<=j/\j<off+k+e.length/\j<arr.size then e[j - (off+k)]? else arr[j]?
 | [],k,arr,j=>by
  rw[if_neg (by simp;omega)]
  rfl
 | v::e,k,arr,j=>by
  rw[List.zipIdx_cons,List.foldl_cons,fold_get off e (k+1)]
  simp only[Array.size_setIfInBounds,zP,zQ]
  by_cases h1:off+(k+1)<=j/\j<off+(k+1)+e.length/\j<arr.size
  ·rw[if_pos h1,if_pos (by omega),show j - (off+k)=(j - (off+(k+1)))+1 from by omega]
   rfl
  ·rw[if_neg h1]
   by_cases h2:off+k=j
   ·subst h2
    by_cases f:off+k<arr.size
    ·rw[if_pos rfl,if_pos f,if_pos (by omega),Nat.sub_self]
     rfl
    ·rw[if_pos rfl,if_neg f,if_neg (by omega)]
     rw[Array.getElem?_eq_none (by omega)]
   ·rw[if_neg h2,if_neg (by omega)]
theorem fold0 (e:List Value)(arr:Array Value)(hs:arr.size=e.length):e.zipIdx.foldl (λcs x=>cs.setIfInBounds x.snd x.fst) arr=e.toArray:=by
 apply Array.ext_getElem?
 intro j
 have h:=fold_get 0 e 0 arr j
 simp only[qC] at h
 rw[h]
 by_cases f:j<e.length
 ·rw[if_pos (by omega)]
  simp
 ·rw[if_neg (by omega),Array.getElem?_eq_none (by omega),Array.getElem?_eq_none (by simp;omega)]
theorem fold1 (u:Value)(e:List Value)(arr:Array Value)(hs:arr.size=e.length+1):e.zipIdx.foldl (λcs x=>cs.setIfInBounds (1+x.snd) x.fst) (arr.setIfInBounds 0 u)=(u::e).toArray:=by
 apply Array.ext_getElem?
 intro j
 rw[fold_get 1 e 0]
 simp only[Array.size_setIfInBounds,zQ]
 rcases j with _|j
 ·rw[if_neg (by omega),if_pos rfl,if_pos (by omega)]
  rfl
 ·by_cases f:j<e.length
  ·rw[if_pos (by omega),show j+1 - (1+0)=j from by omega]
   simp
  ·rw[if_neg (by omega),if_neg (by omega),Array.getElem?_eq_none (by omega),Array.getElem?_eq_none (by simp;omega)]
theorem x_buildLs (k:Nat)(l:List UInt8)(f:o.op = .build 363 #[(0,x),(1,y)])(h1:ρ x = .int .i64 (k:Int))(h2:ρ y = .agg (l.map b8).toArray)(hl:l.length=64):(execOp ρ o).run Tryz.prog w = .ok (.value (.agg (lsC (k,l)).toArray)) w:=by
 have e:Tryz.zeroCells363.size=65:=by kernel_rfl
 have key:=fold1 (.int .i64 (k:Int)) (l.map b8) Tryz.zeroCells363 (by rw[e,qM,hl])
 simp[execOp,f,h1,h2,go_sem,lsC,Result.andThen,hl,key]
theorem x_sliceLs (k:Nat)(l:List UInt8)(hl:l.length=64)(f:o.op = .buildSlice 107 1 #[(0,x)])(h1:ρ x = .agg (lsC (k,l)).toArray):(execOp ρ o).run Tryz.prog w = .ok (.value (.slice (some ⟨w.heap.size,0,none⟩) 1 1)) (w.alloc (.cells (lsC (k,l)).toArray 363)):=by
 have e:=lsC_length (x:=(k,l)) hl
 have key:=λarr hs=>fold0 (lsC (k,l)) arr hs
 rw[e] at key
 simp[execOp,f,h1,go_sem,Result.andThen,e,key]
theorem row_new (w:World)(k:Nat)(l:List UInt8)(hl:l.length=64):InG (w.alloc (.cells (lsC (k,l)).toArray 363)) (w.alloc (.cells (lsC (k,l)).toArray 363)).heap.size 65 (some ⟨w.heap.size,0,none⟩) 1 1 (lsC (k,l)) :=
 ⟨zH _,by omega,(λe=>by cases e),by rw[lsC_length hl],lsC_one _,λ_=>⟨w.heap.size,0,rfl,by simp,λj v f=>by
  rw[(BlkIs.new w 363 (lsC (k,l)).toArray).cell,qC]
  simpa using f⟩⟩
end
section
variable {w:World}{ops:Array Oper}{i:Nat}{o:Oper}{a:Act}{Q:Exit->Act->World->Prop}{K:Act->World->Prop}
theorem opApp (q:ops[i]? = some o)(I:o.guard=none){S T:TypeId}{sz f:Nat}{z:Value}(G:ElT S T sz f z)(s x:Operand)(hc:o.op = .call { callee:=.builtin .append,args:=#[s,x],argTypes:=#[S,S] })
  (base:Nat) (v:Value) (n:Nat) (cs:List Value) (hs:a.eval s=v) (L:w.ownsRow base T sz v n cs) (B:Nat) (A:Option Addr) (m c:Nat) (e:List Value) (r:a.eval x = .slice A m c) (E:InG w B sz A m c e)
  (k:n+m<=maxLen) (H:(n+m)*f<=140737488355328) (C:base<=w.heap.size)
  (h:∀v' w',w'.ownsRow base T sz v' (n+m) (cs++e)->w.grownBy w' v.ownBlock->K (a.put o.dst v') w'):wpOp Tryz.prog ops Q i K a w:=by
 obtain⟨v',w',u,h2,j⟩:=run_appG (w:=w) o.type G base v n cs L B A m c e E k H C
 refine RegF.opV v' q I (w':=w') ?_ (h v' w' h2 j)
 unfold execOp
 simp only[hc,resolve,invoke,builtin,Sem.run_bind,Sem.run_pure,Result.andThen_ok,zK,zL,zN,hs,r,u]
end
section
variable (w:World)(p many:Nat)(g:Nat->List UInt8)(xs:List (Nat×List UInt8))(left:Int)(stops:Bool)
def wrE (stops:Bool)(left:Int):Int:=if stops && left == 0 then 140 else 0
theorem wr_asks (G:DkIs w p many g xs left stops)(k:Nat)(H:k<many)(A:Option Addr)(c:Nat)(w0 h f:World)(s:Nat)(hs:BlkIs w0 s 87 #[.slice A 64 c])(z:Below w.heap.size w w0)(m:Below w0.heap.size w0 h)(j:Below h.heap.size h f)
  (r:BlkIs h w0.heap.size 60 #[.pointer (some ⟨p,0,none⟩)]) (u:BlkIs h (w0.heap.size+1) 3 #[.int .i64 (k:Int)]) :
  Calls Tryz.prog 230 #[.pointer (some ⟨p,0,none⟩),.slice (some ⟨f.heap.size,0,none⟩) 3 3] (f.alloc (.cells #[.func (.func 297) #[] #[.pointer (some ⟨s,0,none⟩)],.int .i64 2,.func (.func 308) #[] #[.pointer (some ⟨w0.heap.size+1,0,none⟩),.pointer (some ⟨w0.heap.size,0,none⟩)],.int .i64 4,.func (.func 293) #[.pointer (some ⟨p,0,none⟩)] #[],.int .i64 140] 311))
   λe w'=>e = .returned (.int .i64 (wrE stops left))/\Below f.heap.size f w':=by
 have h1:=G.grow (z.trans ((m.trans (j.mono m.size)).mono z.size))
 have E:=m.trans (j.mono m.size)
 have q:=asked3_gives f p many g xs left stops h1 (askLen s 64) (askThere w0.heap.size (w0.heap.size+1) many k) (askGoes p left stops)
  (ans_len f s A 64 c (hs.below E hs.lt)) (ans_there f p many g xs left stops k _ _ h1 (r.below j r.lt) (u.below j u.lt)) (ans_goes f p many g xs left stops h1)
 have hf:firstE [askLen s 64,askThere w0.heap.size (w0.heap.size+1) many k,askGoes p left stops]=wrE stops left:=by
  have C:decide ((k:Int)<0)=false:=by simp
  have B:¬ many<=k:=by omega
  unfold wrE
  cases stops<;>by_cases hl:left=0<;>simp[firstE,askLen,askThere,askGoes,hl,C,B]
 rw[hf] at q
 exact q
theorem write_ok (hD:DkIs w p many g xs left stops)(hs:(stops && left == 0)=false)(k:Nat)(hk:k<many)(A:Option Addr)(c:Nat)(l:List UInt8)(hl:l.length=64)(aU:InB w w.heap.size A c l)(a7:xs.length<=1000000)(h1 : -1000000<=left)(h2:left<=9223372036854775807) :
  Calls Tryz.prog 235 #[.pointer (some ⟨p,0,none⟩),.int .i64 (k:Int),.slice A 64 c] w λe w'=>e = .returned (.int .i64 0)/\DkIs w' p many g (xs++[(k,l)]) (lft stops left) stops/\w.grownBy w' (some p)/\∃b c,w'.cell? ⟨p,2,none⟩=some (.slice (some ⟨b,0,none⟩) (xs.length+1) c)/\w.heap.size<=b:=by
 have aN:Below w.heap.size w (w.alloc (.cells #[.slice A 64 c] 87)):=(Below.refl _ w).alloc (zH _) _
 have b0:=BlkIs.new w 87 #[.slice A 64 c]
 have HT:=there_gives (w.alloc (.cells #[.slice A 64 c] 87)) p k
 have HA:=λV w2 O L a6 aZ=>wr_asks w p many g xs left stops hD k hk A c (w.alloc (.cells #[.slice A 64 c] 87)) V w2 w.heap.size b0 aN O L a6 aZ
 have hE:wrE stops left=0:=by unfold wrE;rw[hs];rfl
 rw[hE] at HA
 have Z:(w.alloc (.cells #[.slice A 64 c] 87)).heap.size=w.heap.size+1:=World.size_alloc _ _
 rw[Z] at HT
 simp only[Z] at HA
 have aW:=Lib.hid Z
 have B:=Lib.hid hl
 obtain⟨gb,q,rfl,aQ,aX⟩:=aU.lies (by omega)
 clear hs hE Z hl
 go_enter Tryz.func235,Tryz.ntmps235
 go_wp2_with (first
  | (go_at_call 260;refine HT.mono ?_;rintro e V ⟨rfl,s1,s2,O⟩)
  | (go_at_call 231;refine(goes_gives V p).mono ?_;rintro e w2 ⟨rfl,L⟩)
  | (go_at_call 230;refine(HA V w2 O L s1 s2).mono ?_;rintro e w3 ⟨rfl,aK⟩))
 have z1:w.heap.size+1<=V.heap.size:=aW.out▸O.size
 have aD:=O.trans ((L.trans (aK.mono L.size)).mono z1)
 have N:Below w.heap.size w w3:=aN.trans (aD.mono (by omega))
 have b3:=b0.below aD (Nat.lt_succ_self _)
 have a5:=hD.grow N
 obtain⟨r,E,c3,hb,hm,hx⟩:=a5.has
 have k2:w3.cell? ⟨p,2,none⟩=some (.slice E xs.length c3):=by rw[hb.cell];rfl
 have k5:w3.cell? ⟨w.heap.size,0,none⟩=some (.slice (some ⟨gb,q,none⟩) 64 c):=by rw[b3.cell];rfl
 have aJ:=hb.lt
 have a1:=b3.lt
 have aF:w3.rangeAt gb q (l.map b8):=λj v G=>by
  have aR:j<l.length:=by have:=(List.getElem?_eq_some_iff.1 G).1;simpa using this
  rw[N.cell (p:=⟨gb,q+j,none⟩) aQ,aX j aR]
  simpa[aR,b8] using G
 have aB:gb<w3.heap.size:=zO aQ N.size
 have aV:∀W,Below w3.heap.size w3 W->(Instr.loadAt 329 (.pointer (some ⟨gb,q,none⟩))).run Tryz.prog W = .ok (.agg (l.map b8).toArray) W:=by
  intro W f
  obtain⟨d,hu,hd⟩:=rowDSec.desc
  exact run_loadAt_mid (P:=Tryz.prog) W gb q 329 (l.map b8) d (λj v G=>(f.cell (p:=⟨gb,q+j,none⟩) aB).trans (aF j v G)) hu hd (by rw[rowDSec.size,qM,B.out])
 have a9:∀W,Below w3.heap.size w3 W->(loadVar 329 ⟨gb,q,none⟩).run Tryz.prog W = .ok (.agg (l.map b8).toArray) W:=by
  intro W f
  obtain⟨d,hu,hd⟩:=rowDSec.desc
  exact run_loadVar_mid (P:=Tryz.prog) W gb q 329 (l.map b8) d (λj v G=>(f.cell (p:=⟨gb,q+j,none⟩) aB).trans (aF j v G)) hu hd (by rw[rowDSec.size,qM,B.out])
 have aP:∀W,(Instr.arrayAt 329 (.slice (some ⟨gb,q,none⟩) 64 c)).run Tryz.prog W = .ok (.pointer (some ⟨gb,q,none⟩)) W:=λW=>by
  simp[Instr.arrayAt,run_underlying Tryz.underlying329,go_sem]
 have aC:∀W,Below w3.heap.size w3 W->W.cell? ⟨p,2,none⟩=some (.slice E xs.length c3):=λW f=>(f.cell (p:=⟨p,2,none⟩) aJ).trans k2
 have aM:∀W,Below w3.heap.size w3 W->W.cell? ⟨w.heap.size,0,none⟩=some (.slice (some ⟨gb,q,none⟩) 64 c):=λW f=>(f.cell (p:=⟨w.heap.size,0,none⟩) a1).trans k5
 have aG:∀W,Below w3.heap.size w3 W->Calls Tryz.prog 298 #[.slice E xs.length c3] W λe w'=>∃v,e = .returned v/\w'.ownsRow W.heap.size 363 65 v xs.length (flC xs)/\Below W.heap.size W w':=λW f=>lclone_gives W E c3 xs (hx.grow f) a7
 have m:Below w3.heap.size w3 w3.drew:=(Below.refl _ w3).drew
 have u:∀W cs T,Below w3.heap.size w3 W->Below w3.heap.size w3 (W.alloc (.cells cs T)):=λW cs T h=>h.alloc h.size _
 clear HT HA O L aK aD k2 k5
 refine RegF.start (λW=>Below w3.heap.size w3 W) 15 (by kernel_rfl) ?_
 refine RegF.t 0 (.pointer (some ⟨p,0,none⟩)) rfl m (λW f=>by go_simp) ?_
 simp only[zE,zB,Act.put,zA,zG,zF]
 refine RegF.t 1 (.pointer (some ⟨p,0,none⟩)) rfl m (λW f=>by go_simp) ?_
 simp only[zE,zD,zB,Act.put,zA,zG,zF]
 refine RegF.t 2 (.pointer (some ⟨p,0,none⟩)) rfl m (λW f=>by go_simp) ?_
 simp only[zE,zD,zB,Act.put,zA,zG,zF]
 refine RegF.t 3 (.pointer (some ⟨p,2,none⟩)) rfl m (λW f=>by go_simp) ?_
 simp only[zE,zD,zB,Act.put,zA,zG,zF]
 refine RegF.t 6 (.int .i64 (k:Int)) rfl m (λW f=>by go_simp) ?_
 simp only[zE,zD,zB,Act.put,zA,zG,zF]
 refine RegF.t 7 (.slice (some ⟨gb,q,none⟩) 64 c) rfl m (λW f=>by have e:=aM W f;go_simp) ?_
 simp only[zE,zD,zB,Act.put,zA,zG,zF]
 refine RegF.t 8 (.pointer (some ⟨gb,q,none⟩)) rfl m (λW f=>by have e:=aP W;go_simp) ?_
 simp only[zE,zD,zB,Act.put,zA,zG,zF]
 refine RegF.t 9 (.agg (l.map b8).toArray) rfl m (λW f=>x_loadM rowDSec (λj v G=>(f.cell (p:=⟨gb,q+j,none⟩) aB).trans (aF j v G)) (by rw[qM,B.out]) rfl rfl) ?_
 simp only[zE,zD,zB,Act.put,zA,zG,zF]
 refine RegF.t 10 (.agg (lsC (k,l)).toArray) rfl m (λW f=>x_buildLs k l rfl rfl rfl B.out) ?_
 simp only[zE,zD,zB,Act.put,zA,zG,zF]
 refine RegF.t 4 (.slice E xs.length c3) rfl m (λW f=>by have e:=aC W f;go_simp) ?_
 simp only[zE,zD,zB,Act.put,zA,zG,zF]
 refine RegF.two 5 11 (by kernel_rfl) ?_ ?_
 case' refine_1 =>
  refine RegF.opC 298 #[.tmp 24] #[107] rfl rfl rfl (enters_of Tryz.func298 (by kernel_rfl) rfl) #[.slice E xs.length c3] (by simp only[zK,zL,zN];rfl) ((aG _ m).mono ?_)
  rintro e w4 ⟨v4,rfl,H,M⟩
  have s:Below w3.heap.size w3 w4:=m.trans (M.mono m.size)
  refine⟨v4,rfl,λ_=>s,?_⟩
  simp only[zE,zD,zB,Act.put,zA,zG,zF]
  refine RegF.one 11 (by kernel_rfl) ?_
  refine RegF.opV _ rfl rfl (x_sliceLs k l B.out rfl rfl) ⟨λ_=>u _ _ _ s,?_⟩
  simp only[zE,zD,zB,Act.put,zA,zG,zF]
  refine RegF.one 12 (by kernel_rfl) ?_
  refine opApp rfl rfl elLoose (.tmp 25) (.tmp 31) rfl w3.heap.size v4 xs.length (flC xs) rfl (ownG_grow (ownG_base H (zH _)) ((Below.refl _ w4).alloc (zH _) _)) _ _ 1 1 (lsC (k,l)) rfl (row_new w4 k l B.out) (by unfold maxLen;omega) (by omega) (u _ _ _ s).size ?_
  intro v5 w5 X U
  have z:Below w3.heap.size w3 w5:=(u _ _ _ s).trans (grown_below U (u _ _ _ s).size (ownG_ge (ownG_base H (zH _))))
  refine⟨λ_=>z,?_⟩
  simp only[zE,zD,zB,Act.put,zA,zG,zF]
  clear U H M s
 case' refine_2 =>
  refine RegF.opV _ rfl rfl (x_sliceLs k l B.out rfl rfl) ⟨λ_=>u _ _ _ m,?_⟩
  simp only[zE,zD,zB,Act.put,zA,zG,zF]
  refine RegF.one 5 (by kernel_rfl) ?_
  refine RegF.opC 298 #[.tmp 24] #[107] rfl rfl rfl (enters_of Tryz.func298 (by kernel_rfl) rfl) #[.slice E xs.length c3] (by simp only[zK,zL,zN];rfl) ((aG _ (u _ _ _ m)).mono ?_)
  rintro e w4 ⟨v4,rfl,H,M⟩
  have s:Below w3.heap.size w3 w4:=(u _ _ _ m).trans (M.mono (u _ _ _ m).size)
  refine⟨v4,rfl,λ_=>s,?_⟩
  simp only[zE,zD,zB,Act.put,zA,zG,zF]
  refine RegF.one 12 (by kernel_rfl) ?_
  refine opApp rfl rfl elLoose (.tmp 25) (.tmp 31) rfl w3.heap.size v4 xs.length (flC xs) rfl (ownG_base H (u _ _ _ m).size) _ _ 1 1 (lsC (k,l)) rfl ((row_new w3.drew k l B.out).grow M) (by unfold maxLen;omega) (by omega) s.size ?_
  intro v5 w5 X U
  have z:Below w3.heap.size w3 w5:=s.trans (grown_below U s.size (ownG_ge (ownG_base H (u _ _ _ m).size)))
  refine⟨λ_=>z,?_⟩
  simp only[zE,zD,zB,Act.put,zA,zG,zF]
  clear U H M s
 all_goals
  have aA:=hb.below z aJ
  have c5:w5.cell? ⟨p,2,none⟩=some (.slice E xs.length c3):=aC _ z
  have f5:=aA.free 2
  have aE:(w5.setCell ⟨p,2,none⟩ v5).ownsRow w3.heap.size 363 65 v5 (xs.length+1) (flC xs++lsC (k,l)):=ownG_later X λr hr=>Below.heap_setCell w5 ⟨p,2,none⟩ v5 r (λe=>by have:=ownG_ge X r hr;simp at e;omega)
  obtain⟨I,C,rfl,aO⟩:=ownG_in aE (λv hv=>by rcases qK.1 hv with h|h;exact flC_one _ v h;exact lsC_one _ v h)
  refine RegF.one 13 (by kernel_rfl) ?_
  refine RegF.opV (.pointer (some ⟨p,0,none⟩)) rfl rfl (by go_simp) ⟨λ_=>z,?_⟩
  simp only[zE,zD,zB,Act.put,zA,zG,zF]
  refine RegF.one 14 (by kernel_rfl) ?_
  refine RegF.opV (.pointer (some ⟨p,2,none⟩)) rfl rfl (by go_simp) ⟨λ_=>z,?_⟩
  simp only[zE,zD,zB,Act.put,zA,zG,zF]
  refine RegF.one 15 (by kernel_rfl) ?_
  refine RegF.opS (w':=w5.setCell ⟨p,2,none⟩ (.slice I (xs.length+1) C)) rfl rfl (by go_simp) ⟨λh=>absurd rfl h,?_⟩
  simp only[zE,zD,zB,Act.put]
  refine RegF.done (by kernel_rfl) ?_
  have aI:Wide (xs++[(k,l)]):=λx a2=>by
   rcases qK.1 a2 with h|h
   ·exact hx.1 x h
   ·obtain rfl:x=(k,l):=by simpa using h
    exact B.out
  have aL:flC (xs++[(k,l)])=flC xs++lsC (k,l):=by rw[flC_append];simp[flC]
  have aH:(xs++[(k,l)]).length=xs.length+1:=by simp
  have a8:DkIs (w5.setCell ⟨p,2,none⟩ (.slice I (xs.length+1) C)) p many g (xs++[(k,l)]) left stops:=by
   refine⟨r,I,C,?_,(hm.grow z).setCell _ _,aI,?_⟩
   ·rw[aH]
    exact aA.set 2 _
   ·rw[aH,aL]
    exact aO
  have aS:w.grownBy (w5.setCell ⟨p,2,none⟩ (.slice I (xs.length+1) C)) (some p):=grownBy_trans (below_grownBy (N.trans (z.mono N.size)) p) (setCell_grownBy w5 ⟨p,2,none⟩ _)
  obtain⟨g9,h9,aY⟩:∃g9,I=some ⟨g9,0,none⟩/\w.heap.size<=g9:=by
   rcases aE.2 with⟨_,e⟩|⟨g9,cap,cur,e,hb9,_⟩
   ·omega
   ·injection e with e1
    exact⟨g9,e1,zU N.size hb9⟩
  have aT:(w5.setCell ⟨p,2,none⟩ (.slice I (xs.length+1) C)).cell? ⟨p,2,none⟩=some (.slice (some ⟨g9,0,none⟩) (xs.length+1) C):=by rw[<-h9];exact World.cell?_setCell_same _ _ _ c5
  clear X aE aO aA c5 f5 z aC aM aV a9 aP aG u aI aL aH
  generalize w5.setCell ⟨p,2,none⟩ (.slice I (xs.length+1) C)=w6 at *
  go_wp2_with (go_at_call 233;refine(done_gives _ p many _ _ left stops a8 h1 h2).mono ?_;rintro e w7 ⟨⟨v,rfl⟩,a3,a0,a4⟩)
  go_ret
  exact⟨rfl,a3,grownBy_trans aS a0,g9,C,a4.trans aT,aY⟩
end
section
variable (w:World)(p many:Nat)(g:Nat->List UInt8)(xs:List (Nat×List UInt8))(left:Int)(stops:Bool)
end

section
variable (w:World)(p many:Nat)(g:Nat->List UInt8)(xs:List (Nat×List UInt8))(left:Int)(stops:Bool)
end


section
variable {w:World}{ops:Array Oper}{i:Nat}{o:Oper}{a:Act}{Q:Exit->Act->World->Prop}{K:Act->World->Prop}
end

section
variable (w:World)(p many:Nat)(g:Nat->List UInt8)(xs:List (Nat×List UInt8))(left:Int)(stops:Bool)
theorem len_gives (h:DkIs w p many g xs left stops):Calls Tryz.prog 107 #[.pointer (some ⟨p,0,none⟩)] w λe w'=>e = .returned (.int .i64 (many:Int))/\w=w':=by
 have f:=none_gives w p many g xs left stops h
 obtain⟨r,A,c,j,k,m⟩:=h.has
 have c1:w.cell? ⟨p,1,none⟩=some (.int .i64 (many:Int)):=by rw[j.cell];rfl
 go_enter Tryz.func107,Tryz.ntmps107
 go_wp2_with (go_at_call 160;refine f.mono ?_;rintro e w' ⟨rfl,rfl⟩)
 go_ret
 exact⟨rfl,rfl⟩
end
end Go.Proofs.YtpibjkbadnffgaaGreat
namespace Go.Proofs.YtpibjkbadnffgaaGreat
open Go Go.RowKit Go.Shelf
attribute [local go_sem] Oper.semAt_some
def AbNew {β : Type}(B:Nat)(I : β -> World->Prop):Prop:=∀s X Y row,I s X->X.grownBy Y row->(∀r,row=some r->B<=r)->I s Y
theorem AbNew.alloc {β : Type}{B:Nat}{I : β -> World->Prop}(h:AbNew B I){s : β}{X:World}(o:Obj)(hs:I s X):I s (X.alloc o) :=
 h s X _ none hs ⟨rfl,rfl,rfl,by simp,λk f _=>Below.heap_alloc X o k f⟩ (λr e=>by cases e)
theorem AbNew.putObj {β : Type}{B:Nat}{I : β -> World->Prop}(h:AbNew B I){s : β}{X:World}{l:Nat}(o:Obj)(hs:I s X)(hl:B<=l):I s (X.putObj l o):=h s X _ (some l) hs (grownBy_putObj' X l o) (λr e=>by cases e;exact hl)
theorem AbNew.grow {β : Type}{B:Nat}{I : β -> World->Prop}(h:AbNew B I){s : β}{X Y:World}(hs:I s X)(f:Below X.heap.size X Y):I s Y:=h s X Y none hs ⟨f.os,f.tape,f.output,f.size,λk j _=>f.block k j⟩ (λr e=>by cases e)
def KeepOut (Mu:Nat->Prop)(B:Nat)(W W':World):Prop:=W.heap.size<=W'.heap.size/\∀k o,W.heap[k]? = some o->(k<B->¬ Mu k)->W'.heap[k]? = some o
theorem KeepOut.refl (Mu:Nat->Prop)(B:Nat)(W:World):KeepOut Mu B W W:=⟨zH _,λ_ _ h _=>h⟩
theorem KeepOut.trans {Mu:Nat->Prop}{B:Nat}{X Y Z:World}(h:KeepOut Mu B X Y)(k:KeepOut Mu B Y Z):KeepOut Mu B X Z:=⟨zU h.1 k.1,λi o f e=>k.2 i o (h.2 i o f e) e⟩
theorem KeepOut.any {Mu:Nat->Prop}{B:Nat}{X Y:World}(h:KeepOut Mu B X Y):KeepOut (λ_=>True) B X Y:=⟨h.1,λk o j e=>h.2 k o j (λf=>absurd trivial (e f))⟩
theorem KeepOut.grow (Mu:Nat->Prop)(B:Nat){X Y:World}(h:Below X.heap.size X Y):KeepOut Mu B X Y:=⟨h.size,λk o e _=>(h.block k (zI.1 e).1).trans e⟩
theorem KeepOut.setCell {Mu:Nat->Prop}{B:Nat}(X:World)(p:Addr)(v:Value)(f:p.block<B)(h:Mu p.block):KeepOut Mu B X (X.setCell p v) :=
 ⟨by simp,λk o j hn=>(Below.heap_setCell X p v k (λe=>hn (by rw[e];exact f) (by rw[e];exact h))).trans j⟩
theorem KeepOut.cell {Mu:Nat->Prop}{B:Nat}{X Y:World}(h:KeepOut Mu B X Y){p:Addr}{v:Value}(hc:X.cell? p=some v)(j:p.block<B->¬ Mu p.block):Y.cell? p=some v:=by
 have f:∃o,X.heap[p.block]? = some o:=by
  cases e:X.heap[p.block]? with
  | none=>simp[World.cell?,e] at hc
  | some o=>exact⟨o,rfl⟩
 obtain⟨o,e⟩:=f
 rw[World.cell?_of_block ((h.2 _ o e j).trans e.symm)]
 exact hc
theorem KeepOut.blk {Mu:Nat->Prop}{B:Nat}{X Y:World}(h:KeepOut Mu B X Y){g:Nat}{t:TypeId}{cs:Array Value}(e:BlkIs X g t cs)(f:g<B->¬ Mu g):BlkIs Y g t cs:=h.2 _ _ e f
def SeqR {α : Type}(F:Fence)(n:Nat)(P:Program)(g:Nat)(lb:Array Value)(encs : α -> Array Value)(Mu:Nat->Prop)(Rd:List α -> α -> World->Prop)(S Sp:List α -> Prop)(w:World):Prop :=
 ∀(l:Nat) (J Jx:List α -> World->Prop) (W:World),Below w.heap.size w W->AbNew W.heap.size J->AbNew W.heap.size Jx ->
  (∀pre x W1,J pre W1->Rd pre x W1->YieldAt F (n - 1) P l (encs x) W1 λe W' =>
   (e = .returned (.bool true)/\J (pre++[x]) W'/\KeepOut Mu W.heap.size W1 W')∨(e = .returned (.bool false)/\Jx (pre++[x]) W'/\KeepOut (λ_=>True) W.heap.size W1 W')) ->
  J [] W ->
  CallsIn F n P g (#[.func (.yield l) #[] #[]] ++ lb) W λe W'=>(∃v,e = .returned v)/\((∃xs,S xs/\J xs W')∨(∃pre,Sp pre/\Jx pre W'))
def postR {α : Type}(Mu:Nat->Prop)(B:Nat)(I:List α -> World->Prop)(Ix:Code->List α -> World->Prop)(xs:List α)(W:World):Exit->Act->World->Prop
 | .normal,_,W'=>KeepOut Mu B W W'/\I xs W'
 | .ret,_,W'=>KeepOut (λ_=>True) B W W'/\Ix .ret xs W'
 | .exit id,_,W'=>KeepOut (λ_=>True) B W W'/\Ix (.exit id) xs W'
 | .goto t,_,W'=>KeepOut (λ_=>True) B W W'/\Ix (.goto t) xs W'
 | .panic _,_,_=>False
 | .outgrown,_,_=>False
section
variable {F:Fence}{n:Nat}{P:Program}{w:World}
theorem wpIn_rangeFunc_R {α : Type}{g:Operand}{T:Array Tmp}{assign body:Code}{Q:Exit->Act->World->Prop}{a:Act}
  (aI:F.round=none) (h1:1<=n) {gf:Nat} {lb:Array Value} (hg:a.eval g = .func (.func gf) #[] lb) (aS:F.fn gf) (eg:∀args w,(callFunc gf args).run P w = .ok (.enter gf args) w)
  {encs : α -> Array Value} {Mu:Nat->Prop} {Rd:List α -> α -> World->Prop} {S Sp:List α -> Prop} {w0:World} (aG:SeqR F (n - 1) P gf lb encs Mu Rd S Sp w0)
  (aC:Below w0.heap.size w0 w) (aN:∀x,(encs x).size=T.size)
  (I:List α -> World->Prop) (H:Code->List α -> World->Prop) (G:AbNew w.heap.size I) (aB:∀c,AbNew w.heap.size (H c)) (aP:∀j x,OwnFrom w.heap.size (λ(_:Unit) W=>Rd j x W)) (h0:I [] w) (a₁ : α -> Act)
  (aL:∀(l:Nat) (x : α) (W:World) (K:Act->World->Prop),K (a₁ x) W ->
   assign.wpIn (F.inRound l) (n - 1 - 1) P (Exit.then K (λ_ _ _=>False)) { tmps:=(T.zip (encs x)).foldl (λt (p,v)=>t.setIfInBounds p v) a.tmps,defers:=[] } W)
  (aK:∀(l:Nat) (j:List α) (x : α) (W:World),I j W->Rd j x W->body.wpIn (F.inRound l) (n - 1 - 1) P (postR Mu w.heap.size I H (j++[x]) W) (a₁ x) W)
  (aR:∀(D:Nat) (xs:List α) (W:World),w.heap.size<=D->S xs->I xs W->W.heap[D]? = some (.deferred (some []))->Q .normal { a with defers:={ target:=.collected D,args:=#[] }::a.defers } W)
  (aJ:∀(D:Nat) (c:Code) (j:List α) (W:World),w.heap.size<=D->Sp j->H c j W->W.heap[D]? = some (.deferred (some []))->c.wpIn F n P Q { a with defers:={ target:=.collected D,args:=#[] }::a.defers } W) :
  (Code.rangeFunc g T assign body).wpIn F n P Q a w:=by
 refine wpIn_rangeFunc λfn aQ => ?_
 rw[aI]
 -- the loop's record, and the world that bears it and the block for deferred calls
 obtain⟨f,C⟩:∃f:LoopState->Option Code->Loop,f=λst pe => { state:=st,pending:=pe,fn,tmps:=a.tmps,params:=T,assign,body,defers:=w.heap.size }:=⟨_,rfl⟩
 obtain⟨V,L⟩:∃V,(w.alloc (.deferred (some []))).alloc (.loop (f .ready none))=V:=⟨_,rfl⟩
 have vL:V.heap[w.heap.size+1]? = some (.loop (f .ready none)):=by
  subst L
  have:=World.alloc_heap_new (w.alloc (.deferred (some []))) (.loop (f .ready none))
  rwa [World.size_alloc] at this
 have vD:V.heap[w.heap.size]? = some (.deferred (some [])):=by
  subst L
  exact(Below.heap_alloc _ _ _ (by simp)).trans (World.alloc_heap_new w _)
 have vI:I [] V:=by subst L;exact G.alloc _ (G.alloc _ h0)
 have vS:V.heap.size=w.heap.size+2:=by subst L;simp
 have vB:Below w0.heap.size w0 V:=by
  subst L
  exact aC.trans ((((Below.refl _ w).alloc (zH _) _).alloc (by simp) _).mono aC.size)
 refine⟨w.heap.size+1,[{ target:=.collected w.heap.size,args:=#[] }],V,{ target:=.fn (.func gf) lb,args:=#[.func (.yield (w.heap.size+1)) #[] #[]] },V,gf,#[.func (.yield (w.heap.size+1)) #[] #[]] ++ lb,V,?_,?_,?_,?_,λ_=>h1,?_⟩
 ·rw[<-L,C];exact run_enterLoop_outer _ _ _ _ _
 ·simp only[resolve,hg]
  simp[go_sem]
 ·intro f' aD
  simp[Target.leads] at aD
  subst aD
  exact aS
 ·simp[invoke,go_sem,eg]
 have apart:∀{A B:World} {row:Option Nat} {k:Nat} {o:Obj},A.heap[k]? = some o->A.grownBy B row->(∀r,row=some r->V.heap.size<=r)->k<V.heap.size->B.heap[k]? = some o:=λq hg m aE =>
  (hg.block _ (zI.1 q).1 (λe=>by have:=m _ e.symm;omega)).trans q
 refine(aG (w.heap.size+1)
  (λj W=>I j W/\W.heap[w.heap.size+1]? = some (.loop (f .ready none))/\W.heap[w.heap.size]? = some (.deferred (some [])))
  (λj W=>∃c,H c j W/\W.heap[w.heap.size+1]? = some (.loop (f .done (some c)))/\W.heap[w.heap.size]? = some (.deferred (some [])))
  V vB
  (λs A B row hs E m=>⟨G s A B row hs.1 E (λr e=>by have:=m r e;omega),apart hs.2.1 E m (by omega),apart hs.2.2 E m (by omega)⟩)
  (λs A B row hs E m=>by
   obtain⟨c,hc,hl,q⟩:=hs
   exact⟨c,aB c s A B row hc E (λr e=>by have:=m r e;omega),apart hl E m (by omega),apart q E m (by omega)⟩)
  ?round ⟨vI,vL,vD⟩).mono ?behind
 case round =>
  rintro j x W ⟨O,hl,q⟩ aM
  have aE:w.heap.size+1<W.heap.size:=(zI.1 hl).1
  have hy:=run_yield (P:=P) (args:=encs x) hl (by rw[C];exact aN x)
  rw[C] at hy
  refine⟨fn,_,assign,body,hy,roundIn_of_wpIn aQ (aL _ x W _ ⟨_,run_beginRound hl (by rw[C]),?_⟩)⟩
  clear hy
  have bL:(W.putObj (w.heap.size+1) (.loop { f .ready none with state:=.busy })).heap[w.heap.size+1]? = some (.loop { f .ready none with state:=.busy }):=World.putObj_heap_same aE
  have bD:(W.putObj (w.heap.size+1) (.loop { f .ready none with state:=.busy })).heap[w.heap.size]? = some (.deferred (some [])):=(World.putObj_heap_other (by omega)).trans q
  refine wpIn_mono (aK _ j x _ (G.putObj _ O (by omega)) ((aP j x).putObj (s:=()) _ aM (by omega) hl rfl)) ?_
  -- the round's end
  have fin:∀(z:Option Code) (U:World),KeepOut (λ_=>True) w.heap.size (W.putObj (w.heap.size+1) (.loop { f .ready none with state:=.busy })) U ->
    (Instr.endRound (w.heap.size+1) z).run P U = .ok (.bool z.isNone) (U.putObj (w.heap.size+1) (.loop (f (if z.isNone then .ready else .done) z))) /\
    U.heap[w.heap.size+1]? = some (.loop { f .ready none with state:=.busy }) /\
    (U.putObj (w.heap.size+1) (.loop (f (if z.isNone then .ready else .done) z))).heap[w.heap.size+1]? = some (.loop (f (if z.isNone then .ready else .done) z)) /\
    (U.putObj (w.heap.size+1) (.loop (f (if z.isNone then .ready else .done) z))).heap[w.heap.size]? = some (.deferred (some [])):=λz U N=>by
   have uL:=N.2 _ _ bL (λh=>by omega)
   have:=run_endRound (P:=P) z uL
   rw[C] at this ⊢
   exact⟨this,by rw[C] at uL;exact uL,World.putObj_heap_same (zI.1 uL).1,(World.putObj_heap_other (by omega)).trans (N.2 _ _ bD (λh=>by omega))⟩
  have out:∀(c:Code) (U:World),KeepOut (λ_=>True) w.heap.size (W.putObj (w.heap.size+1) (.loop { f .ready none with state:=.busy })) U->H c (j++[x]) U ->
    (∃c',H c' (j++[x]) (U.putObj (w.heap.size+1) (.loop (f .done (some c))))/\(U.putObj (w.heap.size+1) (.loop (f .done (some c)))).heap[w.heap.size+1]? = some (.loop (f .done (some c')))/\(U.putObj (w.heap.size+1) (.loop (f .done (some c)))).heap[w.heap.size]? = some (.deferred (some [])))/\KeepOut (λ_=>True) V.heap.size W (U.putObj (w.heap.size+1) (.loop (f .done (some c)))):=λc U N aO=>by
   obtain⟨_,h3,Z,h5⟩:=fin (some c) U N
   refine⟨⟨c,(aB c).putObj _ aO (by omega),Z,h5⟩,by have:=N.1;simpa using this,λk o q X => ?_⟩
   have M:k≠w.heap.size+1:=λe=>X (by omega) trivial
   rw[World.putObj_heap_other M]
   exact N.2 k o (by rw[World.putObj_heap_other M];exact q) (λh=>X (by omega))
  rintro e a3 U u
  cases e with
  | normal =>
   obtain⟨aA,aH⟩:=u
   obtain⟨m,h3,Z,h5⟩:=fin none U aA.any
   refine⟨_,_,m,.inl ⟨rfl,⟨G.putObj _ aH (by omega),Z,h5⟩,by have:=aA.1;simpa using this,λk o q X => ?_⟩⟩
   by_cases M:k=w.heap.size+1
   ·subst M
    rw[hl] at q
    rw[<-q]
    exact Z
   ·rw[World.putObj_heap_other M]
    exact aA.2 k o (by rw[World.putObj_heap_other M];exact q) (λh=>X (by omega))
  | ret=>exact⟨_,_,(fin (some .ret) U u.1).1,.inr ⟨rfl,out .ret U u.1 u.2⟩⟩
  | exit id=>exact⟨_,_,(fin (some (.exit id)) U u.1).1,.inr ⟨rfl,out (.exit id) U u.1 u.2⟩⟩
  | goto t=>exact⟨_,_,(fin (some (.goto t)) U u.1).1,.inr ⟨rfl,out (.goto t) U u.1 u.2⟩⟩
  | panic ch=>exact u.elim
  | outgrown=>exact u.elim
 case behind =>
  rintro e U ⟨⟨v,rfl⟩,(⟨xs,hS,O,hl,q⟩|⟨j,aF,c,O,hl,q⟩)⟩
  ·have m:=run_endLoop (P:=P) hl (by rw[C];simp)
   rw[C] at m
   exact⟨none,_,m,aR _ xs _ (zH _) hS (G.putObj _ O (by omega)) ((World.putObj_heap_other (by omega)).trans q)⟩
  ·have m:=run_endLoop (P:=P) hl (by rw[C];simp)
   rw[C] at m
   exact⟨some c,_,m,aJ _ c j _ (zH _) aF ((aB c).putObj _ O (by omega)) ((World.putObj_heap_other (by omega)).trans q)⟩
end
theorem InB.ownFrom {B:Nat}(A:Option Addr)(c:Nat)(l:List UInt8):OwnFrom B (λ(_:Unit) W=>InB W W.heap.size A c l):=λ_ X Y row hs f k =>
 ⟨hs.le,hs.max,hs.nil,λhl=>by
  obtain⟨g,o,m,h,hc⟩:=hs.lies hl
  exact⟨g,o,m,zO h f.size,λj q=>cell_kept (hc j q) f (λr e=>(k r e).2)⟩⟩
end Go.Proofs.YtpibjkbadnffgaaGreat
namespace Lou
inductive Run (l:List UInt8):List (Nat×Nat)->Nat->Prop
 | nil:Run l [] 0
 | snoc {pre:List (Nat×Nat)} {p v u:Nat}:Run l pre p->rd (l.drop p)=some (v,u)->Run l (pre++[(p,v)]) (p+u)
theorem Run.le {l:List UInt8}{e:List (Nat×Nat)}{p:Nat}(h:Run l e p):e.length<=p/\p<=l.length:=by
 induction h with
 | nil=>simp
 | snoc _ hr ih =>
  have:=rd_bound hr
  simp at this ⊢
  omega
end Lou
namespace Go.Proofs.YtpibjkbadnffgaaGreat
open Go Go.RowKit Lou Go.Shelf
attribute [local go_sem] Oper.semAt_some
theorem wrap_i64_id' (n:Int)(h0 : -9223372036854775808<=n)(h1:n<9223372036854775808):IntKind.i64.wrap n=n:=by
 simp[IntKind.wrap,IntKind.bits,IntKind.signed]
 split<;>omega
theorem wpIn_scope_wide {P:Program}{n:Nat}{c:Code}{Q:Exit->Act->World->Prop}{a:Act}{w:World}(h:c.wpIn Fence.wide n P (Exit.noGoto Q) a w):(Code.scope c).wpIn Fence.wide n P Q a w:=wpIn_wide.2 (wp_scope_straight (wpIn_wide.1 h))
section
variable {w0:World}{n₀:Nat}
end
end Go.Proofs.YtpibjkbadnffgaaGreat
namespace Go.Proofs.YtpibjkbadnffgaaGreat
open Go Go.RowKit Lou Go.Shelf
attribute [local go_sem] Oper.semAt_some
def chLen (L k:Nat):Nat:=min 64 (L - 64*k)
def chAll (L:Nat):Nat:=(L+63) / 64
def Keep2 (Bs Bn:Nat)(W W':World):Prop:=W'.cell? ⟨Bs,0,none⟩=W.cell? ⟨Bs,0,none⟩/\W'.cell? ⟨Bn,0,none⟩=W.cell? ⟨Bn,0,none⟩
theorem chunk_in (n:Nat)(A:Option Addr)(len f:Nat)(w:World) :
  CallsIn Fence.wide n Tryz.prog 93 #[.slice A len f,.int .i64 64] w λe w'=>e = .returned (.func (.func 150) #[] #[.pointer (some ⟨w.heap.size,0,none⟩),.pointer (some ⟨w.heap.size+1,0,none⟩)])/\(w.alloc (.cells #[.slice A len f] 87)).alloc (.cells #[.int .i64 64] 3)=w':=by
 refine callsIn_of_wp Tryz.func93 rfl trivial ?_ rfl
 simp only[Tryz.ntmps93,zT,zP,qE,qO,qP,zX,zY,qD,qA,zV,qB]
 gi_wp2
 go_ret
 exact⟨rfl,rfl⟩
theorem cut_gives (w:World)(A:Option Addr)(c:Nat)(b:List UInt8)(h:InB w w.heap.size A c b)(hl:b.length<=1000000) :
  Calls Tryz.prog 234 #[.slice A b.length c] w λe w'=>∃g f c2,e = .returned (.func (.func 296) #[] #[.pointer (some ⟨g,0,none⟩)])/\BlkIs w' g 87 #[.slice f b.length c2]/\InB w' w'.heap.size f c2 b/\Below w.heap.size w w':=by
 go_enter Tryz.func234,Tryz.ntmps234
 go_wp2_with (go_at_call 116;refine(clone_gives w A c b h (by omega)).mono ?_;rintro x j ⟨v,rfl,own,hB⟩;obtain⟨f,c2,rfl,k⟩:=own.inB)
 go_ret
 have ha:=(Below.refl j.heap.size j).alloc (zH _) (.cells #[.slice f b.length c2] 87)
 exact⟨_,f,c2,rfl,BlkIs.new _ _ _,(k.below ha).more ha.size,hB.trans (ha.mono hB.size)⟩
def chunkB (b:List UInt8)(k:Nat):List UInt8:=(b.drop (64*k)).take 64
theorem chunkB_length (b:List UInt8)(k:Nat):(chunkB b k).length=chLen b.length k:=by simp[chunkB,chLen]
theorem BlkIs.abNew {B g:Nat}{t:TypeId}{cs:Array Value}(k:g<B){W W':World}{row:Option Nat}(h:BlkIs W g t cs)(f:W.grownBy W' row)(j:∀r,row=some r->B<=r):BlkIs W' g t cs :=
 h.grown f (λe=>by have:=j g e.symm;omega)
theorem below_abNew {B n₀:Nat}{w:World}(hB:n₀<=B){W W':World}{row:Option Nat}(j:n₀<=W.heap.size)(h:Below n₀ w W)(f:W.grownBy W' row)(k:∀r,row=some r->B<=r):Below n₀ w W' :=
 h.trans (grown_below f j (λr e=>zU hB (k r e)))
theorem RoundIn.anyRound {n m l e:Nat}{P:Program}{f:FuncId}{tmps:Array Value}{assign body:Code}{w:World}{R:Ending->World->Prop}(h:RoundIn Fence.wide n P l f tmps assign body w R):RoundIn (Fence.wide.inRound e) m P l f tmps assign body w R :=
 ⟨h.1,λc cs _=>h.2 c cs (room_wide _)⟩
theorem chunk_inB {W:World}{B g o c k:Nat}{b:List UInt8}(h:InB W B (some ⟨g,o,none⟩) c b)(s:64*k<b.length):InB W B (some ⟨g,o+64*k,none⟩) (chLen b.length k) (chunkB b k):=by
 have hl:=chunkB_length b k
 refine⟨by omega,by unfold chLen;omega,(λh=>by cases h),λ_ => ?_⟩
 obtain⟨r,o',e,m,hc⟩:=h.lies (by omega)
 injection e with e
 injection e with e1 e2
 subst e1 e2
 refine⟨g,o+64*k,rfl,m,λj f => ?_⟩
 have q:64*k+j<b.length:=by rw[hl] at f;unfold chLen at f;omega
 have:=hc (64*k+j) q
 rw[Nat.add_assoc,this]
 simp[chunkB]
theorem KeepOut.inB2 {Mu Nu:Nat->Prop}{B n₀:Nat}{X Y:World}(h:KeepOut Mu B X Y){A:Option Addr}{c:Nat}{l:List UInt8}(f:InB X n₀ A c l)(m:0<l.length->∀g o,A=some ⟨g,o,none⟩->¬ Nu g)(hs:∀g,g<n₀->g<B->¬ Nu g->¬ Mu g:=by first|exact λg _ _ h=>h|(intro g h1 h2 r;simp only at *;omega)):InB Y n₀ A c l :=
 ⟨f.le,f.max,f.nil,λhl=>by
  obtain⟨g,o,e,k,hc⟩:=f.lies hl
  exact⟨g,o,e,k,λj q=>h.cell (hc j q) (λhB=>hs g k hB (m hl g o e))⟩⟩
theorem yield_out {e:Ending}{p q:Prop}(h:(e = .returned (.bool true)/\p)∨(e = .returned (.bool false)/\q)):∃r,e = .returned (.bool r)/\((r=true/\p)∨(r=false/\q)):=by
 rcases h with⟨rfl,h⟩|⟨rfl,h⟩
 ·exact⟨true,rfl,.inl ⟨rfl,h⟩⟩
 ·exact⟨false,rfl,.inr ⟨rfl,h⟩⟩
section
variable {n₀:Nat}
def cutEnc (L:Nat)(x:Nat×(Option Addr×Nat)):Array Value:=#[.int .i64 (x.1:Int),.slice x.2.1 (chLen L x.1) x.2.2]
def CutRd (b:List UInt8)(pre:List (Nat×(Option Addr×Nat)))(x:Nat×(Option Addr×Nat))(W:World):Prop:=x.1=pre.length/\64*x.1<b.length/\InB W W.heap.size x.2.1 x.2.2 (chunkB b x.1)
end
end Go.Proofs.YtpibjkbadnffgaaGreat
namespace Go.Proofs.YtpibjkbadnffgaaGreat
open Go Go.RowKit Go.Shelf
attribute [local go_sem] Oper.semAt_some
section
variable {F:Fence}{n:Nat}{P:Program}{w:World}
theorem wpIn_rangeFunc_A {α : Type}{g:Operand}{Z:Array Tmp}{assign body:Code}{Q:Exit->Act->World->Prop}{a:Act}
  (aL:F.round=none) (h1:1<=n) {gf:Nat} {lb:Array Value} (hg:a.eval g = .func (.func gf) #[] lb) (aZ:F.fn gf) (eg:∀args w,(callFunc gf args).run P w = .ok (.enter gf args) w)
  {encs : α -> Array Value} {Mu:Nat->Prop} {Rd:List α -> α -> World->Prop} {S Sp:List α -> Prop} {w0:World} (aJ:SeqR F (n - 1) P gf lb encs Mu Rd S Sp w0)
  (aD:Below w0.heap.size w0 w) (aQ:∀x,(encs x).size=Z.size)
  (I:List α -> World->Prop) (L:Code->List α -> World->Prop) (G:AbNew w.heap.size I) (aC:∀c,AbNew w.heap.size (L c)) (aG:∀j x,OwnFrom w.heap.size (λ(_:Unit) W=>Rd j x W)) (h0:I [] w) (As : α -> Act->World->Prop) (aY:∀x a,OwnFrom w.heap.size (λ(_:Unit) W=>As x a W))
  (aO:∀(l:Nat) (x : α) (W:World) (K:Act->World->Prop),w.heap.size<=W.heap.size->(∀a W',Below W.heap.size W W'->As x a W'->K a W') ->
   assign.wpIn (F.inRound l) (n - 1 - 1) P (Exit.then K (λ_ _ _=>False)) { tmps:=(Z.zip (encs x)).foldl (λt (p,v)=>t.setIfInBounds p v) a.tmps,defers:=[] } W)
  (aN:∀(l:Nat) (j:List α) (x : α) (W:World) (a:Act),w.heap.size<=W.heap.size->I j W->Rd j x W->As x a W->body.wpIn (F.inRound l) (n - 1 - 1) P (postR Mu w.heap.size I L (j++[x]) W) a W)
  (aX:∀(D:Nat) (xs:List α) (W:World),w.heap.size<=D->S xs->I xs W->W.heap[D]? = some (.deferred (some []))->Q .normal { a with defers:={ target:=.collected D,args:=#[] }::a.defers } W)
  (aM:∀(D:Nat) (c:Code) (j:List α) (W:World),w.heap.size<=D->Sp j->L c j W->W.heap[D]? = some (.deferred (some []))->c.wpIn F n P Q { a with defers:={ target:=.collected D,args:=#[] }::a.defers } W) :
  (Code.rangeFunc g Z assign body).wpIn F n P Q a w:=by
 refine wpIn_rangeFunc λfn aW => ?_
 rw[aL]
 -- the loop's record, and the world that bears it and the block for deferred calls
 obtain⟨f,E⟩:∃f:LoopState->Option Code->Loop,f=λst pe => { state:=st,pending:=pe,fn,tmps:=a.tmps,params:=Z,assign,body,defers:=w.heap.size }:=⟨_,rfl⟩
 obtain⟨V,M⟩:∃V,(w.alloc (.deferred (some []))).alloc (.loop (f .ready none))=V:=⟨_,rfl⟩
 have vL:V.heap[w.heap.size+1]? = some (.loop (f .ready none)):=by
  subst M
  have:=World.alloc_heap_new (w.alloc (.deferred (some []))) (.loop (f .ready none))
  rwa [World.size_alloc] at this
 have vD:V.heap[w.heap.size]? = some (.deferred (some [])):=by
  subst M
  exact(Below.heap_alloc _ _ _ (by simp)).trans (World.alloc_heap_new w _)
 have vI:I [] V:=by subst M;exact G.alloc _ (G.alloc _ h0)
 have vS:V.heap.size=w.heap.size+2:=by subst M;simp
 have vB:Below w0.heap.size w0 V:=by
  subst M
  exact aD.trans ((((Below.refl _ w).alloc (zH _) _).alloc (by simp) _).mono aD.size)
 refine⟨w.heap.size+1,[{ target:=.collected w.heap.size,args:=#[] }],V,{ target:=.fn (.func gf) lb,args:=#[.func (.yield (w.heap.size+1)) #[] #[]] },V,gf,#[.func (.yield (w.heap.size+1)) #[] #[]] ++ lb,V,?_,?_,?_,?_,λ_=>h1,?_⟩
 ·rw[<-M,E];exact run_enterLoop_outer _ _ _ _ _
 ·simp only[resolve,hg]
  simp[go_sem]
 ·intro f' aE
  simp[Target.leads] at aE
  subst aE
  exact aZ
 ·simp[invoke,go_sem,eg]
 have apart:∀{A B:World} {row:Option Nat} {k:Nat} {o:Obj},A.heap[k]? = some o->A.grownBy B row->(∀r,row=some r->V.heap.size<=r)->k<V.heap.size->B.heap[k]? = some o:=λm hg q aH =>
  (hg.block _ (zI.1 m).1 (λe=>by have:=q _ e.symm;omega)).trans m
 refine(aJ (w.heap.size+1)
  (λj W=>I j W/\W.heap[w.heap.size+1]? = some (.loop (f .ready none))/\W.heap[w.heap.size]? = some (.deferred (some [])))
  (λj W=>∃c,L c j W/\W.heap[w.heap.size+1]? = some (.loop (f .done (some c)))/\W.heap[w.heap.size]? = some (.deferred (some [])))
  V vB
  (λs A B row hs H q=>⟨G s A B row hs.1 H (λr e=>by have:=q r e;omega),apart hs.2.1 H q (by omega),apart hs.2.2 H q (by omega)⟩)
  (λs A B row hs H q=>by
   obtain⟨c,hc,hl,m⟩:=hs
   exact⟨c,aC c s A B row hc H (λr e=>by have:=q r e;omega),apart hl H q (by omega),apart m H q (by omega)⟩)
  ?round ⟨vI,vL,vD⟩).mono ?behind
 case round =>
  rintro j x X ⟨aU,aA,aR⟩ aV
  have aF:w.heap.size+1<X.heap.size:=(zI.1 aA).1
  have hy:=run_yield (P:=P) (args:=encs x) aA (by rw[E];exact aQ x)
  rw[E] at hy
  refine⟨fn,_,assign,body,hy,roundIn_of_wpIn aW (aO _ x X _ (by omega) (λa2 W C aS=>⟨_,run_beginRound ((C.block _ aF).trans aA) (by rw[E]),?_⟩))⟩
  clear hy
  have hl:=(C.block _ aF).trans aA
  have m:=(C.block _ (show w.heap.size<X.heap.size by omega)).trans aR
  have T:=G.grow aU C
  have aP:=(aG j x) () X W none aV ⟨C.os,C.tape,C.output,C.size,λk m _=>C.block k m⟩ (λr e=>by cases e)
  have aH:w.heap.size+1<W.heap.size:=(zI.1 hl).1
  have bL:(W.putObj (w.heap.size+1) (.loop { f .ready none with state:=.busy })).heap[w.heap.size+1]? = some (.loop { f .ready none with state:=.busy }):=World.putObj_heap_same aH
  have bD:(W.putObj (w.heap.size+1) (.loop { f .ready none with state:=.busy })).heap[w.heap.size]? = some (.deferred (some [])):=(World.putObj_heap_other (by omega)).trans m
  refine wpIn_mono (aN _ j x _ _ (by simp;omega) (G.putObj _ T (by omega)) ((aG j x).putObj (s:=()) _ aP (by omega) hl rfl) ((aY x a2).putObj (s:=()) _ aS (by omega) hl rfl)) ?_
  -- the round's end
  have fin:∀(z:Option Code) (U:World),KeepOut (λ_=>True) w.heap.size (W.putObj (w.heap.size+1) (.loop { f .ready none with state:=.busy })) U ->
    (Instr.endRound (w.heap.size+1) z).run P U = .ok (.bool z.isNone) (U.putObj (w.heap.size+1) (.loop (f (if z.isNone then .ready else .done) z))) /\
    U.heap[w.heap.size+1]? = some (.loop { f .ready none with state:=.busy }) /\
    (U.putObj (w.heap.size+1) (.loop (f (if z.isNone then .ready else .done) z))).heap[w.heap.size+1]? = some (.loop (f (if z.isNone then .ready else .done) z)) /\
    (U.putObj (w.heap.size+1) (.loop (f (if z.isNone then .ready else .done) z))).heap[w.heap.size]? = some (.deferred (some [])):=λz U O=>by
   have uL:=O.2 _ _ bL (λh=>by omega)
   have:=run_endRound (P:=P) z uL
   rw[E] at this ⊢
   exact⟨this,by rw[E] at uL;exact uL,World.putObj_heap_same (zI.1 uL).1,(World.putObj_heap_other (by omega)).trans (O.2 _ _ bD (λh=>by omega))⟩
  have out:∀(c:Code) (U:World),KeepOut (λ_=>True) w.heap.size (W.putObj (w.heap.size+1) (.loop { f .ready none with state:=.busy })) U->L c (j++[x]) U ->
    (∃c',L c' (j++[x]) (U.putObj (w.heap.size+1) (.loop (f .done (some c))))/\(U.putObj (w.heap.size+1) (.loop (f .done (some c)))).heap[w.heap.size+1]? = some (.loop (f .done (some c')))/\(U.putObj (w.heap.size+1) (.loop (f .done (some c)))).heap[w.heap.size]? = some (.deferred (some [])))/\KeepOut (λ_=>True) V.heap.size X (U.putObj (w.heap.size+1) (.loop (f .done (some c)))):=λc U O aT=>by
   obtain⟨_,h3,h4,h5⟩:=fin (some c) U O
   refine⟨⟨c,(aC c).putObj _ aT (by omega),h4,h5⟩,(KeepOut.grow _ _ C).trans ⟨by have:=O.1;simpa using this,λk o m hm => ?_⟩⟩
   have N:k≠w.heap.size+1:=λe=>hm (by omega) trivial
   rw[World.putObj_heap_other N]
   exact O.2 k o (by rw[World.putObj_heap_other N];exact m) (λh=>hm (by omega))
  rintro e a3 U u
  cases e with
  | normal =>
   obtain⟨aB,aK⟩:=u
   obtain⟨q,h3,h4,h5⟩:=fin none U aB.any
   refine⟨_,_,q,.inl ⟨rfl,⟨G.putObj _ aK (by omega),h4,h5⟩,(KeepOut.grow _ _ C).trans ⟨by have:=aB.1;simpa using this,λk o m hm => ?_⟩⟩⟩
   by_cases N:k=w.heap.size+1
   ·subst N
    rw[hl] at m
    rw[<-m]
    exact h4
   ·rw[World.putObj_heap_other N]
    exact aB.2 k o (by rw[World.putObj_heap_other N];exact m) (λh=>hm (by omega))
  | ret=>exact⟨_,_,(fin (some .ret) U u.1).1,.inr ⟨rfl,out .ret U u.1 u.2⟩⟩
  | exit id=>exact⟨_,_,(fin (some (.exit id)) U u.1).1,.inr ⟨rfl,out (.exit id) U u.1 u.2⟩⟩
  | goto t=>exact⟨_,_,(fin (some (.goto t)) U u.1).1,.inr ⟨rfl,out (.goto t) U u.1 u.2⟩⟩
  | panic ch=>exact u.elim
  | outgrown=>exact u.elim
 case behind =>
  rintro e U ⟨⟨v,rfl⟩,(⟨xs,hS,T,hl,m⟩|⟨j,aI,c,T,hl,m⟩)⟩
  ·have q:=run_endLoop (P:=P) hl (by rw[E];simp)
   rw[E] at q
   exact⟨none,_,q,aX _ xs _ (zH _) hS (G.putObj _ T (by omega)) ((World.putObj_heap_other (by omega)).trans m)⟩
  ·have q:=run_endLoop (P:=P) hl (by rw[E];simp)
   rw[E] at q
   exact⟨some c,_,q,aM _ c j _ (zH _) aI ((aC c).putObj _ T (by omega)) ((World.putObj_heap_other (by omega)).trans m)⟩
end
end Go.Proofs.YtpibjkbadnffgaaGreat
namespace Go.Proofs.YtpibjkbadnffgaaGreat
open Go Go.RowKit Lou Go.Shelf
section
variable {F:Fence}{n:Nat}{P:Program}{w w':World}{ops:Array Oper}{rest:List Oper}{o:Oper}{a:Act}{Q:Exit->Act->World->Prop}
theorem wpIn_loadX {v:Value}(f:o.guard=none)(T:TypeId)(x:Operand)(e:o.op = .load T x)(m:(execOp a.eval o).run P w = .ok (.value v) w')(h:wpListIn F n P ops Q rest (a.put o.dst v) w'):wpListIn F n P ops Q (o::rest) a w :=
 wpListIn_plain f λq j=>by
  unfold Oper.wpIn
  refine⟨by simp[Oper.about,e],?_⟩
  rw[Oper.semAt_plain F _ _ (by rw[e];intro c k;cases k),m]
  exact j _ _ h
theorem wpIn_allocX {v:Value}(f:o.guard=none)(T:TypeId)(e:o.op = .alloc T)(m:(execOp a.eval o).run P w = .ok (.value v) w')(h:wpListIn F n P ops Q rest (a.put o.dst v) w'):wpListIn F n P ops Q (o::rest) a w :=
 wpListIn_plain f λq j=>by
  unfold Oper.wpIn
  refine⟨by simp[Oper.about,e],?_⟩
  rw[Oper.semAt_plain F _ _ (by rw[e];intro c k;cases k),m]
  exact j _ _ h
theorem wpIn_storeX (f:o.guard=none)(T:TypeId)(x y:Operand)(e:o.op = .store T x y)(g:Nat){t:TypeId}{cs cs':Array Value}(q:a.eval x = .pointer (some ⟨g,0,none⟩))(j:a.eval y = .agg cs'){m:Nat}(u:RowTy P T m)(s:BlkIs w g t cs)(hn:cs.size=m)
  (hs:cs'.size=cs.size) (h1:∀v∈cs'.toList,v.oneCell'=true) (h:wpListIn F n P ops Q rest (a.put o.dst undef) (w.setRow g cs')):wpListIn F n P ops Q (o::rest) a w :=
 wpListIn_plain f λz r=>by
  unfold Oper.wpIn
  refine⟨by simp[Oper.about,e],?_⟩
  rw[Oper.semAt_plain F _ _ (by rw[e];intro c k;cases k)]
  unfold execOp
  simp only[e,q,j,Instr.storeAt,Instr.sureAddr,Sem.run_bind,Sem.run_pure,Result.andThen_ok,run_storeW (hn▸u) s hs h1]
  exact r _ _ h
end
attribute [local go_sem] Oper.semAt_some
def backX (xs:List (Nat×List UInt8))(k:Nat):Nat×List UInt8:=xs.getD (xs.length - 1 - k) (0,zer64)
theorem back1_in (n:Nat)(aG:2<=n)(l u g o c:Nat)(xs:List (Nat×List UInt8))(hw:Wide xs)(A:Option Addr)(hA:0<xs.length->A=some ⟨g,o,none⟩)(aF:xs.length<=c)(hL:xs.length<=1000000)(J U:List Nat->World->Prop)(T:Nat)
  (hY:∀f k W,J f W->(k=f.length/\k<xs.length)->YieldAt Fence.wide (n - 1) Tryz.prog l #[.int .i64 ((xs.length:Int) - 1 - k),.agg (lsC (backX xs k)).toArray] W λe W' =>
   (e = .returned (.bool true)/\J (f++[k]) W'/\KeepOut (λ_=>False) T W W')∨(e = .returned (.bool false)/\U (f++[k]) W'/\KeepOut (λ_=>True) T W W'))
  (W:World) (Z:W.cell? ⟨u,0,none⟩=some (.slice A xs.length c)) (hr:∀k,(h:k<xs.length)->W.rangeAt g (o+k*65) (lsC xs[k])) (h0:J [] W) :
  CallsIn Fence.wide n Tryz.prog 341 #[.func (.yield l) #[] #[],.pointer (some ⟨u,0,none⟩)] W λe W'=>(∃v,e = .returned v) /\
   ((∃N,N.length=xs.length/\J N W')∨(∃f,(f.length<=xs.length/\0<f.length)/\U f W')):=by
 have h1:1<=n:=by omega
 have aH:IntKind.i64.wrap ((xs.length:Int) - 1)=(xs.length:Int) - 1:=wrap_i64_fr _ (by omega) (by omega)
 refine callsIn_of_wp Tryz.func341 rfl trivial ?_ rfl
 simp only[Tryz.ntmps341,zT,zP,qE,qO,qP,zX,zY,qD,qA,zV,qB]
 gi_wp2
 gi_loopw [3] (λi wr=>∃(q:Int) (f:List Nat),i = .int .i64 q/\q=(xs.length:Int) - 1 - f.length/\f.length<=xs.length/\J f wr/\KeepOut (λ_=>False) 0 W wr)
  (λi _=>(intOf i+1).toNat)
 case atStart=>exact⟨(xs.length:Int) - 1,[],rfl,by simp,by simp,h0,KeepOut.refl _ _ _⟩
 case round =>
  obtain⟨q,f,rfl,hq,hb,O,B⟩:=hrel
  have aJ:wr.cell? ⟨u,0,none⟩=some (.slice A xs.length c):=B.cell (p:=⟨u,0,none⟩) Z (λh=>by simp)
  by_cases aI:0<=q
  ·have r:xs.length - 1 - f.length<xs.length:=by omega
   obtain rfl:=hA (by omega)
   obtain⟨m,s⟩:∃m:Nat,m=xs.length - 1 - f.length:=⟨_,rfl⟩
   rw[<-s] at r
   have aA:q=(m:Int):=by omega
   subst aA
   have G:wr.rangeAt g (o+m*65) (lsC xs[m]):=λj v hj=>B.cell (p:=⟨g,o+m*65+j,none⟩) (hr m r j v hj) (λh=>by simp)
   have z:(lsC xs[m]).length=65:=lsC_length (hw _ (qF r))
   obtain⟨fn,tmps,assign,body,H,X⟩:=hY f f.length wr O ⟨rfl,by omega⟩
   have M:backX xs f.length=xs[m]:=by
    unfold backX
    rw[<-s,List.getD_eq_getElem?_getD,zM r]
    rfl
   rw[M,show (xs.length:Int) - 1 - (f.length:Int)=(m:Int) from by omega] at H
   obtain⟨x,E⟩:∃x,x=xs[m]:=⟨_,rfl⟩
   rw[<-E] at H G z
   have aE:IntKind.i64.wrap ((m:Int) - 1)=(m:Int) - 1:=wrap_i64_fr _ (by omega) (by omega)
   have C:=Lib.hid hq
   have aD:=Lib.hid z
   clear hq E M s z
   gi_wp2_with (refine wpIn_loadX rfl _ _ rfl (x_loadM rowLoose G aD.out rfl rfl) ?_)
   refine X.mono ?_
   have L:=C.out
   rintro e W3 (⟨rfl,aB,I⟩|⟨rfl,aC,_⟩)
   ·have V:KeepOut (λ_=>False) 0 W W3:=B.trans ⟨I.1,λk o r s=>I.2 k o r (λh=>by simp)⟩
    clear L
    gi_wp2
    go_roundw
    case rel=>exact⟨(m:Int) - 1,f++[f.length],rfl,by simp;have:=C.out;omega,by simp;have:=C.out;omega,aB,V⟩
    case measure=>simp[intOf]
   ·have hl:(f++[f.length]).length<=xs.length/\0<(f++[f.length]).length:=by simp;omega
    clear L
    gi_wp2
    exact bodyPost_ret (results_none rfl _ _ _) rfl ⟨⟨_,rfl⟩,.inr ⟨_,hl,aC⟩⟩
  ·obtain⟨hs⟩:Nonempty (f.length=xs.length):=⟨by omega⟩
   gi_wp2
   go_end0
   exact⟨⟨_,rfl⟩,.inl ⟨f,hs,O⟩⟩
theorem back1_seq (n:Nat)(z:2<=n)(e g o c:Nat)(xs:List (Nat×List UInt8))(I:Wide xs)(A:Option Addr)(E:0<xs.length->A=some ⟨g,o,none⟩)(r:xs.length<=c)(s:xs.length<=1000000)(w:World)(G:e<w.heap.size)
  (u:w.cell? ⟨e,0,none⟩=some (.slice A xs.length c)) (q:0<xs.length->g<w.heap.size) (B:∀k,(h:k<xs.length)->w.rangeAt g (o+k*65) (lsC xs[k])) :
  SeqR Fence.wide n Tryz.prog 341 #[.pointer (some ⟨e,0,none⟩)] (λk:Nat=>#[.int .i64 ((xs.length:Int) - 1 - k),.agg (lsC (backX xs k)).toArray]) (λ_=>False)
   (λf k _=>k=f.length/\k<xs.length) (λC=>C.length=xs.length) (λf=>f.length<=xs.length/\0<f.length) w:=λl J N W m _ _ L M =>
 back1_in n z l e g o c xs I A E r s J N W.heap.size L W ((m.cell (p:=⟨e,0,none⟩) G).trans u) (λk h j v H=>(m.cell (p:=⟨g,o+k*65+j,none⟩) (q (by omega))).trans (B k h j v H)) M
end Go.Proofs.YtpibjkbadnffgaaGreat
namespace Go.Proofs.YtpibjkbadnffgaaGreat
open Go Go.RowKit Lou Go.Shelf
attribute [local go_sem] Oper.semAt_some
theorem laid_none (g:Nat->List UInt8)(xs:List (Nat×List UInt8))(k:Nat):∀m,m<=xs.length->(∀j,(h:j<xs.length)->j<m->xs[j].1≠k)->laid g (xs.take m) k=g k
 | 0,_,_=>rfl
 | m+1,hm,hno=>by
  rw[laid_snoc g xs m (by omega)]
  unfold gset
  rw[if_neg (λe=>hno m (by omega) (by omega) e.symm)]
  exact laid_none g xs k m (by omega) (λj h f=>hno j h (by omega))
theorem laid_last (g:Nat->List UInt8)(xs:List (Nat×List UInt8))(k i:Nat)(f:i<xs.length)(q:xs[i].1=k):∀m,i+1+m<=xs.length->(∀j,(h:j<xs.length)->i<j->j<i+1+m->xs[j].1≠k)->laid g (xs.take (i+1+m)) k=xs[i].2
 | 0,_,_=>by
  rw[Nat.add_zero,laid_snoc g xs i f]
  unfold gset
  rw[if_pos q.symm]
 | m+1,hm,hno=>by
  rw[<-Nat.add_assoc,laid_snoc g xs (i+1+m) (by omega)]
  unfold gset
  rw[if_neg (λe=>hno (i+1+m) (by omega) (by omega) (by omega) e.symm)]
  exact laid_last g xs k i f q m (by omega) (λj h h1 r=>hno j h h1 (by omega))
theorem backX_at (xs:List (Nat×List UInt8))(j:Nat)(h:j<xs.length):backX xs j=xs[xs.length - 1 - j]:=by
 unfold backX
 rw[List.getD_eq_getElem?_getD,zM (by omega)]
 rfl
theorem back_none (g:Nat->List UInt8)(xs:List (Nat×List UInt8))(k:Nat)(h:∀j,j<xs.length->(backX xs j).1≠k):laid g xs k=g k:=by
 have:=laid_none g xs k xs.length (zH _) (λj f _=>by
  have h1:=h (xs.length - 1 - j) (by omega)
  rw[backX_at _ _ (by omega)] at h1
  have e:xs.length - 1 - (xs.length - 1 - j)=j:=by omega
  simpa only[e] using h1)
 rwa [List.take_length] at this
theorem back_found (g:Nat->List UInt8)(xs:List (Nat×List UInt8))(k m:Nat)(r:m<xs.length)(h:∀j,j<m->(backX xs j).1≠k)(q:(backX xs m).1=k):laid g xs k=(backX xs m).2:=by
 rw[backX_at _ _ r] at q ⊢
 have:=laid_last g xs k (xs.length - 1 - m) (by omega) q m (by omega) (λj s h1 h2=>by
  have f:=h (xs.length - 1 - j) (by omega)
  rw[backX_at _ _ (by omega)] at f
  have e:xs.length - 1 - (xs.length - 1 - j)=j:=by omega
  simpa only[e] using f)
 have e:xs.length - 1 - m+1+m=xs.length:=by omega
 rwa [e,List.take_length] at this
section
variable {w:World}{o:Oper}{ρ:Operand->Value}
theorem x_allocSec (e:o.op = .alloc 329):(execOp ρ o).run Tryz.prog w = .ok (.value (.pointer (some ⟨w.heap.size,0,none⟩))) (w.alloc (.cells (zer64.map b8).toArray 329)):=by
 simp[execOp,e,Instr.alloc,newVar,newRow,go_sem,Result.andThen]
 rfl
theorem x_storeW (T:TypeId)(x y:Operand)(f:o.op = .store T x y)(g:Nat){t:TypeId}{cs cs':Array Value}(h:ρ x = .pointer (some ⟨g,0,none⟩))(k:ρ y = .agg cs'){m:Nat}(j:RowTy Tryz.prog T m)(e:BlkIs w g t cs)(hn:cs.size=m)(hs:cs'.size=cs.size)(h1:∀v∈cs'.toList,v.oneCell'=true) :
  (execOp ρ o).run Tryz.prog w = .ok .skip (w.setRow g cs'):=by
 unfold execOp
 simp only[f,h,k,Instr.storeAt,Instr.sureAddr,Sem.run_bind,Sem.run_pure,Result.andThen_ok,run_storeW (hn▸j) e hs h1]
end
theorem fold2 (t:Array Value)(i j:Tmp)(a b:Value):((#[i,j]:Array Tmp).zip #[a,b]).foldl (λt (p,v)=>t.setIfInBounds p v) t=(t.setIfInBounds i a).setIfInBounds j b:=by
 simp
theorem laid_len:∀(xs:List (Nat×List UInt8)) (g:Nat->List UInt8),(∀m,(g m).length=64)->Wide xs->∀k,(laid g xs k).length=64
 | [],g,hg,_,k=>hg k
 | x::xs,g,hg,hw,k=>laid_len xs (gset g x.1 x.2) (λm=>by
   unfold gset
   split
   ·exact hw x (by simp)
   ·exact hg m) (λy e=>hw y (by simp[e])) k
theorem backX_wide {xs:List (Nat×List UInt8)}(e:Wide xs)(j:Nat):(backX xs j).2.length=64:=by
 unfold backX
 rw[List.getD_eq_getElem?_getD]
 cases h:xs[xs.length - 1 - j]? with
 | none=>decide
 | some x=>exact e x (List.mem_of_getElem? h)
theorem below_putObj {B:Nat}{w V:World}(h:Below B w V)(D:Nat)(o:Obj)(e:B<=D):Below B w (V.putObj D o) :=
 h.trans ⟨rfl,rfl,rfl,by simp,λk f=>World.putObj_heap_other (by omega)⟩
theorem blk_putObj {V:World}{g:Nat}{t:TypeId}{cs:Array Value}(h:BlkIs V g t cs)(D:Nat)(o:Obj)(e:g≠D):BlkIs (V.putObj D o) g t cs:=(World.putObj_heap_other e).trans h
abbrev actF (p k hs g6 len c:Nat)(A:Option Addr)(d m:Value):Act :=
 { tmps:=#[.pointer (some ⟨p,0,none⟩),.int .i64 (k:Int),undef,.pointer (some ⟨hs,0,none⟩),.pointer (some ⟨hs+1,0,none⟩),undef,.pointer (some ⟨g6,0,none⟩),.pointer (some ⟨p,0,none⟩),.pointer (some ⟨p,0,none⟩),.pointer (some ⟨p,2,none⟩),.slice A len c,
   .func (.func 341) #[] #[.pointer (some ⟨hs+1+1,0,none⟩)],d,m,undef,undef,undef,undef,undef,undef,undef,undef,undef,undef,undef,undef],defers:=[] }
theorem back_in (n:Nat)(A:Option Addr)(len f:Nat)(w:World) :
  CallsIn Fence.wide n Tryz.prog 309 #[.slice A len f] w λe w'=>e = .returned (.func (.func 341) #[] #[.pointer (some ⟨w.heap.size,0,none⟩)])/\w.alloc (.cells #[.slice A len f] 107)=w':=by
 refine callsIn_of_wp Tryz.func309 rfl trivial ?_ rfl
 simp only[Tryz.ntmps309,zT,zP,qE,qO,qP,zX,zY,qD,qA,zV,qB]
 gi_wp2
 go_ret
 exact⟨rfl,rfl⟩
theorem sector_in (n:Nat)(hn:6<=n)(w:World)(p many:Nat)(g:Nat->List UInt8)(xs:List (Nat×List UInt8))(left:Int)(stops:Bool)(hD:DkIs w p many g xs left stops)(hl:xs.length<=1000000)(k:Nat) :
  CallsIn Fence.wide n Tryz.prog 261 #[.pointer (some ⟨p,0,none⟩),.int .i64 (k:Int)] w λe w'=>e = .returned (secV (laid g xs k))/\Below w.heap.size w w':=by
 obtain⟨r,A,c,hb,M,Z,hx⟩:=hD.has
 have h1:1<=n:=by omega
 obtain⟨W2,T⟩:∃W2,W2=(w.alloc (.cells #[.int .i64 (k:Int)] 3)).alloc (.cells (zer64.map b8).toArray 329):=⟨_,rfl⟩
 have aA:Below w.heap.size w W2:=by rw[T];exact((Below.refl _ w).alloc (zH _) _).alloc (by simp) _
 have s2:W2.heap.size=w.heap.size+1+1:=by rw[T];simp
 have bk:BlkIs W2 w.heap.size 3 #[.int .i64 (k:Int)]:=by rw[T];exact(BlkIs.new w _ _).alloc _
 have bs:BlkIs W2 (w.heap.size+1) 329 (zer64.map b8).toArray:=by
  have:=BlkIs.new (w.alloc (.cells #[.int .i64 (k:Int)] 3)) 329 (zer64.map b8).toArray
  rw[World.size_alloc] at this
  rw[T]
  exact this
 have c2:W2.cell? ⟨p,2,none⟩=some (.slice A xs.length c):=by
  rw[aA.cell (p:=⟨p,2,none⟩) hb.lt,hb.cell]
  rfl
 have aI:=Lib.hid T
 refine callsIn_of_wp_marks Tryz.func261 rfl trivial ?_ rfl
 simp only[Tryz.ntmps261,zT,zP,qE,qO,qP,zX,zY,qD,qA,zV,qB]
 clear T
 gi_wp2_with (first
  | (refine wpIn_allocX rfl _ rfl (x_allocSec rfl) ?_;rw[World.size_alloc,<-aI.out])
  | (refine⟨trivial,?_⟩;gi_at_call 309;refine(back_in (n - 1) _ _ _ _).mono ?_;rintro e w' ⟨rfl,rfl⟩))
 have aU:=hx.le
 obtain⟨z,G,hA⟩:∃z G,0<xs.length->A=some ⟨z,G,none⟩/\z<w.heap.size:=by
  by_cases h0:0<xs.length
  ·obtain⟨z,G,e,hg,_⟩:=hx.lies h0
   exact⟨z,G,λ_=>⟨e,hg⟩⟩
  ·exact⟨0,0,λh=>absurd h h0⟩
 have aO:∀j,(h:j<xs.length)->w.rangeAt z (G+j*65) (lsC xs[j]):=λj h=>by
  obtain⟨e,hg⟩:=hA (by omega)
  subst e
  exact InW.elem ⟨Z,hx⟩ j h
 obtain⟨W4,I⟩:∃W4,W4=W2.alloc (.cells #[.slice A xs.length c] 107):=⟨_,rfl⟩
 have aH:Below w.heap.size w W4:=by rw[I];exact aA.alloc aA.size _
 have s4:W4.heap.size=w.heap.size+1+1+1:=by rw[I];simp[s2]
 have aP:BlkIs W4 w.heap.size 3 #[.int .i64 (k:Int)]:=by rw[I];exact bk.alloc _
 have aN:BlkIs W4 (w.heap.size+1) 329 (zer64.map b8).toArray:=by rw[I];exact bs.alloc _
 have aX:W4.cell? ⟨w.heap.size+1+1,0,none⟩=some (.slice A xs.length c):=by rw[I,<-s2];exact(BlkIs.new W2 107 #[.slice A xs.length c]).boxed
 rw[<-I]
 have aZ:MapF w r g:=M
 have aW:w.cell? ⟨p,0,none⟩=some (.map (some r)):=by rw[hb.cell];rfl
 have aQ:=hb.lt
 have a1:=Lib.hid s4
 clear I bk bs c2 aI s2 aA
 refine wpIn_rangeFunc_A rfl h1 (gf:=341) (lb:=#[.pointer (some ⟨w.heap.size+1+1,0,none⟩)]) rfl trivial (enters_of Tryz.func341 (by kernel_rfl) rfl)
  (back1_seq (n - 1) (by omega) (w.heap.size+1+1) z G c xs Z A (λh=>(hA h).1) aU hl W4 (by omega) aX (λh=>by have:=(hA h).2;omega) (λj h i v hi=>(aH.cell (p:=⟨z,G+j*65+i,none⟩) (hA (by omega)).2).trans (aO j h i v hi))) (Below.refl _ _) (λ_=>rfl)
  (λf V=>Below w.heap.size w V/\BlkIs V w.heap.size 3 #[.int .i64 (k:Int)]/\BlkIs V (w.heap.size+1) 329 (zer64.map b8).toArray/\(∀j,j<f.length->(backX xs j).1≠k))
  (λcd _ V=>cd = .ret/\Below w.heap.size w V/\BlkIs V (w.heap.size+1) 329 ((laid g xs k).map b8).toArray)
  ?own ?own2 ?ownR ⟨aH,aP,aN,λj h=>by simp at h⟩
  (λj a V=>∃m,a=actF p k w.heap.size m xs.length c A (.int .i64 ((xs.length:Int) - 1 - j)) (.agg (lsC (backX xs j)).toArray)/\BlkIs V m 363 (lsC (backX xs j)).toArray)
  ?ownA ?assign ?body ?done ?stop
 case own =>
  rintro f X Y row ⟨h1,h2,h3,h4⟩ u C
  exact⟨below_abNew (B:=W4.heap.size) (by omega) h1.size h1 u C,h2.abNew (by omega) u C,h3.abNew (by omega) u C,h4⟩
 case own2 =>
  rintro cd f X Y row ⟨e,h1,h3⟩ u C
  exact⟨e,below_abNew (B:=W4.heap.size) (by omega) h1.size h1 u C,h3.abNew (by omega) u C⟩
 case ownR=>exact λf x=>ownFrom_pure _ _
 case ownA =>
  rintro j a ⟨⟩ X Y row ⟨m,e,h⟩ u C
  refine⟨m,e,h.grown u (λe2 => ?_)⟩
  obtain⟨_,o,ho,hc⟩:=C m e2.symm
  have h':X.heap[m]? = some (.cells (lsC (backX xs j)).toArray 363 (0,0)):=h
  rw[h'] at ho
  cases ho
  cases hc
 case assign =>
  intro l1 j V K hV hK
  have O:=backX_wide Z j
  generalize backX xs j=x at *
  have aG:=lsC_length O
  have E:(lsC x).toArray.size=(lsC (0,zer64)).toArray.size:=by rw[zT,zT,aG];rfl
  have n0:=BlkIs.new V 363 (lsC (0,zer64)).toArray
  have nb:=n0.setRow (lsC x).toArray
  have aS:Below V.heap.size V ((V.alloc (.cells (lsC (0,zer64)).toArray 363)).setRow V.heap.size (lsC x).toArray):=below_setRow ((Below.refl _ V).alloc (zH _) _) (zH _) _
  have U:=Lib.hid E
  clear E aG O
  rw[fold2]
  simp only[zA,zG,zF]
  gi_wp2_with (first
   | (refine wpIn_allocX rfl _ rfl (x_allocLs rfl) ?_)
   | (refine wpIn_storeX rfl 363 (.tmp 6) (.tmp 13) rfl V.heap.size rfl rfl rowLoose n0 (by rfl) U.out (lsC_one _) ?_))
  exact hK _ _ aS ⟨V.heap.size,rfl,nb⟩
 case body =>
  rintro l1 f j V a aY ⟨hB,aB,s,H⟩ ⟨rfl,hj⟩ ⟨m,rfl,h6⟩
  have O:=backX_wide Z f.length
  have L:=back_found g xs k f.length hj H
  have aC:(backX xs f.length).1≠k->∀j,j<(f++[f.length]).length->(backX xs j).1≠k:=λh j hj=>by
   simp at hj
   by_cases e:j=f.length
   ·subst e;exact h
   ·exact H j (by omega)
  generalize backX xs f.length=x at *
  obtain⟨x1,x2⟩:=x
  simp only at O L aC
  have d0:V.cell? ⟨m,0,none⟩=some (.int .i64 (x1:Int)):=by rw[h6.cell];rfl
  have ck:V.cell? ⟨w.heap.size,0,none⟩=some (.int .i64 (k:Int)):=aB.boxed
  have dr:V.rangeAt m 1 (x2.map b8):=λj v hj=>by
   rw[h6.cell]
   simpa[lsC,Nat.add_comm] using hj
  have aF:(x2.map b8).length=64:=by rw[qM];exact O
  have E:(x2.map b8).toArray.size=(zer64.map b8).toArray.size:=by rw[zT,aF];rfl
  have aM:=Lib.hid aF
  have U:=Lib.hid E
  have a2:=Lib.hid H
  clear aF E O H
  by_cases aD:x1=k
  ·subst aD
   have aK:=Lib.hid (L rfl)
   clear L aC
   gi_wp2_with (first
    | (refine wpIn_loadX rfl _ _ rfl (x_loadM rowDSec dr aM.out rfl rfl) ?_)
    | (refine wpIn_storeX rfl _ (.tmp 4) (.tmp 19) rfl (w.heap.size+1) rfl rfl rowDSec s (by rfl) U.out (b8_one _) ?_))
   rw[aK.out]
   exact⟨⟨by simp,λk o hk M=>(setRow_other _ _ _ _ (by intro e;subst e;exact M (by omega) trivial)).trans hk⟩,rfl,below_setRow hB (by omega) _,s.setRow _⟩
  ·have a0:¬ (x1:Int)=(k:Int):=by omega
   have aL:=Lib.hid (aC aD)
   clear L aC aD
   gi_wp2
   exact⟨KeepOut.refl _ _ _,hB,aB,s,aL.out⟩
 case done =>
  rintro D ys V hD hS ⟨hB,aB,s,H⟩ hK
  have L:=back_none g xs k (by rw[<-hS];exact H)
  have aJ:(g k).length=64:=M.len k
  have N:V.drew.cell? ⟨p,0,none⟩=some (.map (some r))/\V.drew.cell? ⟨w.heap.size,0,none⟩=some (.int .i64 (k:Int))/\MapF V.drew r g:=⟨(hB.drew.cell (p:=⟨p,0,none⟩) aQ).trans aW,aB.boxed,M.grow hB.drew⟩
  have E:((g k).map b8).toArray.size=(zer64.map b8).toArray.size:=by rw[zT,qM,aJ];rfl
  have U:=Lib.hid E
  have HF:=Lib.hid L
  clear E L aJ H hS
  gi_wp2
  refine wpIn_wide.2 ?_
  refine wp_region_noPanic ?_
  refine RegF.start (λW=>W.cell? ⟨p,0,none⟩=some (.map (some r))/\W.cell? ⟨w.heap.size,0,none⟩=some (.int .i64 (k:Int))/\MapF W r g) 6 (by kernel_rfl) ?_
  refine RegF.t 0 (.pointer (some ⟨p,0,none⟩)) rfl N (λW q=>by go_simp) ?_
  simp only[zE,zB,Act.put,zA,zG,zF]
  refine RegF.t 1 (.pointer (some ⟨p,0,none⟩)) rfl N (λW q=>by go_simp) ?_
  simp only[zE,zD,zB,Act.put,zA,zG,zF]
  refine RegF.t 2 (.pointer (some ⟨p,0,none⟩)) rfl N (λW q=>by go_simp) ?_
  simp only[zE,zD,zB,Act.put,zA,zG,zF]
  refine RegF.t 3 (.map (some r)) rfl N (λW q=>by have e:=q.1;go_simp) ?_
  simp only[zE,zD,zB,Act.put,zA,zG,zF]
  refine RegF.t 4 (.int .i64 (k:Int)) rfl N (λW q=>by have e:=q.2.1;go_simp) ?_
  simp only[zE,zD,zB,Act.put,zA,zG,zF]
  refine RegF.t 5 (secV (g k)) rfl N (λW q=>x_lookup q.2.2 rfl rfl rfl) ?_
  simp only[zE,zD,zB,Act.put,zA,zG,zF]
  refine RegF.one 6 (by kernel_rfl) ?_
  refine RegF.opS (w':=V.drew.setRow (w.heap.size+1) ((g k).map b8).toArray) rfl rfl (x_storeW _ (.tmp 4) (.tmp 25) rfl (w.heap.size+1) rfl rfl rowDSec s (by rfl) U.out (b8_one _)) ⟨λh=>absurd rfl h,?_⟩
  simp only[zE,zD,zB,Act.put]
  refine RegF.done (by kernel_rfl) ?_
  have aV:BlkIs (V.drew.setRow (w.heap.size+1) ((g k).map b8).toArray) (w.heap.size+1) 329 ((laid g xs k).map b8).toArray:=by
   rw[HF.out]
   exact BlkIs.setRow (w:=V.drew) s _
  have aT:Below w.heap.size w (V.drew.setRow (w.heap.size+1) ((g k).map b8).toArray):=below_setRow hB.drew (by omega) _
  have aR:(V.drew.setRow (w.heap.size+1) ((g k).map b8).toArray).heap[D]? = some (.deferred (some [])):=(setRow_other _ _ _ _ (by omega)).trans hK
  have aE:((laid g xs k).map b8).toArray.size=64:=by rw[HF.out,U.out];rfl
  generalize V.drew.setRow (w.heap.size+1) ((g k).map b8).toArray=V5 at *
  simp only[NoPanic]
  gi_wp2
  refine⟨by simp,.inl ⟨_,_,rfl,run_takeDeferred aR,?_⟩⟩
  exact⟨_,results_cellW 4 rfl rfl rowDSec (blk_putObj aV D _ (by omega)) aE,rfl,below_putObj aT D _ (by omega)⟩
 case stop =>
  rintro D cd f V hD hS ⟨rfl,hB,s⟩ hK
  have aE:((laid g xs k).map b8).toArray.size=64:=by rw[zT,qM,laid_len xs g M.len Z k]
  gi_wp2
  refine⟨by simp,.inl ⟨_,_,rfl,run_takeDeferred hK,?_⟩⟩
  exact⟨_,results_cellW 4 rfl rfl rowDSec (blk_putObj s D _ (by omega)) aE,rfl,below_putObj hB D _ (by omega)⟩
end Go.Proofs.YtpibjkbadnffgaaGreat
namespace Go.Proofs.YtpibjkbadnffgaaGreat
open Go Go.RowKit Lou
section
variable (w:World)(p many:Nat)(g:Nat->List UInt8)(xs:List (Nat×List UInt8))(left:Int)(stops:Bool)
theorem rd_asks (B:DkIs w p many g xs left stops)(hs:(stops && left == 0)=false)(k:Nat)(E:k<many)(h f:World)(m:Below w.heap.size w h)(j:Below h.heap.size h f)
  (q:BlkIs h w.heap.size 60 #[.pointer (some ⟨p,0,none⟩)]) (s:BlkIs h (w.heap.size+1) 3 #[.int .i64 (k:Int)]) :
  Calls Tryz.prog 230 #[.pointer (some ⟨p,0,none⟩),.slice (some ⟨f.heap.size,0,none⟩) 2 2] (f.alloc (.cells #[.func (.func 308) #[] #[.pointer (some ⟨w.heap.size+1,0,none⟩),.pointer (some ⟨w.heap.size,0,none⟩)],.int .i64 4,.func (.func 293) #[.pointer (some ⟨p,0,none⟩)] #[],.int .i64 140] 311))
   λe w'=>e = .returned (.int .i64 0)/\Below f.heap.size f w':=by
 have h1:=B.grow (m.trans (j.mono m.size))
 have r:=asked2_gives f p many g xs left stops h1 (askThere w.heap.size (w.heap.size+1) many k) (askGoes p left stops)
  (ans_there f p many g xs left stops k _ _ h1 (q.below j q.lt) (s.below j s.lt)) (ans_goes f p many g xs left stops h1)
 have hf:firstE [askThere w.heap.size (w.heap.size+1) many k,askGoes p left stops]=0:=by
  have C:decide ((k:Int)<0)=false:=by simp
  have z:¬ many<=k:=by omega
  have u:(askGoes p left stops).b=false:=hs
  simp[firstE,askThere,z,u]
 rw[hf] at r
 exact r
theorem read_gives (u:DkIs w p many g xs left stops)(hs:(stops && left == 0)=false)(k:Nat)(T:k<many)(hl:xs.length<=1000000) :
  Calls Tryz.prog 193 #[.pointer (some ⟨p,0,none⟩),.int .i64 (k:Int)] w λe w'=>∃q,e = .returned (.tuple #[.slice (some ⟨q,0,none⟩) 64 64,.int .i64 0])/\InB w' w'.heap.size (some ⟨q,0,none⟩) 64 (laid g xs k)/\Below w.heap.size w w':=by
 have HT:=there_gives w p k
 have U:=λs C m f aC Z=>rd_asks w p many g xs left stops u hs k T s C m f aC Z
 have G:∀W,Below w.heap.size w W->Calls Tryz.prog 261 #[.pointer (some ⟨p,0,none⟩),.int .i64 (k:Int)] W λe w'=>e = .returned (secV (laid g xs k))/\Below W.heap.size W w':=λW V=>callsIn_wide.1 (sector_in 6 (zH _) W p many g xs left stops (u.grow V) hl k)
 have z:(laid g xs k).length=64:=by
  obtain⟨r,A,c,hb,M,hw,hx⟩:=u.has
  exact laid_len xs g M.len hw k
 generalize laid g xs k=y at *
 have I:(y.map b8).toArray.size=(zer64.map b8).toArray.size:=by rw[zT,qM,z];rfl
 have L:=Lib.hid z
 have X:=Lib.hid I
 unfold secV at G
 clear hs z I
 go_enter Tryz.func193,Tryz.ntmps193
 go_wp2_with (first
  | (go_at_call 260;refine HT.mono ?_;rintro e s ⟨rfl,N,O,m⟩)
  | (go_at_call 231;refine(goes_gives s p).mono ?_;rintro e C ⟨rfl,f⟩)
  | (go_at_call 230;refine(U s C m f N O).mono ?_;rintro e w3 ⟨rfl,aB⟩;have B:Below w.heap.size w w3:=m.trans ((f.trans (aB.mono f.size)).mono m.size))
  | (go_at_call 261;refine(G _ B).mono ?_;rintro e w4 ⟨rfl,aD⟩;have E:Below w.heap.size w w4:=B.trans (aD.mono B.size);have H:=BlkIs.new w4 329 (zer64.map b8).toArray)
  | (refine wp_exec rfl (x_allocSec rfl) ?_)
  | (refine wp_storeW rfl 329 (.tmp 7) (.tmp 21) rfl w4.heap.size rfl rfl rowDSec H (by rfl) X.out (b8_one _) ?_))
 refine bodyPost_ret (results_tmp2 rfl _ _ _) rfl ?_
 have nb:=H.setRow (y.map b8).toArray
 have aA:Below w.heap.size w ((w4.alloc (.cells (zer64.map b8).toArray 329)).setRow w4.heap.size (y.map b8).toArray):=below_setRow (E.alloc E.size _) E.size _
 refine⟨w4.heap.size,rfl,⟨by rw[L.out];exact zH _,by omega,(λh=>by cases h),λ_=>⟨w4.heap.size,0,rfl,nb.lt,λj hj => ?_⟩⟩,aA⟩
 rw[nb.cell,qC]
 simp[hj,b8]
end
section
variable (fr pg n:Int)
theorem sectors1_gives (W:World)(g:Nat)(f:BlkIs W g 59 #[.int .i64 fr,.int .i64 pg])(h1:1<=fr/\fr<=2000)(h2:1<=pg/\pg<=2000) :
  Calls Tryz.prog 159 #[.pointer (some ⟨g,0,none⟩)] W λe w'=>e = .returned (.int .i64 (2+9*fr+8*pg))/\W=w':=by
 have r:W.cell? ⟨g,0,none⟩=some (.int .i64 fr):=by rw[f.cell];rfl
 have m:W.cell? ⟨g,1,none⟩=some (.int .i64 pg):=by rw[f.cell];rfl
 have h:IntKind.i64.wrap (9*fr)=9*fr:=wrap_i64_fr _ (by omega) (by omega)
 have q:IntKind.i64.wrap (2+9*fr)=2+9*fr:=wrap_i64_fr _ (by omega) (by omega)
 have j:IntKind.i64.wrap (8*pg)=8*pg:=wrap_i64_fr _ (by omega) (by omega)
 have k:IntKind.i64.wrap (2+9*fr+8*pg)=2+9*fr+8*pg:=wrap_i64_fr _ (by omega) (by omega)
 go_enter Tryz.func159,Tryz.ntmps159
 go_wp2
 go_ret
 exact⟨rfl,rfl⟩
theorem frameAt1_gives (W:World)(g:Nat)(f:BlkIs W g 3 #[.int .i64 n])(h1:0<=n/\n<2000) :
  Calls Tryz.prog 236 #[.pointer (some ⟨g,0,none⟩)] W λe w'=>e = .returned (.int .i64 (2+9*n))/\W=w':=by
 have k:W.cell? ⟨g,0,none⟩=some (.int .i64 n):=by rw[f.cell];rfl
 have h:IntKind.i64.wrap (9*n)=9*n:=wrap_i64_fr _ (by omega) (by omega)
 have j:IntKind.i64.wrap (2+9*n)=2+9*n:=wrap_i64_fr _ (by omega) (by omega)
 go_enter Tryz.func236,Tryz.ntmps236
 go_wp2
 go_ret
 exact⟨rfl,rfl⟩
theorem pageAt1_gives (W:World)(g f:Nat)(h:BlkIs W g 59 #[.int .i64 fr,.int .i64 pg])(j:BlkIs W f 3 #[.int .i64 n])(h1:1<=fr/\fr<=2000)(h2:0<=n/\n<2000) :
  Calls Tryz.prog 258 #[.pointer (some ⟨g,0,none⟩),.pointer (some ⟨f,0,none⟩)] W λe w'=>e = .returned (.int .i64 (2+9*fr+8*n))/\W=w':=by
 have u:W.cell? ⟨g,0,none⟩=some (.int .i64 fr):=by rw[h.cell];rfl
 have r:W.cell? ⟨f,0,none⟩=some (.int .i64 n):=by rw[j.cell];rfl
 have k:IntKind.i64.wrap (9*fr)=9*fr:=wrap_i64_fr _ (by omega) (by omega)
 have s:IntKind.i64.wrap (2+9*fr)=2+9*fr:=wrap_i64_fr _ (by omega) (by omega)
 have m:IntKind.i64.wrap (8*n)=8*n:=wrap_i64_fr _ (by omega) (by omega)
 have q:IntKind.i64.wrap (2+9*fr+8*n)=2+9*fr+8*n:=wrap_i64_fr _ (by omega) (by omega)
 go_enter Tryz.func258,Tryz.ntmps258
 go_wp2
 go_ret
 exact⟨rfl,rfl⟩
def atV (r e:Int):Value:=.tuple #[.int .i64 (if e=0 then r else 0),.int .i64 e]
theorem sectors_gives (w:World):Calls Tryz.prog 106 #[.agg #[.int .i64 fr,.int .i64 pg]] w λe w'=>e = .returned (atV (2+9*fr+8*pg) (plE (planOk fr pg) 0 1))/\Below w.heap.size w w':=by
 have k:Below w.heap.size w (w.alloc (.cells #[.int .i64 fr,.int .i64 pg] 59)):=(Below.refl _ w).alloc (zH _) _
 have j:=BlkIs.new w 59 #[.int .i64 fr,.int .i64 pg]
 have H:=place_gives fr pg 0 1 (2+9*fr+8*pg) 159 #[.pointer (some ⟨w.heap.size,0,none⟩)] (enters_of Tryz.func159 (by kernel_rfl) rfl) (w.alloc (.cells #[.int .i64 fr,.int .i64 pg] 59))
  (λf _ _ W h=>sectors1_gives fr pg W _ (j.below h (by simp)) ((planOk_iff fr pg).1 f).1 ((planOk_iff fr pg).1 f).2)
 unfold atV
 generalize plE (planOk fr pg) 0 1=e at *
 generalize (if e=0 then 2+9*fr+8*pg else 0)=v at *
 go_enter Tryz.func106,Tryz.ntmps106
 go_wp2_with fail
 refine H.mono ?_
 rintro e w' ⟨rfl,hB⟩
 go_wp2
 refine bodyPost_ret (results_tmp2 rfl _ _ _) rfl ?_
 exact⟨rfl,k.trans (hB.mono (by simp))⟩
theorem frameAt_gives (w:World):Calls Tryz.prog 172 #[.agg #[.int .i64 fr,.int .i64 pg],.int .i64 n] w λe w'=>e = .returned (atV (2+9*n) (plE (planOk fr pg) n fr))/\Below w.heap.size w w':=by
 have k:Below w.heap.size w ((w.alloc (.cells #[.int .i64 fr,.int .i64 pg] 59)).alloc (.cells #[.int .i64 n] 3)):=((Below.refl _ w).alloc (zH _) _).alloc (by simp) _
 have f:=BlkIs.new (w.alloc (.cells #[.int .i64 fr,.int .i64 pg] 59)) 3 #[.int .i64 n]
 rw[World.size_alloc] at f
 have H:=place_gives fr pg n fr (2+9*n) 236 #[.pointer (some ⟨w.heap.size+1,0,none⟩)] (enters_of Tryz.func236 (by kernel_rfl) rfl) ((w.alloc (.cells #[.int .i64 fr,.int .i64 pg] 59)).alloc (.cells #[.int .i64 n] 3))
  (λh m hn W j=>frameAt1_gives n W _ (f.below j (by simp)) (by have:=(planOk_iff fr pg).1 h;omega))
 unfold atV
 generalize plE (planOk fr pg) n fr=e at *
 generalize (if e=0 then 2+9*n else 0)=v at *
 go_enter Tryz.func172,Tryz.ntmps172
 go_wp2_with fail
 refine H.mono ?_
 rintro e w' ⟨rfl,hB⟩
 go_wp2
 refine bodyPost_ret (results_tmp2 rfl _ _ _) rfl ?_
 exact⟨rfl,k.trans (hB.mono (by simp;omega))⟩
theorem pageAt_gives (w:World):Calls Tryz.prog 191 #[.agg #[.int .i64 fr,.int .i64 pg],.int .i64 n] w λe w'=>e = .returned (atV (2+9*fr+8*n) (plE (planOk fr pg) n pg))/\Below w.heap.size w w':=by
 have k:Below w.heap.size w ((w.alloc (.cells #[.int .i64 fr,.int .i64 pg] 59)).alloc (.cells #[.int .i64 n] 3)):=((Below.refl _ w).alloc (zH _) _).alloc (by simp) _
 have j:=BlkIs.new (w.alloc (.cells #[.int .i64 fr,.int .i64 pg] 59)) 3 #[.int .i64 n]
 have m:=(BlkIs.new w 59 #[.int .i64 fr,.int .i64 pg]).alloc (.cells #[.int .i64 n] 3)
 rw[World.size_alloc] at j
 have H:=place_gives fr pg n pg (2+9*fr+8*n) 258 #[.pointer (some ⟨w.heap.size,0,none⟩),.pointer (some ⟨w.heap.size+1,0,none⟩)] (enters_of Tryz.func258 (by kernel_rfl) rfl) ((w.alloc (.cells #[.int .i64 fr,.int .i64 pg] 59)).alloc (.cells #[.int .i64 n] 3))
  (λf q hn W h=>pageAt1_gives fr pg n W _ _ (m.below h (by simp;omega)) (j.below h (by simp)) (by have:=(planOk_iff fr pg).1 f;omega) (by have:=(planOk_iff fr pg).1 f;omega))
 unfold atV
 generalize plE (planOk fr pg) n pg=e at *
 generalize (if e=0 then 2+9*fr+8*n else 0)=v at *
 go_enter Tryz.func191,Tryz.ntmps191
 go_wp2_with fail
 refine H.mono ?_
 rintro e w' ⟨rfl,hB⟩
 go_wp2
 refine bodyPost_ret (results_tmp2 rfl _ _ _) rfl ?_
 exact⟨rfl,k.trans (hB.mono (by simp;omega))⟩
end
def lgC (d:Option Addr)(fr pg:Int)(sr ep:Nat)(sz:Int)(A:Option Addr)(n c:Nat):Array Value:=#[.pointer d,.int .i64 fr,.int .i64 pg,.int .u64 (sr:Int),.int .u64 (ep:Int),.int .i64 sz,.slice A n c]
section
variable {w:World}{l d:Nat}{fr pg:Int}{sr ep:Nat}{sz:Int}{A:Option Addr}{n c:Nat}
theorem lnone_gives (f:BlkIs w l 183 (lgC (some ⟨d,0,none⟩) fr pg sr ep sz A n c)):Calls Tryz.prog 176 #[.pointer (some ⟨l,0,none⟩)] w λe w'=>e = .returned (.bool false)/\w=w':=by
 have c0:w.cell? ⟨l,0,none⟩=some (.pointer (some ⟨d,0,none⟩)):=by rw[f.cell];rfl
 go_enter Tryz.func176,Tryz.ntmps176
 go_wp2
 go_ret
 exact⟨rfl,rfl⟩
theorem ldisk_gives (f:BlkIs w l 183 (lgC (some ⟨d,0,none⟩) fr pg sr ep sz A n c)):Calls Tryz.prog 175 #[.pointer (some ⟨l,0,none⟩)] w λe w'=>e = .returned (.pointer (some ⟨d,0,none⟩))/\w=w':=by
 have h:=lnone_gives f
 have c0:w.cell? ⟨l,0,none⟩=some (.pointer (some ⟨d,0,none⟩)):=by rw[f.cell];rfl
 go_enter Tryz.func175,Tryz.ntmps175
 go_wp2_with (go_at_call 176;refine h.mono ?_;rintro e w' ⟨rfl,rfl⟩)
 go_ret
 exact⟨rfl,rfl⟩
theorem lsize_gives (f:BlkIs w l 183 (lgC (some ⟨d,0,none⟩) fr pg sr ep sz A n c)):Calls Tryz.prog 113 #[.pointer (some ⟨l,0,none⟩)] w λe w'=>e = .returned (.int .i64 sz)/\w=w':=by
 have h:=lnone_gives f
 have c5:w.cell? ⟨l,5,none⟩=some (.int .i64 sz):=by rw[f.cell];rfl
 go_enter Tryz.func113,Tryz.ntmps113
 go_wp2_with (go_at_call 176;refine h.mono ?_;rintro e w' ⟨rfl,rfl⟩)
 go_ret
 exact⟨rfl,rfl⟩
end
section
variable {w:World}{v:Value}
end

theorem setRow_grownBy (w:World)(p:Nat)(cs:Array Value):w.grownBy (w.setRow p cs) (some p):=⟨rfl,rfl,rfl,by simp[World.setRow],λk _ f=>setRow_other w p k cs (λe=>f (by rw[e]))⟩
section
variable (w:World)(p many:Nat)(g:Nat->List UInt8)(xs:List (Nat×List UInt8))(left:Int)(stops:Bool)
end
theorem laid_app (g:Nat->List UInt8)(xs ys:List (Nat×List UInt8)):laid g (xs++ys)=laid (laid g xs) ys:=by unfold laid;rw[List.foldl_append]
theorem laid_one (g:Nat->List UInt8)(xs:List (Nat×List UInt8))(a:Nat)(l:List UInt8)(k:Nat):laid g (xs++[(a,l)]) k=if k=a then l else laid g xs k:=by rw[laid_app];rfl
section
variable {ρ:Operand->Value}{w:World}{o:Oper}{x y:Operand}
end
structure FnV where
 f:Nat
 bd:Array Value
 lb:Array Value
def FnV.val (x:FnV):Value:=.func (.func x.f) x.bd x.lb
theorem steps_gives (w:World)(g c:Nat)(fs:List FnV)(I:Nat->World->Prop)(R:Int->World->Prop)(hl:fs.length<=100)
  (s:∀(k:Nat) (r:k<fs.length) W,I k W->W.cell? ⟨g,k,none⟩=some fs[k].val)
  (B:∀(k:Nat) (r:k<fs.length) W,I k W->(∀args W,(callFunc fs[k].f args).run Tryz.prog W = .ok (.enter fs[k].f args) W)/\Calls Tryz.prog fs[k].f (fs[k].bd++fs[k].lb) W λe w'=>(e = .returned (.int .i64 0)/\I (k+1) w')∨∃x:Int,x≠0/\e = .returned (.int .i64 x)/\R x w')
  (E:I 0 w) :
  Calls Tryz.prog 167 #[.slice (some ⟨g,0,none⟩) fs.length c] w λe w'=>(e = .returned (.int .i64 0)/\I fs.length w')∨∃x:Int,x≠0/\e = .returned (.int .i64 x)/\R x w':=by
 go_enter Tryz.func167,Tryz.ntmps167
 go_wp2
 go_loopw [8] (λi wr=>∃k:Nat,k<=fs.length/\i = .int .i64 (k:Int)/\I k wr) (λi _=>fs.length - (intOf i).toNat)
 case atStart=>exact⟨0,by omega,rfl,E⟩
 case round =>
  obtain⟨k,r,rfl,j⟩:=hrel
  by_cases u:k<fs.length
  ·have hc:=s k u wr j
   obtain⟨m,h⟩:=B k u wr j
   obtain⟨x,q⟩:∃x,x=fs[k]:=⟨_,rfl⟩
   rw[<-q] at hc m h
   have N:IntKind.i64.wrap ((k:Int)+1)=(k:Int)+1:=wrap_i64_fr _ (by omega) (by omega)
   obtain⟨G,L,H⟩:=x
   unfold FnV.val at hc
   simp only at hc m h
   clear q B s
   go_wp2
   refine h.mono ?_
   rintro e M (⟨rfl,h1⟩|⟨z,C,rfl,h1⟩)
   ·go_wp2
    go_roundw
    case rel=>exact⟨k+1,by omega,by simp,h1⟩
    case measure=>simp[intOf];omega
   ·go_wp2
    go_ret
    exact .inr ⟨z,C,rfl,h1⟩
  ·obtain rfl:k=fs.length:=by omega
   go_wp2
   go_ret
   exact .inl ⟨rfl,j⟩
def secsOf (G:Nat->List UInt8)(at_:Nat):Nat->List UInt8
 | 0=>[]
 | m+1=>secsOf G at_ m++G (at_+m)
theorem secsOf_length {G:Nat->List UInt8}(e:∀k,(G k).length=64)(at_:Nat):∀m,(secsOf G at_ m).length=64*m
 | 0=>rfl
 | m+1=>by
  show (secsOf G at_ m++G (at_+m)).length=_
  rw[zJ,secsOf_length e at_ m,e]
  omega
theorem laid_long {w:World}{p many:Nat}{g:Nat->List UInt8}{xs:List (Nat×List UInt8)}{left:Int}{stops:Bool}(e:DkIs w p many g xs left stops)(k:Nat):(laid g xs k).length=64:=by
 obtain⟨r,A,c,j,h,f,m⟩:=e.has
 exact laid_len xs g h.len f k
theorem wread_gives (w:World)(l d many:Nat)(g:Nat->List UInt8)(xs:List (Nat×List UInt8))(left:Int)(stops:Bool)(r:DkIs w d many g xs left stops)(hs:(stops && left == 0)=false)(hl:xs.length<=1000000)(hc:w.cell? ⟨l,0,none⟩=some (.pointer (some ⟨d,0,none⟩)))(N:l<w.heap.size)(at_ m:Nat)(aD:at_+m<=many)(aB:many<=1000000) :
  Calls Tryz.prog 161 #[.pointer (some ⟨l,0,none⟩),.int .i64 (at_:Int),.int .i64 (m:Int)] w λe w'=>∃A c,e = .returned (.tuple #[.slice A (64*m) c,.int .i64 0])/\InB w' w'.heap.size A c (secsOf (laid g xs) at_ m)/\Below w.heap.size w w':=by
 have s:=laid_long r
 have j:∀(k:Nat) (W:World),k<many->Below w.heap.size w W->Calls Tryz.prog 193 #[.pointer (some ⟨d,0,none⟩),.int .i64 (k:Int)] W λe w'=>∃q u,Hid (u=Value.slice (some ⟨q,0,none⟩) 64 64)/\e = .returned (.tuple #[u,.int .i64 0])/\InB w' w'.heap.size (some ⟨q,0,none⟩) 64 (laid g xs k)/\Below W.heap.size W w':=λk W E hB=>(read_gives W d many g xs left stops (r.grow hB) hs k E hl).mono λe w' ⟨q,h1,h2,I⟩=>⟨q,_,Lib.hid rfl,h1,h2,I⟩
 generalize laid g xs=G at *
 clear r
 go_enter Tryz.func161,Tryz.ntmps161
 go_wp2
 go_loopw [12,6] (λi v wr=>∃k:Nat,k<=m/\i = .int .i64 (k:Int)/\OwnB wr w.heap.size v (secsOf G at_ k)/\Below w.heap.size w wr) (λi _ _=>m - (intOf i).toNat)
 case atStart=>exact⟨0,by omega,rfl,OwnB.nil _ _,Below.refl _ _⟩
 case round =>
  obtain⟨k,E,rfl,own,hB⟩:=hrel
  by_cases aC:k<m
  ·have aA:wr.cell? ⟨l,0,none⟩=some (.pointer (some ⟨d,0,none⟩)):=(hB.cell (p:=⟨l,0,none⟩) N).trans hc
   have O:=j (at_+k) wr (by omega) hB
   have Z:IntKind.i64.wrap ((at_:Int)+(k:Int))=((at_+k:Nat):Int):=by rw[wrap_i64_fr _ (by omega) (by omega)];omega
   have aE:IntKind.i64.wrap ((k:Int)+1)=(k:Int)+1:=wrap_i64_fr _ (by omega) (by omega)
   have f:=secsOf_length s at_ k
   have C:=s (at_+k)
   have V:=Lib.hid f
   have H:=Lib.hid C
   clear j f C
   go_wp2_with (first
    | (go_at_call 193;refine O.mono ?_;rintro e w2 ⟨q,u,L,rfl,z,B⟩;have own2:=ownG_grow own B;have h:=hB.trans (B.mono hB.size))
    | (at_builtin;refine wp_appB rfl (.tmp 29) (.tmp 30) rfl w.heap.size u6 (secsOf G at_ k) rfl own2 _ (some ⟨q,0,none⟩) 64 (G (at_+k)) (by rw[H.out];exact L.out) z (by rw[V.out,H.out];omega) h.size ?_;intro v3 X T M;have U:=h.trans (grown_below M h.size (ownG_ge own2))))
   go_roundw
   case rel=>exact⟨k+1,by omega,by simp,T,U⟩
   case measure=>simp[intOf];omega
  ·obtain rfl:k=m:=by omega
   obtain⟨A,c,rfl,z⟩:=own.inB
   have f:=secsOf_length s at_ k
   rw[f]
   clear j
   go_wp2
   exact bodyPost_ret (results_tmp2 rfl _ _ _) rfl ⟨A,c,rfl,z,hB⟩
end Go.Proofs.YtpibjkbadnffgaaGreat
namespace Go.Proofs.YtpibjkbadnffgaaGreat
open Go Go.RowKit Go.Shelf
attribute [local go_sem] Oper.semAt_some
def Small:Obj->Prop
 | .cells cs _ fr=>cs.size<=64/\fr=(0,0)
 | .loop _=>True
 | .deferred _=>True
 | _=>False
def AbSm {β : Type}(B:Nat)(I : β -> World->Prop):Prop:=∀s X Y row,I s X->X.grownBy Y row->(∀r,row=some r->B<=r/\∃o:Obj,X.heap[r]? = some o/\Small o)->I s Y
theorem AbSm.grow {β : Type}{B:Nat}{I : β -> World->Prop}(h:AbSm B I){s : β}{X Y:World}(hs:I s X)(f:Below X.heap.size X Y):I s Y:=h s X Y none hs ⟨f.os,f.tape,f.output,f.size,λk j _=>f.block k j⟩ (λr e=>by cases e)
theorem AbSm.alloc {β : Type}{B:Nat}{I : β -> World->Prop}(h:AbSm B I){s : β}{X:World}(o:Obj)(hs:I s X):I s (X.alloc o):=h.grow hs ((Below.refl _ X).alloc (zH _) _)
theorem AbSm.drew {β : Type}{B:Nat}{I : β -> World->Prop}(h:AbSm B I){s : β}{X:World}(hs:I s X):I s X.drew:=h.grow hs (Below.refl _ X).drew
theorem AbSm.putObj {β : Type}{B:Nat}{I : β -> World->Prop}(h:AbSm B I){s : β}{X:World}{l:Nat}{o':Obj}(o:Obj)(hs:I s X)(hl:B<=l)(f:X.heap[l]? = some o')(j:Small o'):I s (X.putObj l o) :=
 h s X _ (some l) hs (grownBy_putObj' X l o) (λr e=>by cases e;exact⟨hl,_,f,j⟩)
theorem AbSm.setCell {β : Type}{B:Nat}{I : β -> World->Prop}(h:AbSm B I){s : β}{X:World}{p:Addr}{t:TypeId}{cs:Array Value}(v:Value)(hs:I s X)(hl:B<=p.block)(j:BlkIs X p.block t cs)(hc:cs.size<=64):I s (X.setCell p v) :=
 h s X _ (some p.block) hs ⟨rfl,rfl,rfl,by simp,λk _ f=>Below.heap_setCell X p v k (λe=>f (by rw[e]))⟩ (λr e=>by cases e;exact⟨hl,_,j,hc,rfl⟩)
def SeqS {α : Type}(F:Fence)(n:Nat)(P:Program)(g:Nat)(lb:Array Value)(encs : α -> Array Value)(Mu:Nat->Prop)(Rd:List α -> α -> World->Prop)(S Sp:List α -> Prop)(w:World):Prop :=
 ∀(l:Nat) (J Jx:List α -> World->Prop) (W:World),Below w.heap.size w W->AbSm W.heap.size J->AbSm W.heap.size Jx ->
  (∀pre x W1,J pre W1->Rd pre x W1->YieldAt F (n - 1) P l (encs x) W1 λe W' =>
   (e = .returned (.bool true)/\J (pre++[x]) W'/\KeepOut Mu W.heap.size W1 W')∨(e = .returned (.bool false)/\Jx (pre++[x]) W'/\KeepOut (λ_=>True) W.heap.size W1 W')) ->
  J [] W ->
  CallsIn F n P g (#[.func (.yield l) #[] #[]] ++ lb) W λe W'=>(∃v,e = .returned v)/\((∃xs,S xs/\J xs W')∨(∃pre,Sp pre/\Jx pre W'))
section
variable {F:Fence}{n:Nat}{P:Program}{w:World}
theorem wpIn_rangeFunc_S {α : Type}{g:Operand}{T:Array Tmp}{assign body:Code}{Q:Exit->Act->World->Prop}{a:Act}
  (aI:F.round=none) (h1:1<=n) {gf:Nat} {lb:Array Value} (hg:a.eval g = .func (.func gf) #[] lb) (aS:F.fn gf) (eg:∀args w,(callFunc gf args).run P w = .ok (.enter gf args) w)
  {encs : α -> Array Value} {Mu:Nat->Prop} {Rd:List α -> α -> World->Prop} {S Sp:List α -> Prop} {w0:World} (aG:SeqS F (n - 1) P gf lb encs Mu Rd S Sp w0)
  (aC:Below w0.heap.size w0 w) (aN:∀x,(encs x).size=T.size)
  (I:List α -> World->Prop) (H:Code->List α -> World->Prop) (G:AbSm w.heap.size I) (aB:∀c,AbSm w.heap.size (H c)) (aP:∀j x,OwnFrom w.heap.size (λ(_:Unit) W=>Rd j x W)) (h0:I [] w) (a₁ : α -> Act)
  (aL:∀(l:Nat) (x : α) (W:World) (K:Act->World->Prop),K (a₁ x) W ->
   assign.wpIn (F.inRound l) (n - 1 - 1) P (Exit.then K (λ_ _ _=>False)) { tmps:=(T.zip (encs x)).foldl (λt (p,v)=>t.setIfInBounds p v) a.tmps,defers:=[] } W)
  (aK:∀(l:Nat) (j:List α) (x : α) (W:World),I j W->Rd j x W->body.wpIn (F.inRound l) (n - 1 - 1) P (postR Mu w.heap.size I H (j++[x]) W) (a₁ x) W)
  (aR:∀(D:Nat) (xs:List α) (W:World),w.heap.size<=D->S xs->I xs W->W.heap[D]? = some (.deferred (some []))->Q .normal { a with defers:={ target:=.collected D,args:=#[] }::a.defers } W)
  (aJ:∀(D:Nat) (c:Code) (j:List α) (W:World),w.heap.size<=D->Sp j->H c j W->W.heap[D]? = some (.deferred (some []))->c.wpIn F n P Q { a with defers:={ target:=.collected D,args:=#[] }::a.defers } W) :
  (Code.rangeFunc g T assign body).wpIn F n P Q a w:=by
 refine wpIn_rangeFunc λfn aQ => ?_
 rw[aI]
 -- the loop's record, and the world that bears it and the block for deferred calls
 obtain⟨f,C⟩:∃f:LoopState->Option Code->Loop,f=λst pe => { state:=st,pending:=pe,fn,tmps:=a.tmps,params:=T,assign,body,defers:=w.heap.size }:=⟨_,rfl⟩
 obtain⟨V,L⟩:∃V,(w.alloc (.deferred (some []))).alloc (.loop (f .ready none))=V:=⟨_,rfl⟩
 have vL:V.heap[w.heap.size+1]? = some (.loop (f .ready none)):=by
  subst L
  have:=World.alloc_heap_new (w.alloc (.deferred (some []))) (.loop (f .ready none))
  rwa [World.size_alloc] at this
 have vD:V.heap[w.heap.size]? = some (.deferred (some [])):=by
  subst L
  exact(Below.heap_alloc _ _ _ (by simp)).trans (World.alloc_heap_new w _)
 have vI:I [] V:=by subst L;exact G.alloc _ (G.alloc _ h0)
 have vS:V.heap.size=w.heap.size+2:=by subst L;simp
 have vB:Below w0.heap.size w0 V:=by
  subst L
  exact aC.trans ((((Below.refl _ w).alloc (zH _) _).alloc (by simp) _).mono aC.size)
 refine⟨w.heap.size+1,[{ target:=.collected w.heap.size,args:=#[] }],V,{ target:=.fn (.func gf) lb,args:=#[.func (.yield (w.heap.size+1)) #[] #[]] },V,gf,#[.func (.yield (w.heap.size+1)) #[] #[]] ++ lb,V,?_,?_,?_,?_,λ_=>h1,?_⟩
 ·rw[<-L,C];exact run_enterLoop_outer _ _ _ _ _
 ·simp only[resolve,hg]
  simp[go_sem]
 ·intro f' aD
  simp[Target.leads] at aD
  subst aD
  exact aS
 ·simp[invoke,go_sem,eg]
 have apart:∀{A B:World} {row:Option Nat} {k:Nat} {o:Obj},A.heap[k]? = some o->A.grownBy B row->(∀r,row=some r->V.heap.size<=r)->k<V.heap.size->B.heap[k]? = some o:=λq hg m aE =>
  (hg.block _ (zI.1 q).1 (λe=>by have:=m _ e.symm;omega)).trans q
 refine(aG (w.heap.size+1)
  (λj W=>I j W/\W.heap[w.heap.size+1]? = some (.loop (f .ready none))/\W.heap[w.heap.size]? = some (.deferred (some [])))
  (λj W=>∃c,H c j W/\W.heap[w.heap.size+1]? = some (.loop (f .done (some c)))/\W.heap[w.heap.size]? = some (.deferred (some [])))
  V vB
  (λs A B row hs E m=>⟨G s A B row hs.1 E (λr e=>⟨by have:=(m r e).1;omega,(m r e).2⟩),apart hs.2.1 E (λr e=>(m r e).1) (by omega),apart hs.2.2 E (λr e=>(m r e).1) (by omega)⟩)
  (λs A B row hs E m=>by
   obtain⟨c,hc,hl,q⟩:=hs
   exact⟨c,aB c s A B row hc E (λr e=>⟨by have:=(m r e).1;omega,(m r e).2⟩),apart hl E (λr e=>(m r e).1) (by omega),apart q E (λr e=>(m r e).1) (by omega)⟩)
  ?round ⟨vI,vL,vD⟩).mono ?behind
 case round =>
  rintro j x W ⟨O,hl,q⟩ aM
  have aE:w.heap.size+1<W.heap.size:=(zI.1 hl).1
  have hy:=run_yield (P:=P) (args:=encs x) hl (by rw[C];exact aN x)
  rw[C] at hy
  refine⟨fn,_,assign,body,hy,roundIn_of_wpIn aQ (aL _ x W _ ⟨_,run_beginRound hl (by rw[C]),?_⟩)⟩
  clear hy
  have bL:(W.putObj (w.heap.size+1) (.loop { f .ready none with state:=.busy })).heap[w.heap.size+1]? = some (.loop { f .ready none with state:=.busy }):=World.putObj_heap_same aE
  have bD:(W.putObj (w.heap.size+1) (.loop { f .ready none with state:=.busy })).heap[w.heap.size]? = some (.deferred (some [])):=(World.putObj_heap_other (by omega)).trans q
  refine wpIn_mono (aK _ j x _ (G.putObj _ O (by omega) hl trivial) ((aP j x).putObj (s:=()) _ aM (by omega) hl rfl)) ?_
  -- the round's end
  have fin:∀(z:Option Code) (U:World),KeepOut (λ_=>True) w.heap.size (W.putObj (w.heap.size+1) (.loop { f .ready none with state:=.busy })) U ->
    (Instr.endRound (w.heap.size+1) z).run P U = .ok (.bool z.isNone) (U.putObj (w.heap.size+1) (.loop (f (if z.isNone then .ready else .done) z))) /\
    U.heap[w.heap.size+1]? = some (.loop { f .ready none with state:=.busy }) /\
    (U.putObj (w.heap.size+1) (.loop (f (if z.isNone then .ready else .done) z))).heap[w.heap.size+1]? = some (.loop (f (if z.isNone then .ready else .done) z)) /\
    (U.putObj (w.heap.size+1) (.loop (f (if z.isNone then .ready else .done) z))).heap[w.heap.size]? = some (.deferred (some [])):=λz U N=>by
   have uL:=N.2 _ _ bL (λh=>by omega)
   have:=run_endRound (P:=P) z uL
   rw[C] at this ⊢
   exact⟨this,by rw[C] at uL;exact uL,World.putObj_heap_same (zI.1 uL).1,(World.putObj_heap_other (by omega)).trans (N.2 _ _ bD (λh=>by omega))⟩
  have out:∀(c:Code) (U:World),KeepOut (λ_=>True) w.heap.size (W.putObj (w.heap.size+1) (.loop { f .ready none with state:=.busy })) U->H c (j++[x]) U ->
    (∃c',H c' (j++[x]) (U.putObj (w.heap.size+1) (.loop (f .done (some c))))/\(U.putObj (w.heap.size+1) (.loop (f .done (some c)))).heap[w.heap.size+1]? = some (.loop (f .done (some c')))/\(U.putObj (w.heap.size+1) (.loop (f .done (some c)))).heap[w.heap.size]? = some (.deferred (some [])))/\KeepOut (λ_=>True) V.heap.size W (U.putObj (w.heap.size+1) (.loop (f .done (some c)))):=λc U N aO=>by
   obtain⟨_,h3,Z,h5⟩:=fin (some c) U N
   refine⟨⟨c,(aB c).putObj _ aO (by omega) h3 trivial,Z,h5⟩,by have:=N.1;simpa using this,λk o q X => ?_⟩
   have M:k≠w.heap.size+1:=λe=>X (by omega) trivial
   rw[World.putObj_heap_other M]
   exact N.2 k o (by rw[World.putObj_heap_other M];exact q) (λh=>X (by omega))
  rintro e a3 U u
  cases e with
  | normal =>
   obtain⟨aA,aH⟩:=u
   obtain⟨m,h3,Z,h5⟩:=fin none U aA.any
   refine⟨_,_,m,.inl ⟨rfl,⟨G.putObj _ aH (by omega) h3 trivial,Z,h5⟩,by have:=aA.1;simpa using this,λk o q X => ?_⟩⟩
   by_cases M:k=w.heap.size+1
   ·subst M
    rw[hl] at q
    rw[<-q]
    exact Z
   ·rw[World.putObj_heap_other M]
    exact aA.2 k o (by rw[World.putObj_heap_other M];exact q) (λh=>X (by omega))
  | ret=>exact⟨_,_,(fin (some .ret) U u.1).1,.inr ⟨rfl,out .ret U u.1 u.2⟩⟩
  | exit id=>exact⟨_,_,(fin (some (.exit id)) U u.1).1,.inr ⟨rfl,out (.exit id) U u.1 u.2⟩⟩
  | goto t=>exact⟨_,_,(fin (some (.goto t)) U u.1).1,.inr ⟨rfl,out (.goto t) U u.1 u.2⟩⟩
  | panic ch=>exact u.elim
  | outgrown=>exact u.elim
 case behind =>
  rintro e U ⟨⟨v,rfl⟩,(⟨xs,hS,O,hl,q⟩|⟨j,aF,c,O,hl,q⟩)⟩
  ·have m:=run_endLoop (P:=P) hl (by rw[C];simp)
   rw[C] at m
   exact⟨none,_,m,aR _ xs _ (zH _) hS (G.putObj _ O (by omega) hl trivial) ((World.putObj_heap_other (by omega)).trans q)⟩
  ·have m:=run_endLoop (P:=P) hl (by rw[C];simp)
   rw[C] at m
   exact⟨some c,_,m,aJ _ c j _ (zH _) aF ((aB c).putObj _ O (by omega) hl trivial) ((World.putObj_heap_other (by omega)).trans q)⟩
end
end Go.Proofs.YtpibjkbadnffgaaGreat
namespace Go.Proofs.YtpibjkbadnffgaaGreat
open Go Go.RowKit Lou Go.Shelf
attribute [local go_sem] Oper.semAt_some
theorem chunk1_inS (n:Nat)(aL:2<=n)(l j h g o c L:Nat)(A:Option Addr)(hA:0<L->A=some ⟨g,o,none⟩)(aK:L<=c)(hL:L<=1000000)(aN:c<=9223372036854775807)(J M:List Nat->World->Prop)(Mu:Nat->Prop)(N:¬ Mu j)(aB:¬ Mu h)(I:Nat)
  (hY:∀f k W,J f W->(k=f.length/\64*k<L)->YieldAt Fence.wide (n - 1) Tryz.prog l #[.slice (some ⟨g,o+64*k,none⟩) (chLen L k) (chLen L k)] W λe W' =>
   (e = .returned (.bool true)/\J (f++[k]) W'/\KeepOut Mu I W W')∨(e = .returned (.bool false)/\M (f++[k]) W'/\KeepOut (λ_=>True) I W W'))
  (W:World) (Z:AbSm W.heap.size J) (z:W.cell? ⟨j,0,none⟩=some (.slice A L c)) (G:W.cell? ⟨h,0,none⟩=some (.int .i64 64)) (h0:J [] W) :
  CallsIn Fence.wide n Tryz.prog 150 #[.func (.yield l) #[] #[],.pointer (some ⟨j,0,none⟩),.pointer (some ⟨h,0,none⟩)] W λe W'=>(∃v,e = .returned v) /\
   ((∃E,E.length=chAll L/\J E W')∨(∃f,f.length<=chAll L/\M f W')):=by
 have h1:1<=n:=by omega
 refine callsIn_of_wp Tryz.func150 rfl trivial ?_ rfl
 simp only[Tryz.ntmps150,zT,zP,qE,qO,qP,zX,zY,qD,qA,zV,qB]
 gi_wp2
 gi_loopw [4] (λi wr=>∃(q:Nat) (f:List Nat),i = .int .i64 q/\q=64*f.length/\q<L+64/\J f wr/\Keep2 j h W wr)
  (λi _=>L+64 - (intOf i).toNat)
 case atStart=>exact⟨0,[],rfl,rfl,by omega,h0,rfl,rfl⟩
 case round =>
  obtain⟨q,f,rfl,hq,hb,H,u⟩:=hrel
  have aC:wr.cell? ⟨j,0,none⟩=some (.slice A L c):=u.1.trans z
  have aA:wr.cell? ⟨h,0,none⟩=some (.int .i64 64):=u.2.trans G
  by_cases aM:q<L
  ·obtain rfl:=hA (by omega)
   obtain⟨m,r⟩:∃m,m=chLen L f.length:=⟨_,rfl⟩
   have hm:(if ((L - q:Nat):Int)<64 then ((L - q:Nat):Int) else 64)=(m:Int):=by
    rw[r]
    unfold chLen
    rw[<-hq]
    split<;>omega
   have aJ:0<m:=by rw[r];unfold chLen;omega
   have aG:q+m<=L:=by rw[r];unfold chLen;omega
   have aI:m<=64:=by rw[r];unfold chLen;omega
   have O:J f wr.drew:=Z.drew H
   obtain⟨fn,tmps,assign,body,V,X⟩:=hY f f.length wr.drew O ⟨rfl,by omega⟩
   rw[<-r,<-hq] at V
   have aF:IntKind.i64.wrap ((q:Int)+(m:Int))=(q:Int)+(m:Int):=wrap_i64_id' _ (by omega) (by omega)
   have aH:IntKind.i64.wrap ((q:Int)+64)=(q:Int)+64:=wrap_i64_id' _ (by omega) (by omega)
   have B:=Lib.hid hq
   have HM:=Lib.hid r
   clear hq r
   gi_wp2
   gi_region
   gi_wp2
   refine X.mono ?_
   have C:=B.out
   rintro e W3 (⟨rfl,aD,s⟩|⟨rfl,aE,_⟩)
   ·have T:W3.cell? ⟨h,0,none⟩=some (.int .i64 64):=s.cell (p:=⟨h,0,none⟩) aA (λ_=>aB)
    have U:Keep2 j h W W3:=⟨(s.cell (p:=⟨j,0,none⟩) aC (λ_=>N)).trans z.symm,T.trans G.symm⟩
    clear C
    gi_wp2
    go_roundw
    case rel=>exact⟨q+64,f++[f.length],rfl,by simp;have:=B.out;omega,by omega,aD,U⟩
    case measure=>simp[intOf];omega
   ·have hl:(f++[f.length]).length<=chAll L:=by simp;unfold chAll;omega
    clear C
    gi_wp2
    exact bodyPost_ret (results_none rfl _ _ _) rfl ⟨⟨_,rfl⟩,.inr ⟨_,hl,aE⟩⟩
  ·obtain⟨hs⟩:Nonempty (f.length=chAll L):=⟨by unfold chAll;omega⟩
   gi_wp2
   go_end0
   exact⟨⟨_,rfl⟩,.inl ⟨f,hs,H⟩⟩
theorem chunk1_seqS (n:Nat)(u:2<=n)(f e g o c L:Nat)(A:Option Addr)(C:0<L->A=some ⟨g,o,none⟩)(q:L<=c)(r:L<=1000000)(E:c<=9223372036854775807)(Mu:Nat->Prop)(m:¬ Mu f)(M:¬ Mu e)(w:World)(H:f<w.heap.size)(G:e<w.heap.size)
  (s:w.cell? ⟨f,0,none⟩=some (.slice A L c)) (B:w.cell? ⟨e,0,none⟩=some (.int .i64 64)) :
  SeqS Fence.wide n Tryz.prog 150 #[.pointer (some ⟨f,0,none⟩),.pointer (some ⟨e,0,none⟩)] (λk:Nat=>#[.slice (some ⟨g,o+64*k,none⟩) (chLen L k) (chLen L k)]) Mu
   (λh k _=>k=h.length/\64*k<L) (λz=>z.length=chAll L) (λh=>h.length<=chAll L) w:=λl J T W j I _ N O =>
 chunk1_inS n u l f e g o c L A C q r E J T Mu m M W.heap.size N W I ((j.cell (p:=⟨f,0,none⟩) H).trans s) ((j.cell (p:=⟨e,0,none⟩) G).trans B) O
section
variable {n₀:Nat}
theorem cut1_inS (n:Nat)(a9:6<=n)(l N:Nat)(A:Option Addr)(c:Nat)(b:List UInt8)(hb:b.length<=1000000)(J M:List (Nat×(Option Addr×Nat))->World->Prop)(W:World)
  (Mu:Nat->Prop) (aX:0<b.length->∀g o,A=some ⟨g,o,none⟩->¬ Mu g) (s:AbSm W.heap.size J) (aJ:AbSm W.heap.size M)
  (hY:∀f (x:Nat×(Option Addr×Nat)) G,J f G->(x.1=f.length/\64*x.1<b.length/\InB G G.heap.size x.2.1 x.2.2 (chunkB b x.1))->YieldAt Fence.wide (n - 1) Tryz.prog l #[.int .i64 (x.1:Int),.slice x.2.1 (chLen b.length x.1) x.2.2] G λe W' =>
   (e = .returned (.bool true)/\J (f++[x]) W'/\KeepOut Mu W.heap.size G W')∨(e = .returned (.bool false)/\M (f++[x]) W'/\KeepOut (λ_=>True) W.heap.size G W'))
  (hg:N<n₀) (a0:n₀<=W.heap.size) (aS:W.cell? ⟨N,0,none⟩=some (.slice A b.length c)) (H:InB W n₀ A c b) (h0:J [] W) :
  CallsIn Fence.wide n Tryz.prog 296 #[.func (.yield l) #[] #[],.pointer (some ⟨N,0,none⟩)] W λe W'=>(∃v,e = .returned v) /\
   ((∃ys,ys.length=chAll b.length/\J ys W')∨(∃f,f.length<=chAll b.length/\M f W')):=by
 have aZ:=H.le
 have aT:=H.max
 have h1:1<=n:=by omega
 refine callsIn_of_wp_marks Tryz.func296 rfl trivial ?_ rfl
 simp only[Tryz.ntmps296,zT,zP,qE,qO,qP,zX,zY,qD,qA,zV,qB]
 gi_wp2
 refine wpIn_scope_wide ?_
 gi_wp2
 refine wpIn_label ?_
 have L:Below n₀ W ((W.alloc (.cells #[.func (.yield l) #[] #[]] 234)).alloc (.cells #[.int .i64 0] 3)):=((Below.refl _ W).alloc a0 _).alloc (by simp;omega) _
 have a4:=(L.cell (p:=⟨N,0,none⟩) hg).trans aS
 gi_wp2_with (refine⟨trivial,?_⟩;gi_at_call 93;refine(chunk_in (n - 1) _ _ _ _).mono ?_;rintro e w' ⟨rfl,rfl⟩)
 obtain⟨W2,E⟩:∃W2,W2=(W.alloc (.cells #[.func (.yield l) #[] #[]] 234)).alloc (.cells #[.int .i64 0] 3):=⟨_,rfl⟩
 have s2:W2.heap.size=W.heap.size+1+1:=by rw[E];simp
 have aE:BlkIs W2 W.heap.size 234 #[.func (.yield l) #[] #[]]:=by rw[E];exact(BlkIs.new W _ _).alloc _
 have aF:BlkIs W2 (W.heap.size+1) 3 #[.int .i64 ((0:Nat):Int)]:=by
  have:=BlkIs.new (W.alloc (.cells #[.func (.yield l) #[] #[]] 234)) 3 #[.int .i64 ((0:Nat):Int)]
  rw[World.size_alloc] at this
  rw[E]
  exact this
 have aB:J [] W2:=by rw[E];exact s.alloc _ (s.alloc _ h0)
 rw[<-E] at L ⊢
 clear E a4
 obtain⟨W4,q⟩:∃W4,W4=(W2.alloc (.cells #[.slice A b.length c] 87)).alloc (.cells #[.int .i64 64] 3):=⟨_,rfl⟩
 have s4:W4.heap.size=W.heap.size+4:=by rw[q];simp;omega
 have aY:BlkIs W4 W.heap.size 234 #[.func (.yield l) #[] #[]]:=by rw[q];exact(aE.alloc _).alloc _
 have aL:BlkIs W4 (W.heap.size+1) 3 #[.int .i64 ((0:Nat):Int)]:=by rw[q];exact(aF.alloc _).alloc _
 have aQ:J [] W4:=by rw[q];exact s.alloc _ (s.alloc _ aB)
 have aR:Below n₀ W W4:=by rw[q];exact(L.alloc (by omega) _).alloc (by simp;omega) _
 have a3:W4.cell? ⟨W.heap.size+1+1,0,none⟩=some (.slice A b.length c):=by rw[q,<-s2];exact((BlkIs.new W2 87 #[.slice A b.length c]).alloc _).boxed
 have a6:W4.cell? ⟨W.heap.size+1+1+1,0,none⟩=some (.int .i64 64):=by
  have:=(BlkIs.new (W2.alloc (.cells #[.slice A b.length c] 87)) 3 #[.int .i64 64]).boxed
  rw[World.size_alloc,s2] at this
  rw[q]
  exact this
 rw[<-q]
 clear q aE aF aB L
 obtain⟨g,o,hA⟩:∃g o,0<b.length->A=some ⟨g,o,none⟩:=by
  by_cases aC:0<b.length
  ·obtain⟨g,o,e,_⟩:=H.lies aC
   exact⟨g,o,λ_=>e⟩
  ·exact⟨0,0,λh=>absurd h aC⟩
 refine wpIn_rangeFunc_S rfl h1 (gf:=150) (lb:=#[.pointer (some ⟨W.heap.size+1+1,0,none⟩),.pointer (some ⟨W.heap.size+1+1+1,0,none⟩)]) rfl trivial (enters_of Tryz.func150 (by kernel_rfl) rfl)
  (chunk1_seqS (n - 1) (by omega) (W.heap.size+1+1) (W.heap.size+1+1+1) g o c b.length A hA aZ hb aT (λk=>(k<W.heap.size/\Mu k)∨k=W.heap.size+1) (by omega) (by omega) W4 (by omega) (by omega) a3 a6) (Below.refl _ _) (λ_=>rfl)
  (λf V=>(∃xs:List (Nat×(Option Addr×Nat)),xs.length=f.length/\J xs V)/\BlkIs V W.heap.size 234 #[.func (.yield l) #[] #[]]/\BlkIs V (W.heap.size+1) 3 #[.int .i64 (f.length:Int)]/\InB V n₀ A c b/\W.heap.size<=V.heap.size)
  (λU f V=>U = .exit 0/\∃xs:List (Nat×(Option Addr×Nat)),xs.length=f.length/\M xs V)
  ?own ?own2 ?ownR ⟨⟨[],rfl,aQ⟩,aY,aL,H.below aR,by omega⟩ ?act ?assign ?body ?done ?stop
 case own =>
  rintro f X Y row ⟨⟨xs,B,m⟩,h1,h2,h3,h4⟩ z j
  exact⟨⟨xs,B,s xs X Y row m z (λr e=>⟨by have:=(j r e).1;omega,(j r e).2⟩)⟩,h1.abNew (by omega) z (λr e=>(j r e).1),h2.abNew (by omega) z (λr e=>(j r e).1),h3.grown (by omega) z (λr e=>by have:=(j r e).1;omega),zU h4 z.size⟩
 case own2 =>
  rintro U f X Y row ⟨e,xs,B,m⟩ z j
  exact⟨e,xs,B,aJ xs X Y row m z (λr e=>⟨by have:=(j r e).1;omega,(j r e).2⟩)⟩
 case ownR=>exact λf x=>ownFrom_pure _ _
 case assign =>
  intro l1 x V K u
  gi_wp2
  exact u
 case body =>
  rintro l1 f k V ⟨⟨xs,aA,m⟩,hy,I,hB,a8⟩ ⟨rfl,aG⟩
  have bA:=hy.boxed
  have bB:=I.boxed
  have bG:=I.free 0
  have bD:1<=n - 1 - 1:=by omega
  obtain rfl:=hA (by omega)
  have a2:=chunk_inB hB aG
  have hC:=clone_gives V.drew _ _ _ ((a2.drew).more (show n₀<=V.drew.heap.size by show n₀<=V.heap.size;omega)) (by rw[chunkB_length];unfold chLen;omega)
  rw[chunkB_length] at hC
  gi_wp2
  gi_region_with (first
   | (refine⟨trivial,?_⟩;gi_at_call 116;refine(CallsIn.inRound l1 (callsIn_wide.2 hC)).mono ?_;rintro e W6 ⟨v6,rfl,aV,aU⟩;obtain⟨A6,c6,rfl,aP⟩:=aV.inB;rw[chunkB_length];have C:Below V.heap.size V W6:=(Below.refl _ V).drew.trans aU;have aO:J xs W6:=s.grow m C;have aH:f.length=xs.length:=aA.symm;obtain⟨fn,tmps,assign,body,aN,hR⟩:=hY xs (f.length,(A6,c6)) W6 aO ⟨aH,aG,aP⟩;have aI:=hy.below C hy.lt;have aK:=I.below C I.lt;have bH:=aI.boxed;have a7:=aK.boxed;have a1:=hB.below (C.mono (show n₀<=V.heap.size by omega));simp only at aN;clear aH)
   | (refine(RoundIn.anyRound hR).mono ?_;rintro e W7 aD;obtain⟨r,rfl,j⟩:=yield_out aD;clear aD))
  all_goals
   have s6:=C.size
   have k6:=KeepOut.grow (λk=>(k<W.heap.size/\Mu k)∨k=W.heap.size+1) W4.heap.size C
   have bC:IntKind.i64.wrap ((f.length:Int)+1)=(f.length:Int)+1:=wrap_i64_id' _ (by omega) (by omega)
   rcases j with⟨rfl,hJ7,hk7⟩|⟨rfl,hJx7,hk7⟩
   ·have aW:=hk7.blk aI (λh=>by omega)
    have O:=hk7.blk aK (λh=>by omega)
    have a5:=hk7.inB2 a1 aX
    have bF:=O.boxed
    have bE:=O.free 0
    gi_wp2
    refine⟨(k6.trans ⟨hk7.1,λk o hk T=>hk7.2 k o hk (λh aM=>T (by omega) (.inl ⟨h,aM⟩))⟩).trans (KeepOut.setCell _ ⟨W.heap.size+1,0,none⟩ _ (by simp;omega) (.inr rfl)),⟨xs++[(f.length,A6,c6)],by simp[aA],s.setCell (p:=⟨W.heap.size+1,0,none⟩) _ hJ7 (by simp) O (by show 1<=64;decide)⟩,aW.other (by simp) _,?_,a5.keep (λp hp=>World.cell?_setCell_other _ _ _ _ (λe=>by subst e;simp at hp;omega)),?_⟩
    ·have:=O.set 0 (.int .i64 ((f.length:Int)+1))
     simpa using this
    ·have:=hk7.1
     simp
     omega
   ·gi_wp2
    exact⟨k6.any.trans ⟨hk7.1,λk o hk T=>hk7.2 k o hk (λh=>T (by omega))⟩,rfl,xs++[(f.length,A6,c6)],by simp[aA],hJx7⟩
 case done =>
  rintro D ys V hD Z ⟨⟨xs,B,m⟩,_⟩ u
  gi_wp2
  simp only[Exit.noGoto]
  refine⟨by simp,.inl ⟨_,_,rfl,run_takeDeferred u,?_⟩⟩
  exact⟨_,results_none rfl _ _ _,⟨_,rfl⟩,.inl ⟨xs,by rw[B,Z],s.putObj _ m (by omega) u trivial⟩⟩
 case stop =>
  rintro D U f V hD Z ⟨rfl,xs,B,m⟩ u
  gi_wp2
  simp only[Exit.noGoto]
  refine⟨by simp,.inl ⟨_,_,rfl,run_takeDeferred u,?_⟩⟩
  exact⟨_,results_none rfl _ _ _,⟨_,rfl⟩,.inr ⟨xs,by rw[B];exact Z,aJ.putObj _ m (by omega) u trivial⟩⟩
theorem cut1_seqS (n:Nat)(r:6<=n)(e:Nat)(A:Option Addr)(c:Nat)(b:List UInt8)(u:b.length<=1000000)(Mu:Nat->Prop)(k:0<b.length->∀g o,A=some ⟨g,o,none⟩->¬ Mu g)(w:World)(j:e<n₀)(h:n₀<=w.heap.size)
  (m:w.cell? ⟨e,0,none⟩=some (.slice A b.length c)) (B:InB w n₀ A c b) :
  SeqS Fence.wide n Tryz.prog 296 #[.pointer (some ⟨e,0,none⟩)] (cutEnc b.length) Mu (CutRd b) (λs=>s.length=chAll b.length) (λq=>q.length<=chAll b.length) w:=λl J H W f C z E G =>
 cut1_inS n r l e A c b u J H W Mu k C z E j (zU h f.size) ((f.cell (p:=⟨e,0,none⟩) (by simp;omega)).trans m) (B.below (f.mono h)) G
end
end Go.Proofs.YtpibjkbadnffgaaGreat
namespace Go.Proofs.YtpibjkbadnffgaaGreat
open Go Go.RowKit Lou
def NoOut (Q:Exit->Act->World->Prop):Exit->Act->World->Prop
 | .outgrown,_,_=>False
 | e,a,w=>Q e a w
theorem NoOut.imp {Q:Exit->Act->World->Prop}:∀(e:Exit) (a:Act) (w:World),NoOut Q e a w->Q e a w:=λe a w h=>by
 cases e<;>first|exact h|exact(h:False).elim
theorem NoOut.stays {Q:Exit->Act->World->Prop}:¬ LetsOut (NoOut Q):=λ⟨_,_,h⟩=>h
def noDefer (ops:Array Oper):Bool:=ops.toList.all λo=>match o.op with | .defer _=>false|_=>true
section
variable {P:Program}{ops:Array Oper}{Q:Exit->Act->World->Prop}{n l:Nat}
theorem oper_inRound {o:Oper}{a:Act}{w:World}{K m:Act->World->Prop}(hd:∀c,o.op≠.defer c)(f:∀a w,K a w->m a w)(h:o.wp P a w K (NoOut Q)):o.wpIn (Fence.wide.inRound l) n P a w m (NoOut Q):=by
 refine⟨λ_ _=>trivial,?_⟩
 have e:o.semAt (Fence.wide.inRound l).round a.eval=execOp a.eval o:=Oper.semAt_some l _ o hd
 rw[e]
 unfold Oper.wp at h
 generalize (execOp a.eval o).run P w=r at *
 have nd:∀{p:Prop},((Fence.wide.inRound l).depth.isSome=true->p):=λh=>by cases h
 cases r with
 | ok x w' =>
  cases x<;>simp only[Oper.upon,Oper.uponIn] at h ⊢ <;>
   first
    | exact f _ _ h
    | (refine⟨nd,CallsIn.inRound l ((callsIn_wide.2 h).mono λe j k => ?_)⟩;cases e<;>first|exact f _ _ k|exact k)
    | exact⟨nd,λc cs _=>let ⟨v,j,r,s⟩:=h c cs;⟨v,j,f _ _ r,stepsIn_wide.2 s⟩⟩
    | exact h.elim
 | halt x w'=>cases x<;>simp only[Oper.upon,Oper.uponIn] at h ⊢<;>first|exact h|exact h.elim
theorem noDefer_spec (h:noDefer ops=true){i:Nat}{o:Oper}(f:ops[i]? = some o):∀c,o.op≠.defer c:=by
 intro c hc
 unfold noDefer at h
 rw[qJ] at h
 have e:o∈ops.toList:=by
  obtain⟨h1,h2⟩:=zI.1 f
  subst h2
  simp
 have:=h o e
 rw[hc] at this
 cases this
theorem wpAny_inRound (hd:noDefer ops=true):∀(e:Nat) (listed:Array Bool) (a:Act) (w:World),wpAny P .any ops (NoOut Q) e listed a w->wpAnyIn (Fence.wide.inRound l) n P .any ops (NoOut Q) e listed a w:=by
 intro e
 induction e with
 | zero=>exact λlisted a w h=>h
 | succ e ih =>
  intro listed a w h
  refine⟨h.1,λi j => ?_⟩
  have hs:=h.2 i j
  unfold wpOp at hs
  unfold wpOpIn
  split
  ·rename_i ho
   rw[ho] at hs
   exact ih _ _ _ hs
  ·rename_i o ho
   rw[ho] at hs
   simp only at hs
   by_cases f:Region.wanted o (yielded ops a.tmps)=true
   ·rw[if_pos f] at hs ⊢
    rcases hs with h1|⟨_,h2⟩
    ·exact oper_inRound (noDefer_spec hd ho) (λa w=>ih _ a w) h1
    ·exact(NoOut.stays h2).elim
   ·rw[if_neg f] at hs ⊢
    exact⟨λ_ _=>trivial,ih _ _ _ hs⟩
end
namespace Reg
end Reg
end Go.Proofs.YtpibjkbadnffgaaGreat
namespace Go.Proofs.YtpibjkbadnffgaaGreat
open Go Go.RowKit Lou Go.Shelf
attribute [local go_sem] Oper.semAt_some
theorem BlkIs.abN {B g:Nat}{t:TypeId}{cs:Array Value}(k:g<B){W W':World}{row:Option Nat}(h:BlkIs W g t cs)(f:W.grownBy W' row)(j:∀r,row=some r->B<=r):BlkIs W' g t cs :=
 h.grown f (λe=>by have:=j g e.symm;omega)
theorem below_abN {B n₀:Nat}{w:World}(hB:n₀<=B){W W':World}{row:Option Nat}(j:n₀<=W.heap.size)(h:Below n₀ w W)(f:W.grownBy W' row)(k:∀r,row=some r->B<=r):Below n₀ w W' :=
 h.trans (grown_below f j (λr e=>zU hB (k r e)))
theorem run_eqF_nil {P:Program}{e m:Array TypeId}{j:Bool}(d:Nat)(t:TypeId)(w:World)(f:Fn)(xs k:Array Value)(h:P.underlying t=some (.func e m j)):(Op.equalIn (d+1) t (.func f xs k) .nilFunc).run P w = .ok false w:=by
 simp[Op.equalIn,run_underlying h,Result.andThen]
theorem wpI_stopB {F:Fence}{n f:Nat}{P:Program}{C:Code}{Q:Exit->Act->World->Prop}{a0:Act}{w0:World}(S:Act->Act->World->Prop)(h1:∀e:Exit->Act->World->Prop,(∀a w,S a0 a w->e .normal a w)->C.wpIn F n P e a0 w0)(h2:∀a w,S a0 a w->Q .normal a w):C.wpIn F n P (Exit.inBlock f Q) a0 w0 :=
 h1 _ h2
theorem putObj_oth (V:World)(D:Nat)(o:Obj){g:Nat}(h:D≠g):(V.putObj D o).heap[g]? = V.heap[g]?:=by
 simp[World.putObj,h]
theorem results_cellQ {fn:Func}{P:Program}{a:Act}{w:World}{v:Value}{p:Addr}{t:TypeId}(k:Tmp)(h:fn.results=#[.cell k t])(m:a.eval (.tmp k) = .pointer (some p))(f:(isAgg t).run P w = .ok false w)(j:w.cell? p=some v):(results fn a.tmps).run P w = .ok v w:=by
 have e:a.tmps.getD k undef = .pointer (some p):=m
 unfold results
 simp only[h]
 simp[-zS,e,loadVar,asAddr,f,j,Result.andThen]
end Go.Proofs.YtpibjkbadnffgaaGreat
