/- Texts that the proof of PagerNone leans on, part 9. -/
import Derived.Shelf.SlIterI.Nil
import Derived.Shelf.SortM.Plain
import Derived.Shelf.SortM.SortNone
import Derived.Test.YtnlimngkagmjpaaGreatPagerNoneB8
open List renaming getElem?_eq_getElem → zI, map_toArray → zJ, map_cons → zK, map_nil → zL, take_succ_eq_append_getElem → qC, getElem_mem → qJ, length_map → qD, size_toArray → zS, length_cons → zN, length_nil → qB, push_toArray → zZ, append_toArray → zX, nil_append → zQ, cons_append → zW, length_append → zY, take_of_length_le → qA, replicate → zR, getElem_toArray → zD, getElem_cons_zero → zB, setIfInBounds_toArray → zA, set_cons_zero → zF, set_cons_succ → zE, getElem_cons_succ → zC
open Nat renaming le_refl → zG, le_trans → zP, reduceAdd → qH, reduceSub → qI, lt_of_lt_of_le → zO
open Array renaming getElem?_toList → qE, getElem?_eq_some_iff → zH, replicate_succ → zU, replicate_zero → zV
set_option linter.unusedVariables false
set_option maxRecDepth 100000
set_option maxHeartbeats 8000000

namespace Go.Proofs.YtnlimngkagmjpaaGreat
open Go Go.RowKit Lou Go.Maps Go.Sort Go.Shelf
def layK_ren:Go.Shelf.Ren:=⟨fun|7=>86|10=>132|n=>n,fun|23=>87|26=>3|3=>22|28=>148|0=>0|27=>147|33=>137|4=>4|n=>n,fun|n=>n⟩
theorem layK:SlLaysZI.n7 Tryz.prog layK_ren:={
 mixed:=by kernel_rfl
 f7:=⟨Tryz.f86.name,by decide,Tryz.func86.trans (congrArg some (by kernel_rfl))⟩
 f10:=⟨Tryz.f132.name,by decide,Tryz.func132.trans (congrArg some (by kernel_rfl))⟩
 t0:=Tryz.underlying0
 a0:=Tryz.isAgg0
 z0:=Tryz.sizeOf0
 v0:=Tryz.zeroValue0
 t4:=Tryz.underlying4
 a4:=Tryz.isAgg4
 z4:=Tryz.sizeOf4
 v4:=Tryz.zeroValue4
 t23:=Tryz.underlying87
 a23:=Tryz.isAgg87
 z23:=Tryz.sizeOf87
 v23:=Tryz.zeroValue87
 t26:=Tryz.underlying3
 a26:=Tryz.isAgg3
 z26:=Tryz.sizeOf3
 v26:=Tryz.zeroValue3
 t27:=Tryz.underlying147
 a27:=Tryz.isAgg147
 z27:=Tryz.sizeOf147
 v27:=Tryz.zeroValue147
 t28:=Tryz.underlying148
 a28:=Tryz.isAgg148
 z28:=Tryz.sizeOf148
 v28:=Tryz.zeroValue148
 t33:=Tryz.underlying137
 a33:=Tryz.isAgg137
 z33:=Tryz.sizeOf137
 v33:=Tryz.zeroValue137 }
def layS_ren:Go.Shelf.Ren:=⟨fun|6=>85|8=>130|9=>131|11=>173|13=>175|12=>174|23=>205|24=>206|14=>196|15=>197|16=>198|17=>199|18=>200|19=>201|20=>202|21=>203|22=>204|25=>228|26=>229|27=>230|28=>231|29=>232|30=>155|31=>243|n=>n,fun|26=>3|28=>148|24=>94|0=>0|3=>3|37=>229|48=>133|50=>101|4=>4|40=>258|39=>257|45=>263|5=>5|9=>9|51=>295|55=>299|57=>308|58=>309|33=>137|n=>n,fun|n=>n⟩
theorem layS:SlLaysZI.n6 Tryz.prog layS_ren:={
 mixed:=by kernel_rfl
 f6:=⟨Tryz.f85.name,by decide,Tryz.func85.trans (congrArg some (by kernel_rfl))⟩
 f8:=⟨Tryz.f130.name,by decide,Tryz.func130.trans (congrArg some (by kernel_rfl))⟩
 f11:=⟨Tryz.f173.name,by decide,Tryz.func173.trans (congrArg some (by kernel_rfl))⟩
 t0:=Tryz.underlying0
 a0:=Tryz.isAgg0
 z0:=Tryz.sizeOf0
 v0:=Tryz.zeroValue0
 t24:=Tryz.underlying94
 a24:=Tryz.isAgg94
 z24:=Tryz.sizeOf94
 v24:=Tryz.zeroValue94
 t26:=Tryz.underlying3
 a26:=Tryz.isAgg3
 z26:=Tryz.sizeOf3
 v26:=Tryz.zeroValue3
 t28:=Tryz.underlying148
 a28:=Tryz.isAgg148
 z28:=Tryz.sizeOf148
 v28:=Tryz.zeroValue148
 i26:=by kernel_rfl }
def layO_ren:Go.Shelf.Ren:=⟨fun|5=>131|8=>175|7=>174|19=>205|20=>206|10=>196|11=>197|12=>198|13=>199|14=>200|15=>201|16=>202|17=>203|18=>204|30=>228|31=>229|32=>230|33=>231|34=>232|35=>155|40=>243|n=>n,fun|23=>94|25=>3|3=>3|32=>229|22=>94|0=>0|44=>133|46=>101|4=>4|36=>258|35=>257|41=>263|5=>5|9=>9|53=>295|57=>299|63=>308|64=>309|n=>n,fun|n=>n⟩
theorem layO:SlLaysM.n5 Tryz.prog layO_ren:={
 mixed:=by kernel_rfl
 f5:=⟨Tryz.f131.name,by decide,Tryz.func131.trans (congrArg some (by kernel_rfl))⟩
 f7:=⟨Tryz.f174.name,by decide,Tryz.func174.trans (congrArg some (by kernel_rfl))⟩
 f8:=Tryz.func175.trans (congrArg some (by kernel_rfl))
 f10:=⟨Tryz.f196.name,by decide,Tryz.func196.trans (congrArg some (by kernel_rfl))⟩
 f11:=⟨Tryz.f197.name,by decide,Tryz.func197.trans (congrArg some (by kernel_rfl))⟩
 f12:=⟨Tryz.f198.name,by decide,Tryz.func198.trans (congrArg some (by kernel_rfl))⟩
 f13:=⟨Tryz.f199.name,by decide,Tryz.func199.trans (congrArg some (by kernel_rfl))⟩
 f14:=⟨Tryz.f200.name,by decide,Tryz.func200.trans (congrArg some (by kernel_rfl))⟩
 f15:=⟨Tryz.f201.name,by decide,Tryz.func201.trans (congrArg some (by kernel_rfl))⟩
 f16:=⟨Tryz.f202.name,by decide,Tryz.func202.trans (congrArg some (by kernel_rfl))⟩
 f17:=⟨Tryz.f203.name,by decide,Tryz.func203.trans (congrArg some (by kernel_rfl))⟩
 f18:=⟨Tryz.f204.name,by decide,Tryz.func204.trans (congrArg some (by kernel_rfl))⟩
 f19:=Tryz.func205.trans (congrArg some (by kernel_rfl))
 f20:=Tryz.func206.trans (congrArg some (by kernel_rfl))
 f30:=⟨Tryz.f228.name,by decide,Tryz.func228.trans (congrArg some (by kernel_rfl))⟩
 f31:=Tryz.func229.trans (congrArg some (by kernel_rfl))
 f32:=Tryz.func230.trans (congrArg some (by kernel_rfl))
 f33:=⟨Tryz.f231.name,by decide,Tryz.func231.trans (congrArg some (by kernel_rfl))⟩
 f34:=⟨Tryz.f232.name,by decide,Tryz.func232.trans (congrArg some (by kernel_rfl))⟩
 f35:=⟨Tryz.f155.name,by decide,Tryz.func155.trans (congrArg some (by kernel_rfl))⟩
 f40:=⟨Tryz.f243.name,by decide,Tryz.func243.trans (congrArg some (by kernel_rfl))⟩
 t0:=Tryz.underlying0
 a0:=Tryz.isAgg0
 z0:=Tryz.sizeOf0
 v0:=Tryz.zeroValue0
 t3:=Tryz.underlying3
 a3:=Tryz.isAgg3
 z3:=Tryz.sizeOf3
 v3:=Tryz.zeroValue3
 t4:=Tryz.underlying4
 a4:=Tryz.isAgg4
 z4:=Tryz.sizeOf4
 v4:=Tryz.zeroValue4
 t5:=Tryz.underlying5
 a5:=Tryz.isAgg5
 z5:=Tryz.sizeOf5
 v5:=Tryz.zeroValue5
 t9:=Tryz.underlying9
 a9:=Tryz.isAgg9
 z9:=Tryz.sizeOf9
 v9:=Tryz.zeroValue9
 t22:=Tryz.underlying94
 a22:=Tryz.isAgg94
 z22:=Tryz.sizeOf94
 v22:=Tryz.zeroValue94
 t23:=Tryz.underlying94
 a23:=Tryz.isAgg94
 z23:=Tryz.sizeOf94
 v23:=Tryz.zeroValue94
 t25:=Tryz.underlying3
 a25:=Tryz.isAgg3
 z25:=Tryz.sizeOf3
 v25:=Tryz.zeroValue3
 t32:=Tryz.underlying229
 a32:=Tryz.isAgg229
 z32:=Tryz.sizeOf229
 v32:=Tryz.zeroValue229
 t35:=Tryz.underlying257
 a35:=Tryz.isAgg257
 z35:=Tryz.sizeOf257
 v35:=Tryz.zeroValue257
 t36:=Tryz.underlying258
 a36:=Tryz.isAgg258
 z36:=Tryz.sizeOf258
 v36:=Tryz.zeroValue258
 t41:=Tryz.underlying263
 a41:=Tryz.isAgg263
 z41:=Tryz.sizeOf263
 v41:=Tryz.zeroValue263
 t44:=Tryz.underlying133
 a44:=Tryz.isAgg133
 z44:=Tryz.sizeOf133
 v44:=Tryz.zeroValue133
 t46:=Tryz.underlying101
 a46:=Tryz.isAgg101
 z46:=Tryz.sizeOf101
 v46:=Tryz.zeroValue101
 t53:=Tryz.underlying295
 a53:=Tryz.isAgg295
 z53:=Tryz.sizeOf295
 v53:=Tryz.zeroValue295
 t57:=Tryz.underlying299
 a57:=Tryz.isAgg299
 z57:=Tryz.sizeOf299
 v57:=Tryz.zeroValue299
 t63:=Tryz.underlying308
 a63:=Tryz.isAgg308
 z63:=Tryz.sizeOf308
 v63:=Tryz.zeroValue308
 t64:=Tryz.underlying309
 a64:=Tryz.isAgg309
 z64:=Tryz.sizeOf309
 v64:=Tryz.zeroValue309 }
theorem sortsInts (m:Nat):AnyZI.SortsIn Tryz.prog layS_ren Fence.wide m :=
 ⟨fun blk off cap ss W hH hblk hsz=>callsIn_wide.2 (AnyM.slices_Sort_int layO blk off cap ss W hH hblk hsz),
   fun p cap W=>callsIn_wide.2 (AnyM.slices_Sort_int_none layO p cap W)⟩

end Go.Proofs.YtnlimngkagmjpaaGreat
namespace Go.Proofs.YtnlimngkagmjpaaGreat
open Go Go.RowKit Lou
structure EnV (es:Array MapEntry)(f:Int->Option Value):Prop where
 keys:∀(i:Nat) e,es[i]? = some e->∃k l,f k=some l/\e.key = .int .i64 (k:Int)/\e.val=l
 all:∀k l,f k=some l->∃(i:Nat) (e:MapEntry),es[i]? = some e/\e.key = .int .i64 (k:Int)/\e.val=l
 inj:∀(i j:Nat) e e',es[i]? = some e->es[j]? = some e'->e.key=e'.key->i=j
theorem EnV.empty:EnV #[] (fun _=>none):=⟨fun i e h=>by simp at h,fun k l h=>by simp at h,fun i j e e' h=>by simp at h⟩
theorem keyI_inj {k m:Int}(h:Value.int .i64 k = .int .i64 m):k=m:=by injection h
def fsetV (f:Int->Option Value)(k:Int)(x:Option Value):Int->Option Value:=fun m=>if m=k then x else f m
section
variable {es:Array MapEntry}{f:Int->Option Value}
theorem EnV.find (h:EnV es f)(k:Int):(Instr.findNow (.int .i64) (.int .i64 (k:Int)) es.toList 0=some none/\f k=none) ∨
  ∃j e l,Instr.findNow (.int .i64) (.int .i64 (k:Int)) es.toList 0=some (some (j,e.val))/\es[j]? = some e/\e.key = .int .i64 (k:Int)/\f k=some l/\e.val=l:=by
 have hk:MapKept.IsKey (.int .i64) (.int .i64 (k:Int)):=rfl
 have hall:∀x∈es.toList,MapKept.IsKey (.int .i64) x.key:=by
  intro x hx
  obtain⟨i,hi,rfl⟩:=List.getElem_of_mem hx
  obtain⟨k',l,_,h2,_⟩:=h.keys i es.toList[i] (by rw[<-qE];exact zI hi)
  rw[h2]
  rfl
 rcases MapKept.findNow_spec hk es.toList 0 hall with⟨h1,h2⟩|⟨j,e,h1,h2,h3⟩
 ·left
  refine⟨h1,?_⟩
  cases hf:f k with
  | none=>rfl
  | some l =>
   obtain⟨i,e,h4,h5,_⟩:=h.all k l hf
   exact absurd h5 (h2 e (Array.mem_toList_iff.2 (Array.mem_of_getElem? h4)))
 ·right
  have h4:es[j]? = some e:=by rw[<-qE];exact h2
  obtain⟨k',l,h5,h6,h7⟩:=h.keys j e h4
  have:k'=k:=keyI_inj (h6.symm.trans h3)
  subst this
  exact⟨j,e,l,by simpa using h1,h4,h3,h5,h7⟩
theorem EnV.push (h:EnV es f){k:Int}(hk:f k=none)(l:Value)(born:Nat):EnV (es.push { key:=.int .i64 (k:Int),val:=l,born:=born }) (fsetV f k (some l)):=by
 refine⟨fun i e he => ?_,fun m l' hm => ?_,fun i j e e' hi hj hkey => ?_⟩
 ·rw[Array.getElem?_push] at he
  split at he
  ·injection he with he
   subst he
   exact⟨k,l,by simp[fsetV],rfl,rfl⟩
  ·obtain⟨m,l',h1,h2,h3⟩:=h.keys i e he
   refine⟨m,l',?_,h2,h3⟩
   have:m≠k:=fun e=>by subst e;rw[hk] at h1;cases h1
   simp[fsetV,this,h1]
 ·by_cases e:m=k
  ·subst e
   simp[fsetV] at hm
   subst hm
   exact⟨es.size,{ key:=.int .i64 (m:Int),val:=l,born:=born },by simp,rfl,rfl⟩
  ·simp only[fsetV,if_neg e] at hm
   obtain⟨i,e',h1,h2,h3⟩:=h.all m l' hm
   refine⟨i,e',?_,h2,h3⟩
   have:=(zH.1 h1).1
   rw[Array.getElem?_push,if_neg (by omega)]
   exact h1
 ·rw[Array.getElem?_push] at hi hj
  have hno:∀(q:Nat) (e:MapEntry),es[q]? = some e->e.key≠.int .i64 (k:Int):=fun q e he hq=>by
   obtain⟨m,l',h1,h2,_⟩:=h.keys q e he
   have:=keyI_inj (h2.symm.trans hq)
   subst this
   rw[hk] at h1
   cases h1
  split at hi
  ·split at hj
   ·omega
   ·injection hi with hi
    subst hi
    exact absurd hkey.symm (hno j e' hj)
  ·split at hj
   ·injection hj with hj
    subst hj
    exact absurd hkey (hno i e hi)
   ·exact h.inj i j e e' hi hj hkey
theorem EnV.modify (h:EnV es f){k:Int}{i:Nat}{e:MapEntry}(he:es[i]? = some e)(hek:e.key = .int .i64 (k:Int))(l:Value):EnV (es.modify i fun e => { e with key:=.int .i64 (k:Int),val:=l }) (fsetV f k (some l)):=by
 have hget:∀j,(es.modify i fun e => { e with key:=.int .i64 (k:Int),val:=l })[j]? = if i=j then some { e with key:=.int .i64 (k:Int),val:=l } else es[j]?:=fun j=>by
  rw[Array.getElem?_modify]
  split
  ·rename_i hij
   subst hij
   rw[he]
   rfl
  ·rfl
 refine⟨fun j e' hj => ?_,fun m l' hm => ?_,fun a b e1 e2 ha hb hkey => ?_⟩
 ·rw[hget] at hj
  split at hj
  ·injection hj with hj
   subst hj
   exact⟨k,l,by simp[fsetV],rfl,rfl⟩
  ·rename_i hij
   obtain⟨m,l',h1,h2,h3⟩:=h.keys j e' hj
   refine⟨m,l',?_,h2,h3⟩
   have:m≠k:=fun q=>by
    subst q
    exact hij (h.inj i j e e' he hj (by rw[hek,h2]))
   simp[fsetV,this,h1]
 ·by_cases q:m=k
  ·subst q
   simp[fsetV] at hm
   subst hm
   exact⟨i,_,by rw[hget,if_pos rfl],rfl,rfl⟩
  ·simp only[fsetV,if_neg q] at hm
   obtain⟨j,e',h1,h2,h3⟩:=h.all m l' hm
   have hij:i≠j:=fun hij=>by
    subst hij
    rw[he] at h1
    injection h1 with h1
    subst h1
    exact q (keyI_inj (h2.symm.trans hek))
   exact⟨j,e',by rw[hget,if_neg hij];exact h1,h2,h3⟩
 ·have hk1:∀(a:Nat) (e1:MapEntry),(es.modify i fun e => { e with key:=.int .i64 (k:Int),val:=l })[a]? = some e1->∃e0:MapEntry,es[a]? = some e0/\e0.key=e1.key:=fun a e1 ha=>by
   rw[hget] at ha
   split at ha
   ·rename_i hia
    subst hia
    injection ha with ha
    subst ha
    exact⟨e,he,hek⟩
   ·exact⟨e1,ha,rfl⟩
  obtain⟨x,hx,hxk⟩:=hk1 a e1 ha
  obtain⟨y,hy,hyk⟩:=hk1 b e2 hb
  exact h.inj a b x y hx hy (by rw[hxk,hyk,hkey])
end
section
variable {ρ:Operand->Value}{w:World}{o:Oper}{x y z:Operand}
variable {r clock:Nat}{k:Int}{es:Array MapEntry}{f:Int->Option Value}{l:Value}
theorem stampedSetV {w:Value}(hst:MapKept.Stamped es clock){j:Nat}{e:MapEntry}(hj:es[j]? = some e)(hek:e.key=w)(v:Value):MapKept.Stamped (es.modify j fun e => { e with key:=w,val:=v }) clock :=
 MapKept.stamped_modify hst j (fun e => { e with key:=w,val:=v }) (fun e _=>rfl) (fun e' _ he'=>by rw[hj] at he';injection he' with he';subst he';exact hek.symm)
theorem x_putV (he:EnV es f)(hst:MapKept.Stamped es clock)(hm:MapIs w r es clock)(ho:o.op = .mapUpdate 87 x y z)(h1:ρ x = .map (some r))(h2:ρ y = .int .i64 (k:Int))(h3:ρ z=l) :
  ∃es' clock',(execOp ρ o).run Tryz.prog w = .ok .skip (setMap w r es' clock')/\EnV es' (fsetV f k (some l))/\MapKept.Stamped es' clock':=by
 have hk:MapKept.IsKey (.int .i64) (.int .i64 (k:Int)):=rfl
 have hc:(Instr.checkKey false 10000 3 (.int .i64 (k:Int))).run Tryz.prog w = .ok () w:=MapKept.run_checkKey Tryz.underlying3 hk false 9999
 have hm':w.heap[r]? = some (.map es clock):=hm
 rcases he.find k with⟨hf,hn⟩|⟨j,e,l0,hf,hj,hek,_,_⟩
 ·refine⟨_,clock+1,?_,he.push hn l clock,MapKept.stamped_push hst fun x hx heq=>by
   obtain⟨i,hi,rfl⟩:=List.getElem_of_mem hx
   obtain⟨m,l',h1,h2,_⟩:=he.keys i es.toList[i] (by rw[<-qE];exact zI hi)
   have:=keyI_inj (h2.symm.trans heq)
   subst this
   rw[hn] at h1
   cases h1⟩
  simp[execOp,ho,h1,h2,h3,Instr.mapUpdate,run_underlying Tryz.underlying87,MapKept.run_getObj_map hm',hc,MapKept.run_findKey Tryz.underlying3 hf,MapKept.run_setObj_map _ hm',Result.andThen,setMap]
 ·refine⟨_,clock,?_,he.modify hj hek l,stampedSetV hst hj hek (l)⟩
  have hkey:(((es[j]?).map (·.key)).getD (.int .i64 (k:Int))) = .int .i64 (k:Int):=by rw[hj];exact hek
  simp[execOp,ho,h1,h2,h3,Instr.mapUpdate,run_underlying Tryz.underlying87,MapKept.run_getObj_map hm',hc,MapKept.run_findKey Tryz.underlying3 hf,hj,hek,MapKept.run_keyThatStays hk,MapKept.run_setObj_map _ hm',Result.andThen,setMap]
end
section
variable {es:Array MapEntry}{f:Int->Option Value}
theorem EnV.erase (h:EnV es f){k:Int}{i:Nat}{e:MapEntry}(he:es[i]? = some e)(hek:e.key = .int .i64 k):EnV (es.eraseIdxIfInBounds i) (fsetV f k none):=by
 have hi:=(zH.1 he).1
 have hget:∀j,(es.eraseIdxIfInBounds i)[j]? = if j<i then es[j]? else es[j+1]?:=fun j=>by
  unfold Array.eraseIdxIfInBounds
  rw[dif_pos hi]
  rw[<-qE,Array.toList_eraseIdx,List.getElem?_eraseIdx]
  split<;>rw[qE]
 have back:∀j e',(es.eraseIdxIfInBounds i)[j]? = some e'->∃j',j'≠i/\es[j']? = some e'/\(j<i->j'=j)/\(¬ j<i->j'=j+1):=fun j e' hj=>by
  rw[hget] at hj
  split at hj
  ·exact⟨j,by omega,hj,fun _=>rfl,fun h=>by omega⟩
  ·exact⟨j+1,by omega,hj,fun h=>by omega,fun _=>rfl⟩
 refine⟨fun j e' hj => ?_,fun m l' hm => ?_,fun a b e1 e2 ha hb hkey => ?_⟩
 ·obtain⟨j',hne,hj',_⟩:=back j e' hj
  obtain⟨m,l',h1,h2,h3⟩:=h.keys j' e' hj'
  refine⟨m,l',?_,h2,h3⟩
  have:m≠k:=fun q=>by
   subst q
   exact hne (h.inj j' i e' e hj' he (by rw[hek,h2]))
  simp[fsetV,this,h1]
 ·by_cases q:m=k
  ·subst q
   simp[fsetV] at hm
  ·simp only[fsetV,if_neg q] at hm
   obtain⟨j,e',h1,h2,h3⟩:=h.all m l' hm
   have hij:j≠i:=fun hij=>by
    subst hij
    rw[he] at h1
    injection h1 with h1
    subst h1
    exact q (keyI_inj (h2.symm.trans hek))
   by_cases hlt:j<i
   ·exact⟨j,e',by rw[hget,if_pos hlt];exact h1,h2,h3⟩
   ·exact⟨j - 1,e',by rw[hget,if_neg (by omega),show j - 1+1=j by omega];exact h1,h2,h3⟩
 ·obtain⟨a',_,ha',p1,p2⟩:=back a e1 ha
  obtain⟨b',_,hb',q1,q2⟩:=back b e2 hb
  have:=h.inj a' b' e1 e2 ha' hb' hkey
  by_cases c1:a<i<;>by_cases c2:b<i
  ·have:=p1 c1;have:=q1 c2;omega
  ·have:=p1 c1;have:=q2 c2;omega
  ·have:=p2 c1;have:=q1 c2;omega
  ·have:=p2 c1;have:=q2 c2;omega
end
section
variable {ρ:Operand->Value}{w:World}{o:Oper}{x y z:Operand}{r clock:Nat}{k:Int}{es:Array MapEntry}{f:Int->Option Value}{T E:TypeId}
theorem x_putT {l:Value}(hT:Tryz.prog.underlying T=some (.map 3 E))(he:EnV es f)(hst:MapKept.Stamped es clock)(hm:MapIs w r es clock)(ho:o.op = .mapUpdate T x y z)(h1:ρ x = .map (some r))(h2:ρ y = .int .i64 k)(h3:ρ z=l) :
  ∃es' clock',(execOp ρ o).run Tryz.prog w = .ok .skip (setMap w r es' clock')/\EnV es' (fsetV f k (some l))/\MapKept.Stamped es' clock':=by
 have hk:MapKept.IsKey (.int .i64) (.int .i64 k):=rfl
 have hc:(Instr.checkKey false 10000 3 (.int .i64 k)).run Tryz.prog w = .ok () w:=MapKept.run_checkKey Tryz.underlying3 hk false 9999
 have hm':w.heap[r]? = some (.map es clock):=hm
 rcases he.find k with⟨hf,hn⟩|⟨j,e,l0,hf,hj,hek,_,_⟩
 ·refine⟨_,clock+1,?_,he.push hn l clock,MapKept.stamped_push hst fun x hx heq=>by
   obtain⟨i,hi,rfl⟩:=List.getElem_of_mem hx
   obtain⟨m,l',h1,h2,_⟩:=he.keys i es.toList[i] (by rw[<-qE];exact zI hi)
   have:=keyI_inj (h2.symm.trans heq)
   subst this
   rw[hn] at h1
   cases h1⟩
  simp[execOp,ho,h1,h2,h3,Instr.mapUpdate,run_underlying hT,MapKept.run_getObj_map hm',hc,MapKept.run_findKey Tryz.underlying3 hf,MapKept.run_setObj_map _ hm',Result.andThen,setMap]
 ·refine⟨_,clock,?_,he.modify hj hek l,stampedSetV hst hj hek (l)⟩
  have hkey:(((es[j]?).map (·.key)).getD (.int .i64 k)) = .int .i64 k:=by rw[hj];exact hek
  simp[execOp,ho,h1,h2,h3,Instr.mapUpdate,run_underlying hT,MapKept.run_getObj_map hm',hc,MapKept.run_findKey Tryz.underlying3 hf,hj,hek,MapKept.run_keyThatStays hk,MapKept.run_setObj_map _ hm',Result.andThen,setMap]
theorem x_lookupT {z0 v:Value}(hT:Tryz.prog.underlying T=some (.map 3 E))(hz:(zeroValue E).run Tryz.prog w = .ok z0 w)(he:EnV es f)(hm:MapIs w r es clock)(hv:(f k).getD z0=v)(ho:o.op = .lookup T x y false)(h1:ρ x = .map (some r))(h2:ρ y = .int .i64 k):(execOp ρ o).run Tryz.prog w = .ok (.value v) w:=by
 subst hv
 have hk:MapKept.IsKey (.int .i64) (.int .i64 k):=rfl
 have hc:(Instr.checkKey es.isEmpty 10000 3 (.int .i64 k)).run Tryz.prog w = .ok () w:=MapKept.run_checkKey Tryz.underlying3 hk _ 9999
 have hm':w.heap[r]? = some (.map es clock):=hm
 rcases he.find k with⟨hf,hn⟩|⟨j,e,l0,hf,hj,hek,hfk,hv⟩
 ·rw[hn]
  simp[execOp,ho,h1,h2,Instr.lookup,run_underlying hT,MapKept.run_getObj_map hm',hc,MapKept.run_findKey Tryz.underlying3 hf,hz,Result.andThen]
 ·rw[hfk]
  rw[hv] at hf
  simp[execOp,ho,h1,h2,Instr.lookup,run_underlying hT,MapKept.run_getObj_map hm',hc,MapKept.run_findKey Tryz.underlying3 hf,Result.andThen]
theorem fsetV_none (hn:f k=none):fsetV f k none=f:=by
 funext m
 unfold fsetV
 split
 ·rename_i e
  rw[e,hn]
 ·rfl
theorem x_delT (hT:Tryz.prog.underlying T=some (.map 3 E))(he:EnV es f)(hst:MapKept.Stamped es clock)(hm:MapIs w r es clock)(ho:o.op = .call { callee:=.builtin .delete,args:=#[x,y],argTypes:=#[T,3] })(h1:ρ x = .map (some r))(h2:ρ y = .int .i64 k) :
  ∃es',(execOp ρ o).run Tryz.prog w = .ok (.value (.tuple #[])) (setMap w r es' clock)/\EnV es' (fsetV f k none)/\MapKept.Stamped es' clock:=by
 have hk:MapKept.IsKey (.int .i64) (.int .i64 k):=rfl
 have hc:(Instr.checkKey es.isEmpty 10000 3 (.int .i64 k)).run Tryz.prog w = .ok () w:=MapKept.run_checkKey Tryz.underlying3 hk _ 9999
 have hm':w.heap[r]? = some (.map es clock):=hm
 rcases he.find k with⟨hf,hn⟩|⟨j,e,l0,hf,hj,hek,_,_⟩
 ·refine⟨es,?_,by rw[fsetV_none hn];exact he,hst⟩
  simp[execOp,ho,h1,h2,resolve,invoke,builtin,Builtin.delete_,run_underlying hT,MapKept.run_getObj_map hm',hc,MapKept.run_findKey Tryz.underlying3 hf,MapKept.run_setObj_map _ hm',Result.andThen,setMap]
 ·refine⟨_,?_,he.erase hj hek,MapKept.stamped_erase hst j⟩
  simp[execOp,ho,h1,h2,resolve,invoke,builtin,Builtin.delete_,run_underlying hT,MapKept.run_getObj_map hm',hc,MapKept.run_findKey Tryz.underlying3 hf,MapKept.run_setObj_map _ hm',Result.andThen,setMap]
theorem x_lenT {K:TypeId}(hT:Tryz.prog.underlying T=some (.map K E))(hm:MapIs w r es clock)(ho:o.op = .call { callee:=.builtin .len,args:=#[x],argTypes:=#[T] })(h1:ρ x = .map (some r)):(execOp ρ o).run Tryz.prog w = .ok (.value (.int .i64 (es.size:Int))) w:=by
 have hT':Tryz.prog.underlying T=some (.map (Tryz.prog.mapKeyOf T) (Tryz.prog.mapElemOf T)):=by
  unfold Program.mapKeyOf Program.mapElemOf
  rw[hT]
 have hr:=run_len_map (P:=Tryz.prog) w T o.type r es clock hT' hm
 simp only[execOp,ho,resolve,invoke,builtin,Sem.run_bind,Sem.run_pure,Result.andThen_ok,zJ,zK,zL,h1,hr]
 rfl
end
section
variable {ρ:Operand->Value}{w:World}{o:Oper}{x y z:Operand}{r clock:Nat}{k:Int}{es:Array MapEntry}{f:Int->Option Value}
theorem x_lookupV (he:EnV es f)(hm:MapIs w r es clock)(ho:o.op = .lookup 87 x y true)(h1:ρ x = .map (some r))(h2:ρ y = .int .i64 k):(execOp ρ o).run Tryz.prog w = .ok (.value (match f k with|some v => .tuple #[v,.bool true] | none => .tuple #[.slice none 0 0,.bool false])) w:=by
 have hk:MapKept.IsKey (.int .i64) (.int .i64 k):=rfl
 have hc:(Instr.checkKey es.isEmpty 10000 3 (.int .i64 k)).run Tryz.prog w = .ok () w:=MapKept.run_checkKey Tryz.underlying3 hk _ 9999
 have hm':w.heap[r]? = some (.map es clock):=hm
 have zv:(zeroValue 22).run Tryz.prog w = .ok (.slice none 0 0) w:=by simp[go_sem]
 rcases he.find k with⟨hf,hn⟩|⟨j,e,l0,hf,hj,hek,hfk,hv⟩
 ·rw[hn]
  simp[execOp,ho,h1,h2,Instr.lookup,run_underlying Tryz.underlying87,MapKept.run_getObj_map hm',hc,MapKept.run_findKey Tryz.underlying3 hf,zv,Result.andThen]
 ·rw[hfk]
  rw[hv] at hf
  simp[execOp,ho,h1,h2,Instr.lookup,run_underlying Tryz.underlying87,MapKept.run_getObj_map hm',hc,MapKept.run_findKey Tryz.underlying3 hf,Result.andThen]
end
theorem wp_mputV {w:World}{ops:Array Oper}{rest:List Oper}{o:Oper}{a:Act}{Q:Exit->Act->World->Prop}{r clock:Nat}{k:Int}{es:Array MapEntry}{f:Int->Option Value}{l:Value}(hg:o.guard=none)(x y z:Operand)(ho:o.op = .mapUpdate 87 x y z)(h1:a.eval x = .map (some r))(h2:a.eval y = .int .i64 k)(h3:a.eval z=l)(he:EnV es f)(hst:MapKept.Stamped es clock)(hm:MapIs w r es clock)
  (h:∀es' clock' w',MapIs w' r es' clock'->EnV es' (fsetV f k (some l))->MapKept.Stamped es' clock'->w.grownBy w' (some r)->wpList Tryz.prog ops Q rest (a.put o.dst undef) w'):wpList Tryz.prog ops Q (o::rest) a w:=by
 obtain⟨es',clock',hr,he',hs'⟩:=x_putV (ρ:=a.eval) (o:=o) he hst hm ho h1 h2 h3
 exact wp_execS hg hr (h es' clock' _ (hm.set _ _) he' hs' (setMap_grown hm _ _))
def pgF (vs:List FrV):Int->Option Value:=vs.foldl (fun f v=>fsetV f v.1.p (some (.slice v.2.1 v.1.y.length v.2.2))) (fun _=>none)
theorem pgF_snoc (vs:List FrV)(v:FrV):pgF (vs++[v])=fsetV (pgF vs) v.1.p (some (.slice v.2.1 v.1.y.length v.2.2)):=by simp[pgF]
def pgY (fs:List FrP)(p:Int):Option (List UInt8):=fs.foldl (fun r x=>if x.p=p then some x.y else r) none
theorem pgY_snoc (fs:List FrP)(x:FrP)(p:Int):pgY (fs++[x]) p=if x.p=p then some x.y else pgY fs p:=by simp[pgY]
theorem pgF_pgY (T:FrV->Prop):∀(vs:List FrV),(∀v∈vs,T v)->∀p,(pgF vs p=none/\pgY (vs.map (·.1)) p=none)∨∃v,T v/\v∈vs/\pgF vs p=some (.slice v.2.1 v.1.y.length v.2.2)/\pgY (vs.map (·.1)) p=some v.1.y:=by
 suffices H:∀l:List FrV,(∀v∈l,T v)->∀p,(pgF l.reverse p=none/\pgY (l.reverse.map (·.1)) p=none)∨∃v,T v/\v∈l/\pgF l.reverse p=some (.slice v.2.1 v.1.y.length v.2.2)/\pgY (l.reverse.map (·.1)) p=some v.1.y by
  intro vs h p
  have:=H vs.reverse (fun v hv=>h v (List.mem_reverse.1 hv)) p
  rw[List.reverse_reverse] at this
  rcases this with h1|⟨v,h1,h2,h3⟩
  ·exact .inl h1
  ·exact .inr ⟨v,h1,List.mem_reverse.1 h2,h3⟩
 intro l
 induction l with
 | nil=>exact fun _ p => .inl ⟨rfl,rfl⟩
 | cons v l ih =>
  intro h p
  rw[List.reverse_cons,pgF_snoc,List.map_append,List.map_singleton,pgY_snoc]
  by_cases hp:v.1.p=p
  ·right
   refine⟨v,h v (by simp),by simp,?_,by rw[if_pos hp]⟩
   unfold fsetV
   rw[if_pos hp.symm]
  ·rw[if_neg hp]
   have:fsetV (pgF l.reverse) v.1.p (some (.slice v.2.1 v.1.y.length v.2.2)) p=pgF l.reverse p:=by
    unfold fsetV
    rw[if_neg (fun e=>hp e.symm)]
   rw[this]
   rcases ih (fun u hu=>h u (by simp[hu])) p with h1|⟨u,h1,h2,h3⟩
   ·exact .inl h1
   ·exact .inr ⟨u,h1,by simp[h2],h3⟩
theorem wlast_gives (w:World)(l d:Nat)(fr pg:Int)(sr ep:Nat)(sz:Int)(A:Option Addr)(c:Nat)(vs:List FrV)(hlg:BlkIs w l 104 (lgC (some ⟨d,0,none⟩) fr pg sr ep sz A vs.length c))(hx:InG w w.heap.size 7 A vs.length c (vsC vs))(hn:vs.length<=2000) :
  Calls Tryz.prog 168 #[.pointer (some ⟨l,0,none⟩)] w fun e w'=>e = .returned (.map (some w.heap.size))/\(∃es clock,MapIs w' w.heap.size es clock/\EnV es (pgF vs)/\MapKept.Stamped es clock)/\Below w.heap.size w w':=by
 obtain⟨N,hN⟩:∃N,N=vs.length:=⟨_,rfl⟩
 have hB:Below w.heap.size w (w.alloc (.map #[] 0)):=(Below.refl _ w).alloc (zG _) _
 have hlg0:=hlg.below hB hlg.lt
 have HN:=lnone_gives hlg0
 have k6:(w.alloc (.map #[] 0)).cell? ⟨l,6,none⟩=some (.slice A N c):=by rw[hlg0.cell,hN];rfl
 have hEl:∀k (h:k<vs.length),∃g o,A=some ⟨g,o,none⟩/\g<w.heap.size/\w.rangeAt g (o+k*7) (vs[k]).arr.toList:=fun k h=>by
  obtain⟨g,o,e,hg,_⟩:=hx.lies (by omega)
  subst e
  have:=hx.elem k h
  rw[vsC_elem vs k h] at this
  exact⟨g,o,rfl,hg,this⟩
 have hle:=hx.le
 rw[<-hN] at hle hn
 have HNN:=Lib.hid hN
 have hE0:EnV #[] (fun _=>none):=⟨fun i e h=>by simp at h,fun k l h=>by simp at h,fun i j e e' h=>by simp at h⟩
 have hm0:MapIs (w.alloc (.map #[] 0)) w.heap.size #[] 0:=heap_alloc_new w _
 clear hN hlg hlg0 hx
 go_enter Tryz.func168,Tryz.ntmps168
 go_wp2_with (first
  | (refine wp_makeMap rfl rfl ?_;intro hm)
  | (go_at_call 106;refine HN.mono ?_;rintro e w' ⟨rfl,rfl⟩))
 go_loopw [15] (fun i wr=>∃k:Nat,k<=N/\i = .int .i64 (k:Int)/\(∃es clock,MapIs wr w.heap.size es clock/\EnV es (pgF (vs.take k))/\MapKept.Stamped es clock)/\Below w.heap.size w wr) (fun i _=>N - (intOf i).toNat)
 case atStart=>exact⟨0,by omega,rfl,⟨#[],0,hm0,hE0,MapKept.stamped_empty 0⟩,hB⟩
 case round =>
  clear HN k6 hB hm0 hE0
  obtain⟨k,hk,rfl,⟨es,clock,hmr,he,hst⟩,hBr⟩:=hrel
  by_cases hlt:k<N
  ·have hj:k<vs.length:=by rw[<-HNN.out];exact hlt
   obtain⟨g,o,rfl,hg,hel⟩:=hEl k hj
   have hsn:pgF (vs.take (k+1))=fsetV (pgF (vs.take k)) (vs[k]).1.p (some (.slice (vs[k]).2.1 (vs[k]).1.y.length (vs[k]).2.2)):=by
    rw[qC hj,pgF_snoc]
   generalize vs[k]=v at hel hsn
   obtain⟨⟨e',i',p',f',z',n',y'⟩,Ay,ky⟩:=v
   simp only[FrV.arr] at hel hsn
   generalize y'.length=L at *
   have hel2:wr.rangeAt g (o+k*7) (frCells e' i' p' f' z' n' Ay L ky).toList:=fun j u hj=>(hBr.cell (p:=⟨g,o+k*7+j,none⟩) hg).trans (hel j u hj)
   have HSN:=Lib.hid hsn
   have hwk:IntKind.i64.wrap ((k:Int)+1)=(k:Int)+1:=wrap_i64_fr _ (by omega) (by omega)
   have bz:=BlkIs.new wr 163 #[.int .u64 0,.int .i64 0,.int .i64 0,.bool false,.int .i64 0,.int .u32 0,.slice none 0 0]
   have hmz:MapIs (wr.alloc (.cells #[.int .u64 0,.int .i64 0,.int .i64 0,.bool false,.int .i64 0,.int .u32 0,.slice none 0 0] 163)) w.heap.size es clock:=hmr.below ((Below.refl _ _).alloc (zG _) _) hmr.lt
   have hml:=hmr.lt
   clear hsn hel hEl hmr
   go_wp2_with (first
    | (refine wp_exec rfl (x_loadM rowFrame hel2 rfl rfl rfl) ?_)
    | (refine wp_storeW rfl 163 (.tmp 5) (.tmp 18) rfl wr.heap.size rfl rfl rowFrame bz rfl rfl (frCells_one _ _ _ _ _ _ _ _ _) ?_;have b3:=bz.setRow (frCells e' i' p' f' z' n' Ay L ky);have hm3:MapIs ((wr.alloc (.cells #[.int .u64 0,.int .i64 0,.int .i64 0,.bool false,.int .i64 0,.int .u32 0,.slice none 0 0] 163)).setRow wr.heap.size (frCells e' i' p' f' z' n' Ay L ky)) w.heap.size es clock:=hmz.grown (setRow_grown _ _ _) (fun e=>by injection e with e;omega);have hB3:Below w.heap.size w ((wr.alloc (.cells #[.int .u64 0,.int .i64 0,.int .i64 0,.bool false,.int .i64 0,.int .u32 0,.slice none 0 0] 163)).setRow wr.heap.size (frCells e' i' p' f' z' n' Ay L ky)):=below_setRow (hBr.alloc hBr.size _) hBr.size _;obtain⟨W3,hW3⟩:∃W3,W3=(wr.alloc (.cells #[.int .u64 0,.int .i64 0,.int .i64 0,.bool false,.int .i64 0,.int .u32 0,.slice none 0 0] 163)).setRow wr.heap.size (frCells e' i' p' f' z' n' Ay L ky):=⟨_,rfl⟩;rw[<-hW3] at b3 hm3 hB3 ⊢;clear hW3;have c2:W3.cell? ⟨wr.heap.size,2,none⟩=some (.int .i64 p'):=(by rw[b3.cell];rfl);have c6:W3.cell? ⟨wr.heap.size,6,none⟩=some (.slice Ay L ky):=(by rw[b3.cell];rfl))
    | (refine wp_mputV rfl (.tmp 19) (.tmp 21) (.tmp 23) rfl rfl rfl rfl he hst hm3 ?_;intro es4 clock4 w4 hm4 he4 hst4 hg4;have hB4:Below w.heap.size w w4:=hB3.trans (grown_below hg4 hB3.size (fun r e=>by injection e with e;omega))))
   go_roundw
   case rel=>exact⟨k+1,by omega,by simp,⟨es4,clock4,hm4,by rw[HSN.out];exact he4,hst4⟩,hB4⟩
   case measure=>simp[intOf];omega
  ·have hkn:k=N:=by omega
   subst hkn
   have he':EnV es (pgF vs):=by
    rw[HNN.out,List.take_length] at he
    exact he
   clear hEl he hlt
   go_wp2
   go_ret
   exact⟨rfl,⟨es,clock,hmr,he',hst⟩,hBr⟩
end Go.Proofs.YtnlimngkagmjpaaGreat
namespace Go.Proofs.YtnlimngkagmjpaaGreat
open Go Go.RowKit Lou Go.Maps Go.Sort Go.Shelf
attribute [local go_sem] Oper.semAt_some
def keysV (f:Int->Option Value)(many:Nat):List Nat:=(List.range many).filter fun k=>(f (k:Int)).isSome
theorem keysV_mem {f:Int->Option Value}{many k:Nat}:k∈keysV f many↔k<many/\(f (k:Int)).isSome=true:=by simp[keysV]
theorem keysV_lt (f:Int->Option Value)(many:Nat):(keysV f many).Pairwise (· < ·):=List.pairwise_lt_range.filter _
theorem keysV_nodup (f:Int->Option Value)(many:Nat):(keysV f many).Nodup:=(keysV_lt f many).imp fun h=>Nat.ne_of_lt h
theorem keysV_len (f:Int->Option Value)(many:Nat):(keysV f many).length<=many:=zP (List.length_filter_le _ _) (by simp)
def dRV:Value->Option (DataW Unit×List MemPlace):=fun _=>some (.nil,[])
def KeysB (f:Int->Option Value)(many:Nat):Prop:=∀k v,f k=some v->0<=k/\k<(many:Int)
theorem EnV.key {es:Array MapEntry}{f:Int->Option Value}{many:Nat}(h:EnV es f)(hlt:KeysB f many):∀e∈es.toList,∃k:Nat,k<many/\(f (k:Int)).isSome=true/\e.key = .int .i64 (k:Int):=fun e he=>by
 obtain⟨i,hi,rfl⟩:=List.getElem_of_mem he
 obtain⟨k,l,h1,h2,_⟩:=h.keys i es.toList[i] (by rw[<-qE];exact zI hi)
 obtain⟨h3,h4⟩:=hlt k l h1
 have e:(k.toNat:Int)=k:=by omega
 exact⟨k.toNat,by omega,by rw[e,h1];rfl,by rw[e];exact h2⟩
def keyIv (e:MapEntry):Int:=match e.key with | .int _ k=>k|_=>0
theorem keyIv_of {e:MapEntry}{k:Int}(h:e.key = .int .i64 k):keyIv e=k:=by unfold keyIv;rw[h]
theorem EnV.perm {es:Array MapEntry}{f:Int->Option Value}{many:Nat}(h:EnV es f)(hlt:KeysB f many):(es.toList.map keyIv).Perm ((keysV f many).map fun k:Nat=>(k:Int)):=by
 refine(List.perm_ext_iff_of_nodup ?_ ?_).2 fun k => ?_
 ·rw[List.Nodup,List.pairwise_map]
  refine List.pairwise_iff_getElem.2 fun i j hi hj hij e => ?_
  obtain⟨a,_,_,ha⟩:=h.key hlt _ (qJ hi)
  obtain⟨b,_,_,hb⟩:=h.key hlt _ (qJ hj)
  have:=h.inj i j es.toList[i] es.toList[j] (by rw[<-qE];exact zI hi) (by rw[<-qE];exact zI hj) (by
   rw[keyIv_of ha,keyIv_of hb] at e
   rw[ha,hb,e])
  omega
 ·rw[List.Nodup,List.pairwise_map]
  exact(keysV_lt f many).imp fun h e=>by omega
 ·constructor
  ·intro hk
   obtain⟨e,he,rfl⟩:=List.mem_map.1 hk
   obtain⟨a,h1,h2,h3⟩:=h.key hlt e he
   rw[keyIv_of h3]
   exact List.mem_map.2 ⟨a,keysV_mem.2 ⟨h1,h2⟩,rfl⟩
  ·intro hk
   obtain⟨a,ha,rfl⟩:=List.mem_map.1 hk
   obtain⟨_,h2⟩:=keysV_mem.1 ha
   obtain⟨v,hv⟩:=Option.isSome_iff_exists.1 h2
   obtain⟨i,e,h3,h4,_⟩:=h.all (a:Int) v hv
   refine List.mem_map.2 ⟨e,Array.mem_toList_iff.2 (Array.mem_of_getElem? h3),?_⟩
   exact keyIv_of h4
theorem keyV_rd {e:MapEntry}{k:Nat}(hk:e.key = .int .i64 (k:Int))(hl:k<100000):WideElems.rd Tryz.prog 3 dRV e=some (.int .i64 (k:Int),.nil):=by
 have hkey:keyOf Tryz.prog 3 e.key=some (.int .i64 (k:Int)):=by
  rw[hk]
  exact Maps.keyOf_int_mk Tryz.underlying3 (by simp[Lit.wf,IntKind.min,IntKind.max,IntKind.signed,IntKind.bits];omega)
 unfold WideElems.rd
 rw[hkey]
 rfl
theorem own_mapV {w:World}{r many clock:Nat}{es:Array MapEntry}{f:Int->Option Value}(hmi:MapIs w r es clock)(he:EnV es f)(hst:MapKept.Stamped es clock)(hlt:KeysB f many)(hm:many<=40000) :
  ∃D0,w.ownsMap Tryz.prog 3 dRV r many D0/\Maps.size D0<=many/\(intKeys D0).Perm ((keysV f many).map fun k:Nat=>(k:Int)):=by
 have hp:=he.perm hlt
 have hsz:es.size<=many:=by
  have h1:=hp.length_eq
  rw[qD,qD,Array.length_toList] at h1
  have:=keysV_len f many
  omega
 have hrd:∀x∈es.toList,∃k:Nat,x.key = .int .i64 (k:Int)/\WideElems.rd Tryz.prog 3 dRV x=some (.int .i64 (k:Int),.nil):=fun x hx=>by
  obtain⟨k,hk,_,hxk⟩:=he.key hlt x hx
  exact⟨k,hxk,keyV_rd hxk (by omega)⟩
 have hmx:es.size<=maxLen:=zP (zP hsz hm) (by decide)
 refine⟨.map ((es.toList.map (WideElems.rg Tryz.prog 3 dRV)).foldr DataW.insert []),⟨es,clock,hmi,⟨hmx,hst,fun x hx=>by obtain⟨k,_,h2⟩:=hrd x hx;exact⟨_,h2⟩⟩,hsz,rfl⟩,?_,?_⟩
 ·simp only[Maps.size]
  rw[length_read]
  exact hsz
 ·refine List.Perm.trans ?_ hp
  show (((es.toList.map (WideElems.rg Tryz.prog 3 dRV)).foldr DataW.insert []).map fun p=>Go.intOf p.1).Perm _
  refine((WideShapes.sorted_perm _).map _).trans ?_
  rw[List.map_map]
  refine List.Perm.of_eq (List.map_congr_left fun x hx => ?_)
  obtain⟨k,h1,h2⟩:=hrd x hx
  simp only[Function.comp]
  rw[WideElems.rg_of h2,keyIv_of h1]
  rfl
theorem keysV_sort (f:Int->Option Value)(many:Nat):((keysV f many).map fun k:Nat=>(k:Int)).mergeSort leI=(keysV f many).map fun k:Nat=>(k:Int) :=
 List.mergeSort_of_pairwise (List.pairwise_map.2 ((keysV_lt f many).imp fun h=>by simp[leI];omega))
theorem sortedV_gives (w:World)(r many clock:Nat)(es:Array MapEntry)(f:Int->Option Value)(hmi:MapIs w r es clock)(he:EnV es f)(hst:MapKept.Stamped es clock)(hlt:KeysB f many)(hm:many<=40000) :
  Calls Tryz.prog 242 #[.map (some r)] w fun e w'=>∃v,e = .returned v/\w'.ownsRow w.heap.size 3 1 v (keysV f many).length ((keysV f many).map fun k:Nat=>Value.int .i64 (k:Int))/\Below w.heap.size w w':=by
 obtain⟨D0,hown,hsz,hperm⟩:=own_mapV hmi he hst hlt hm
 have hmax:Maps.size D0<=maxLen:=zP hsz (zP hm (by decide))
 have hbytes:Maps.size D0*8<=140737488355328:=by omega
 refine(callsIn_wide (n:=6)).1 ?_
 have hbl:=hown.lt
 have hseq:SeqGives Fence.wide 2 Tryz.prog 132 #[.pointer (some ⟨w.heap.size,0,none⟩)] encZ (fun ss=>ss.Perm (intKeys D0)) (Maps.size D0) (w.alloc (.cells #[.map (some r)] 87)) :=
  AnyZI.keys_gives (ρ:=layK_ren) { layK with } Fence.wide _ trivial rfl (by omega) w.heap.size r many D0 _ (by simp) (by simp) (by
   obtain⟨es,clock,hb,Ft,hs,hD⟩:=hown
   exact⟨es,clock,(Below.heap_alloc _ _ r hbl).trans hb,Ft,hs,hD⟩)
 have cK:∀mb W,CallsIn Fence.wide 5 Tryz.prog 86 #[.map mb] W fun e w'=>e = .returned (.func (.func 132) #[] #[.pointer (some ⟨W.heap.size,0,none⟩)])/\w'=W.alloc (.cells #[.map mb] 87):=fun mb W=>AnyZI.keys_in layK Fence.wide 5 trivial rfl mb W
 have cS:=AnyZI.sorted_in layS Fence.wide 5 trivial trivial trivial trivial rfl (by omega) (sortsInts _) (enters_of Tryz.func131 (by kernel_rfl) rfl) 132 #[.pointer (some ⟨w.heap.size,0,none⟩)] trivial (enters_of Tryz.func132 (by kernel_rfl) rfl) _ _ hmax hbytes _ hseq
 change CallsIn _ _ Tryz.prog 85 _ _ _ at cS
 have hfK:Fence.wide.fn 86:=trivial
 have hfS:Fence.wide.fn 85:=trivial
 refine callsIn_of_wp Tryz.func242 rfl trivial ?_ rfl
 simp only[Tryz.ntmps242,zS,zN,qB,qH,qI,zU,zV,zZ,zX,zQ,zW]
 gi_wp2_with (first
  | (gi_at_call 86;refine(cK _ _).mono ?_;rintro e w' ⟨rfl,rfl⟩)
  | (gi_at_call 85;refine cS.mono ?_;rintro e w' ⟨v,ss,rfl,hS,hrow,hnil,hb⟩))
 go_ret
 have hss:=hS.trans hperm
 have e1:ss.mergeSort (fun x y=>decide (x<=y))=(keysV f many).map fun k:Nat=>(k:Int):=(mergeSort_of_perm_i hss).trans (keysV_sort f many)
 have e2:ss.length=(keysV f many).length:=by rw[hss.length_eq,qD]
 rw[e1,e2,List.map_map] at hrow
 exact⟨v,rfl,ownsRow_base_a hrow (by simp),((Below.refl _ w).alloc (zG _) _).trans (hb.mono (by simp))⟩
theorem row_intsV {w:World}{base:Nat}{e:TypeId}{v:Value}{ks:List Nat}(h:w.ownsRow base e 1 v ks.length (ks.map fun k:Nat=>Value.int .i64 (k:Int))) :
  ∃A c,v = .slice A ks.length c/\ks.length<=c/\∀(j:Nat) (hj:j<ks.length),∃gb,A=some ⟨gb,0,none⟩/\base<=gb/\w.cell? ⟨gb,j,none⟩=some (.int .i64 ((ks[j]:Nat):Int)):=by
 rcases h.2 with⟨rfl,hz⟩|⟨gb,cap,cur,rfl,hbase,hgb,r1,r2,r3,r4⟩
 ·exact⟨none,0,by rw[hz],by omega,fun j hj=>by omega⟩
 ·refine⟨_,cap,rfl,r1,fun j hj=>⟨gb,rfl,hbase,?_⟩⟩
  rw[Nat.mul_one] at r4
  have h1:(cur.toList.take ks.length)[j]? = (ks.map fun k:Nat=>Value.int .i64 (k:Int))[j]?:=by rw[r4]
  rw[List.getElem?_take_of_lt hj,List.getElem?_map,zI hj,qE] at h1
  simpa[World.cell?,hgb] using h1
section
variable {P:Program}{w w':World}{ops:Array Oper}{rest:List Oper}{o:Oper}{a:Act}{Q:Exit->Act->World->Prop}{n:Nat}
theorem wpV_exec {v:Value}(hg:o.guard=none)(hr:(execOp a.eval o).run P w = .ok (.value v) w')(h:wpListIn Fence.wide n P ops Q rest (a.put o.dst v) w'):wpListIn Fence.wide n P ops Q (o::rest) a w:=by
 unfold wpListIn
 rw[if_pos (by simp[Region.wanted,hg])]
 refine⟨fun _ _=>trivial,?_⟩
 show Oper.uponIn _ _ _ _ _ _ _ ((execOp a.eval o).run P w)
 rw[hr]
 exact h
end
section
variable {ρ:Operand->Value}{w:World}{o:Oper}{x y:Operand}{r clock:Nat}{k:Int}{es:Array MapEntry}{f:Int->Option Value}
theorem x_lookupF (he:EnV es f)(hm:MapIs w r es clock)(ho:o.op = .lookup 87 x y false)(h1:ρ x = .map (some r))(h2:ρ y = .int .i64 k):(execOp ρ o).run Tryz.prog w = .ok (.value ((f k).getD (.slice none 0 0))) w:=by
 have hk:MapKept.IsKey (.int .i64) (.int .i64 k):=rfl
 have hc:(Instr.checkKey es.isEmpty 10000 3 (.int .i64 k)).run Tryz.prog w = .ok () w:=MapKept.run_checkKey Tryz.underlying3 hk _ 9999
 have hm':w.heap[r]? = some (.map es clock):=hm
 have zv:(zeroValue 22).run Tryz.prog w = .ok (.slice none 0 0) w:=by simp[go_sem]
 rcases he.find k with⟨hf,hn⟩|⟨j,e,l0,hf,hj,hek,hfk,hv⟩
 ·rw[hn]
  simp[execOp,ho,h1,h2,Instr.lookup,run_underlying Tryz.underlying87,MapKept.run_getObj_map hm',hc,MapKept.run_findKey Tryz.underlying3 hf,zv,Result.andThen]
 ·rw[hfk]
  rw[hv] at hf
  simp[execOp,ho,h1,h2,Instr.lookup,run_underlying Tryz.underlying87,MapKept.run_getObj_map hm',hc,MapKept.run_findKey Tryz.underlying3 hf,Result.andThen]
end
end Go.Proofs.YtnlimngkagmjpaaGreat
namespace Go.Proofs.YtnlimngkagmjpaaGreat
open Go Go.RowKit Lou
section
variable {ρ:Operand->Value}{w:World}{o:Oper}{x y z:Operand}{r clock:Nat}{k:Int}{es:Array MapEntry}{f:Int->Option Value}
theorem x_lookupN (he:EnV es f)(hm:MapIs w r es clock)(hf:f k=none)(ho:o.op = .lookup 87 x y true)(h1:ρ x = .map (some r))(h2:ρ y = .int .i64 k):(execOp ρ o).run Tryz.prog w = .ok (.value (.tuple #[.slice none 0 0,.bool false])) w:=by
 have:=x_lookupV he hm ho h1 h2
 rw[hf] at this
 exact this
theorem x_lookupY {v:Value}(he:EnV es f)(hm:MapIs w r es clock)(hf:f k=some v)(ho:o.op = .lookup 87 x y true)(h1:ρ x = .map (some r))(h2:ρ y = .int .i64 k):(execOp ρ o).run Tryz.prog w = .ok (.value (.tuple #[v,.bool true])) w:=by
 have:=x_lookupV he hm ho h1 h2
 rw[hf] at this
 exact this
end
def PageOut (r:Option (List UInt8))(e:Ending)(w':World):Prop:=∃A c,e = .returned (.tuple #[.slice A (r.getD []).length c,.bool r.isSome])/\InB w' w'.heap.size A c (r.getD [])
theorem pageG_gives (w:World)(l d:Nat)(fr pg:Int)(S:LgS)(hL:LogIs w l d fr pg S)(hn:S.fs.length<=2000)(hy:∀x∈S.fs,x.y.length=512)(p:Int) :
  Calls Tryz.prog 122 #[.pointer (some ⟨l,0,none⟩),.int .i64 p] w fun e w'=>PageOut (pgY S.fs p) e w'/\Below w.heap.size w w':=by
 obtain⟨hld,A,c,vs,hlg,hF,hvs⟩:=hL
 have HL:=wlast_gives w l d fr pg S.sr S.ep S.sz A c vs hlg hF.row (by rw[<-hvs,qD] at hn;exact hn)
 have hpp:=pgF_pgY (fun v=>InB w w.heap.size v.2.1 v.2.2 v.1.y/\v.1.y.length=512) vs (fun v hv=>⟨(hF.bys v hv).1,hy v.1 (by rw[<-hvs];exact List.mem_map_of_mem hv)⟩) p
 rw[hvs] at hpp
 clear hlg hF hvs hy hn
 generalize pgY S.fs p=R at *
 rcases hpp with⟨hp1,rfl⟩|⟨⟨⟨e0,i0,p0,f0,z0,n0,y0⟩,A0,k0⟩,⟨hin,h512⟩,_,hp1,rfl⟩
 ·have HP:=Lib.hid hp1
  clear hp1
  go_enter Tryz.func122,Tryz.ntmps122
  go_wp2_with (first
   | (go_at_call 168;refine HL.mono ?_;rintro e w1 ⟨rfl,⟨es,clock,hm,he,_⟩,hB⟩)
   | (refine wp_exec rfl (x_lookupN he hm HP.out rfl rfl rfl) ?_)
   | (go_at_call 67;refine(clone_gives w1 none 0 [] (InB.mt _ _) (by simp)).mono ?_;rintro e w2 ⟨v2,rfl,own2,hB2⟩;obtain⟨A2,c2,rfl,hin2⟩:=own2.inB))
  exact bodyPost_ret (results_tmp2 rfl _ _ _) rfl ⟨⟨A2,c2,rfl,hin2⟩,hB.trans (hB2.mono hB.size)⟩
 ·simp only at hin h512 hp1
  have HP:=Lib.hid hp1
  have H512:=Lib.hid h512
  clear hp1 h512
  go_enter Tryz.func122,Tryz.ntmps122
  go_wp2_with (first
   | (go_at_call 168;refine HL.mono ?_;rintro e w1 ⟨rfl,⟨es,clock,hm,he,_⟩,hB⟩)
   | (refine wp_exec rfl (x_lookupY he hm HP.out rfl rfl rfl) ?_)
   | (go_at_call 67;refine(clone_gives w1 A0 k0 y0 ((hin.below hB).more hB.size) (by rw[H512.out];omega)).mono ?_;rintro e w2 ⟨v2,rfl,own2,hB2⟩;obtain⟨A2,c2,rfl,hin2⟩:=own2.inB))
  exact bodyPost_ret (results_tmp2 rfl _ _ _) rfl ⟨⟨A2,c2,rfl,hin2⟩,hB.trans (hB2.mono hB.size)⟩
def lowB (z:Int):UInt8:=UInt8.ofNat (z % 256).toNat
theorem lowB_wrap (z:Int):IntKind.u8.wrap z=((lowB z).toNat:Int):=by
 unfold lowB
 rw[UInt8.toNat_ofNat']
 show z % 256=_
 omega
theorem pgY_mem {fs:List FrP}{p:Int}{y:List UInt8}(h:pgY fs p=some y):∃x∈fs,x.y=y:=by
 unfold pgY at h
 suffices H:∀(l:List FrP) (r:Option (List UInt8)),l.foldl (fun r (x:FrP)=>if x.p=p then some x.y else r) r=some y->r=some y∨∃x∈l,x.y=y by
  rcases H fs none h with h1|h1
  ·cases h1
  ·exact h1
 intro l
 induction l with
 | nil=>exact fun r h => .inl h
 | cons x l ih =>
  intro r h
  rw[List.foldl_cons] at h
  rcases ih _ h with h1|⟨u,h1,h2⟩
  ·by_cases hp:x.p=p
   ·rw[if_pos hp] at h1
    injection h1 with h1
    exact .inr ⟨x,by simp,h1⟩
   ·rw[if_neg hp] at h1
    exact .inl h1
  ·exact .inr ⟨u,by simp[h1],h2⟩
theorem LogIs.grow {w w':World}{l d:Nat}{fr pg:Int}{S:LgS}(h:LogIs w l d fr pg S)(hB:Below w.heap.size w w'):LogIs w' l d fr pg S:=by
 obtain⟨hld,A,c,vs,hlg,hF,hvs⟩:=h
 exact⟨hld,A,c,vs,hlg.below hB hlg.lt,hF.grow hB,hvs⟩
section
variable {ρ:Operand->Value}{w:World}{o:Oper}{x y z:Operand}
end
theorem lsizeL_gives {w:World}{l d:Nat}{fr pg:Int}{S:LgS}(h:LogIs w l d fr pg S):Calls Tryz.prog 64 #[.pointer (some ⟨l,0,none⟩)] w fun e w'=>e = .returned (.int .i64 S.sz)/\w=w':=by
 obtain⟨_,A,c,vs,hlg,_,_⟩:=h
 exact lsize_gives hlg
end Go.Proofs.YtnlimngkagmjpaaGreat
namespace Go.Proofs.YtnlimngkagmjpaaGreat
open Go Go.RowKit Lou Go.Shelf
attribute [local go_sem] Oper.semAt_some
def PgIs (w:World)(f:Int->Option Value)(Y:Int->Option (List UInt8)):Prop :=
 ∀k:Int,(f k=none/\Y k=none)∨∃A c y,f k=some (.slice A 512 c)/\Y k=some y/\y.length=512/\InB w w.heap.size A c y
theorem PgIs.grow {w w':World}{f:Int->Option Value}{Y:Int->Option (List UInt8)}(h:PgIs w f Y)(hB:Below w.heap.size w w'):PgIs w' f Y:=fun k=>by
 rcases h k with h1|⟨A,c,y,h1,h2,h3,h4⟩
 ·exact .inl h1
 ·exact .inr ⟨A,c,y,h1,h2,h3,(h4.below hB).more hB.size⟩
theorem PgIs.keys {w:World}{f:Int->Option Value}{Y:Int->Option (List UInt8)}(h:PgIs w f Y){many:Nat}(hY:∀k y,Y k=some y->0<=k/\k<(many:Int)):KeysB f many:=fun k v hv=>by
 rcases h k with⟨h1,_⟩|⟨A,c,y,h1,h2,_⟩
 ·rw[h1] at hv;cases hv
 ·exact hY k y h2
theorem InB.abSm {X Y:World}{row:Option Nat}{n:Nat}{A:Option Addr}{c:Nat}{l:List UInt8}(hl:64<l.length)(h:InB X n A c l)(hg:X.grownBy Y row)(hr:∀r,row=some r->∃o:Obj,X.heap[r]? = some o/\Small o):InB Y n A c l :=
 ⟨h.le,h.max,h.nil,fun h0=>by
  obtain⟨g,o,e,hgn,hc⟩:=h.lies h0
  have hrow:row≠some g:=fun e=>by
   obtain⟨ob,ho,hs⟩:=hr g e
   have:=hc 64 hl
   simp only[World.cell?,ho] at this
   cases ob with
   | cells cs t fr =>
    have h64:cs.size<=64:=hs.1
    have h2:cs[o+64]? = none:=Array.getElem?_eq_none (by omega)
    simp[h2] at this
   | _=>simp at this
  have hlt:g<X.heap.size:=by
   have:=hc 0 h0
   rcases Nat.lt_or_ge g X.heap.size with h|h
   ·exact h
   ·simp[World.cell?,Array.getElem?_eq_none h] at this
  exact⟨g,o,e,hgn,fun j hj=>(World.cell?_of_block (hg.block g hlt (fun e=>hrow e.symm))).trans (hc j hj)⟩⟩
theorem pagesG_gives (w:World)(l d:Nat)(fr pg:Int)(S:LgS)(hL:LogIs w l d fr pg S)(hn:S.fs.length<=2000)(hy:∀x∈S.fs,x.y.length=512) :
  Calls Tryz.prog 226 #[.pointer (some ⟨l,0,none⟩)] w fun e w'=>∃q r es clock f,e = .returned (.func (.func 241) #[] #[.pointer (some ⟨q,0,none⟩)])/\BlkIs w' q 87 #[.map (some r)]/\MapIs w' r es clock/\EnV es f/\MapKept.Stamped es clock/\PgIs w' f (pgY S.fs)/\Below w.heap.size w w'/\w.heap.size<=r:=by
 obtain⟨hld,A,c,vs,hlg,hF,hvs⟩:=hL
 have HL:=wlast_gives w l d fr pg S.sr S.ep S.sz A c vs hlg hF.row (by rw[<-hvs,qD] at hn;exact hn)
 have hpp:=pgF_pgY (fun v=>InB w w.heap.size v.2.1 v.2.2 v.1.y/\v.1.y.length=512) vs (fun v hv=>⟨(hF.bys v hv).1,hy v.1 (by rw[<-hvs];exact List.mem_map_of_mem hv)⟩)
 rw[hvs] at hpp
 have hPg:PgIs w (pgF vs) (pgY S.fs):=fun k=>by
  rcases hpp k with h|⟨v,⟨h1,h2⟩,_,h3,h4⟩
  ·exact .inl h
  ·exact .inr ⟨v.2.1,v.2.2,v.1.y,by rw[h3,h2],h4,h2,h1⟩
 clear hpp hlg hF hvs hy hn
 generalize pgF vs=f at *
 go_enter Tryz.func226,Tryz.ntmps226
 go_wp2_with (go_at_call 168;refine HL.mono ?_;rintro e w1 ⟨rfl,⟨es,clock,hm,he,hst⟩,hB⟩)
 go_ret
 have hB2:Below w1.heap.size w1 (w1.alloc (.cells #[.map (some w.heap.size)] 87)):=(Below.refl _ _).alloc (zG _) _
 exact⟨_,_,es,clock,f,rfl,BlkIs.new w1 _ _,hm.below hB2 hm.lt,he,hst,(hPg.grow hB).grow hB2,hB.trans (hB2.mono hB.size),zG _⟩
section
variable {ρ:Operand->Value}{w:World}{o:Oper}{x y:Operand}{r clock:Nat}{k:Int}{es:Array MapEntry}{f:Int->Option Value}
theorem x_lookupFY {v:Value}(he:EnV es f)(hm:MapIs w r es clock)(hf:f k=some v)(ho:o.op = .lookup 87 x y false)(h1:ρ x = .map (some r))(h2:ρ y = .int .i64 k):(execOp ρ o).run Tryz.prog w = .ok (.value v) w:=by
 have:=x_lookupF he hm ho h1 h2
 rw[hf] at this
 exact this
end
def pgEnc (x:Nat×(Option Addr×Nat)):Array Value:=#[.int .i64 (x.1:Int),.slice x.2.1 512 x.2.2]
def PgRd (K:List Nat)(Y:Int->Option (List UInt8))(pre:List (Nat×(Option Addr×Nat)))(x:Nat×(Option Addr×Nat))(W:World):Prop :=
 K[pre.length]? = some x.1/\pre.map (·.1)=K.take pre.length/\∃y,Y (x.1:Int)=some y/\y.length=512/\InB W W.heap.size x.2.1 x.2.2 y
theorem pages1_in (n:Nat)(hn:6<=n)(l q r many clock:Nat)(es:Array MapEntry)(f:Int->Option Value)(Y:Int->Option (List UInt8))(J Jx:List (Nat×(Option Addr×Nat))->World->Prop)(W:World)(Mu:Nat->Prop)(hMq:¬ Mu q)(hMr:¬ Mu r)(hMb:∀k,Mu k->∃em cm,W.heap[k]? = some (.map em cm))(hJA:AbSm W.heap.size J)
  (hY:∀pre x W1,J pre W1->PgRd (keysV f many) Y pre x W1->YieldAt Fence.wide (n - 1) Tryz.prog l (pgEnc x) W1 fun e W' =>
   (e = .returned (.bool true)/\J (pre++[x]) W'/\KeepOut Mu W.heap.size W1 W')∨(e = .returned (.bool false)/\Jx (pre++[x]) W'/\KeepOut (fun _=>True) W.heap.size W1 W'))
  (hq:BlkIs W q 87 #[.map (some r)]) (hm:MapIs W r es clock) (he:EnV es f) (hst:MapKept.Stamped es clock) (hP:PgIs W f Y) (hlt:KeysB f many) (hmany:many<=40000) (h0:J [] W) :
  CallsIn Fence.wide n Tryz.prog 241 #[.func (.yield l) #[] #[],.pointer (some ⟨q,0,none⟩)] W fun e W'=>(∃v,e = .returned v) /\
   ((∃ys,ys.map (·.1)=keysV f many/\J ys W')∨(∃pre,pre.length<=(keysV f many).length/\Jx pre W')):=by
 have h1:1<=n:=by omega
 have hcB:=hq.boxed
 have HS:=sortedV_gives W r many clock es f hm he hst hlt hmany
 have hKm:∀k∈keysV f many,(f (k:Int)).isSome=true:=fun k hk=>(keysV_mem.1 hk).2
 obtain⟨K,hK⟩:∃K,K=keysV f many:=⟨_,rfl⟩
 have hKl:K.length<=40000:=by rw[hK];exact zP (keysV_len f many) hmany
 rw[<-hK] at HS hKm
 rw[<-hK] at hY ⊢
 clear hK hlt hst
 refine callsIn_of_wp Tryz.func241 rfl trivial ?_ rfl
 simp only[Tryz.ntmps241,zS,zN,qB,qH,qI,zU,zV,zZ,zX,zQ,zW]
 gi_wp2
 refine wpIn_scope_wide ?_
 gi_wp2
 refine wpIn_label ?_
 gi_wp2_with (refine⟨trivial,?_⟩;gi_at_call 242;refine(callsIn_wide.2 HS).mono ?_;rintro e W1 ⟨v,rfl,hrow,hB1⟩;obtain⟨A,c,rfl,hKc,hcell⟩:=row_intsV hrow)
 have hJ1:J [] W1:=hJA.grow h0 hB1
 have hKo1:KeepOut Mu W.heap.size W W1:=KeepOut.grow _ _ hB1
 clear HS hrow hcB hB1
 gi_loopw [8] (fun i wr=>∃pre:List (Nat×(Option Addr×Nat)),i = .int .i64 (pre.length:Int)/\pre.length<=K.length/\pre.map (·.1)=K.take pre.length/\J pre wr/\KeepOut Mu W.heap.size W wr/\KeepOut Mu W.heap.size W1 wr)
  (fun i _=>K.length - (intOf i).toNat)
 case atStart=>exact⟨[],rfl,Nat.zero_le _,rfl,hJ1,hKo1,KeepOut.refl _ _ _⟩
 case round =>
  obtain⟨pre,rfl,hpl,hpm,hJs,hko0,hko⟩:=hrel
  by_cases hlt:pre.length<K.length
  ·obtain⟨gb,rfl,hgb,hgc⟩:=hcell pre.length hlt
   have hgc2:=hko.cell (p:=⟨gb,pre.length,none⟩) hgc (fun h=>absurd (show gb<W.heap.size from h) (by omega))
   have hcBr:=(hko0.blk hq (fun _=>hMq)).boxed
   have hmr:MapIs wr r es clock:=hko0.2 _ _ hm (fun _=>hMr)
   have hk0:K[pre.length]? = some K[pre.length]:=zI hlt
   have hkS:=hKm K[pre.length] (qJ hlt)
   obtain⟨k,hk⟩:∃k,k=K[pre.length]:=⟨_,rfl⟩
   rw[<-hk] at hgc2 hk0 hkS
   rcases hP (k:Int) with⟨h2,_⟩|⟨A0,c0,y,h2,h3,h4,h5⟩
   ·rw[h2] at hkS
    cases hkS
   ·have h5r:InB wr wr.heap.size A0 c0 y:=by
     refine⟨h5.le,h5.max,h5.nil,fun h0 => ?_⟩
     obtain⟨g,o,e,hg,hc⟩:=h5.lies h0
     have hMg:¬ Mu g:=fun hmu=>by
      obtain⟨em,cm,ho⟩:=hMb g hmu
      have hc0:=hc 0 h0
      simp[World.cell?,ho] at hc0
     exact⟨g,o,e,zO hg hko0.1,fun j hj=>hko0.cell (hc j hj) (fun _=>hMg)⟩
    have hC:=clone_gives wr A0 c0 y h5r (by omega)
    rw[h4] at hC
    have hpm':∀z,(pre++[(k,z)]).map (·.1)=K.take (pre++[(k,z)]).length:=fun z=>by
     rw[List.map_append,hpm,zY,List.length_singleton,List.take_add_one,hk0]
     rfl
    have hwk:IntKind.i64.wrap ((pre.length:Int)+1)=(pre.length:Int)+1:=wrap_i64_id' _ (by omega) (by omega)
    have H2:=Lib.hid h2
    have H3:=Lib.hid h3
    have H4:=Lib.hid h4
    have HPM:=Lib.hid hpm
    have HPM':=Lib.hid hpm'
    have HK:=Lib.hid hk
    have HK0:=Lib.hid hk0
    clear h2 h3 h4 hpm hpm' hk hk0 hcell hKm hP h5
    gi_wp2_with (first
     | (refine wpV_exec rfl (x_lookupFY he hmr H2.out rfl rfl rfl) ?_)
     | (refine⟨trivial,?_⟩;gi_at_call 67;refine(callsIn_wide.2 hC).mono ?_;rintro e W6 ⟨v6,rfl,own6,hB6⟩;obtain⟨A6,c6,rfl,hin6⟩:=own6.inB;rw[H4.out];obtain⟨fn,tmps,assign,body,hyy,hR⟩:=hY pre (k,(A6,c6)) W6 (hJA.grow hJs hB6) ⟨HK0.out,HPM.out,y,H3.out,H4.out,hin6⟩;unfold pgEnc at hyy;dsimp only at hyy))
    refine hR.mono ?_
    rintro e W4 (⟨rfl,hJ4,hk4⟩|⟨rfl,hJx4,_⟩)
    ·have k6:KeepOut Mu W.heap.size wr W4:=(KeepOut.grow Mu W.heap.size hB6).trans hk4
     have hle4:(pre++[(k,(A6,c6))]).length<=K.length:=by simp;omega
     gi_wp2
     go_roundw
     case rel=>exact⟨_,by simp,hle4,HPM'.out _,hJ4,hko0.trans k6,hko.trans k6⟩
     case measure=>simp[intOf];omega
    ·have hle4:(pre++[(k,(A6,c6))]).length<=K.length:=by simp;omega
     gi_wp2
     simp only[Exit.noGoto]
     go_end0
     exact⟨⟨_,rfl⟩,.inr ⟨_,hle4,hJx4⟩⟩
  ·have hpk:pre.map (·.1)=K:=by rw[hpm,qA (by omega)]
   have HPK:=Lib.hid hpk
   clear hpk hpm
   gi_wp2
   simp only[Exit.noGoto]
   go_end0
   exact⟨⟨_,rfl⟩,.inl ⟨pre,HPK.out,hJs⟩⟩
theorem pages1_seqG (n:Nat)(hn:6<=n)(q r many clock:Nat)(es:Array MapEntry)(f:Int->Option Value)(Y:Int->Option (List UInt8))(Mu:Nat->Prop)(hMq:¬ Mu q)(hMr:¬ Mu r)(w:World)(hMb:∀k,Mu k->∃em cm,w.heap[k]? = some (.map em cm))
  (hq:BlkIs w q 87 #[.map (some r)]) (hm:MapIs w r es clock) (he:EnV es f) (hst:MapKept.Stamped es clock) (hP:PgIs w f Y) (hlt:KeysB f many) (hmany:many<=40000) :
  SeqS Fence.wide n Tryz.prog 241 #[.pointer (some ⟨q,0,none⟩)] pgEnc Mu (PgRd (keysV f many) Y) (fun ys=>ys.map (·.1)=keysV f many) (fun pre=>pre.length<=(keysV f many).length) w:=fun l J Jx W hW hJ _ hY h0 =>
 pages1_in n hn l q r many clock es f Y J Jx W Mu hMq hMr (fun k hk=>by
  obtain⟨em,cm,h⟩:=hMb k hk
  exact⟨em,cm,(hW.block k (zH.1 h).1).trans h⟩) hJ hY (hq.below hW hq.lt) (hm.below hW hm.lt) he hst (hP.grow hW) hlt hmany h0
end Go.Proofs.YtnlimngkagmjpaaGreat
namespace Go.Proofs.YtnlimngkagmjpaaGreat
open Go Go.RowKit Lou
def MayApp (fr pg:Int)(S:LgS)(z:Int)(n:Nat)(pw:Nat->Int×List UInt8):Prop:=(1<=n/\0<=z/\z<=pg/\∀k,k<n->0<=(pw k).1/\(pw k).1<pg)/\(S.fs.length:Int)+(n:Int)<=fr
structure StP (fr pg:Int)(G:Nat->List UInt8)(S:LgS)(i:Nat):Prop where
 li:∃hz,LI G S hz
 sr:S.sr<=i+1
 ep:S.ep<=i+1
 fs:(S.fs.length:Int)<=fr
 sz:0<=S.sz/\S.sz<=pg
theorem StP.y {fr pg:Int}{G:Nat->List UInt8}{S:LgS}{i:Nat}(h:StP fr pg G S i):∀x∈S.fs,x.y.length=512:=fun x hx=>by
 obtain⟨hz,hli⟩:=h.li
 obtain⟨j,hj,rfl⟩:=List.getElem_of_mem hx
 exact((frOk_iff _ _ _ _ _).1 (hli.on.fr.ok j hj).2.2.1).1
theorem StP.begun {fr pg:Int}(h1:0<=fr)(h2:0<=pg):StP fr pg (laid (fun _=>zer64) (wrL 1 (hEnc 1 1 0 0) 1)) ⟨1,1,0,[]⟩ 0 :=
 ⟨⟨0,LI.begun⟩,zG _,zG _,h1,⟨Int.le_refl _,h2⟩⟩
theorem rightC_iff {fr pg z:Int}{n:Nat}{xs:Nat->Int×Option Addr×Nat}{pw:Nat->Int×List UInt8}(hpl:planOk fr pg=true)(hx:∀k,k<n->(pw k).1=(xs k).1):RightC fr pg z n xs↔(1<=n/\0<=z/\z<=pg/\∀k,k<n->0<=(pw k).1/\(pw k).1<pg):=by
 have e:∀i:Int,plE (planOk fr pg) i pg=0↔0<=i/\i<pg:=fun i=>by
  rw[hpl]
  simp[plE]
 unfold RightC
 constructor
 ·rintro⟨h1,h2,h3,h4⟩
  exact⟨h1,h2,h3,fun k hk=>by rw[hx k hk];exact(e _).1 (h4 k hk)⟩
 ·rintro⟨h1,h2,h3,h4⟩
  exact⟨h1,h2,h3,fun k hk=>(e _).2 (by rw[<-hx k hk];exact h4 k hk)⟩
section
variable {fr pg z x:Int}{G:Nat->List UInt8}{S S':LgS}{i n:Nat}{xs:Nat->Int×Option Addr×Nat}{pw:Nat->Int×List UInt8}{s':DS}
theorem app_plain (h:StP fr pg G S i)(hi:i<=1000)(hpl:planOk fr pg=true)(hx:∀k,k<n->(pw k).1=(xs k).1)(hy:∀k,k<n->(pw k).2.length=512)(left:Int)(ha:AppOut fr pg ⟨G,[],left,false⟩ S n xs pw z x s' S') :
  ∃G',s'=⟨G',[],left,false⟩/\StP fr pg G' S' (i+1)/\((x=0/\MayApp fr pg S z n pw/\S'=newS S z n pw)∨(¬ x=0/\¬ MayApp fr pg S z n pw/\S'=S/\G'=G)):=by
 have hpr:=(planOk_iff fr pg).1 hpl
 obtain⟨⟨hz,hli⟩,h1,h2,h3,h4⟩:=id h
 have hw:StP fr pg G S (i+1):=⟨⟨hz,hli⟩,by omega,by omega,h3,h4⟩
 have hR:=rightC_iff (z:=z) hpl hx
 rcases ha with⟨hn,rfl,rfl,rfl⟩|⟨_,hf,rfl,rfl,rfl⟩|⟨hr,hf,fs',r,rfl,hr2,rfl,rfl,hS⟩
 ·exact⟨G,rfl,hw,.inr ⟨by decide,fun hm=>hn (hR.2 hm.1),rfl,rfl⟩⟩
 ·exact⟨G,rfl,hw,.inr ⟨by decide,fun hm=>by have:=hm.2;omega,rfl,rfl⟩⟩
 ·have hm:=hR.1 hr
  have hp:PwOk pg z n pw:=⟨hm.2.2.2,hy,hm.2.1,hm.2.2.1⟩
  obtain⟨G2,e,hLI⟩:=hli.append hp (by omega) (by omega) hm.1 (by omega) ⟨h4.1,by omega⟩ left
  rw[e] at hr2
  subst hr2
  have hS2:S'=newS S z n pw:=by
   rcases hS with⟨_,e⟩|⟨h,_⟩
   ·exact e
   ·exact absurd rfl h
  subst hS2
  have hlen:=addK_length S.ep z S.fs n pw n
  refine⟨G2,rfl,⟨⟨_,hLI⟩,by show S.sr+1<=_;omega,by show S.ep<=_;omega,?_,⟨hm.2.1,hm.2.2.1⟩⟩,.inl ⟨rfl,⟨hm,hf⟩,rfl⟩⟩
  show ((addK S.ep z S.fs n pw n).length:Int)<=fr
  omega
end
def flFC (l:Nat)(fr pg:Int):Array Value:=#[.pointer (some ⟨l,0,none⟩),.int .i64 fr,.int .i64 pg]
theorem fnone_gives {w:World}{f l:Nat}{fr pg:Int}(hb:BlkIs w f 75 (flFC l fr pg)):Calls Tryz.prog 63 #[.pointer (some ⟨f,0,none⟩)] w fun e w'=>e = .returned (.bool false)/\w=w':=by
 have c0:w.cell? ⟨f,0,none⟩=some (.pointer (some ⟨l,0,none⟩)):=by rw[hb.cell];rfl
 go_enter Tryz.func63,Tryz.ntmps63
 go_wp2
 go_ret
 exact⟨rfl,rfl⟩
theorem fsize_gives {w:World}{f l d:Nat}{fr pg:Int}{S:LgS}(hb:BlkIs w f 75 (flFC l fr pg))(hL:LogIs w l d fr pg S):Calls Tryz.prog 33 #[.pointer (some ⟨f,0,none⟩)] w fun e w'=>e = .returned (.int .i64 S.sz)/\w=w':=by
 have HN:=fnone_gives hb
 have HS:=lsizeL_gives hL
 have c0:w.cell? ⟨f,0,none⟩=some (.pointer (some ⟨l,0,none⟩)):=by rw[hb.cell];rfl
 go_enter Tryz.func33,Tryz.ntmps33
 go_wp2_with (first
  | (go_at_call 63;refine HN.mono ?_;rintro e w' ⟨rfl,rfl⟩)
  | (go_at_call 64;refine HS.mono ?_;rintro e w' ⟨rfl,rfl⟩))
 go_ret
 exact⟨rfl,rfl⟩
end Go.Proofs.YtnlimngkagmjpaaGreat
namespace Go.Proofs.YtnlimngkagmjpaaGreat
open Go Go.RowKit Lou Go.Shelf
attribute [local go_sem] Oper.semAt_some
section
variable {F:Fence}{n:Nat}{P:Program}{ops:Array Oper}{Q:Exit->Act->World->Prop}{o:Oper}{rest:List Oper}{a:Act}{w w':World}
theorem wpR_mput {T:TypeId}{x y z:Operand}(hg:o.guard=none)(ho:o.op = .mapUpdate T x y z)(hr:(execOp a.eval o).run P w = .ok .skip w')(h:wpListIn F n P ops Q rest (a.put o.dst undef) w'):wpListIn F n P ops Q (o::rest) a w :=
 wpListIn_plain hg fun K' hK'=>by
  unfold Oper.wpIn
  refine⟨by simp[Oper.about,ho],?_⟩
  rw[Oper.semAt_plain F _ _ (by rw[ho];intro c hc';cases hc'),hr]
  exact hK' _ _ h
theorem x_makeMap {ρ:Operand->Value}(ho:o.op = .makeMap 87 none):(execOp ρ o).run Tryz.prog w = .ok (.value (.map (some w.heap.size))) (w.alloc (.map #[] 0)):=by
 unfold execOp
 simp only[ho,Option.map_none,run_makeMap,Sem.run_bind,Result.andThen_ok,Sem.run_pure]
theorem wpR_mputV {r clock:Nat}{k:Int}{es:Array MapEntry}{f:Int->Option Value}{l:Value}(hg:o.guard=none)(x y z:Operand)(ho:o.op = .mapUpdate 87 x y z)(h1:a.eval x = .map (some r))(h2:a.eval y = .int .i64 k)(h3:a.eval z=l)(he:EnV es f)(hst:MapKept.Stamped es clock)(hm:MapIs w r es clock)
  (h:∀es' clock' w',MapIs w' r es' clock'->EnV es' (fsetV f k (some l))->MapKept.Stamped es' clock'->w.grownBy w' (some r)->wpListIn F n Tryz.prog ops Q rest (a.put o.dst undef) w'):wpListIn F n Tryz.prog ops Q (o::rest) a w:=by
 obtain⟨es',clock',hr,he',hs'⟩:=x_putV (ρ:=a.eval) (o:=o) he hst hm ho h1 h2 h3
 exact wpR_mput hg ho hr (h es' clock' _ (hm.set _ _) he' hs' (setMap_grown hm _ _))
end
def OwnOf (W:World)(fm:Int->Option Value)(Y:Int->Option (List UInt8))(ks:List Nat):Prop :=
 ∀k:Int,((∀m∈ks,(m:Int)≠k)/\fm k=none)∨(∃m∈ks,(m:Int)=k)/\∃A c y,fm k=some (.slice A 512 c)/\Y k=some y/\y.length=512/\InB W W.heap.size A c y
theorem OwnOf.abSm {B:Nat}{X Z:World}{row:Option Nat}{fm:Int->Option Value}{Y:Int->Option (List UInt8)}{ks:List Nat}(h:OwnOf X fm Y ks)(hg:X.grownBy Z row)(hr:∀r,row=some r->B<=r/\∃o:Obj,X.heap[r]? = some o/\Small o):OwnOf Z fm Y ks:=fun k=>by
 rcases h k with h1|⟨h1,A,c,y,h2,h3,h4,h5⟩
 ·exact .inl h1
 ·exact .inr ⟨h1,A,c,y,h2,h3,h4,(h5.abSm (by omega) hg (fun r e=>(hr r e).2)).more hg.size⟩
theorem OwnOf.add {X Z:World}{r:Nat}{es:Array MapEntry}{clock:Nat}{fm:Int->Option Value}{Y:Int->Option (List UInt8)}{ks:List Nat}{k:Nat}{A:Option Addr}{c:Nat}{y:List UInt8}(h:OwnOf X fm Y ks)(hm:MapIs X r es clock)(hg:X.grownBy Z (some r))(hY:Y (k:Int)=some y)(hy:y.length=512)(hin:InB X X.heap.size A c y) :
  OwnOf Z (fsetV fm (k:Int) (some (.slice A 512 c))) Y (ks++[k]):=by
 have hG:GrowBut (fun j=>j=r) X Z:=GrowBut.grown hg (fun q e=>by injection e with e;exact .inl e.symm)
 have hnr:∀{A:Option Addr} {c:Nat} {y:List UInt8},InB X X.heap.size A c y->InB Z Z.heap.size A c y:=fun {A c y} hi=>hG.inB hi (fun g o e h0 hgr=>by
  obtain⟨g',o',e',_,hc⟩:=hi.lies h0
  rw[e] at e'
  injection e' with e'
  injection e' with e1 e2
  subst e1 hgr
  have hc0:=hc 0 h0
  have hm':X.heap[g]? = some (.map es clock):=hm
  simp[World.cell?,hm'] at hc0)
 intro q
 unfold fsetV
 by_cases hq:q=(k:Int)
 ·subst hq
  exact .inr ⟨⟨k,by simp,rfl⟩,A,c,y,by rw[if_pos rfl],hY,hy,hnr hin⟩
 ·rw[if_neg hq]
  rcases h q with⟨h1,h2⟩|⟨⟨m,hm1,hm2⟩,A2,c2,y2,h2,h3,h4,h5⟩
  ·refine .inl ⟨fun m hm e => ?_,h2⟩
   rcases List.mem_append.1 hm with hm|hm
   ·exact h1 m hm e
   ·rw[List.mem_singleton] at hm
    subst hm
    exact hq e.symm
  ·exact .inr ⟨⟨m,by simp[hm1],hm2⟩,A2,c2,y2,h2,h3,h4,hnr h5⟩
theorem MapIs.abSm {B r clock:Nat}{es:Array MapEntry}{X Z:World}{row:Option Nat}(hr:r<B)(h:MapIs X r es clock)(hg:X.grownBy Z row)(hrow:∀q,row=some q->B<=q):MapIs Z r es clock :=
 h.grown hg (fun e=>by have:=hrow _ e.symm;omega)
def OwnRel (W:World)(r:Nat)(Y:Int->Option (List UInt8))(ks:List Nat):Prop:=∃es clock f,MapIs W r es clock/\EnV es f/\MapKept.Stamped es clock/\OwnOf W f Y ks
theorem pages7_in (n:Nat)(hn:8<=n)(w:World)(f l d:Nat)(fr pg:Int)(S:LgS)(hb:BlkIs w f 75 (flFC l fr pg))(hL:LogIs w l d fr pg S)(hn2:S.fs.length<=2000)(hy:∀x∈S.fs,x.y.length=512)(P:Nat)(hP2:P<=40000)(hYb:∀k y,pgY S.fs k=some y->0<=k/\k<(P:Int)) :
  CallsIn Fence.wide n Tryz.prog 193 #[.pointer (some ⟨f,0,none⟩)] w fun e w'=>∃r es clock fm,e = .returned (.map (some r))/\MapIs w' r es clock/\EnV es fm/\PgIs w' fm (pgY S.fs)/\Below w.heap.size w w':=by
 have h1:1<=n:=by omega
 obtain⟨W2,hW2⟩:∃W2,W2=((w.alloc (.map #[] 0)).alloc (.cells #[.map (some w.heap.size)] 87)):=⟨_,rfl⟩
 have hBm:Below w.heap.size w (w.alloc (.map #[] 0)):=(Below.refl _ w).alloc (zG _) _
 have hB2:Below w.heap.size w W2:=by rw[hW2];exact hBm.alloc (by simp) _
 have s2:W2.heap.size=w.heap.size+1+1:=by rw[hW2];simp
 have hm2:MapIs W2 w.heap.size #[] 0:=by
  rw[hW2]
  exact(show MapIs (w.alloc (.map #[] 0)) w.heap.size #[] 0 from heap_alloc_new w _).below ((Below.refl _ _).alloc (zG _) _) (by simp)
 have b2:BlkIs W2 (w.heap.size+1) 87 #[.map (some w.heap.size)]:=by
  have:=BlkIs.new (w.alloc (.map #[] 0)) 87 #[.map (some w.heap.size)]
  rw[World.size_alloc] at this
  rw[hW2]
  exact this
 have HP:=pagesG_gives W2 l d fr pg S (hL.grow hB2) hn2 hy
 have c0:W2.cell? ⟨f,0,none⟩=some (.pointer (some ⟨l,0,none⟩)):=by rw[(hb.below hB2 hb.lt).cell];rfl
 rw[hW2] at c0
 refine callsIn_of_wp_marks Tryz.func193 rfl trivial ?_ rfl
 simp only[Tryz.ntmps193,zS,zN,qB,qH,qI,zU,zV,zZ,zX,zQ,zW]
 have HW2:=Lib.hid hW2
 clear hW2
 gi_wp2_with (first
  | (refine wpV_exec rfl (x_makeMap rfl) ?_)
  | (refine⟨trivial,?_⟩;gi_at_call 226;rw[<-HW2.out];refine(callsIn_wide.2 HP).mono ?_;rintro e W4 ⟨q,r,es,clock,fm,rfl,hq,hm,he,hst,hPg,hB4,hrW⟩))
 have hBw:Below w.heap.size w W4:=hB2.trans (hB4.mono hB2.size)
 have hrm:MapIs W4 w.heap.size #[] 0:=hm2.below hB4 hm2.lt
 have b4:=b2.below hB4 b2.lt
 have hKB:=hPg.keys hYb
 have hkm:∀k:Nat,k∈keysV fm P↔(pgY S.fs (k:Int)).isSome=true:=fun k=>by
  rw[keysV_mem]
  rcases hPg (k:Int) with⟨h2,h3⟩|⟨A,c,y,h2,h3,_⟩
  ·rw[h2,h3];simp
  ·rw[h2,h3]
   have:=hYb _ _ h3
   simp
   omega
 have hqr:q≠w.heap.size:=fun e=>by
  subst e
  have h1:W4.heap[w.heap.size]? = some (.map #[] 0):=hrm
  have h2:W4.heap[w.heap.size]? = some (.cells #[.map (some r)] 87 (0,0)):=hq
  rw[h1] at h2
  cases h2
 have hrr:r≠w.heap.size:=by omega
 clear HP hL hb c0 hn2 hy hm2 b2 hB2 HW2
 refine wpIn_rangeFunc_S rfl h1 (gf:=241) (lb:=#[.pointer (some ⟨q,0,none⟩)]) rfl trivial (enters_of Tryz.func241 (by kernel_rfl) rfl)
  (pages1_seqG (n - 1) (by omega) q r P clock es fm (pgY S.fs) (fun k=>k=w.heap.size) hqr hrr W4 (fun k e=>by subst e;exact⟨_,_,hrm⟩) hq hm he hst hPg hKB hP2) (Below.refl _ _) (fun _=>rfl)
  (fun pre V=>OwnRel V w.heap.size (pgY S.fs) (pre.map (·.1))/\BlkIs V (w.heap.size+1) 87 #[.map (some w.heap.size)]/\Below w.heap.size w V/\W4.heap.size<=V.heap.size)
  (fun _ _ _=>False)
  ?own ?own2 ?ownR ⟨⟨#[],0,fun _=>none,hrm,EnV.empty,MapKept.stamped_empty 0,fun k => .inl ⟨by simp,rfl⟩⟩,b4,hBw,zG _⟩ ?act ?assign ?body ?done ?stop
 case own =>
  rintro pre X Y row ⟨⟨es2,c2,f2,i1,i2,i3,i4⟩,i5,i6,i7⟩ hgr hr
  have hr1:∀r,row=some r->W4.heap.size<=r:=fun r e=>(hr r e).1
  have hs4:=hB4.size
  exact⟨⟨es2,c2,f2,i1.abSm (B:=W4.heap.size) (by omega) hgr hr1,i2,i3,i4.abSm (B:=W4.heap.size) hgr hr⟩,i5.abN (B:=W4.heap.size) (by omega) hgr hr1,below_abN (B:=W4.heap.size) (by omega) (by omega) i6 hgr hr1,zP i7 hgr.size⟩
 case own2 =>
  rintro c pre X Y row h _ _
  exact h.elim
 case ownR =>
  rintro pre x _ X Y row ⟨e1,e2,y,e3,e4,e5⟩ hgr hr
  exact⟨e1,e2,y,e3,e4,InB.ownFrom (B:=W4.heap.size) _ _ _ () X Y row e5 hgr hr⟩
 case assign =>
  intro l1 x V K hK
  simp only[pgEnc]
  gi_wp2
  exact hK
 case body =>
  rintro l1 pre ⟨x1,A6,c6⟩ V ⟨⟨es2,c2,f2,i1,i2,i3,i4⟩,i5,i6,i7⟩ ⟨_,_,y,e3,e4,e5⟩
  simp only at e3 e5
  have k1:=i5.boxed
  have H3:=Lib.hid e3
  have H4:=Lib.hid e4
  have hs4:=hB4.size
  clear e3 e4
  gi_wp2_with (refine wpR_mputV rfl (.tmp 14) (.tmp 15) (.tmp 16) rfl rfl rfl rfl i2 i3 i1 ?_;intro es7 c7 W7 hm7 he7 hs7 hg7)
  refine⟨⟨hg7.size,fun k o hk hm=>(hg7.block k (zH.1 hk).1 (fun e=>by injection e with e;exact hm (by omega) e)).trans hk⟩,⟨es7,c7,_,hm7,he7,hs7,?_⟩,i5.grownMap i1 hg7,i6.trans (grown_below hg7 (by omega) (fun r e=>by injection e with e;omega)),zP i7 hg7.size⟩
  rw[List.map_append]
  exact i4.add i1 hg7 H3.out H4.out e5
 case done =>
  rintro D ys V hD hS ⟨⟨es2,c2,f2,i1,i2,i3,i4⟩,i5,i6,i7⟩ hK
  have k1:=i5.boxed
  rw[hS] at i4
  have hs4:=hB4.size
  gi_wp2
  have g2:=grownBy_putObj' V D (.deferred none)
  have hr2:∀r,some D=some r->W4.heap.size<=r/\∃o:Obj,V.heap[r]? = some o/\Small o:=fun r e=>by injection e with e;subst e;exact⟨hD,_,hK,trivial⟩
  have j4:=i4.abSm (B:=W4.heap.size) g2 hr2
  refine⟨by simp,.inl ⟨D,_,rfl,run_takeDeferred hK,?_⟩⟩
  refine⟨_,results_tmp rfl _ _ _,w.heap.size,es2,c2,f2,rfl,i1.abSm (B:=W4.heap.size) (by omega) g2 (fun r e=>(hr2 r e).1),i2,fun k => ?_,below_abN (B:=W4.heap.size) (by omega) (by omega) i6 g2 (fun r e=>(hr2 r e).1)⟩
  rcases j4 k with⟨h2,h3⟩|⟨_,h2⟩
  ·refine .inl ⟨h3,?_⟩
   cases hY:pgY S.fs k with
   | none=>rfl
   | some y =>
    obtain⟨p1,p2⟩:=hYb k y hY
    have e:((k.toNat:Nat):Int)=k:=by omega
    exact absurd e (h2 k.toNat ((hkm k.toNat).2 (by rw[e,hY];rfl)))
  ·exact .inr h2
 case stop =>
  rintro D c pre V _ _ h _
  exact h.elim
end Go.Proofs.YtnlimngkagmjpaaGreat
namespace Go.Proofs.YtnlimngkagmjpaaGreat
open Go Go.RowKit Lou
def fpY (G:Nat->List UInt8)(at_:Nat)(S:LgS)(p:Nat):List UInt8:=(pgY S.fs (p:Int)).getD (secsOf G at_ 8)
def fillF (G:Nat->List UInt8)(at_ k:Nat):List UInt8:=secsOf G at_ k++zR (512 - 64*k) 0
theorem fillF_length {G:Nat->List UInt8}(hG:∀k,(G k).length=64)(at_ k:Nat)(hk:k<=8):(fillF G at_ k).length=512:=by
 unfold fillF
 rw[zY,secsOf_length hG,List.length_replicate]
 omega
theorem fillF_all (G:Nat->List UInt8)(at_:Nat):fillF G at_ 8=secsOf G at_ 8:=by
 unfold fillF
 rw[show 512 - 64*8=0 from rfl,List.replicate_zero,List.append_nil]
theorem fillF_next {G:Nat->List UInt8}(hG:∀k,(G k).length=64)(at_ k:Nat)(hk:k<8):spliceB (fillF G at_ k) (64*k) 64 (G (at_+k))=fillF G at_ (k+1):=by
 have h1:=secsOf_length hG at_ k
 have h2:=hG (at_+k)
 unfold spliceB fillF
 rw[List.take_append_of_le_length (by omega),qA (by omega),qA (by omega),h2,Nat.min_self,List.drop_append,List.drop_of_length_le (by omega),zQ,h1,List.drop_replicate]
 show _=secsOf G at_ k++G (at_+k)++_
 congr 2
 omega
theorem cut_page {ρ:Operand->Value}{w:World}{o:Oper}{x y z v:Operand}{g a b:Nat}(ho:o.op = .slice 22 x (some y) (some z) (some v))(h1:ρ x = .slice (some ⟨g,0,none⟩) 512 512)(h2:ρ y = .int .i64 (a:Int))(h3:ρ z = .int .i64 (b:Int))(h4:ρ v = .int .i64 (b:Int))(hab:b=a+64)(hb:b<=512) :
  (execOp ρ o).run Tryz.prog w = .ok (.value (.slice (some ⟨g,a,none⟩) 64 64)) w:=by
 have ht:Tryz.prog.underlying 22=some (.slice (Tryz.prog.elem 22)):=by kernel_rfl
 have ea:(⟨g,0,none⟩:Addr).add a=⟨g,a,none⟩:=by cases a<;>simp[Addr.add]
 have e1:a<=b:=by omega
 have e3:b - a=64:=by omega
 have e4:¬ b=a:=by omega
 have hbi:(b:Int)<=512:=by omega
 simp[execOp,ho,h1,h2,h3,h4,go_sem,run_sliceAt_slice _ _ _ _ _ _ ht,Result.andThen,e1,hbi,e3,e4,ea]
theorem fread_gives (w:World)(f l d many:Nat)(fr pg:Int)(s:DS)(S:LgS)(hb:BlkIs w f 75 (flFC l fr pg))(hL:LogIs w l d fr pg S)(hD:DkS w d many s)(hst:s.stopped=false)(hxl:s.xs.length<=1000000)(hn:S.fs.length<=2000)(hy:∀x∈S.fs,x.y.length=512)(hpl:planOk fr pg=true)(hmany:(many:Int)=2+9*fr+8*pg)(hmax:many<=1000000)(p:Nat)(hp:(p:Int)<pg)(at_:Nat)(hat:(at_:Int)=2+9*fr+8*(p:Int)) :
  Calls Tryz.prog 72 #[.pointer (some ⟨f,0,none⟩),.int .i64 (p:Int)] w fun e w'=>∃A c,e = .returned (.tuple #[.slice A 512 c,.int .i64 0])/\InB w' w'.heap.size A c (fpY (laid s.g s.xs) at_ S p)/\Below w.heap.size w w':=by
 have HN:=fnone_gives hb
 have hG:=laid_long hD
 have HA:=pageAt_gives (fr:=fr) (pg:=pg) (n:=(p:Int)) w
 have hp0:plE (planOk fr pg) (p:Int) pg=0:=by rw[hpl];simp[plE];omega
 unfold atV at HA
 rw[hp0,if_pos rfl,<-hat] at HA
 have HPG:∀W,Below w.heap.size w W->Calls Tryz.prog 122 #[.pointer (some ⟨l,0,none⟩),.int .i64 (p:Int)] W fun e w'=>PageOut (pgY S.fs (p:Int)) e w'/\Below W.heap.size W w':=fun W hB=>pageG_gives W l d fr pg S (hL.grow hB) hn hy (p:Int)
 have HDK:∀W,Below w.heap.size w W->Calls Tryz.prog 105 #[.pointer (some ⟨l,0,none⟩)] W fun e w'=>e = .returned (.pointer (some ⟨d,0,none⟩))/\W=w':=fun W hB=>by
  obtain⟨_,A,c,vs,hlg,_,_⟩:=hL.grow hB
  exact ldisk_gives hlg
 have HRD:∀(k:Nat) (W:World),k<8->Below w.heap.size w W->Calls Tryz.prog 123 #[.pointer (some ⟨d,0,none⟩),.int .i64 ((at_+k:Nat):Int)] W fun e w'=>∃q,e = .returned (.tuple #[.slice (some ⟨q,0,none⟩) 64 64,.int .i64 0])/\InB w' w'.heap.size (some ⟨q,0,none⟩) 64 (laid s.g s.xs (at_+k))/\Below W.heap.size W w':=fun k W hk hB =>
  read_gives W d many s.g s.xs s.left s.st (hD.grow hB) hst (at_+k) (by omega) hxl
 generalize laid s.g s.xs=G at *
 obtain⟨r,hr⟩:∃r,r=pgY S.fs (p:Int):=⟨_,rfl⟩
 have hr512:∀y,r=some y->y.length=512:=fun y h=>by
  obtain⟨x,hx,rfl⟩:=pgY_mem (hr▸h)
  exact hy x hx
 unfold fpY
 rw[<-hr] at HPG ⊢
 have hatb:at_<=100000:=by have:=(planOk_iff fr pg).1 hpl;omega
 clear hr hp0 hpl hmany hat hD hL hy hn hxl hst hp
 have c0:∀W,Below w.heap.size w W->W.cell? ⟨f,0,none⟩=some (.pointer (some ⟨l,0,none⟩)):=fun W hB=>by rw[(hb.below hB hb.lt).cell];rfl
 have hpl2:∀W,Below w.heap.size w W->W.rangeAt f 1 [.int .i64 fr,.int .i64 pg]:=fun W hB j v hj=>by
  rw[(hb.below hB hb.lt).cell]
  match j,hj with
  | 0,hj=>exact hj
  | 1,hj=>exact hj
  | j+2,hj=>exact absurd hj (by simp)
 cases r with
 | some y =>
  have hyl:=hr512 y rfl
  go_enter Tryz.func72,Tryz.ntmps72
  go_wp2_with fail
  refine wp_scope_straight ?_
  go_wp2_with (first
   | (go_at_call 63;refine HN.mono ?_;rintro e w' ⟨rfl,rfl⟩)
   | (refine wp_exec rfl (x_loadM rowPlan (hpl2 _ (Below.refl _ _)) rfl rfl rfl) ?_)
   | (go_at_call 121;refine HA.mono ?_;rintro e w1 ⟨rfl,hB1⟩;have c01:=c0 w1 hB1)
   | (go_at_call 122;refine(HPG _ hB1).mono ?_;rintro e w2 ⟨⟨A,c,rfl,hin⟩,hB2⟩))
  simp only[Exit.noGoto]
  refine⟨by simp,_,results_tmp2 rfl _ _ _,⟨A,c,by simp,hin,hB1.trans (hB2.mono hB1.size)⟩⟩
 | none =>
  clear hr512
  show Calls _ _ _ _ fun e w'=>∃A c,e = .returned (.tuple #[.slice A 512 c,.int .i64 0])/\InB w' w'.heap.size A c (secsOf G at_ 8)/\Below w.heap.size w w'
  rw[<-fillF_all]
  obtain⟨F,hF⟩:∃F:Nat->List UInt8,F=fillF G at_:=⟨_,rfl⟩
  have hF0:F 0=zR 512 0:=by rw[hF];rfl
  have HFN:=Lib.hid (show ∀k,k<8->spliceB (F k) (64*k) 64 (G (at_+k))=F (k+1) by rw[hF];exact fun k hk=>fillF_next hG at_ k hk)
  have HFL:=Lib.hid (show ∀k,k<=8->(F k).length=512 by rw[hF];exact fun k hk=>fillF_length hG at_ k hk)
  rw[<-hF]
  clear hF
  go_enter Tryz.func72,Tryz.ntmps72
  go_wp2_with fail
  refine wp_scope_straight ?_
  go_wp2_with (first
   | (go_at_call 63;refine HN.mono ?_;rintro e w' ⟨rfl,rfl⟩)
   | (refine wp_exec rfl (x_loadM rowPlan (hpl2 _ (Below.refl _ _)) rfl rfl rfl) ?_)
   | (go_at_call 121;refine HA.mono ?_;rintro e w1 ⟨rfl,hB1⟩;have c01:=c0 w1 hB1)
   | (go_at_call 122;refine(HPG _ hB1).mono ?_;rintro e w2 ⟨⟨A,c,rfl,hin⟩,hB2⟩)
   | (refine wp_makeB rfl _ _ rfl w2.heap.size .i64 .i64 512 rfl rfl (by omega) (zG _) ?_;intro w3 own3 hg3;have hB3:Below w2.heap.size w2 w3:=grown_below hg3 (zG _) (fun r hr=>by cases hr)))
  have hs12:w.heap.size<=w2.heap.size:=zP hB1.size hB2.size
  have hBw3:=hB1.trans ((hB2.trans (hB3.mono hB2.size)).mono hB1.size)
  obtain⟨g,hg⟩:∃g,g=w2.heap.size:=⟨_,rfl⟩
  rw[<-hF0,<-hg] at own3
  rw[<-hg]
  have hb3:BlkIs w3 g 5 ((F 0).map b8).toArray:=by
   have hl:=HFL.out 0 (by omega)
   have h:OwnB w3 g (.slice (some ⟨g,0,none⟩) (F 0).length (F 0).length) (F 0):=by rw[hl];exact own3
   exact h.blk.1
  have hwg:w.heap.size<=g:=by omega
  clear hg hF0 hin hg3 hB3 hB2 hB1 own3 HPG HA HN c01 hs12
  go_loopw [37,4] (fun i v wr=>∃k:Nat,k<=8/\i = .int .i64 (k:Int)/\v = .slice (some ⟨g,0,none⟩) 512 512/\BlkIs wr g 5 ((F k).map b8).toArray/\Below w.heap.size w wr) (fun i _ _=>8 - (intOf i).toNat)
  case atStart=>exact⟨0,by omega,rfl,rfl,hb3,hBw3⟩
  case round =>
   clear hb3 hBw3
   obtain⟨k,hk,rfl,rfl,hbr,hBr⟩:=hrel
   by_cases hlt:k<8
   ·have c0r:=c0 wr hBr
    have hwa:IntKind.i64.wrap ((at_:Int)+(k:Int))=((at_+k:Nat):Int):=by rw[wrap_i64_fr _ (by omega) (by omega)];omega
    have hw1:IntKind.i64.wrap ((k:Int)*64)=((64*k:Nat):Int):=by rw[wrap_i64_fr _ (by omega) (by omega)];omega
    have hw2:IntKind.i64.wrap ((k:Int)+1)=((k+1:Nat):Int):=by rw[wrap_i64_fr _ (by omega) (by omega)];omega
    have hw3:IntKind.i64.wrap (((k+1:Nat):Int)*64)=((64*k+64:Nat):Int):=by rw[wrap_i64_fr _ (by omega) (by omega)];omega
    obtain⟨m,hm⟩:∃m,m=k+1:=⟨_,rfl⟩
    obtain⟨a,ha⟩:∃a,a=64*k:=⟨_,rfl⟩
    obtain⟨b,hbb⟩:∃b,b=a+64:=⟨_,rfl⟩
    obtain⟨ak,hak⟩:∃ak,ak=at_+k:=⟨_,rfl⟩
    have HR:=HRD k wr hlt hBr
    rw[<-hm] at hw2 hw3
    rw[<-ha] at hw1 hw3
    rw[<-hbb] at hw3
    rw[<-hak] at hwa HR
    have hfl:=HFL.out k hk
    have hgl:=hG ak
    have f1:a<=b:=by omega
    have f2:b<=512:=by omega
    have f3:b - a=64:=by omega
    have f4:¬ b=a:=by omega
    have f5:(b:Int)<=512:=by omega
    have f6:(⟨g,0,none⟩:Addr).add a=⟨g,a,none⟩:=by cases a<;>simp[Addr.add]
    have HM:=Lib.hid hm
    have HAA:=Lib.hid ha
    have HBB:=Lib.hid hbb
    have HAK:=Lib.hid hak
    have HGL:=Lib.hid hgl
    have HFK:=Lib.hid hfl
    clear hm ha hbb hak hfl hgl HRD
    go_wp2_with (first
     | (go_at_call 105;refine(HDK _ hBr).mono ?_;rintro e w' ⟨rfl,rfl⟩)
     | (go_at_call 123;refine HR.mono ?_;rintro e w4 ⟨q,rfl,hin4,hB4⟩;have hb4:=hbr.below hB4 hbr.lt)
     | (refine wp_exec rfl (cut_page (a:=a) (b:=b) rfl rfl rfl rfl HBB.out (by have:=HBB.out;have:=HAA.out;omega)) ?_)
     | (refine wp_copyB rfl (.tmp 64) (.tmp 65) rfl g a (F k) (G ak) (some ⟨q,0,none⟩) 64 w4.heap.size 64 64 rfl (by rw[HGL.out];rfl) hb4 hin4 (by rw[HFK.out];have:=HAA.out;omega) ?_))
    have hsp:spliceB (F k) a 64 (G ak)=F m:=by
     rw[HAA.out,HAK.out,HM.out]
     exact HFN.out k hlt
    refine⟨⟨m,by have:=HM.out;omega,rfl,rfl,by rw[hsp];exact hb4.setRow _,below_setRow (hBr.trans (hB4.mono hBr.size)) hwg _⟩,by have:=HM.out;simp[intOf];omega⟩
   ·have hk8:k=8:=by omega
    have hfl:=HFL.out k hk
    subst hk8
    clear HDK HRD
    have hin:InB wr wr.heap.size (some ⟨g,0,none⟩) 512 (F 8):=by
     have h:=BlkIs.inBT hbr (by omega)
     rw[hfl] at h
     exact h
    go_wp2_with fail
    simp only[Exit.noGoto]
    refine⟨by simp,_,results_tmp2 rfl _ _ _,⟨some ⟨g,0,none⟩,512,rfl,hin,hBr⟩⟩
def toldF (Y:Nat->List UInt8)(sz:Int):Nat->List UInt8
 | 0=>[lowB sz]
 | k+1=>toldF Y sz k++Y k
theorem toldF_len {Y:Nat->List UInt8}(hY:∀k,(Y k).length=512)(sz:Int):∀k,(toldF Y sz k).length=1+512*k
 | 0=>rfl
 | k+1=>by
  have:=toldF_len hY sz k
  unfold toldF
  rw[zY,hY,this]
  omega
theorem fpY_len {G:Nat->List UInt8}(hG:∀k,(G k).length=64){S:LgS}(hy:∀x∈S.fs,x.y.length=512)(at_ p:Nat):(fpY G at_ S p).length=512:=by
 unfold fpY
 cases h:pgY S.fs (p:Int) with
 | none=>exact secsOf_length hG at_ 8
 | some y =>
  obtain⟨x,hx,rfl⟩:=pgY_mem h
  exact hy x hx
def fileY (G:Nat->List UInt8)(fr:Int)(S:LgS)(p:Nat):List UInt8:=fpY G (2+9*fr.toNat+8*p) S p
def pageW (fr:Int)(S:LgS)(p:Nat):List (Nat×List UInt8):=match pgY S.fs (p:Int) with|some y=>wrL (2+9*fr.toNat+8*p) y 8|none=>[]
def layW (fr:Int)(S:LgS):Nat->List (Nat×List UInt8)
 | 0=>[]
 | k+1=>layW fr S k++pageW fr S k
theorem pageW_first {fr:Int}{S:LgS}{p:Nat}{x:Nat×List UInt8}(h:x∈pageW fr S p):2+9*fr.toNat+8*p<=x.1/\x.1<2+9*fr.toNat+8*p+8:=by
 unfold pageW at h
 split at h
 ·exact wrL_first h
 ·cases h
theorem layW_first {fr:Int}{S:LgS}:∀{k:Nat} {x:Nat×List UInt8},x∈layW fr S k->2+9*fr.toNat<=x.1/\x.1<2+9*fr.toNat+8*k
 | 0,x,h=>by cases h
 | k+1,x,h=>by
  rcases List.mem_append.1 h with h|h
  ·have:=layW_first h
   omega
  ·have:=pageW_first h
   omega
theorem layW_tells {G:Nat->List UInt8}{fr:Int}{S:LgS}(hy:∀x∈S.fs,x.y.length=512):∀(k p:Nat),p<k->secsOf (laid G (layW fr S k)) (2+9*fr.toNat+8*p) 8=fileY G fr S p
 | k+1,p,hp=>by
  show secsOf (laid G (layW fr S k++pageW fr S k)) _ 8=_
  rw[laid_app]
  by_cases hpk:p<k
  ·rw[<-layW_tells hy k p hpk]
   exact secsOf_away _ 8 (fun q h1 h2=>laid_away _ _ q (fun x hx=>by have:=pageW_first hx;omega))
  ·obtain rfl:p=k:=by omega
   unfold fileY fpY pageW
   cases h:pgY S.fs (p:Int) with
   | none =>
    show secsOf (laid G (layW fr S p)) _ 8=secsOf G _ 8
    exact secsOf_away _ 8 (fun q h1 h2=>laid_away _ _ q (fun x hx=>by have:=layW_first hx;omega))
   | some y =>
    obtain⟨x,hx,rfl⟩:=pgY_mem h
    have hl:=hy x hx
    show secsOf (laid (laid G (layW fr S p)) (wrL (2+9*fr.toNat+8*p) x.y 8)) _ 8=x.y
    rw[secsOf_wrL _ _ x.y 8 (by omega),qA (by omega)]
theorem fileY_empty {G:Nat->List UInt8}{fr:Int}{S S':LgS}(hy:∀x∈S.fs,x.y.length=512)(hS:S'.fs=[]){k p:Nat}(hp:p<k):fileY (laid G (layW fr S k)) fr S' p=fileY G fr S p:=by
 have h:=layW_tells (G:=G) (fr:=fr) hy k p hp
 unfold fileY at h ⊢
 unfold fpY at h ⊢
 rw[hS]
 exact h
theorem LI.layW {G:Nat->List UInt8}{S:LgS}{hz:Nat}(h:LI G S hz){fr:Int}(hfs:(S.fs.length:Int)<=fr){xs:List (Nat×List UInt8)}{k:Nat}(hx:∀x∈xs,x∈layW fr S k)(hl:∀q,(laid G xs q).length=64):LI (laid G xs) S hz :=
 h.away (fun q hq=>laid_away _ _ q (fun x hx2=>by have:=layW_first (hx x hx2);omega)) hl
end Go.Proofs.YtnlimngkagmjpaaGreat
namespace Go.Proofs.YtnlimngkagmjpaaGreat
open Go Go.RowKit Lou Go.Shelf
attribute [local go_sem] Oper.semAt_some
theorem LogIs.turn {w w':World}{l d:Nat}{fr pg:Int}{S:LgS}(h:LogIs w l d fr pg S)(hg:w.grownBy w' (some d)):LogIs w' l d fr pg S:=by
 obtain⟨hld,A,c,vs,hlg,hF,hvs⟩:=h
 have hG:GrowBut (fun k=>k=d) w w':=GrowBut.grown hg (fun r e=>by injection e with e;exact .inl e.symm)
 exact⟨hld,A,c,vs,hG.blk hlg hld,hF.keep hG (fun k h _ => .inl h),hvs⟩
theorem layW_length {fr:Int}{S:LgS}:∀P,(layW fr S P).length<=8*P
 | 0=>zG 0
 | P+1=>by
  have:=layW_length (fr:=fr) (S:=S) P
  unfold layW
  rw[zY]
  unfold pageW
  split
  ·rw[wrL_length];omega
  ·simp;omega
theorem pageW_wrL (fr:Int)(S:LgS)(hy:∀x∈S.fs,x.y.length=512)(p:Nat):pageW fr S p=wrL (2+9*fr.toNat+8*p) ((pgY S.fs (p:Int)).getD []) (((pgY S.fs (p:Int)).getD []).length / 64):=by
 unfold pageW
 cases h:pgY S.fs (p:Int) with
 | none=>rfl
 | some y =>
  obtain⟨x,hx,rfl⟩:=pgY_mem h
  have:=hy x hx
  show wrL _ x.y 8=wrL _ x.y (x.y.length / 64)
  rw[this]
abbrev actL (f l d h r:Nat)(pg:Int)(k:Value)(ds:List Deferred)(u5 u6 u7 u8 u9 u10 u24 u25 u26 u27 u28 u29 u30 u31 u32 u33 u34 u35 u36 u37 u38 u39 u40 u41 u42 u43 u44 u45 u46 u47 u48 u49 u50:Value):Act:={ tmps:=#[.pointer (some ⟨f,0,none⟩),undef,.pointer (some ⟨h,0,none⟩),.pointer (some ⟨(h+1),0,none⟩),.map (some r),u5,u6,u7,u8,u9,u10,.pointer (some ⟨f,0,none⟩),.pointer (some ⟨f,0,none⟩),.pointer (some ⟨f,0,none⟩),.pointer (some ⟨l,0,none⟩),.pointer (some ⟨d,0,none⟩),.pointer (some ⟨f,0,none⟩),.map (some r),.pointer (some ⟨f,0,none⟩),.pointer (some ⟨f,0,none⟩),.pointer (some ⟨f,1,none⟩),.pointer (some ⟨f,2,none⟩),.int .i64 pg,k,u24,u25,u26,u27,u28,u29,u30,u31,u32,u33,u34,u35,u36,u37,u38,u39,u40,u41,u42,u43,u44,u45,u46,u47,u48,u49,u50],defers:=ds }
structure LayI (w:World)(f l d h r B:Nat)(fr pg:Int)(fm:Int->Option Value)(Y:Int->Option (List UInt8))(es:Array MapEntry)(clock:Nat)(e:Int)(Ds:List Nat)(V:World):Prop where
 er:BlkIs V h 27 #[.int .i64 e]
 dp:BlkIs V (h+1) 26 #[.pointer (some ⟨d,0,none⟩)]
 mp:MapIs V r es clock
 pgs:PgIs V fm Y
 fl:BlkIs V f 75 (flFC l fr pg)
 nd:Ds.Nodup
 mks:∀D∈Ds,B<=D/\V.heap[D]? = some (.deferred (some []))
 gr:w.grownBy V (some d)
 sz:B<=V.heap.size
theorem LayI.abSm {w V Z:World}{f l d h r B B2:Nat}{fr pg:Int}{fm:Int->Option Value}{Y:Int->Option (List UInt8)}{es:Array MapEntry}{clock:Nat}{e:Int}{Ds:List Nat}{row:Option Nat}(i:LayI w f l d h r B fr pg fm Y es clock e Ds V)(hh:h+1<B2)(hf:f<B2)(hr:r<B2)(hD:∀D∈Ds,D<B2)(hw:w.heap.size<=B2)(hg:V.grownBy Z row)(hrow:∀r,row=some r->B2<=r/\∃o:Obj,V.heap[r]? = some o/\Small o):LayI w f l d h r B fr pg fm Y es clock e Ds Z:=by
 have hr1:∀r,row=some r->B2<=r:=fun r e=>(hrow r e).1
 refine⟨i.er.abN (B:=B2) (by omega) hg hr1,i.dp.abN (B:=B2) hh hg hr1,i.mp.abSm hr hg hr1,fun k => ?_,i.fl.abN (B:=B2) hf hg hr1,i.nd,fun D hd=>⟨(i.mks D hd).1,?_⟩,grownBy_rest i.gr hg (by omega) hr1,zP i.sz hg.size⟩
 ·rcases i.pgs k with h1|⟨A,c,y,h2,h3,h4,h5⟩
  ·exact .inl h1
  ·exact .inr ⟨A,c,y,h2,h3,h4,(h5.abSm (by omega) hg (fun r e=>(hrow r e).2)).more hg.size⟩
 ·have h1:=(i.mks D hd).2
  exact(hg.block D (zH.1 h1).1 (fun e=>by have:=hr1 D e.symm;have:=hD D hd;omega)).trans h1
theorem LayI.turned {w V Z:World}{f l d h r B many:Nat}{s:DS}{fr pg:Int}{fm:Int->Option Value}{Y:Int->Option (List UInt8)}{es:Array MapEntry}{clock:Nat}{e:Int}{Ds:List Nat}(i:LayI w f l d h r B fr pg fm Y es clock e Ds V)(hD:DkS V d many s)(hd:d<h)(hdB:d<B)(hfd:f≠d)(hg:V.grownBy Z (some d)):LayI w f l d h r B fr pg fm Y es clock e Ds Z:=by
 have hG:GrowBut (fun k=>k=d) V Z:=GrowBut.grown hg (fun r e=>by injection e with e;exact .inl e.symm)
 obtain⟨rr,A',c',hdk,_⟩:=DkIs.has hD
 refine⟨hG.blk i.er (by omega),hG.blk i.dp (by omega),?_,fun k => ?_,hG.blk i.fl hfd,i.nd,fun D hd=>⟨(i.mks D hd).1,?_⟩,i.gr.trans hg,zP i.sz hg.size⟩
 ·refine i.mp.grown hg (fun e => ?_)
  injection e with e
  subst e
  have h1:V.heap[r]? = some (.map es clock):=i.mp
  have h2:V.heap[r]? = some (.cells _ _ (0,0)):=hdk
  rw[h1] at h2
  cases h2
 ·rcases i.pgs k with h1|⟨A,c,y,h2,h3,h4,h5⟩
  ·exact .inl h1
  ·exact .inr ⟨A,c,y,h2,h3,h4,hG.inB h5 (fun g o e h0=>by subst e;exact h5.notDisk h0 hdk)⟩
 ·have h1:=(i.mks D hd).2
  have:=(i.mks D hd).1
  exact(hg.block D (zH.1 h1).1 (fun e=>by injection e with e;omega)).trans h1
theorem layW_stop {fr:Int}{S:LgS}{s:DS}{k:Nat}(h:¬ (wrs s (layW fr S k)).2=0):∀j,wrs s (layW fr S (k+j))=wrs s (layW fr S k)
 | 0=>rfl
 | j+1=>by
  have ih:=layW_stop h j
  show wrs s (layW fr S (k+j)++pageW fr S (k+j))=_
  rw[wrs_append,ih,if_neg h]
theorem x_lookupG {ρ:Operand->Value}{w:World}{o:Oper}{x y:Operand}{r clock:Nat}{k:Int}{es:Array MapEntry}{f:Int->Option Value}{v:Value}(he:EnV es f)(hm:MapIs w r es clock)(hf:(f k).getD (.slice none 0 0)=v)(ho:o.op = .lookup 87 x y false)(h1:ρ x = .map (some r))(h2:ρ y = .int .i64 k):(execOp ρ o).run Tryz.prog w = .ok (.value v) w:=by
 have:=x_lookupF he hm ho h1 h2
 rw[hf] at this
 exact this
def LayRel (w:World)(f l d many h r B P:Nat)(fr pg:Int)(fm:Int->Option Value)(es:Array MapEntry)(clock:Nat)(s:DS)(S:LgS)(k:Nat)(Ds:List Nat)(V:World):Prop :=
 k<=P/\(∃s':DS,DkS V d many s'/\s'.Ok/\s'.xs.length<=s.xs.length+8*k/\wrs s (layW fr S k)=(s',0))/\LayI w f l d h r B fr pg fm (pgY S.fs) es clock 0 Ds V
def LayInv (w:World)(f l d many h r B P:Nat)(fr pg:Int)(fm:Int->Option Value)(es:Array MapEntry)(clock:Nat)(s:DS)(S:LgS)(a:Act)(V:World):Prop :=
 ∃(k:Nat) (Ds:List Nat) (u5 u6 u7 u8 u9 u10 u24 u25 u26 u27 u28 u29 u30 u31 u32 u33 u34 u35 u36 u37 u38 u39 u40 u41 u42 u43 u44 u45 u46 u47 u48 u49 u50:Value),a=actL f l d h r pg (.int .i64 (k:Int)) (marksD Ds) u5 u6 u7 u8 u9 u10 u24 u25 u26 u27 u28 u29 u30 u31 u32 u33 u34 u35 u36 u37 u38 u39 u40 u41 u42 u43 u44 u45 u46 u47 u48 u49 u50/\LayRel w f l d many h r B P fr pg fm es clock s S k Ds V
theorem LayI.setEr {w V:World}{f l d h r B:Nat}{fr pg:Int}{fm:Int->Option Value}{Y:Int->Option (List UInt8)}{es:Array MapEntry}{clock:Nat}{e1:Int}{Ds:List Nat}(i:LayI w f l d h r B fr pg fm Y es clock e1 Ds V)(hw:w.heap.size<=h)(hf:f<h)(hB:h<B)(e2:Int):LayI w f l d h r B fr pg fm Y es clock e2 Ds (V.setCell ⟨h,0,none⟩ (.int .i64 e2)):=by
 have g:=setCell_grown V ⟨h,0,none⟩ (.int .i64 e2)
 refine⟨i.er.set 0 _,i.dp.grown g (fun e=>by injection e with e;simp only at e;omega),i.mp.grown g (fun e => ?_),fun k => ?_,i.fl.grown g (fun e=>by injection e with e;simp only at e;omega),i.nd,fun D hd=>⟨(i.mks D hd).1,?_⟩,grownBy_rest i.gr g (zG _) (fun r e=>by injection e with e;subst e;exact hw),zP i.sz g.size⟩
 ·injection e with e
  simp only at e
  have h1:V.heap[r]? = some (.map es clock):=i.mp
  have h2:V.heap[h]? = some (.cells #[.int .i64 e1] 27 (0,0)):=i.er
  rw[<-e,h1] at h2
  cases h2
 ·rcases i.pgs k with h1|⟨A,c,y,h2,h3,h4,h5⟩
  ·exact .inl h1
  ·exact .inr ⟨A,c,y,h2,h3,h4,(h5.abSm (by omega) g (fun r e=>by injection e with e;subst e;exact⟨_,i.er,by show 1<=64;decide,rfl⟩)).more g.size⟩
 ·have h1:=(i.mks D hd).2
  have:=(i.mks D hd).1
  exact(g.block D (zH.1 h1).1 (fun e=>by injection e with e;simp only at e;omega)).trans h1
theorem lay_leaves {w V:World}{f l d many h r B:Nat}{fr pg:Int}{fm:Int->Option Value}{Y:Int->Option (List UInt8)}{es:Array MapEntry}{clock:Nat}{e:Int}{Ds:List Nat}{n:Nat}{tmps:Array Value}{s:DS}(i:LayI w f l d h r B fr pg fm Y es clock e Ds V)(hD:DkS V d many s)(hd:d<B)(hh:h<B)(hw:w.heap.size<=B)(ht:tmps.getD 2 undef = .pointer (some ⟨h,0,none⟩)) :
  LeavesInM Fence.wide n Tryz.prog Tryz.f165 tmps (fun x w'=>x = .returned (.int .i64 e)/\DkS w' d many s/\w.grownBy w' (some d)) (marksD Ds) .returning V:=by
 refine leaves_marks (fun V=>BlkIs V h 27 #[.int .i64 e]/\DkS V d many s/\w.grownBy V (some d)) Ds V i.nd (fun D h=>(i.mks D h).2) (fun D hDs U hU hK => ?_) ⟨i.er,hD,i.gr⟩ (fun w' hw' => ?_)
 ·obtain⟨k1,k2,k3⟩:=hU
  have hDB:=(i.mks D hDs).1
  have g2:=grownBy_putObj' U D (.deferred none)
  exact⟨(putObj_oth U D (.deferred none) (g:=h) (by omega)).trans k1,DkIs.abSm (B:=B) hd k2 g2 (fun r e=>by injection e with e;subst e;exact⟨hDB,_,hK,trivial⟩),grownBy_rest k3 g2 (zG _) (fun r e=>by injection e with e;omega)⟩
 ·obtain⟨k1,k2,k3⟩:=hw'
  exact⟨.int .i64 e,results_cellQ (a:={ tmps:=tmps,defers:=[] }) (p:=⟨h,0,none⟩) 2 rfl ht (by simp[go_sem]) k1.boxed,rfl,k2,k3⟩
theorem lay7_in (n:Nat)(hn:10<=n)(w:World)(f l d many:Nat)(fr pg:Int)(s:DS)(S:LgS)(hb:BlkIs w f 75 (flFC l fr pg))(hL:LogIs w l d fr pg S)(hD:DkS w d many s)(hO:s.Ok)(hl:s.xs.length<=500000)(hn2:S.fs.length<=2000)(hy:∀x∈S.fs,x.y.length=512)(hpl:planOk fr pg=true)(hmany:(many:Int)=2+9*fr+8*pg)(hmax:many<=100000)(P:Nat)(hP:(P:Int)=pg)(hP2:P<=1000)(hYb:∀k y,pgY S.fs k=some y->0<=k/\k<(P:Int)) :
  CallsIn Fence.wide n Tryz.prog 165 #[.pointer (some ⟨f,0,none⟩)] w fun e w'=>e = .returned (.int .i64 (wrs s (layW fr S P)).2)/\DkS w' d many (wrs s (layW fr S P)).1/\w.grownBy w' (some d):=by
 have h1:1<=n:=by omega
 have hpr:=(planOk_iff fr pg).1 hpl
 have hfl:=hb.lt
 obtain⟨W1,hW1⟩:∃W1,W1=(w.alloc (.cells #[.int .i64 0] 27)):=⟨_,rfl⟩
 obtain⟨W2,hW2⟩:∃W2,W2=(W1.alloc (.cells #[.pointer (some ⟨d,0,none⟩)] 26)):=⟨_,rfl⟩
 have hB1:Below w.heap.size w W1:=by rw[hW1];exact(Below.refl _ w).alloc (zG _) _
 have hB2:Below w.heap.size w W2:=by rw[hW2];exact hB1.alloc hB1.size _
 have s1:W1.heap.size=w.heap.size+1:=by rw[hW1];simp
 have s2:W2.heap.size=w.heap.size+1+1:=by rw[hW2];simp[s1]
 have be2:BlkIs W2 w.heap.size 27 #[.int .i64 0]:=by rw[hW2,hW1];exact(BlkIs.new w _ _).alloc _
 have bd2:BlkIs W2 (w.heap.size+1) 26 #[.pointer (some ⟨d,0,none⟩)]:=by
  have:=BlkIs.new W1 26 #[.pointer (some ⟨d,0,none⟩)]
  rw[s1] at this
  rw[hW2]
  exact this
 have HDK:Calls Tryz.prog 105 #[.pointer (some ⟨l,0,none⟩)] W1 fun e w'=>e = .returned (.pointer (some ⟨d,0,none⟩))/\W1=w':=by
  obtain⟨_,A,c,vs,hlg,_,_⟩:=hL.grow hB1
  exact ldisk_gives hlg
 have HPS:=pages7_in (n - 1) (by omega) W2 f l d fr pg S (hb.below hB2 hfl) (hL.grow hB2) hn2 hy P (by omega) hYb
 have c0:W1.cell? ⟨f,0,none⟩=some (.pointer (some ⟨l,0,none⟩)):=by rw[(hb.below hB1 hfl).cell];rfl
 rw[hW1] at c0
 refine callsIn_of_wp_marks Tryz.func165 rfl trivial ?_ rfl
 simp only[Tryz.ntmps165,zS,zN,qB,qH,qI,zU,zV,zZ,zX,zQ,zW]
 have HW1:=Lib.hid hW1
 have HW2:=Lib.hid hW2
 have HS1:=Lib.hid s1
 clear hW1 hW2 s1
 gi_wp2_with (first
  | (refine⟨trivial,?_⟩;gi_at_call 105;rw[<-HW1.out];refine(callsIn_wide.2 HDK).mono ?_;rintro e w' ⟨rfl,rfl⟩)
  | (refine⟨trivial,?_⟩;gi_at_call 193;rw[<-HW2.out];refine HPS.mono ?_;rintro e W4 ⟨r,es,clock,fm,rfl,hm,he,hPg,hB4⟩;have hBw:Below w.heap.size w W4:=hB2.trans (hB4.mono hB2.size);have c2:W4.cell? ⟨f,2,none⟩=some (.int .i64 pg):=(by rw[(hb.below hBw hfl).cell];rfl)))
 rw[HS1.out]
 have hdl:=hD.lt
 have hfd:f≠d:=by
  obtain⟨rr,A',c',hdk,_⟩:=DkIs.has hD
  exact BlkIs.ne_type hb hdk (by decide)
 have hD4:=hD.grow hBw
 have i0:LayI w f l d w.heap.size r W4.heap.size fr pg fm (pgY S.fs) es clock 0 [] W4 :=
  ⟨be2.below hB4 be2.lt,bd2.below hB4 bd2.lt,hm,hPg,hb.below hBw hfl,List.nodup_nil,(fun D h=>by cases h),⟨hBw.os,hBw.tape,hBw.output,hBw.size,fun k hk _=>hBw.block k hk⟩,zG _⟩
 have s4:w.heap.size+2<=W4.heap.size:=by have:=hB4.size;omega
 have hrl:=hm.lt
 clear c0 c2 be2 bd2 HDK HPS HW1 HW2 HS1 hB1 hB2 hB4 hm hPg hD hb hL hn2
 refine wpIn_loop (LayInv w f l d many w.heap.size r W4.heap.size P fr pg fm es clock s S) (fun a _=>P - (intOf (a.tmps.getD 23 undef)).toNat) ⟨0,[],_,_,_,_,_,_,_,_,_,_,_,_,_,_,_,_,_,_,_,_,_,_,_,_,_,_,_,_,_,_,_,_,_,rfl,Nat.zero_le _,⟨s,hD4,hO,Nat.le_add_right _ _,rfl⟩,i0⟩ ?_
 rintro a V ⟨k,Ds,u5,u6,u7,u8,u9,u10,u24,u25,u26,u27,u28,u29,u30,u31,u32,u33,u34,u35,u36,u37,u38,u39,u40,u41,u42,u43,u44,u45,u46,u47,u48,u49,u50,rfl,hk,⟨s1,hD1,hO1,hl1,hw1⟩,i1⟩
 clear i0 hD4 hO hBw
 by_cases hlt:k<P
 ·obtain⟨at_,hat⟩:∃at_,at_=2+9*fr.toNat+8*k:=⟨_,rfl⟩
  have hati:(at_:Int)=2+9*fr+8*(k:Int):=by omega
  have HA:=pageAt_gives (fr:=fr) (pg:=pg) (n:=(k:Int)) V
  have hp0:plE (planOk fr pg) (k:Int) pg=0:=by rw[hpl];simp[plE];omega
  unfold atV at HA
  rw[hp0,if_pos rfl,<-hati] at HA
  have hpl2:V.rangeAt f 1 [.int .i64 fr,.int .i64 pg]:=fun j v hj=>by
   rw[i1.fl.cell]
   match j,hj with
   | 0,hj=>exact hj
   | 1,hj=>exact hj
   | j+2,hj=>exact absurd hj (by simp)
  have hnx:wrs s (layW fr S (k+1))=wrs s1 (wrL at_ ((pgY S.fs (k:Int)).getD []) (((pgY S.fs (k:Int)).getD []).length / 64)):=by
   show wrs s (layW fr S k++pageW fr S k)=_
   rw[wrs_append,hw1,if_pos rfl,pageW_wrL fr S hy k,hat]
  obtain⟨Ab,cb,b,hval,hbY,hin,hb64,hb512⟩:∃A c b,(fm (k:Int)).getD (.slice none 0 0) = .slice A b.length c/\(pgY S.fs (k:Int)).getD []=b/\InB V V.heap.size A c b/\b.length=64*(b.length / 64)/\b.length<=512:=by
   rcases i1.pgs (k:Int) with⟨h2,h3⟩|⟨A,c,y,h2,h3,h4,h5⟩
   ·exact⟨none,0,[],by rw[h2];rfl,by rw[h3];rfl,InB.mt _ _,rfl,Nat.zero_le _⟩
   ·exact⟨A,c,y,by rw[h2,h4];rfl,by rw[h3];rfl,h5,by omega,by omega⟩
  rw[hbY] at hnx
  obtain⟨m,hm⟩:∃m,m=b.length / 64:=⟨_,rfl⟩
  rw[<-hm] at hnx hb64
  have hwk:IntKind.i64.wrap ((k:Int)+1)=(k:Int)+1:=wrap_i64_fr _ (by omega) (by omega)
  have HNX:=Lib.hid hnx
  have HB64:=Lib.hid hb64
  have HVAL:=Lib.hid hval
  have HW1:=Lib.hid hw1
  have HAT:=Lib.hid hati
  clear hnx hb64 hval hbY hm hat hw1 hpl hp0 hati
  gi_wp2_with (first
   | (refine wpV_exec rfl (x_loadM rowPlan hpl2 rfl rfl rfl) ?_)
   | (refine⟨trivial,?_⟩;gi_at_call 121;refine(callsIn_wide.2 HA).mono ?_;rintro e W5 ⟨rfl,hB5⟩)
   | (refine wpV_exec rfl (x_lookupG he ((i1.mp.below hB5 i1.mp.lt).below ((Below.refl W5.heap.size W5).alloc (zG _) _) (by have:=i1.mp.lt;have:=hB5.size;omega)) HVAL.out rfl rfl rfl) ?_)
   | (refine⟨trivial,?_⟩;gi_at_call 144;refine(callsIn_wide.2 (cut_gives _ Ab cb b (((hin.below hB5).more hB5.size).below ((Below.refl W5.heap.size W5).alloc (zG _) _) |>.more (by simp)) (by omega))).mono ?_;rintro e W8 ⟨gB,A2,c2,rfl,hgb,hin2,hB8⟩))
  have s5:=hB5.size
  have hB6:Below V.heap.size V (W5.alloc (.cells #[.int .i64 (at_:Int)] 3)):=hB5.alloc hB5.size _
  have hBV8:Below V.heap.size V W8:=hB6.trans (hB8.mono hB6.size)
  have b68:BlkIs W8 W5.heap.size 3 #[.int .i64 (at_:Int)]:=(BlkIs.new W5 _ _).below hB8 (by simp)
  have hs8:W5.heap.size+1<=W8.heap.size:=by have:=hB8.size;simp at this;omega
  have hD8:=hD1.grow hBV8
  have i8:LayI w f l d w.heap.size r W4.heap.size fr pg fm (pgY S.fs) es clock 0 Ds W8:=by
   have hsz:=hBV8.size
   exact i1.abSm (B2:=V.heap.size) (row:=none) (by have:=i1.sz;omega) (by have:=i1.sz;omega) (by have:=i1.sz;omega) (fun D hD=>(zH.1 (i1.mks D hD).2).1) (by have:=i1.sz;omega) ⟨hBV8.os,hBV8.tape,hBV8.output,hBV8.size,fun k hk _=>hBV8.block k hk⟩ (fun r e=>by cases e)
  have hds8:∀D∈Ds,D<W8.heap.size:=fun D hD=>(zH.1 (i8.mks D hD).2).1
  have hsz8:=i8.sz
  have hMu:0<b.length->∀g o,A2=some ⟨g,o,none⟩->¬ g=d:=fun h0 g o e=>by
   subst e
   obtain⟨r,A',c',hb,_⟩:=DkIs.has hD8
   exact hin2.notDisk h0 hb
  have hs41:=i1.sz
  clear hB6 hB8 hD1 i1 hin HA hpl2 hB5 hBV8
  refine wpIn_rangeFunc_S rfl h1 (gf:=183) (lb:=#[.pointer (some ⟨gB,0,none⟩)]) rfl trivial (enters_of Tryz.func183 (by kernel_rfl) rfl)
   (cut1_seqS (n₀:=W8.heap.size) (n - 1) (by omega) gB A2 c2 b (by omega) (fun k=>k=d) hMu W8 hgb.lt (zG _) hgb.boxed hin2) (Below.refl _ _) (fun _=>rfl)
   (fun pre U=>(∃s':DS,DkS U d many s'/\s'.Ok/\s'.xs.length<=s1.xs.length+pre.length/\wrs s1 (wrL at_ b m)=wrs s' ((wrL at_ b m).drop pre.length))/\LayI w f l d w.heap.size r W4.heap.size fr pg fm (pgY S.fs) es clock 0 Ds U/\BlkIs U W5.heap.size 3 #[.int .i64 (at_:Int)]/\W8.heap.size<=U.heap.size)
   (fun c _ U=>c = .ret/\DkS U d many (wrs s1 (wrL at_ b m)).1/\(wrs s1 (wrL at_ b m)).2=140/\LayI w f l d w.heap.size r W4.heap.size fr pg fm (pgY S.fs) es clock 140 Ds U/\W8.heap.size<=U.heap.size)
   ?own ?own2 ?ownR ⟨⟨s1,hD8,hO1,Nat.le_add_right _ _,rfl⟩,i8,b68,zG _⟩ ?act ?assign ?body ?done ?stop
  case own =>
   rintro pre X Y row ⟨⟨s',j1,jo⟩,j2,j3,j4⟩ hgr hr
   exact⟨⟨s',DkIs.abSm (B:=W8.heap.size) (by omega) j1 hgr hr,jo⟩,j2.abSm (B2:=W8.heap.size) (by omega) (by omega) (by omega) hds8 (by omega) hgr hr,j3.abN (B:=W8.heap.size) (by omega) hgr (fun r e=>(hr r e).1),zP j4 hgr.size⟩
  case own2 =>
   rintro c pre X Y row ⟨e1,j1,e2,j2,j4⟩ hgr hr
   exact⟨e1,DkIs.abSm (B:=W8.heap.size) (by omega) j1 hgr hr,e2,j2.abSm (B2:=W8.heap.size) (by omega) (by omega) (by omega) hds8 (by omega) hgr hr,zP j4 hgr.size⟩
  case ownR =>
   rintro pre x _ X Y row ⟨e1,e2,e3⟩ hgr hr
   exact⟨e1,e2,InB.ownFrom (B:=W8.heap.size) _ _ _ () X Y row e3 hgr hr⟩
  case assign =>
   intro l1 x U K hK
   simp only[cutEnc]
   gi_wp2
   exact hK
  case body =>
   rintro l1 pre ⟨x1,A6,c6⟩ U ⟨⟨s',j1,jo,jl,je⟩,j2,j3,j4⟩ ⟨hx1,hx2,hx3⟩
   simp only at hx1 hx2 hx3
   subst hx1
   have hbl:=HB64.out
   have hkm:pre.length<m:=by omega
   have hch:chLen b.length pre.length=64:=by unfold chLen;omega
   have hcl:(chunkB b pre.length).length=64:=by rw[chunkB_length,hch]
   have hatm:at_+pre.length<many:=by have:=HAT.out;omega
   have hWR:Calls Tryz.prog 145 #[.pointer (some ⟨d,0,none⟩),.int .i64 ((at_+pre.length:Nat):Int),.slice A6 64 c6] U fun e w'=>∃(x:Int) (s6:DS),e = .returned (.int .i64 x)/\((x=0/\s'.stopped=false/\s6=s'.push (at_+pre.length,chunkB b pre.length))∨(x=140/\s'.stopped=true/\s6=s'))/\DkS w' d many s6/\U.grownBy w' (some d):=by
    cases hs:s'.stopped
    ·refine(write_ok U d many s'.g s'.xs s'.left s'.st j1 hs (at_+pre.length) (by omega) A6 c6 _ hcl hx3 (by omega) jo.lo jo.hi).mono ?_
     rintro e w' ⟨rfl,hD6,hg6,_⟩
     exact⟨0,_,rfl,.inl ⟨rfl,rfl,rfl⟩,hD6,hg6⟩
    ·refine(write_stop U d many s'.g s'.xs s'.left s'.st j1 hs (at_+pre.length) (by omega) A6 c6).mono ?_
     rintro e w' ⟨rfl,hB6⟩
     exact⟨140,_,rfl,.inr ⟨rfl,rfl,rfl⟩,j1.grow hB6,⟨hB6.os,hB6.tape,hB6.output,hB6.size,fun k hk _=>hB6.block k hk⟩⟩
   have HW:=hWR
   rw[Int.natCast_add] at HW
   have k0:=j2.dp.boxed
   have k1:=j3.boxed
   have hwa:IntKind.i64.wrap ((at_:Int)+(pre.length:Int))=(at_:Int)+(pre.length:Int):=by rw[wrap_i64_fr _ (by omega) (by omega)]
   have hdr:=wrL_drop at_ b m pre.length hkm
   have HDR:=Lib.hid hdr
   have HJE:=Lib.hid je
   simp only[hch]
   clear hbl hch hcl hx2 hMu hWR hdr je hin2 hgb hkm
   have h11:1<=n - 1 - 1:=by omega
   gi_wp2_with (refine⟨trivial,?_⟩;gi_at_call 145;refine(CallsIn.inRound l1 (callsIn_wide.2 HW)).mono ?_;rintro e W6 ⟨z,s6,rfl,hz,hD6,hg6⟩;have j6:=j2.turned j1 hdl (by omega) hfd hg6;have q3:=j3.grown hg6 (fun e=>by injection e with e;omega);have q6:=hg6.size;have q2c:=j6.er.boxed;have q2f:=j6.er.free 0;rcases hz with⟨rfl,hs,rfl⟩|⟨rfl,hs,rfl⟩)
   ·have hKO:KeepOut (fun k=>k=d) W8.heap.size U W6:=⟨q6,fun k o hk hm=>(hg6.block k (zH.1 hk).1 (fun e=>by injection e with e;exact hm (by omega) e)).trans hk⟩
    refine⟨hKO,⟨_,hD6,jo.push hs _,?_,?_⟩,j6,q3,by omega⟩
    ·simp[DS.push]
     omega
    ·rw[HJE.out,HDR.out,wrs_cons_ok hs]
     simp
   ·have hKO:KeepOut (fun k=>k=d) W8.heap.size U W6:=⟨q6,fun k o hk hm=>(hg6.block k (zH.1 hk).1 (fun e=>by injection e with e;exact hm (by omega) e)).trans hk⟩
    have g7:=setCell_grown W6 ⟨w.heap.size,0,none⟩ (.int .i64 140)
    have e7:wrs s1 (wrL at_ b m)=(s6,140):=by rw[HJE.out,HDR.out,wrs_cons_bad hs]
    refine⟨⟨zP hKO.1 g7.size,fun k o hk hm=>(Below.heap_setCell W6 _ _ k (fun e=>by subst e;exact hm (by simp;omega) trivial)).trans (hKO.2 k o hk (fun hb h=>hm hb trivial))⟩,rfl,?_,?_,j6.setEr (zG _) hfl (by omega) 140,?_⟩
    ·rw[e7]
     exact DkIs.setOther hD6 j6.er (by show 1<=64;decide) (by omega) ⟨w.heap.size,0,none⟩ _ rfl
    ·rw[e7]
    ·simp
     omega
  case done =>
   rintro D ys U hD hS ⟨⟨s',j1,jo,jl,je⟩,j2,j3,j4⟩ hK
   have hbl:=HB64.out
   have hm3:ys.length=m:=by rw[hS];unfold chAll;omega
   rw[hm3,wrL_drop_all] at je
   rw[hm3] at jl
   have HNE:=Lib.hid (show wrs s (layW fr S (k+1))=(s',0) by rw[HNX.out,je];rfl)
   have HS1:=Lib.hid hs41
   have j5:LayI w f l d w.heap.size r W4.heap.size fr pg fm (pgY S.fs) es clock 0 (D::Ds) U:=⟨j2.er,j2.dp,j2.mp,j2.pgs,j2.fl,List.nodup_cons.2 ⟨fun h=>by have:=hds8 D h;omega,j2.nd⟩,(fun E hE=>by
    rcases List.mem_cons.1 hE with rfl|hE
    ·exact⟨by omega,hK⟩
    ·exact j2.mks E hE),j2.gr,j2.sz⟩
   have hl3:s'.xs.length<=s.xs.length+8*(k+1):=by omega
   clear je hbl hMu b68 hgb hin2 i8 hD8 j2
   gi_wp2
   refine⟨⟨k+1,D::Ds,_,_,_,_,_,_,_,_,_,_,_,_,_,_,_,_,_,_,_,_,_,_,_,_,_,_,_,_,_,_,_,_,_,rfl,by omega,⟨s',j1,jo,hl3,HNE.out⟩,j5⟩,?_⟩
   simp[intOf]
   omega
  case stop =>
   rintro D c pre U hD hS ⟨rfl,j1,je,j2,j4⟩ hK
   have e1:wrs s (layW fr S P)=wrs s1 (wrL at_ b m):=by
    have h2:=layW_stop (fr:=fr) (S:=S) (s:=s) (k:=k+1) (by rw[HNX.out,je];decide) (P - (k+1))
    rw[show k+1+(P - (k+1))=P by omega,HNX.out] at h2
    exact h2
   have HE1:=Lib.hid e1
   have HJE:=Lib.hid je
   have j3:LayI w f l d w.heap.size r W4.heap.size fr pg fm (pgY S.fs) es clock 140 (D::Ds) U:=⟨j2.er,j2.dp,j2.mp,j2.pgs,j2.fl,List.nodup_cons.2 ⟨fun h=>by have:=hds8 D h;omega,j2.nd⟩,(fun E hE=>by
    rcases List.mem_cons.1 hE with rfl|hE
    ·exact⟨by omega,hK⟩
    ·exact j2.mks E hE),j2.gr,j2.sz⟩
   clear e1 je hMu b68 hgb hin2 i8 hD8 j2
   gi_wp2
   rw[HE1.out,HJE.out]
   exact lay_leaves (Ds:=D::Ds) j3 j1 (by omega) (by omega) (by omega) rfl
 ·obtain rfl:k=P:=by omega
  have hsz:=i1.sz
  have q2c:=i1.er.boxed
  have q2f:=i1.er.free 0
  have HW:=Lib.hid hw1
  have i2:=i1.setEr (zG _) hfl (by omega) 0
  have hD2:DkS (V.setCell ⟨w.heap.size,0,none⟩ (.int .i64 0)) d many s1:=DkIs.setOther hD1 i1.er (by show 1<=64;decide) (by omega) ⟨w.heap.size,0,none⟩ _ rfl
  clear hw1
  gi_wp2
  rw[HW.out]
  exact lay_leaves i2 hD2 (by omega) (by omega) (by omega) rfl
theorem lay7_gives (w:World)(f l d many:Nat)(fr pg:Int)(s:DS)(S:LgS)(hb:BlkIs w f 75 (flFC l fr pg))(hL:LogIs w l d fr pg S)(hD:DkS w d many s)(hO:s.Ok)(hl:s.xs.length<=500000)(hn2:S.fs.length<=2000)(hy:∀x∈S.fs,x.y.length=512)(hpl:planOk fr pg=true)(hmany:(many:Int)=2+9*fr+8*pg)(hmax:many<=100000)(P:Nat)(hP:(P:Int)=pg)(hP2:P<=1000)(hYb:∀k y,pgY S.fs k=some y->0<=k/\k<(P:Int)) :
  Calls Tryz.prog 165 #[.pointer (some ⟨f,0,none⟩)] w fun e w'=>e = .returned (.int .i64 (wrs s (layW fr S P)).2)/\DkS w' d many (wrs s (layW fr S P)).1/\w.grownBy w' (some d) :=
 callsIn_wide.1 (lay7_in 10 (zG _) w f l d many fr pg s S hb hL hD hO hl hn2 hy hpl hmany hmax P hP hP2 hYb)
end Go.Proofs.YtnlimngkagmjpaaGreat
namespace Go.Proofs.YtnlimngkagmjpaaGreat
open Go Go.RowKit Lou
theorem fdo_gives (w:World)(i:Int)(x:FnV)(Q:Ending->World->Prop)(hent:∀args W,(callFunc x.f args).run Tryz.prog W = .ok (.enter x.f args) W)(h:Calls Tryz.prog x.f (x.bd++x.lb) w fun e w'=>(∃z:Int,e = .returned (.int .i64 z))/\Q e w') :
  Calls Tryz.prog 164 #[.int .i64 i,x.val] w fun e w'=>(∃z:Int,e = .returned (.int .i64 z))/\Q e w':=by
 obtain⟨xf,xb,xl⟩:=x
 unfold FnV.val
 simp only at hent h
 go_enter Tryz.func164,Tryz.ntmps164
 go_wp2
 refine h.mono ?_
 rintro e w2 ⟨⟨z,rfl⟩,h1⟩
 go_wp2
 go_ret
 exact⟨⟨z,rfl⟩,h1⟩
theorem fall_gives (w:World)(g c:Nat)(fs:List FnV)(I:Nat->World->Prop)(R:Int->World->Prop)(hl:fs.length<=100)
  (hrow:∀(k:Nat) (hk:k<fs.length) W,I k W->W.cell? ⟨g,k,none⟩=some fs[k].val)
  (hdo:∀(k:Nat) (hk:k<fs.length) W,I k W->(∀args W,(callFunc fs[k].f args).run Tryz.prog W = .ok (.enter fs[k].f args) W)/\Calls Tryz.prog fs[k].f (fs[k].bd++fs[k].lb) W fun e w'=>(e = .returned (.int .i64 0)/\I (k+1) w')∨∃x:Int,x≠0/\e = .returned (.int .i64 x)/\R x w')
  (h0:I 0 w) :
  Calls Tryz.prog 163 #[.slice (some ⟨g,0,none⟩) fs.length c,.func (.func 164) #[] #[]] w fun e w'=>(e = .returned (.int .i64 0)/\I fs.length w')∨∃x:Int,x≠0/\e = .returned (.int .i64 x)/\R x w':=by
 have HD:∀(k:Nat) (hk:k<fs.length) W,I k W->Calls Tryz.prog 164 #[.int .i64 (k:Int),fs[k].val] W fun e w'=>(∃z:Int,e = .returned (.int .i64 z))/\((e = .returned (.int .i64 0)/\I (k+1) w')∨∃x:Int,x≠0/\e = .returned (.int .i64 x)/\R x w'):=fun k hk W hI=>by
  obtain⟨hent,hcall⟩:=hdo k hk W hI
  refine fdo_gives W (k:Int) fs[k] _ hent (hcall.mono ?_)
  rintro e w' h
  refine⟨?_,h⟩
  rcases h with⟨rfl,_⟩|⟨x,_,rfl,_⟩
  ·exact⟨_,rfl⟩
  ·exact⟨_,rfl⟩
 clear hdo
 go_enter Tryz.func163,Tryz.ntmps163
 go_wp2
 go_loopw [10] (fun i wr=>∃k:Nat,k<=fs.length/\i = .int .i64 (k:Int)/\I k wr) (fun i _=>fs.length - (intOf i).toNat)
 case atStart=>exact⟨0,by omega,rfl,h0⟩
 case round =>
  obtain⟨k,hk,rfl,hI⟩:=hrel
  by_cases hlt:k<fs.length
  ·have hc:=hrow k hlt wr hI
   have hcall:=HD k hlt wr hI
   generalize fs[k].val=V at hc hcall
   have hwk:IntKind.i64.wrap ((k:Int)+1)=(k:Int)+1:=wrap_i64_fr _ (by omega) (by omega)
   clear HD hrow
   go_wp2_with (go_at_call 164;refine hcall.mono ?_;rintro e w2 ⟨_,⟨rfl,h1⟩|⟨z,hz,rfl,h1⟩⟩)
   all_goals
    first
    | exact⟨⟨k+1,by omega,by simp,h1⟩,by simp[intOf];omega⟩
    | (go_ret;exact .inr ⟨z,hz,rfl,h1⟩)
  ·obtain rfl:k=fs.length:=by omega
   go_wp2
   go_ret
   exact .inl ⟨rfl,hI⟩
theorem fsteps_gives (w:World)(g c:Nat)(fs:List FnV)(I:Nat->World->Prop)(R:Int->World->Prop)(hl:fs.length<=100)
  (hrow:∀(k:Nat) (hk:k<fs.length) W,I k W->W.cell? ⟨g,k,none⟩=some fs[k].val)
  (hdo:∀(k:Nat) (hk:k<fs.length) W,I k W->(∀args W,(callFunc fs[k].f args).run Tryz.prog W = .ok (.enter fs[k].f args) W)/\Calls Tryz.prog fs[k].f (fs[k].bd++fs[k].lb) W fun e w'=>(e = .returned (.int .i64 0)/\I (k+1) w')∨∃x:Int,x≠0/\e = .returned (.int .i64 x)/\R x w')
  (h0:I 0 w) :
  Calls Tryz.prog 117 #[.slice (some ⟨g,0,none⟩) fs.length c] w fun e w'=>(e = .returned (.int .i64 0)/\I fs.length w')∨∃x:Int,x≠0/\e = .returned (.int .i64 x)/\R x w':=by
 have H:=fall_gives w g c fs I R hl hrow hdo h0
 clear hrow hdo h0
 go_enter Tryz.func117,Tryz.ntmps117
 go_wp2_with (go_at_call 163;refine H.mono ?_;rintro e w2 (⟨rfl,h1⟩|⟨z,hz,rfl,h1⟩))
 all_goals
  go_ret
  first
  | exact .inl ⟨rfl,h1⟩
  | exact .inr ⟨z,hz,rfl,h1⟩
def ChkOut (fr:Int)(P:Nat)(s:DS)(S:LgS)(x:Int)(s':DS)(S':LgS):Prop :=
 ∃r,r=appD s (layW fr S P) (wrL ((S.sr+1) % 2) (hEnc (S.sr+1) (S.ep+1) S.sz 0) 1)/\x=r.2/\s'=r.1/\((x=0/\S'=⟨S.sr+1,S.ep+1,S.sz,[]⟩)∨(¬ x=0/\S'=S))
def ckFs (f d l:Nat):List FnV:=[⟨165,#[.pointer (some ⟨f,0,none⟩)],#[]⟩,⟨96,#[.pointer (some ⟨d,0,none⟩)],#[]⟩,⟨166,#[.pointer (some ⟨l,0,none⟩)],#[]⟩]
def ckCs (f d l:Nat):Array Value:=#[.func (.func 165) #[.pointer (some ⟨f,0,none⟩)] #[],.func (.func 96) #[.pointer (some ⟨d,0,none⟩)] #[],.func (.func 166) #[.pointer (some ⟨l,0,none⟩)] #[]]
theorem ckS_gives (w:World)(f l d many:Nat)(fr pg:Int)(s:DS)(S:LgS)(hb:BlkIs w f 75 (flFC l fr pg))(hL:LogIs w l d fr pg S)(hD:DkS w d many s)(hO:s.Ok)(hl:s.xs.length<=500000)(hn2:S.fs.length<=2000)(hy:∀x∈S.fs,x.y.length=512)(hpl:planOk fr pg=true)(hmany:(many:Int)=2+9*fr+8*pg)(hmax:many<=100000)(P:Nat)(hP:(P:Int)=pg)(hP2:P<=1000)(hYb:∀k y,pgY S.fs k=some y->0<=k/\k<(P:Int))(hfd:f≠d)(hfl:f≠l)(hok:0<=S.sz/\S.sz<=2000)(hsr:S.sr+1<18446744073709551616)(hep:S.ep+1<18446744073709551616) :
  Calls Tryz.prog 117 #[.slice (some ⟨w.heap.size,0,none⟩) 3 3] (w.alloc (.cells (ckCs f d l) 38)) fun e w'=>∃x s' S',e = .returned (.int .i64 x)/\ChkOut fr P s S x s' S'/\DkS w' d many s'/\LogIs w' l d fr pg S'/\GrowBut (fun k=>k=d∨k=l) w w':=by
 have hpr:=(planOk_iff fr pg).1 hpl
 obtain⟨V,hV⟩:∃V,V=w.alloc (.cells (ckCs f d l) 38):=⟨_,rfl⟩
 have hBV:Below w.heap.size w V:=by rw[hV];exact(Below.refl _ w).alloc (zG _) _
 have f0:BlkIs V w.heap.size 38 (ckCs f d l):=by rw[hV];exact BlkIs.new w _ _
 rw[<-hV]
 clear hV
 have hdl:=hD.lt
 have hll:l<w.heap.size:=by obtain⟨_,A,c,vs,hlg,_⟩:=hL;exact hlg.lt
 have hld:l≠d:=hL.1
 have H1:=lay7_gives V f l d many fr pg s S (hb.below hBV hb.lt) (hL.grow hBV) (hD.grow hBV) hO (by omega) hn2 hy hpl hmany hmax P hP hP2 hYb
 have hwl:=wrs_len (layW fr S P) s
 have hLl:=layW_length (fr:=fr) (S:=S) P
 generalize hLW:layW fr S P=L1 at *
 generalize hL2:wrL ((S.sr+1) % 2) (hEnc (S.sr+1) (S.ep+1) S.sz 0) 1=L2
 obtain⟨r1,hr1⟩:∃r1,r1=wrs s L1:=⟨_,rfl⟩
 obtain⟨r2,hr2⟩:∃r2,r2=synD r1.1:=⟨_,rfl⟩
 obtain⟨r3,hr3⟩:∃r3,r3=layD r2.1 L2:=⟨_,rfl⟩
 have hO1:r1.1.Ok:=by rw[hr1];exact hO.wrs
 have hO2:r2.1.Ok:=by rw[hr2];exact hO1.syn
 have hl1:r1.1.xs.length<=700000:=by rw[hr1];omega
 have hl2:r2.1.xs.length<=700000:=by
  rw[hr2]
  unfold synD
  split
  ·exact hl1
  ·exact Nat.zero_le _
 have hA:appD s L1 L2=if r1.2=0 then (if r2.2=0 then r3 else r2) else r1:=by
  rw[hr3,hr2,hr1]
  rfl
 rw[<-hr1] at H1
 unfold ChkOut
 rw[hLW,hL2,hA]
 clear hA hr1 hwl hO hLl hLW
 have HS:=fsteps_gives V w.heap.size 3 (ckFs f d l)
  (fun k W=>(BlkIs W f 75 (flFC l fr pg)/\BlkIs W w.heap.size 38 (ckCs f d l)/\GrowBut (fun k=>k=d∨k=l) w W) /\
   (k=0->W=V) /\
   (k=1->r1.2=0/\DkS W d many r1.1/\LogIs W l d fr pg S) /\
   (k=2->r1.2=0/\r2.2=0/\DkS W d many r2.1/\LogIs W l d fr pg S) /\
   (k=3->r1.2=0/\r2.2=0/\r3.2=0/\DkS W d many r3.1/\LogIs W l d fr pg ⟨S.sr+1,S.ep+1,S.sz,[]⟩))
  (fun x W=>(∃r:DS×Int,r=(if r1.2=0 then (if r2.2=0 then r3 else r2) else r1)/\x=r.2/\DkS W d many r.1)/\LogIs W l d fr pg S/\GrowBut (fun k=>k=d∨k=l) w W) (by show 3<=100;omega)
  (by
   rintro k hk W ⟨⟨_,h4,_⟩,_⟩
   rw[h4.cell]
   match k,hk with
   | 0,_=>rfl
   | 1,_=>rfl
   | 2,_=>rfl
   | k+3,h=>exact absurd h (by simp[ckFs]))
  (by
   rintro k hk W ⟨⟨h1,h4,h5⟩,t0,t1,t2,_⟩
   have hsz:=h5.size
   have m0:some f≠some d:=fun e=>by injection e with e;exact hfd e
   have m3:some w.heap.size≠some d:=fun e=>by injection e with e;omega
   have zz (q:Nat) (hq:q≠d) (hq2:q≠l):¬ (q=d∨q=l):=fun e=>by rcases e with e|e;exact hq e;exact hq2 e
   match k,hk with
   | 0,_ =>
    obtain rfl:=t0 rfl
    refine⟨enters_of Tryz.func165 (by kernel_rfl) rfl,H1.mono ?_⟩
    rintro e w2 ⟨rfl,hx,hg2⟩
    have hG2:=h5.trans (GrowBut.grown hg2 (fun r e=>by cases e;exact .inl (.inl rfl)))
    have hlw:=(hL.grow hBV).turn hg2
    by_cases hz:r1.2=0
    ·exact .inl ⟨by rw[hz],⟨h1.grown hg2 m0,h4.grown hg2 m3,hG2⟩,(fun e=>by cases e),(fun _=>⟨hz,hx,hlw⟩),(fun e=>by cases e),(fun e=>by cases e)⟩
    ·exact .inr ⟨_,hz,rfl,⟨r1,by rw[if_neg hz],rfl,hx⟩,hlw,hG2⟩
   | 1,_ =>
    obtain⟨hz,hDw,hlw⟩:=t1 rfl
    refine⟨enters_of Tryz.func96 (by kernel_rfl) rfl,(syncS_gives W d many r1.1 hDw hO1 (by omega)).mono ?_⟩
    rw[<-hr2]
    rintro e w2 ⟨rfl,hD2,hg2⟩
    have hG2:=h5.trans (GrowBut.grown hg2 (fun r e=>by cases e;exact .inl (.inl rfl)))
    have hlw2:=hlw.turn hg2
    by_cases hz2:r2.2=0
    ·exact .inl ⟨by rw[hz2],⟨h1.grown hg2 m0,h4.grown hg2 m3,hG2⟩,(fun e=>by cases e),(fun e=>by cases e),(fun _=>⟨hz,hz2,hD2,hlw2⟩),(fun e=>by cases e)⟩
    ·exact .inr ⟨_,hz2,rfl,⟨r2,by rw[if_pos hz,if_neg hz2],rfl,hD2⟩,hlw2,hG2⟩
   | 2,_ =>
    obtain⟨hz,hz2,hDw,hlw⟩:=t2 rfl
    have H2:=reset_gives W l d many r2.1 fr pg S hlw hDw hO2 (by omega) hok (by omega) (by omega) hsr hep
    unfold RstOut at H2
    rw[hL2,<-hr3] at H2
    refine⟨enters_of Tryz.func166 (by kernel_rfl) rfl,H2.mono ?_⟩
    rintro e w2 ⟨x,s',S',rfl,⟨r,hre,hxr,hsr',hq⟩,hD2,hl2,hG2⟩
    rw[hre] at hxr hsr'
    subst hxr hsr'
    have hG3:=h5.trans hG2
    rcases hq with⟨hz3,rfl⟩|⟨hz3,rfl⟩
    ·exact .inl ⟨by rw[hz3],⟨hG2.blk h1 (zz _ hfd hfl),hG2.blk h4 (zz _ (by omega) (by omega)),hG3⟩,(fun e=>by cases e),(fun e=>by cases e),(fun e=>by cases e),(fun _=>⟨hz,hz2,hz3,hD2,hl2⟩)⟩
    ·exact .inr ⟨_,hz3,rfl,⟨r3,by rw[if_pos hz,if_pos hz2],rfl,hD2⟩,hl2,hG3⟩
   | k+3,h=>exact absurd h (by simp[ckFs]))
  ⟨⟨hb.below hBV hb.lt,f0,GrowBut.below hBV⟩,(fun _=>rfl),(fun e=>by cases e),(fun e=>by cases e),(fun e=>by cases e)⟩
 refine HS.mono ?_
 rintro e w2 (⟨rfl,⟨_,_,h5⟩,_,_,_,r4⟩|⟨x,hx,rfl,⟨r,rfl,rfl,hD2⟩,hl2,h5⟩)
 ·obtain⟨hz,hz2,hz3,hD4,hl4⟩:=r4 rfl
  exact⟨0,_,_,rfl,⟨_,rfl,by rw[if_pos hz,if_pos hz2,hz3],rfl,.inl ⟨rfl,rfl⟩⟩,by rw[if_pos hz,if_pos hz2];exact hD4,hl4,h5⟩
 ·exact⟨_,_,_,rfl,⟨_,rfl,rfl,rfl,.inr ⟨hx,rfl⟩⟩,hD2,hl2,h5⟩
theorem fchk_gives (w:World)(f l d many:Nat)(fr pg:Int)(s:DS)(S:LgS)(hb:BlkIs w f 75 (flFC l fr pg))(hL:LogIs w l d fr pg S)(hD:DkS w d many s)(hO:s.Ok)(hl:s.xs.length<=500000)(hn2:S.fs.length<=2000)(hy:∀x∈S.fs,x.y.length=512)(hpl:planOk fr pg=true)(hmany:(many:Int)=2+9*fr+8*pg)(hmax:many<=100000)(P:Nat)(hP:(P:Int)=pg)(hP2:P<=1000)(hYb:∀k y,pgY S.fs k=some y->0<=k/\k<(P:Int))(hfd:f≠d)(hfl:f≠l)(hok:0<=S.sz/\S.sz<=2000)(hsr:S.sr+1<18446744073709551616)(hep:S.ep+1<18446744073709551616) :
  Calls Tryz.prog 118 #[.pointer (some ⟨f,0,none⟩)] w fun e w'=>∃x s' S',e = .returned (.int .i64 x)/\ChkOut fr P s S x s' S'/\DkS w' d many s'/\LogIs w' l d fr pg S'/\GrowBut (fun k=>k=d∨k=l) w w':=by
 have HN:=fnone_gives hb
 have hBd:Below w.heap.size w w.drew:=(Below.refl _ _).drew
 have HS:=ckS_gives w.drew f l d many fr pg s S (hb.below hBd hb.lt) (hL.grow hBd) (hD.grow hBd) hO hl hn2 hy hpl hmany hmax P hP hP2 hYb hfd hfl hok hsr hep
 have HDK:∀W,Below w.heap.size w W->Calls Tryz.prog 105 #[.pointer (some ⟨l,0,none⟩)] W fun e w'=>e = .returned (.pointer (some ⟨d,0,none⟩))/\W=w':=fun W hB=>by
  obtain⟨_,A,c,vs,hlg,_,_⟩:=hL.grow hB
  exact ldisk_gives hlg
 have TF:∀W,Below w.heap.size w W->W.cell? ⟨f,0,none⟩=some (.pointer (some ⟨l,0,none⟩)):=fun W hW=>by rw[(hb.below hW hb.lt).cell];rfl
 clear hb hL hD
 go_enter Tryz.func118,Tryz.ntmps118
 go_wp2_with (go_at_call 63;refine HN.mono ?_;rintro e w' ⟨rfl,rfl⟩)
 have hS0:Below w.heap.size w w.drew:=hBd
 refine RegM.start (fun W=>Below w.heap.size w W) [13,14,15] (by kernel_rfl) ?_
 refine RegM.take1 0 (.pointer (some ⟨f,0,none⟩)) rfl (by kernel_rfl) (by kernel_rfl) (by kernel_rfl) (by kernel_rfl) (by kernel_rfl) rfl (fun _ _ _ h=>h) hS0 (RegF.yld rfl (fun W hW=>by go_simp)) ?_
 simp only[zD,zB,Act.put,zA,zF,zE]
 refine RegM.take1 1 (.func (.func 165) #[.pointer (some ⟨f,0,none⟩)] #[]) rfl (by kernel_rfl) (by kernel_rfl) (by kernel_rfl) (by kernel_rfl) (by kernel_rfl) rfl (fun _ _ _ h=>h) hS0 (RegF.yld rfl (fun W hW=>by go_simp)) ?_
 simp only[zD,zC,zB,Act.put,zA,zF,zE]
 refine RegM.take1 2 (.pointer (some ⟨f,0,none⟩)) rfl (by kernel_rfl) (by kernel_rfl) (by kernel_rfl) (by kernel_rfl) (by kernel_rfl) rfl (fun _ _ _ h=>h) hS0 (RegF.yld rfl (fun W hW=>by go_simp)) ?_
 simp only[zD,zC,zB,Act.put,zA,zF,zE]
 refine RegM.take1 3 (.pointer (some ⟨f,0,none⟩)) rfl (by kernel_rfl) (by kernel_rfl) (by kernel_rfl) (by kernel_rfl) (by kernel_rfl) rfl (fun _ _ _ h=>h) hS0 (RegF.yld rfl (fun W hW=>by go_simp)) ?_
 simp only[zD,zC,zB,Act.put,zA,zF,zE]
 refine RegM.take1 4 (.pointer (some ⟨f,0,none⟩)) rfl (by kernel_rfl) (by kernel_rfl) (by kernel_rfl) (by kernel_rfl) (by kernel_rfl) rfl (fun _ _ _ h=>h) hS0 (RegF.yld rfl (fun W hW=>by go_simp)) ?_
 simp only[zD,zC,zB,Act.put,zA,zF,zE]
 refine RegM.take1 5 (.pointer (some ⟨l,0,none⟩)) rfl (by kernel_rfl) (by kernel_rfl) (by kernel_rfl) (by kernel_rfl) (by kernel_rfl) rfl (fun _ _ _ h=>h) hS0 (RegF.yld rfl (fun W hW=>by have q:=TF W hW;go_simp)) ?_
 simp only[zD,zC,zB,Act.put,zA,zF,zE]
 refine RegM.take1 8 (.pointer (some ⟨f,0,none⟩)) rfl (by kernel_rfl) (by kernel_rfl) (by kernel_rfl) (by kernel_rfl) (by kernel_rfl) rfl (fun _ _ _ h=>h) hS0 (RegF.yld rfl (fun W hW=>by go_simp)) ?_
 simp only[zD,zC,zB,Act.put,zA,zF,zE]
 refine RegM.take1 9 (.pointer (some ⟨f,0,none⟩)) rfl (by kernel_rfl) (by kernel_rfl) (by kernel_rfl) (by kernel_rfl) (by kernel_rfl) rfl (fun _ _ _ h=>h) hS0 (RegF.yld rfl (fun W hW=>by go_simp)) ?_
 simp only[zD,zC,zB,Act.put,zA,zF,zE]
 refine RegM.take1 10 (.pointer (some ⟨f,0,none⟩)) rfl (by kernel_rfl) (by kernel_rfl) (by kernel_rfl) (by kernel_rfl) (by kernel_rfl) rfl (fun _ _ _ h=>h) hS0 (RegF.yld rfl (fun W hW=>by go_simp)) ?_
 simp only[zD,zC,zB,Act.put,zA,zF,zE]
 refine RegM.take1 11 (.pointer (some ⟨l,0,none⟩)) rfl (by kernel_rfl) (by kernel_rfl) (by kernel_rfl) (by kernel_rfl) (by kernel_rfl) rfl (fun _ _ _ h=>h) hS0 (RegF.yld rfl (fun W hW=>by have q:=TF W hW;go_simp)) ?_
 simp only[zD,zC,zB,Act.put,zA,zF,zE]
 refine RegM.take1 12 (.func (.func 166) #[.pointer (some ⟨l,0,none⟩)] #[]) rfl (by kernel_rfl) (by kernel_rfl) (by kernel_rfl) (by kernel_rfl) (by kernel_rfl) rfl (fun _ _ _ h=>h) hS0 (RegF.yld rfl (fun W hW=>by go_simp)) ?_
 simp only[zD,zC,zB,Act.put,zA,zF,zE]
 refine RegM.one 6 (by kernel_rfl) ?_
 refine RegF.opC 105 #[.tmp 10] #[71] rfl rfl rfl (enters_of Tryz.func105 (by kernel_rfl) rfl) #[.pointer (some ⟨l,0,none⟩)] (by simp only[zJ,zK,zL];rfl) ((HDK _ hS0).mono ?_)
 rintro e w' ⟨rfl,rfl⟩
 refine⟨_,rfl,fun _=>hS0,?_⟩
 simp only[zD,zC,zB,Act.put,zA,zF,zE]
 refine RegM.one 7 (by kernel_rfl) (RegF.opV (w':=w.drew) (.func (.func 96) #[.pointer (some ⟨d,0,none⟩)] #[]) rfl rfl (by go_simp) ⟨fun _=>hS0,?_⟩)
 simp only[zD,zC,zB,Act.put,zA,zF,zE]
 refine RegM.one 13 (by kernel_rfl) (RegF.opV (w':=w.drew.alloc (.cells (ckCs f d l) 38)) (.slice (some ⟨w.drew.heap.size,0,none⟩) 3 3) rfl rfl (by unfold ckCs;go_simp) ⟨fun h=>(by cases h),?_⟩)
 simp only[zD,zC,zB,Act.put,zA,zF,zE]
 refine RegM.one 14 (by kernel_rfl) ?_
 refine RegF.opC 117 #[.tmp 18] #[211] rfl rfl rfl (enters_of Tryz.func117 (by kernel_rfl) rfl) #[.slice (some ⟨w.drew.heap.size,0,none⟩) 3 3] (by simp only[zJ,zK,zL];rfl) (HS.mono ?_)
 rintro e w2 ⟨x,s',S',rfl,hC,hD2,hL2,hG2⟩
 refine⟨_,rfl,fun h=>(by cases h),?_⟩
 simp only[zD,zC,zB,Act.put,zA,zF,zE]
 refine RegM.one 15 (by kernel_rfl) (RegF.opV (w':=w2) (.int .i64 x) rfl rfl (by go_simp) ⟨fun h=>(by cases h),RegM.done (by kernel_rfl) ?_⟩)
 simp only[zD,zC,zB,Act.put,zA,zF,zE]
 clear HS HDK TF HN
 go_wp2
 go_ret
 exact⟨x,s',S',rfl,hC,hD2,hL2,(GrowBut.grown (grownBy_drew w none) (fun r e=>by cases e)).trans hG2⟩
theorem fcom1_gives (w:World)(a0 a1 a2 f l:Nat)(fr pg z:Int)(A:Option Addr)(n c:Nat)(h0:BlkIs w a0 31 #[.pointer (some ⟨f,0,none⟩)])(h1:BlkIs w a1 3 #[.int .i64 z])(h2:BlkIs w a2 127 #[.slice A n c])(hf:BlkIs w f 75 (flFC l fr pg))(Q:Int->World->Prop)
  (HA:Calls Tryz.prog 116 #[.pointer (some ⟨l,0,none⟩),.int .i64 z,.slice A n c] w.drew fun e w'=>∃x:Int,e = .returned (.int .i64 x)/\Q x w') :
  Calls Tryz.prog 119 #[.pointer (some ⟨a0,0,none⟩),.pointer (some ⟨a1,0,none⟩),.pointer (some ⟨a2,0,none⟩)] w fun e w'=>∃x:Int,e = .returned (.int .i64 x)/\Q x w':=by
 have hS0:Below w.heap.size w w.drew:=(Below.refl _ _).drew
 have T0:∀W,Below w.heap.size w W->W.cell? ⟨a0,0,none⟩=some (.pointer (some ⟨f,0,none⟩)):=fun W hW=>(h0.below hW h0.lt).boxed
 have T1:∀W,Below w.heap.size w W->W.cell? ⟨a1,0,none⟩=some (.int .i64 z):=fun W hW=>(h1.below hW h1.lt).boxed
 have T2:∀W,Below w.heap.size w W->W.cell? ⟨a2,0,none⟩=some (.slice A n c):=fun W hW=>(h2.below hW h2.lt).boxed
 have TF:∀W,Below w.heap.size w W->W.cell? ⟨f,0,none⟩=some (.pointer (some ⟨l,0,none⟩)):=fun W hW=>by rw[(hf.below hW hf.lt).cell];rfl
 go_enter Tryz.func119,Tryz.ntmps119
 go_wp2_with fail
 refine RegM.start (fun W=>Below w.heap.size w W) [6,7] (by kernel_rfl) ?_
 refine RegM.take1 0 (.pointer (some ⟨f,0,none⟩)) rfl (by kernel_rfl) (by kernel_rfl) (by kernel_rfl) (by kernel_rfl) (by kernel_rfl) rfl (fun _ _ _ h=>h) hS0 (RegF.yld rfl (fun W hW=>by have q:=T0 W hW;go_simp)) ?_
 simp only[zD,zB,Act.put,zA,zF,zE]
 refine RegM.take1 1 (.pointer (some ⟨f,0,none⟩)) rfl (by kernel_rfl) (by kernel_rfl) (by kernel_rfl) (by kernel_rfl) (by kernel_rfl) rfl (fun _ _ _ h=>h) hS0 (RegF.yld rfl (fun W hW=>by go_simp)) ?_
 simp only[zD,zC,zB,Act.put,zA,zF,zE]
 refine RegM.take1 2 (.pointer (some ⟨f,0,none⟩)) rfl (by kernel_rfl) (by kernel_rfl) (by kernel_rfl) (by kernel_rfl) (by kernel_rfl) rfl (fun _ _ _ h=>h) hS0 (RegF.yld rfl (fun W hW=>by go_simp)) ?_
 simp only[zD,zC,zB,Act.put,zA,zF,zE]
 refine RegM.take1 3 (.pointer (some ⟨l,0,none⟩)) rfl (by kernel_rfl) (by kernel_rfl) (by kernel_rfl) (by kernel_rfl) (by kernel_rfl) rfl (fun _ _ _ h=>h) hS0 (RegF.yld rfl (fun W hW=>by have q:=TF W hW;go_simp)) ?_
 simp only[zD,zC,zB,Act.put,zA,zF,zE]
 refine RegM.take1 4 (.int .i64 z) rfl (by kernel_rfl) (by kernel_rfl) (by kernel_rfl) (by kernel_rfl) (by kernel_rfl) rfl (fun _ _ _ h=>h) hS0 (RegF.yld rfl (fun W hW=>by have q:=T1 W hW;go_simp)) ?_
 simp only[zD,zC,zB,Act.put,zA,zF,zE]
 refine RegM.take1 5 (.slice A n c) rfl (by kernel_rfl) (by kernel_rfl) (by kernel_rfl) (by kernel_rfl) (by kernel_rfl) rfl (fun _ _ _ h=>h) hS0 (RegF.yld rfl (fun W hW=>by have q:=T2 W hW;go_simp)) ?_
 simp only[zD,zC,zB,Act.put,zA,zF,zE]
 refine RegM.one 6 (by kernel_rfl) ?_
 refine RegF.opC 116 #[.tmp 7,.tmp 8,.tmp 9] #[71,3,127] rfl rfl rfl (enters_of Tryz.func116 (by kernel_rfl) rfl) #[.pointer (some ⟨l,0,none⟩),.int .i64 z,.slice A n c] (by simp only[zJ,zK,zL];rfl) (HA.mono ?_)
 rintro e w2 ⟨x,rfl,hQ⟩
 refine⟨_,rfl,fun h=>(by cases h),?_⟩
 simp only[zD,zC,zB,Act.put,zA,zF,zE]
 refine RegM.one 7 (by kernel_rfl) (RegF.opV (w':=w2) (.int .i64 x) rfl rfl (by go_simp) ⟨fun h=>(by cases h),RegM.done (by kernel_rfl) ?_⟩)
 simp only[zD,zC,zB,Act.put,zA,zF,zE]
 clear T0 T1 T2 TF HA
 go_wp2
 go_ret
 exact⟨x,rfl,hQ⟩
end Go.Proofs.YtnlimngkagmjpaaGreat
