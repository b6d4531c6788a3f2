/- Texts that the proof of PagerNone leans on, part 3. -/
import Derived.Laws.Externs
import Derived.OrdersHeld
import Derived.Test.YtnlimngkagmjpaaGreatPagerNoneB2
open List renaming setIfInBounds_toArray → zA, set_cons_succ → zE, set_cons_zero → zF, length_map → qD, getElem?_eq_getElem → zI, eq_nil_of_length_eq_zero → qF, nil_append → zQ, replicate → zR, length_append → zY, length_cons → zN, getElem_mem → qJ, take_of_length_le → qA, size_toArray → zS
open Nat renaming le_refl → zG, lt_of_lt_of_le → zO, zero_add → qK
open Array renaming getElem?_toList → qE, getElem?_eq_some_iff → zH
set_option linter.unusedVariables false
set_option maxRecDepth 100000
set_option maxHeartbeats 8000000

namespace Go.Proofs.YtnlimngkagmjpaaGreat
open Go Go.RowKit Lou
namespace Reg
variable {L:List (Nat×Fact)}{ops:Array Oper}{w0:World}{o:Oper}
theorem l_build6 (t1 t2 t3 t4 t5 t6:Tmp)(l1 l2 l3 l4 l5 l6:List UInt8)(ho:o.op = .buildSlice 141 6 #[(0,.tmp t1),(1,.tmp t2),(2,.tmp t3),(3,.tmp t4),(4,.tmp t5),(5,.tmp t6)])
  (c1:(o.looksAt ops).contains t1=true) (c2:(o.looksAt ops).contains t2=true) (c3:(o.looksAt ops).contains t3=true) (c4:(o.looksAt ops).contains t4=true) (c5:(o.looksAt ops).contains t5=true) (c6:(o.looksAt ops).contains t6=true)
  (f1:factOf L t1 = .res l1) (f2:factOf L t2 = .res l2) (f3:factOf L t3 = .res l3) (f4:factOf L t4 = .res l4) (f5:factOf L t5 = .res l5) (f6:factOf L t6 = .res l6) (hd:FD L o.dst = .pred (Lists [l1,l2,l3,l4,l5,l6]) (lists_stable _)):RunOk Tryz.prog ops (FSof L) w0 o:=by
 intro a w K Q hG hl hK
 have g1:(factOf L t1).holds (a.eval (.tmp t1)) w:=hl t1 c1
 have g2:(factOf L t2).holds (a.eval (.tmp t2)) w:=hl t2 c2
 have g3:(factOf L t3).holds (a.eval (.tmp t3)) w:=hl t3 c3
 have g4:(factOf L t4).holds (a.eval (.tmp t4)) w:=hl t4 c4
 have g5:(factOf L t5).holds (a.eval (.tmp t5)) w:=hl t5 c5
 have g6:(factOf L t6).holds (a.eval (.tmp t6)) w:=hl t6 c6
 rw[f1] at g1
 obtain⟨A1,k1,e1,h1⟩:=g1
 rw[f2] at g2
 obtain⟨A2,k2,e2,h2⟩:=g2
 rw[f3] at g3
 obtain⟨A3,k3,e3,h3⟩:=g3
 rw[f4] at g4
 obtain⟨A4,k4,e4,h4⟩:=g4
 rw[f5] at g5
 obtain⟨A5,k5,e5,h5⟩:=g5
 rw[f6] at g6
 obtain⟨A6,k6,e6,h6⟩:=g6
 have hN:=Lists.new (w:=w) [((A1,k1),l1),((A2,k2),l2),((A3,k3),l3),((A4,k4),l4),((A5,k5),l5),((A6,k6),l6)] (by
  intro x hx
  simp only[List.mem_cons,List.not_mem_nil,or_false] at hx
  rcases hx with rfl|rfl|rfl|rfl|rfl|rfl
  ·exact h1
  ·exact h2
  ·exact h3
  ·exact h4
  ·exact h5
  ·exact h6)
 have key:∀ρ:Operand->Value,ρ (.tmp t1) = .slice A1 l1.length k1->ρ (.tmp t2) = .slice A2 l2.length k2->ρ (.tmp t3) = .slice A3 l3.length k3->ρ (.tmp t4) = .slice A4 l4.length k4->ρ (.tmp t5) = .slice A5 l5.length k5->ρ (.tmp t6) = .slice A6 l6.length k6 ->
   (execOp ρ o).run Tryz.prog w = .ok (.value (.slice (some ⟨w.heap.size,0,none⟩) 6 6)) (w.alloc (.cells #[.slice A1 l1.length k1,.slice A2 l2.length k2,.slice A3 l3.length k3,.slice A4 l4.length k4,.slice A5 l5.length k5,.slice A6 l6.length k6] 22)) :=
  fun ρ h1 h2 h3 h4 h5 h6=>by simp[execOp,ho,h1,h2,h3,h4,h5,h6,go_sem,Result.andThen]
 unfold Oper.wp
 rw[key _ e1 e2 e3 e4 e5 e6]
 exact hK _ _ (Grow.alloc _ _) (fsd hd hN)
theorem l_callVP {P:Program}(f:FuncId)(x:Operand)(t:Tmp)(v1:Value)(p:Value->World->Prop)(hp:∀v w w',p v w->Grow w w'->p v w')(ts:Array TypeId)(ho:o.op = .call { callee:=.value (.func f),args:=#[x,.tmp t],argTypes:=ts })(hent:∀args w,(callFunc f args).run P w = .ok (.enter f args) w)
  (g:Fact) (hx:Has ops (FSof L) o x v1) (hc:(o.looksAt ops).contains t=true) (hF:factOf L t = .pred p hp)
  (hC:∀w u,Grow w0 w->p u w->Calls P f #[v1,u] w fun e w'=>∃v,e = .returned v/\Grow w w'/\g.holds v w') (hd:FD L o.dst=g):RunOk P ops (FSof L) w0 o:=by
 intro a w K Q hG hl hK
 have h':(factOf L t).holds (a.eval (.tmp t)) w:=hl t hc
 rw[hF] at h'
 have e1:=hx a w hl
 have hr:(execOp a.eval o).run P w = .ok (.enter f #[v1,a.eval (.tmp t)]) w:=by
  have ef:a.eval (.func f) = .func (.func f) #[] #[]:=rfl
  have h:=hent #[v1,a.eval (.tmp t)] w
  simp[execOp,ho,resolve,e1,ef,Deferred.ofValue,invoke,h]
 unfold Oper.wp
 rw[hr,Oper.upon_enter]
 refine(hC w _ hG h').mono ?_
 rintro e w' ⟨v,rfl,hg,hf⟩
 exact hK v w' hg (fsd hd hf)
theorem l_runP (t:Tmp)(y:Operand)(p:Value->World->Prop)(hp:∀v w w',p v w->Grow w w'->p v w')(v2:Value)(g:Fact)(hc:(o.looksAt ops).contains t=true)(hF:factOf L t = .pred p hp)(hy:Has ops (FSof L) o y v2){P:Program}
  (hrun:∀(ρ:Operand->Value) (w:World),Grow w0 w->p (ρ (.tmp t)) w->ρ y=v2->∃r w',(execOp ρ o).run P w = .ok (.value r) w'/\Grow w w'/\g.holds r w') (hd:FD L o.dst=g):RunOk P ops (FSof L) w0 o:=by
 intro a w K Q hG hl hK
 have h':(factOf L t).holds (a.eval (.tmp t)) w:=hl t hc
 rw[hF] at h'
 obtain⟨r,w',h1,h2,h3⟩:=hrun a.eval w hG h' (hy a w hl)
 unfold Oper.wp
 rw[h1]
 exact hK r w' h2 (fsd hd h3)
def FlagFn (f:Bool)(v:Value)(w:World):Prop:=∃g,v = .func (.func 216) #[] #[.pointer (some ⟨g,0,none⟩)]/\BlkIs w g 5 #[.int .u8 (((if f then 1 else 0:UInt8)).toNat:Int)]
theorem flagFn_stable (f:Bool):∀v w w',FlagFn f v w->Grow w w'->FlagFn f v w':=by
 rintro v w w' ⟨g,rfl,h⟩ hg
 exact⟨g,rfl,h.below hg h.lt⟩
theorem flagsAt_stable:∀v w w',FlagsAt w v->Grow w w'->FlagsAt w' v:=fun _ _ _ h hg=>h.below hg
theorem run_flag (f:Bool){ρ:Operand->Value}{w:World}{t:Tmp}{y:Operand}(ho:o.op = .lookup 247 (.tmp t) y false)(h:FlagsAt w (ρ (.tmp t)))(hy:ρ y = .bool f):∃r,(execOp ρ o).run Tryz.prog w = .ok (.value r) w/\FlagFn f r w:=by
 obtain⟨r,g0,g1,clock,hv,h1,h2,h3⟩:=h
 cases f with
 | false =>
  have:=run_get (P:=Tryz.prog) Tryz.underlying247 Tryz.underlying4 (key_bool false) h1 (i:=0) rfl
  exact⟨_,by simp[execOp,ho,hv,hy,this,Result.andThen],g0,rfl,h2⟩
 | true =>
  have:=run_get (P:=Tryz.prog) Tryz.underlying247 Tryz.underlying4 (key_bool true) h1 (i:=1) rfl
  exact⟨_,by simp[execOp,ho,hv,hy,this,Result.andThen],g1,rfl,h3⟩
theorem l_callFlag (f:Bool)(t:Tmp)(ts:Array TypeId)(ho:o.op = .call { callee:=.value (.tmp t),args:=#[],argTypes:=ts })(hc:(o.looksAt ops).contains t=true)(hF:factOf L t = .pred (FlagFn f) (flagFn_stable f))(hd:FD L o.dst = .res [if f then 1 else 0]):RunOk Tryz.prog ops (FSof L) w0 o:=by
 intro a w K Q hG hl hK
 have h':(factOf L t).holds (a.eval (.tmp t)) w:=hl t hc
 rw[hF] at h'
 obtain⟨g,hv,hb⟩:=h'
 have hr:(execOp a.eval o).run Tryz.prog w = .ok (.enter 216 #[.pointer (some ⟨g,0,none⟩)]) w:=by
  have h:=enters_of Tryz.func216 (by kernel_rfl) rfl #[.pointer (some ⟨g,0,none⟩)] w
  simp[execOp,ho,resolve,hv,Deferred.ofValue,invoke,h]
 unfold Oper.wp
 rw[hr,Oper.upon_enter]
 refine(gives_res (flag11_gives w g _ hb)).mono ?_
 rintro e w' ⟨v,rfl,hg,hf⟩
 exact hK v w' hg (fsd hd hf)
end Reg
theorem front_gives (e i p z n:Nat)(f:Bool)(A:Option Addr)(k:Nat)(y:List UInt8)(w:World)(hi:i<=2000)(hp:p<=2000)(hz:z<=2000)(hin:InB w w.heap.size A k y)(hy:y.length=512) :
  Calls Tryz.prog 149 #[.agg (frCells e i p f z n A y.length k)] w fun x w'=>x = .returned (.agg ((sectB (partB e i p f z n) y).map b8).toArray)/\Below w.heap.size w w':=by
 have hi32:=conv_3_45 i (by omega)
 have hp32:=conv_3_45 p (by omega)
 have hz32:=conv_3_45 z (by omega)
 have hbf:=(BlkIs.new w 163 (frCells e i p f z n A y.length k)).alloc (.cells #[.int .u8 0,.int .u8 0,.int .u8 0,.int .u8 0,.int .u8 0,.int .u8 0,.int .u8 0,.int .u8 0,.int .u8 0,.int .u8 0,.int .u8 0,.int .u8 0,.int .u8 0,.int .u8 0,.int .u8 0,.int .u8 0,.int .u8 0,.int .u8 0,.int .u8 0,.int .u8 0,.int .u8 0,.int .u8 0,.int .u8 0,.int .u8 0,.int .u8 0,.int .u8 0,.int .u8 0,.int .u8 0,.int .u8 0,.int .u8 0,.int .u8 0,.int .u8 0,.int .u8 0,.int .u8 0,.int .u8 0,.int .u8 0,.int .u8 0,.int .u8 0,.int .u8 0,.int .u8 0,.int .u8 0,.int .u8 0,.int .u8 0,.int .u8 0,.int .u8 0,.int .u8 0,.int .u8 0,.int .u8 0,.int .u8 0,.int .u8 0,.int .u8 0,.int .u8 0,.int .u8 0,.int .u8 0,.int .u8 0,.int .u8 0,.int .u8 0,.int .u8 0,.int .u8 0,.int .u8 0,.int .u8 0,.int .u8 0,.int .u8 0,.int .u8 0] 203)
 have hbs:=BlkIs.new (w.alloc (.cells (frCells e i p f z n A y.length k) 163)) 203 #[.int .u8 0,.int .u8 0,.int .u8 0,.int .u8 0,.int .u8 0,.int .u8 0,.int .u8 0,.int .u8 0,.int .u8 0,.int .u8 0,.int .u8 0,.int .u8 0,.int .u8 0,.int .u8 0,.int .u8 0,.int .u8 0,.int .u8 0,.int .u8 0,.int .u8 0,.int .u8 0,.int .u8 0,.int .u8 0,.int .u8 0,.int .u8 0,.int .u8 0,.int .u8 0,.int .u8 0,.int .u8 0,.int .u8 0,.int .u8 0,.int .u8 0,.int .u8 0,.int .u8 0,.int .u8 0,.int .u8 0,.int .u8 0,.int .u8 0,.int .u8 0,.int .u8 0,.int .u8 0,.int .u8 0,.int .u8 0,.int .u8 0,.int .u8 0,.int .u8 0,.int .u8 0,.int .u8 0,.int .u8 0,.int .u8 0,.int .u8 0,.int .u8 0,.int .u8 0,.int .u8 0,.int .u8 0,.int .u8 0,.int .u8 0,.int .u8 0,.int .u8 0,.int .u8 0,.int .u8 0,.int .u8 0,.int .u8 0,.int .u8 0,.int .u8 0]
 rw[World.size_alloc] at hbs
 have hBw:Below w.heap.size w ((w.alloc (.cells (frCells e i p f z n A y.length k) 163)).alloc (.cells #[.int .u8 0,.int .u8 0,.int .u8 0,.int .u8 0,.int .u8 0,.int .u8 0,.int .u8 0,.int .u8 0,.int .u8 0,.int .u8 0,.int .u8 0,.int .u8 0,.int .u8 0,.int .u8 0,.int .u8 0,.int .u8 0,.int .u8 0,.int .u8 0,.int .u8 0,.int .u8 0,.int .u8 0,.int .u8 0,.int .u8 0,.int .u8 0,.int .u8 0,.int .u8 0,.int .u8 0,.int .u8 0,.int .u8 0,.int .u8 0,.int .u8 0,.int .u8 0,.int .u8 0,.int .u8 0,.int .u8 0,.int .u8 0,.int .u8 0,.int .u8 0,.int .u8 0,.int .u8 0,.int .u8 0,.int .u8 0,.int .u8 0,.int .u8 0,.int .u8 0,.int .u8 0,.int .u8 0,.int .u8 0,.int .u8 0,.int .u8 0,.int .u8 0,.int .u8 0,.int .u8 0,.int .u8 0,.int .u8 0,.int .u8 0,.int .u8 0,.int .u8 0,.int .u8 0,.int .u8 0,.int .u8 0,.int .u8 0,.int .u8 0,.int .u8 0] 203)):=((Below.refl _ w).alloc (zG _) _).alloc (by simp) _
 unfold frCells at *
 have HYL:=Lib.hid hy
 clear hy
 go_enter Tryz.func149,Tryz.ntmps149
 go_wp2_with fail
 generalize (w.alloc (.cells #[.int .u64 (e:Int),.int .i64 (i:Int),.int .i64 (p:Int),.bool f,.int .i64 (z:Int),.int .u32 (n:Int),.slice A y.length k] 163)).alloc (.cells #[.int .u8 0,.int .u8 0,.int .u8 0,.int .u8 0,.int .u8 0,.int .u8 0,.int .u8 0,.int .u8 0,.int .u8 0,.int .u8 0,.int .u8 0,.int .u8 0,.int .u8 0,.int .u8 0,.int .u8 0,.int .u8 0,.int .u8 0,.int .u8 0,.int .u8 0,.int .u8 0,.int .u8 0,.int .u8 0,.int .u8 0,.int .u8 0,.int .u8 0,.int .u8 0,.int .u8 0,.int .u8 0,.int .u8 0,.int .u8 0,.int .u8 0,.int .u8 0,.int .u8 0,.int .u8 0,.int .u8 0,.int .u8 0,.int .u8 0,.int .u8 0,.int .u8 0,.int .u8 0,.int .u8 0,.int .u8 0,.int .u8 0,.int .u8 0,.int .u8 0,.int .u8 0,.int .u8 0,.int .u8 0,.int .u8 0,.int .u8 0,.int .u8 0,.int .u8 0,.int .u8 0,.int .u8 0,.int .u8 0,.int .u8 0,.int .u8 0,.int .u8 0,.int .u8 0,.int .u8 0,.int .u8 0,.int .u8 0,.int .u8 0,.int .u8 0] 203)=W1 at *
 have hc0:∀w',Grow W1 w'->w'.cell? ⟨w.heap.size,0,none⟩=some (.int .u64 e):=fun w' hg=>(hg.cell (p:=⟨w.heap.size,0,none⟩) hbf.lt).trans (by rw[hbf.cell];rfl)
 have hc1:∀w',Grow W1 w'->w'.cell? ⟨w.heap.size,1,none⟩=some (.int .i64 i):=fun w' hg=>(hg.cell (p:=⟨w.heap.size,1,none⟩) hbf.lt).trans (by rw[hbf.cell];rfl)
 have hc2:∀w',Grow W1 w'->w'.cell? ⟨w.heap.size,2,none⟩=some (.int .i64 p):=fun w' hg=>(hg.cell (p:=⟨w.heap.size,2,none⟩) hbf.lt).trans (by rw[hbf.cell];rfl)
 have hc3:∀w',Grow W1 w'->w'.cell? ⟨w.heap.size,3,none⟩=some (.bool f):=fun w' hg=>(hg.cell (p:=⟨w.heap.size,3,none⟩) hbf.lt).trans (by rw[hbf.cell];rfl)
 have hc4:∀w',Grow W1 w'->w'.cell? ⟨w.heap.size,4,none⟩=some (.int .i64 z):=fun w' hg=>(hg.cell (p:=⟨w.heap.size,4,none⟩) hbf.lt).trans (by rw[hbf.cell];rfl)
 have hc5:∀w',Grow W1 w'->w'.cell? ⟨w.heap.size,5,none⟩=some (.int .u32 n):=fun w' hg=>(hg.cell (p:=⟨w.heap.size,5,none⟩) hbf.lt).trans (by rw[hbf.cell];rfl)
 have hc6:∀w',Grow W1 w'->w'.cell? ⟨w.heap.size,6,none⟩=some (.slice A y.length k):=fun w' hg=>(hg.cell (p:=⟨w.heap.size,6,none⟩) hbf.lt).trans (by rw[hbf.cell];rfl)
 have hin1:=(hin.below hBw).more hBw.size
 have hlaid:∀w' u,Grow W1 w'->Lists [fixL 8 e,fixL 4 i,fixL 4 p,[if f then 1 else 0],fixL 4 z,fixL 4 n] u w'->Calls Tryz.prog 187 #[.slice A y.length k,u] w' fun x w2=>x = .returned (.agg ((sectB [fixL 8 e,fixL 4 i,fixL 4 p,[if f then 1 else 0],fixL 4 z,fixL 4 n].flatten y).map b8).toArray)/\Below w'.heap.size w' w2:=fun w' u hg hu =>
  laid_gives w' A k y _ u ((hin1.below hg).more hg.size) hu (by simp) (partB_length e i p f z n) (by rw[HYL.out];omega)
 open Reg in
 refine region_tail_facts (by kernel_rfl) (by kernel_rfl) 30 rfl (by kernel_rfl) 27 (by decide) (by kernel_rfl) (by kernel_rfl) [3,4,5,6,7,8,9,10,11,12,13,14,15,16,17,18,19,20,21,22,23,24,25,26,27,28,29] (by kernel_rfl)
  [(1,.val (.pointer (some ⟨w.heap.size,0,none⟩)))]
  [(3,.val (.pointer (some ⟨w.heap.size,6,none⟩))),(4,.val (.slice A y.length k)),(5,.val (.pointer (some ⟨w.heap.size,0,none⟩))),(6,.val (.int .u64 (e:Int))),(7,.res (fixL 8 e)),(8,.val (.pointer (some ⟨w.heap.size,1,none⟩))),(9,.val (.int .i64 (i:Int))),(10,.val (.int .u32 (i:Int))),(11,.res (fixL 4 i)),(12,.val (.pointer (some ⟨w.heap.size,2,none⟩))),(13,.val (.int .i64 (p:Int))),(14,.val (.int .u32 (p:Int))),(15,.res (fixL 4 p)),(16,.pred ((fun v w=>FlagsAt w v)) (flagsAt_stable)),(17,.val (.pointer (some ⟨w.heap.size,3,none⟩))),(18,.val (.bool f)),(19,.pred (FlagFn f) (flagFn_stable f)),(20,.res ([if f then 1 else 0])),(21,.val (.pointer (some ⟨w.heap.size,4,none⟩))),(22,.val (.int .i64 (z:Int))),(23,.val (.int .u32 (z:Int))),(24,.res (fixL 4 z)),(25,.val (.pointer (some ⟨w.heap.size,5,none⟩))),(26,.val (.int .u32 (n:Int))),(27,.res (fixL 4 n)),(28,.pred (Lists [fixL 8 e,fixL 4 i,fixL 4 p,[if f then 1 else 0],fixL 4 z,fixL 4 n]) (lists_stable _)),(29,.val (.agg ((sectB [fixL 8 e,fixL 4 i,fixL 4 p,[if f then 1 else 0],fixL 4 z,fixL 4 n].flatten y).map b8).toArray))]
  ⟨rfl,trivial⟩ (by kernel_rfl) (by kernel_rfl)
  (allOk_cons (ok_none rfl (l_run1 (.tmp 1) (.pointer (some ⟨w.heap.size,0,none⟩)) (.pointer (some ⟨w.heap.size,6,none⟩)) (hs 1 _ (by kernel_rfl) (by kernel_rfl)) (fun ρ w h=>by simp[execOp,h,go_sem,Result.andThen]) (by kernel_rfl)))
  <| allOk_cons (ok_none rfl (l_load (.tmp 3) (⟨w.heap.size,6,none⟩) _ (.slice A y.length k) (by intro w;simp[go_sem]) rfl (hs 3 (.pointer (some ⟨w.heap.size,6,none⟩)) (by kernel_rfl) (by kernel_rfl)) (fun w hg=>hc6 w hg) (by kernel_rfl)))
  <| allOk_cons (ok_none rfl (l_run1 (.tmp 1) (.pointer (some ⟨w.heap.size,0,none⟩)) (.pointer (some ⟨w.heap.size,0,none⟩)) (hs 1 _ (by kernel_rfl) (by kernel_rfl)) (fun ρ w h=>by simp[execOp,h,go_sem,Result.andThen]) (by kernel_rfl)))
  <| allOk_cons (ok_none rfl (l_load (.tmp 5) (⟨w.heap.size,0,none⟩) _ (.int .u64 (e:Int)) (by intro w;simp[go_sem]) rfl (hs 5 (.pointer (some ⟨w.heap.size,0,none⟩)) (by kernel_rfl) (by kernel_rfl)) (fun w hg=>hc0 w hg) (by kernel_rfl)))
  <| allOk_cons (ok_none rfl (l_call 177 _ _ rfl (enters_of Tryz.func177 (by kernel_rfl) rfl) #[.int .u64 (e:Int)] (.res (fixL 8 e)) (args1 (hs 6 (.int .u64 (e:Int)) (by kernel_rfl) (by kernel_rfl))) (fun w hg=>gives_res (eight_gives e w)) (by kernel_rfl)))
  <| allOk_cons (ok_none rfl (l_run1 (.tmp 1) (.pointer (some ⟨w.heap.size,0,none⟩)) (.pointer (some ⟨w.heap.size,1,none⟩)) (hs 1 _ (by kernel_rfl) (by kernel_rfl)) (fun ρ w h=>by simp[execOp,h,go_sem,Result.andThen]) (by kernel_rfl)))
  <| allOk_cons (ok_none rfl (l_load (.tmp 8) (⟨w.heap.size,1,none⟩) _ (.int .i64 (i:Int)) (by intro w;simp[go_sem]) rfl (hs 8 (.pointer (some ⟨w.heap.size,1,none⟩)) (by kernel_rfl) (by kernel_rfl)) (fun w hg=>hc1 w hg) (by kernel_rfl)))
  <| allOk_cons (ok_none rfl (l_convS (.tmp 9) _ _ (.int .i64 (i:Int)) (.int .u32 (i:Int)) rfl (hs 9 (.int .i64 (i:Int)) (by kernel_rfl) (by kernel_rfl)) (fun w hg=>hi32 w) (by kernel_rfl)))
  <| allOk_cons (ok_none rfl (l_call 80 _ _ rfl (enters_of Tryz.func80 (by kernel_rfl) rfl) #[.int .u32 (i:Int)] (.res (fixL 4 i)) (args1 (hs 10 (.int .u32 (i:Int)) (by kernel_rfl) (by kernel_rfl))) (fun w hg=>gives_res (four_gives i w)) (by kernel_rfl)))
  <| allOk_cons (ok_none rfl (l_run1 (.tmp 1) (.pointer (some ⟨w.heap.size,0,none⟩)) (.pointer (some ⟨w.heap.size,2,none⟩)) (hs 1 _ (by kernel_rfl) (by kernel_rfl)) (fun ρ w h=>by simp[execOp,h,go_sem,Result.andThen]) (by kernel_rfl)))
  <| allOk_cons (ok_none rfl (l_load (.tmp 12) (⟨w.heap.size,2,none⟩) _ (.int .i64 (p:Int)) (by intro w;simp[go_sem]) rfl (hs 12 (.pointer (some ⟨w.heap.size,2,none⟩)) (by kernel_rfl) (by kernel_rfl)) (fun w hg=>hc2 w hg) (by kernel_rfl)))
  <| allOk_cons (ok_none rfl (l_convS (.tmp 13) _ _ (.int .i64 (p:Int)) (.int .u32 (p:Int)) rfl (hs 13 (.int .i64 (p:Int)) (by kernel_rfl) (by kernel_rfl)) (fun w hg=>hp32 w) (by kernel_rfl)))
  <| allOk_cons (ok_none rfl (l_call 80 _ _ rfl (enters_of Tryz.func80 (by kernel_rfl) rfl) #[.int .u32 (p:Int)] (.res (fixL 4 p)) (args1 (hs 14 (.int .u32 (p:Int)) (by kernel_rfl) (by kernel_rfl))) (fun w hg=>gives_res (four_gives p w)) (by kernel_rfl)))
  <| allOk_cons (ok_none rfl (l_call 188 _ _ rfl (enters_of Tryz.func188 (by kernel_rfl) rfl) #[] (.pred ((fun v w=>FlagsAt w v)) (flagsAt_stable)) (fun _ _ _=>by simp) (fun w hg=>(flags_gives w).mono (fun _ _ ⟨v,he,h1,h2⟩=>⟨v,he,h2,h1⟩)) (by kernel_rfl)))
  <| allOk_cons (ok_none rfl (l_run1 (.tmp 1) (.pointer (some ⟨w.heap.size,0,none⟩)) (.pointer (some ⟨w.heap.size,3,none⟩)) (hs 1 _ (by kernel_rfl) (by kernel_rfl)) (fun ρ w h=>by simp[execOp,h,go_sem,Result.andThen]) (by kernel_rfl)))
  <| allOk_cons (ok_none rfl (l_load (.tmp 17) (⟨w.heap.size,3,none⟩) _ (.bool f) (by intro w;simp[go_sem]) rfl (hs 17 (.pointer (some ⟨w.heap.size,3,none⟩)) (by kernel_rfl) (by kernel_rfl)) (fun w hg=>hc3 w hg) (by kernel_rfl)))
  <| allOk_cons (ok_none rfl (l_runP 16 (.tmp 18) _ flagsAt_stable (.bool f) (.pred (FlagFn f) (flagFn_stable f)) (by kernel_rfl) (by kernel_rfl) (hs 18 _ (by kernel_rfl) (by kernel_rfl)) (fun ρ w hg h1 h2=>let ⟨r,q1,q2⟩:=run_flag f rfl h1 h2;⟨r,w,q1,Grow.refl _,q2⟩) (by kernel_rfl)))
  <| allOk_cons (ok_none rfl (l_callFlag f 19 _ rfl (by kernel_rfl) (by kernel_rfl) (by kernel_rfl)))
  <| allOk_cons (ok_none rfl (l_run1 (.tmp 1) (.pointer (some ⟨w.heap.size,0,none⟩)) (.pointer (some ⟨w.heap.size,4,none⟩)) (hs 1 _ (by kernel_rfl) (by kernel_rfl)) (fun ρ w h=>by simp[execOp,h,go_sem,Result.andThen]) (by kernel_rfl)))
  <| allOk_cons (ok_none rfl (l_load (.tmp 21) (⟨w.heap.size,4,none⟩) _ (.int .i64 (z:Int)) (by intro w;simp[go_sem]) rfl (hs 21 (.pointer (some ⟨w.heap.size,4,none⟩)) (by kernel_rfl) (by kernel_rfl)) (fun w hg=>hc4 w hg) (by kernel_rfl)))
  <| allOk_cons (ok_none rfl (l_convS (.tmp 22) _ _ (.int .i64 (z:Int)) (.int .u32 (z:Int)) rfl (hs 22 (.int .i64 (z:Int)) (by kernel_rfl) (by kernel_rfl)) (fun w hg=>hz32 w) (by kernel_rfl)))
  <| allOk_cons (ok_none rfl (l_call 80 _ _ rfl (enters_of Tryz.func80 (by kernel_rfl) rfl) #[.int .u32 (z:Int)] (.res (fixL 4 z)) (args1 (hs 23 (.int .u32 (z:Int)) (by kernel_rfl) (by kernel_rfl))) (fun w hg=>gives_res (four_gives z w)) (by kernel_rfl)))
  <| allOk_cons (ok_none rfl (l_run1 (.tmp 1) (.pointer (some ⟨w.heap.size,0,none⟩)) (.pointer (some ⟨w.heap.size,5,none⟩)) (hs 1 _ (by kernel_rfl) (by kernel_rfl)) (fun ρ w h=>by simp[execOp,h,go_sem,Result.andThen]) (by kernel_rfl)))
  <| allOk_cons (ok_none rfl (l_load (.tmp 25) (⟨w.heap.size,5,none⟩) _ (.int .u32 (n:Int)) (by intro w;simp[go_sem]) rfl (hs 25 (.pointer (some ⟨w.heap.size,5,none⟩)) (by kernel_rfl) (by kernel_rfl)) (fun w hg=>hc5 w hg) (by kernel_rfl)))
  <| allOk_cons (ok_none rfl (l_call 80 _ _ rfl (enters_of Tryz.func80 (by kernel_rfl) rfl) #[.int .u32 (n:Int)] (.res (fixL 4 n)) (args1 (hs 26 (.int .u32 (n:Int)) (by kernel_rfl) (by kernel_rfl))) (fun w hg=>gives_res (four_gives n w)) (by kernel_rfl)))
  <| allOk_cons (ok_none rfl (l_build6 7 11 15 20 24 27 (fixL 8 e) (fixL 4 i) (fixL 4 p) [if f then 1 else 0] (fixL 4 z) (fixL 4 n) rfl (by kernel_rfl) (by kernel_rfl) (by kernel_rfl) (by kernel_rfl) (by kernel_rfl) (by kernel_rfl) (by kernel_rfl) (by kernel_rfl) (by kernel_rfl) (by kernel_rfl) (by kernel_rfl) (by kernel_rfl) (by kernel_rfl)))
  <| allOk_cons (ok_none rfl (l_callVP 187 (.tmp 4) 28 (.slice A y.length k) (Lists [fixL 8 e,fixL 4 i,fixL 4 p,[if f then 1 else 0],fixL 4 z,fixL 4 n]) (lists_stable _) _ rfl (enters_of Tryz.func187 (by kernel_rfl) rfl) (.val (.agg ((sectB [fixL 8 e,fixL 4 i,fixL 4 p,[if f then 1 else 0],fixL 4 z,fixL 4 n].flatten y).map b8).toArray)) (hs 4 _ (by kernel_rfl) (by kernel_rfl)) (by kernel_rfl) (by kernel_rfl) (fun w u hg hu=>gives_grow (hlaid w u hg hu)) (by kernel_rfl)))
  <| allOk_nil) ?_
 intro a W3 hsz hdef hGW3 hF hU
 have e29:a.eval (.tmp 29) = .agg ((sectB [fixL 8 e,fixL 4 i,fixL 4 p,[if f then 1 else 0],fixL 4 z,fixL 4 n].flatten y).map b8).toArray:=hF 29
 have ha:=Reg.acts_eq [3,4,5,6,7,8,9,10,11,12,13,14,15,16,17,18,19,20,21,22,23,24,25,26,27,28,29] hsz hdef hU
 clear hF hU hdef
 simp only[List.foldl_cons,List.foldl_nil,e29] at ha
 clear e29 hsz
 generalize a.eval (.tmp 3)=v3 at *
 generalize a.eval (.tmp 4)=v4 at *
 generalize a.eval (.tmp 5)=v5 at *
 generalize a.eval (.tmp 6)=v6 at *
 generalize a.eval (.tmp 7)=v7 at *
 generalize a.eval (.tmp 8)=v8 at *
 generalize a.eval (.tmp 9)=v9 at *
 generalize a.eval (.tmp 10)=v10 at *
 generalize a.eval (.tmp 11)=v11 at *
 generalize a.eval (.tmp 12)=v12 at *
 generalize a.eval (.tmp 13)=v13 at *
 generalize a.eval (.tmp 14)=v14 at *
 generalize a.eval (.tmp 15)=v15 at *
 generalize a.eval (.tmp 16)=v16 at *
 generalize a.eval (.tmp 17)=v17 at *
 generalize a.eval (.tmp 18)=v18 at *
 generalize a.eval (.tmp 19)=v19 at *
 generalize a.eval (.tmp 20)=v20 at *
 generalize a.eval (.tmp 21)=v21 at *
 generalize a.eval (.tmp 22)=v22 at *
 generalize a.eval (.tmp 23)=v23 at *
 generalize a.eval (.tmp 24)=v24 at *
 generalize a.eval (.tmp 25)=v25 at *
 generalize a.eval (.tmp 26)=v26 at *
 generalize a.eval (.tmp 27)=v27 at *
 generalize a.eval (.tmp 28)=v28 at *
 simp only[Act.put,zA,zE,zF] at ha
 subst ha
 simp only[Reg.Rest,List.drop_succ_cons,List.drop_zero]
 have hs3:=hbs.below hGW3 hbs.lt
 have hB3:Below w.heap.size w W3:=hBw.trans (hGW3.mono hBw.size)
 have hpb:[fixL 8 e,fixL 4 i,fixL 4 p,[if f then 1 else 0],fixL 4 z,fixL 4 n].flatten=partB e i p f z n:=rfl
 have hl25:=partB_length e i p f z n
 rw[hpb]
 clear hlaid hc0 hc1 hc2 hc3 hc4 hc5 hc6 hbf hbs hin1 hpb hi32 hp32 hz32
 generalize hPq:partB e i p f z n=P at *
 have HPq:=Lib.hid hPq
 clear hPq
 have h64:((sectB P y).map b8).toArray.size=64:=by
  simp[sectB_length];omega
 have hRow:RowTy Tryz.prog 203 ((sectB P y).map b8).toArray.size:=by rw[h64];exact rowSector
 refine wp_storeW rfl 203 (.tmp 2) (.tmp 29) rfl (w.heap.size+1) rfl rfl rowSector hs3 (by simp) (by rw[h64];simp) (b8_one _) ?_
 have hb4:=hs3.setRow ((sectB P y).map b8).toArray
 have hB4:Below w.heap.size w (W3.setRow (w.heap.size+1) ((sectB P y).map b8).toArray):=below_setRow hB3 (by omega) _
 generalize W3.setRow (w.heap.size+1) ((sectB P y).map b8).toArray=W4 at *
 clear h64 hs3 hl25
 simp only[wpList,Act.put,Exit.then]
 refine ‹∀(a:Act) (w:World),Code.wp Tryz.prog Code.ret _ a w->_› _ W4 ?_
 refine wp_ret (bodyPost_ret_by (results_cellW 2 rfl rfl hRow hb4 rfl) rfl ⟨?_,hB4⟩)
 rw[HPq.out]
def fEnc (e:Nat)(i p:Int)(f:Bool)(z:Int)(n:Nat)(y:List UInt8):List UInt8:=if frOk y.length i p f z then frameB (partB e i.toNat p.toNat f z.toNat n) y else []
def fErr (i p:Int)(f:Bool)(z:Int)(y:List UInt8):Int:=if frOk y.length i p f z then 0 else 2
theorem fEnc_ok {e i p:Nat}{f:Bool}{z n:Nat}{y:List UInt8}(h:frOk y.length i p f z=true):fEnc e i p f z n y=frameB (partB e i p f z n) y/\fErr i p f z y=0:=by simp[fEnc,fErr,h]
theorem encode_gives (e:Nat)(i p:Int)(f:Bool)(z:Int)(n:Nat)(A:Option Addr)(k:Nat)(y:List UInt8)(w:World)(hin:InB w w.heap.size A k y) :
  Calls Tryz.prog 160 #[.agg (frCells e i p f z n A y.length k)] w (GivesBE w (fEnc e i p f z n y) (fErr i p f z y)):=by
 have hbh:=BlkIs.new w 163 (frCells e i p f z n A y.length k)
 have hBw:Below w.heap.size w (w.alloc (.cells (frCells e i p f z n A y.length k) 163)):=(Below.refl _ w).alloc (zG _) _
 have H:=right_gives e i p f z n A y.length k (w.alloc (.cells (frCells e i p f z n A y.length k) 163))
 cases hk:frOk y.length i p f z with
 | false =>
  have h1:fEnc e i p f z n y=[]:=by simp[fEnc,hk]
  have h2:fErr i p f z y=2:=by simp[fErr,hk]
  rw[h1,h2]
  rw[hk] at H
  clear h1 h2 hk
  unfold frCells at *
  go_enter Tryz.func160,Tryz.ntmps160
  go_wp2_with (first
   | (go_at_call 148;refine H.mono ?_;rintro x w2 ⟨rfl,hB2⟩)
   | (refine wp_loadW rfl 163 (.tmp 1) rfl w.heap.size rfl rowFrame hbh (by rfl) ?_))
  exact bodyPost_ret (results_tmp2 rfl _ _ _) rfl ⟨none,0,rfl,InB.mt _ _,hBw.trans (hB2.mono hBw.size)⟩
 | true =>
  obtain⟨hy,⟨hi0,hi1⟩,⟨hp0,hp1⟩,⟨hz0,hz1⟩,_⟩:=(frOk_iff _ _ _ _ _).1 hk
  obtain⟨i,rfl⟩:∃q:Nat,i=q:=⟨i.toNat,by omega⟩
  obtain⟨p,rfl⟩:∃q:Nat,p=q:=⟨p.toNat,by omega⟩
  obtain⟨z,rfl⟩:∃q:Nat,z=q:=⟨z.toNat,by omega⟩
  rw[hk] at H
  obtain⟨h1,h2⟩:=fEnc_ok (e:=e) (n:=n) hk
  rw[h1,h2]
  have hin1:=(hin.below hBw).more hBw.size
  have HF:=fun W (h:InB W W.heap.size A k y)=>front_gives e i p z n f A k y W (by omega) (by omega) (by omega) h hy
  have hl25:=partB_length e i p f z n
  have hfr:frameB (partB e i p f z n) y=sectB (partB e i p f z n) y++y:=rfl
  have hsl:(sectB (partB e i p f z n) y).length=64:=by rw[sectB_length,hl25]
  rw[hfr]
  generalize sectB (partB e i p f z n) y=s at *
  have HSL:=Lib.hid hsl
  have HYL:=Lib.hid hy
  have hRow:RowTy Tryz.prog 203 (s.map b8).toArray.size:=by
   have:(s.map b8).toArray.size=64:=by simp[hsl]
   rw[this]
   exact rowSector
  clear h1 h2 hk hin hfr hl25 hsl hy
  unfold frCells at *
  go_enter Tryz.func160,Tryz.ntmps160
  go_wp2_with (first
   | (go_at_call 148;refine H.mono ?_;rintro x w2 ⟨rfl,hB2⟩;have hbh2:=hbh.below hB2 hbh.lt;have hB02:=hBw.trans (hB2.mono hBw.size);have hin2:=(hin1.below hB2).more hB2.size;clear H hbh hin1)
   | (go_at_call 149;refine(HF _ hin2).mono ?_;rintro x w3 ⟨rfl,hB3⟩;have hbh3:=hbh2.below hB3 hbh2.lt;have hB03:=hB02.trans (hB3.mono hB02.size);have hin3:=(hin2.below hB3).more hB3.size;clear HF hbh2 hin2)
   | (refine wp_loadW rfl 163 (.tmp 1) rfl w.heap.size rfl rowFrame (by assumption) (by rfl) ?_)
   | (refine wp_storeW rfl 203 (.tmp 4) (.tmp 9) rfl w3.heap.size rfl rfl rowSector (BlkIs.new w3 203 #[.int .u8 0,.int .u8 0,.int .u8 0,.int .u8 0,.int .u8 0,.int .u8 0,.int .u8 0,.int .u8 0,.int .u8 0,.int .u8 0,.int .u8 0,.int .u8 0,.int .u8 0,.int .u8 0,.int .u8 0,.int .u8 0,.int .u8 0,.int .u8 0,.int .u8 0,.int .u8 0,.int .u8 0,.int .u8 0,.int .u8 0,.int .u8 0,.int .u8 0,.int .u8 0,.int .u8 0,.int .u8 0,.int .u8 0,.int .u8 0,.int .u8 0,.int .u8 0,.int .u8 0,.int .u8 0,.int .u8 0,.int .u8 0,.int .u8 0,.int .u8 0,.int .u8 0,.int .u8 0,.int .u8 0,.int .u8 0,.int .u8 0,.int .u8 0,.int .u8 0,.int .u8 0,.int .u8 0,.int .u8 0,.int .u8 0,.int .u8 0,.int .u8 0,.int .u8 0,.int .u8 0,.int .u8 0,.int .u8 0,.int .u8 0,.int .u8 0,.int .u8 0,.int .u8 0,.int .u8 0,.int .u8 0,.int .u8 0,.int .u8 0,.int .u8 0]) (by rfl) (by have:=HSL.out;simp;omega) (b8_one _) ?_))
  have hb4:=(BlkIs.new w3 203 #[.int .u8 0,.int .u8 0,.int .u8 0,.int .u8 0,.int .u8 0,.int .u8 0,.int .u8 0,.int .u8 0,.int .u8 0,.int .u8 0,.int .u8 0,.int .u8 0,.int .u8 0,.int .u8 0,.int .u8 0,.int .u8 0,.int .u8 0,.int .u8 0,.int .u8 0,.int .u8 0,.int .u8 0,.int .u8 0,.int .u8 0,.int .u8 0,.int .u8 0,.int .u8 0,.int .u8 0,.int .u8 0,.int .u8 0,.int .u8 0,.int .u8 0,.int .u8 0,.int .u8 0,.int .u8 0,.int .u8 0,.int .u8 0,.int .u8 0,.int .u8 0,.int .u8 0,.int .u8 0,.int .u8 0,.int .u8 0,.int .u8 0,.int .u8 0,.int .u8 0,.int .u8 0,.int .u8 0,.int .u8 0,.int .u8 0,.int .u8 0,.int .u8 0,.int .u8 0,.int .u8 0,.int .u8 0,.int .u8 0,.int .u8 0,.int .u8 0,.int .u8 0,.int .u8 0,.int .u8 0,.int .u8 0,.int .u8 0,.int .u8 0,.int .u8 0]).setRow (s.map b8).toArray
  have hB34:Below w3.heap.size w3 ((w3.alloc (.cells #[.int .u8 0,.int .u8 0,.int .u8 0,.int .u8 0,.int .u8 0,.int .u8 0,.int .u8 0,.int .u8 0,.int .u8 0,.int .u8 0,.int .u8 0,.int .u8 0,.int .u8 0,.int .u8 0,.int .u8 0,.int .u8 0,.int .u8 0,.int .u8 0,.int .u8 0,.int .u8 0,.int .u8 0,.int .u8 0,.int .u8 0,.int .u8 0,.int .u8 0,.int .u8 0,.int .u8 0,.int .u8 0,.int .u8 0,.int .u8 0,.int .u8 0,.int .u8 0,.int .u8 0,.int .u8 0,.int .u8 0,.int .u8 0,.int .u8 0,.int .u8 0,.int .u8 0,.int .u8 0,.int .u8 0,.int .u8 0,.int .u8 0,.int .u8 0,.int .u8 0,.int .u8 0,.int .u8 0,.int .u8 0,.int .u8 0,.int .u8 0,.int .u8 0,.int .u8 0,.int .u8 0,.int .u8 0,.int .u8 0,.int .u8 0,.int .u8 0,.int .u8 0,.int .u8 0,.int .u8 0,.int .u8 0,.int .u8 0,.int .u8 0,.int .u8 0] 203)).setRow w3.heap.size (s.map b8).toArray):=below_setRow ((Below.refl _ w3).alloc (zG _) _) (zG _) _
  have hB4:Below w.heap.size w ((w3.alloc (.cells #[.int .u8 0,.int .u8 0,.int .u8 0,.int .u8 0,.int .u8 0,.int .u8 0,.int .u8 0,.int .u8 0,.int .u8 0,.int .u8 0,.int .u8 0,.int .u8 0,.int .u8 0,.int .u8 0,.int .u8 0,.int .u8 0,.int .u8 0,.int .u8 0,.int .u8 0,.int .u8 0,.int .u8 0,.int .u8 0,.int .u8 0,.int .u8 0,.int .u8 0,.int .u8 0,.int .u8 0,.int .u8 0,.int .u8 0,.int .u8 0,.int .u8 0,.int .u8 0,.int .u8 0,.int .u8 0,.int .u8 0,.int .u8 0,.int .u8 0,.int .u8 0,.int .u8 0,.int .u8 0,.int .u8 0,.int .u8 0,.int .u8 0,.int .u8 0,.int .u8 0,.int .u8 0,.int .u8 0,.int .u8 0,.int .u8 0,.int .u8 0,.int .u8 0,.int .u8 0,.int .u8 0,.int .u8 0,.int .u8 0,.int .u8 0,.int .u8 0,.int .u8 0,.int .u8 0,.int .u8 0,.int .u8 0,.int .u8 0,.int .u8 0,.int .u8 0] 203)).setRow w3.heap.size (s.map b8).toArray):=hB03.trans (hB34.mono hB03.size)
  have hf4:=hbh3.below hB34 hbh3.lt
  have hin4:=(hin3.below hB34).more hB34.size
  have hs4:=hb4.inBT (by rw[HSL.out];omega)
  rw[HSL.out] at hs4
  clear hb4 hbh3 hin3 hB34 hB03 hB02 hB2 hB3
  generalize hW4:(w3.alloc (.cells #[.int .u8 0,.int .u8 0,.int .u8 0,.int .u8 0,.int .u8 0,.int .u8 0,.int .u8 0,.int .u8 0,.int .u8 0,.int .u8 0,.int .u8 0,.int .u8 0,.int .u8 0,.int .u8 0,.int .u8 0,.int .u8 0,.int .u8 0,.int .u8 0,.int .u8 0,.int .u8 0,.int .u8 0,.int .u8 0,.int .u8 0,.int .u8 0,.int .u8 0,.int .u8 0,.int .u8 0,.int .u8 0,.int .u8 0,.int .u8 0,.int .u8 0,.int .u8 0,.int .u8 0,.int .u8 0,.int .u8 0,.int .u8 0,.int .u8 0,.int .u8 0,.int .u8 0,.int .u8 0,.int .u8 0,.int .u8 0,.int .u8 0,.int .u8 0,.int .u8 0,.int .u8 0,.int .u8 0,.int .u8 0,.int .u8 0,.int .u8 0,.int .u8 0,.int .u8 0,.int .u8 0,.int .u8 0,.int .u8 0,.int .u8 0,.int .u8 0,.int .u8 0,.int .u8 0,.int .u8 0,.int .u8 0,.int .u8 0,.int .u8 0,.int .u8 0] 203)).setRow w3.heap.size (s.map b8).toArray=W4 at *
  generalize w3.heap.size=g3 at *
  clear hW4
  simp only[Act.put]
  have hc6:W4.cell? ⟨w.heap.size,6,none⟩=some (.slice A y.length k):=by rw[hf4.cell];rfl
  have hC:=concat2_gives W4.drew (some ⟨g3,0,none⟩) A 64 k s y hs4.drew hin4.drew (by rw[HSL.out,HYL.out];omega)
  rw[HSL.out] at hC
  have hlt4:=hf4.lt
  go_region_held3 (fun W=>Below W4.heap.size W4 W/\W.cell? ⟨w.heap.size,6,none⟩=some (.slice A y.length k)) (first|exact⟨(Below.refl _ _).drew,hc6⟩|exact⟨((Below.refl _ W4).drew).alloc (zG _) _,(World.cell?_of_block (Below.heap_alloc W4.drew _ _ hlt4)).trans hc6⟩|exact⟨hB5',(hB5'.cell (p:=⟨w.heap.size,6,none⟩) hlt4).trans hc6⟩)
   (first
    | (go_at_call 79;refine hC.mono ?_;rintro x W5 ⟨v5,rfl,own5,hB5⟩;have hB5':Below W4.heap.size W4 W5:=(Below.refl _ W4).drew.trans hB5))
  go_wp2
  obtain⟨A5,c5,rfl,hin5⟩:=own5.inB
  exact bodyPost_ret (results_tmp2 rfl _ _ _) rfl ⟨A5,c5,rfl,hin5,hB4.trans (hB5'.mono hB4.size)⟩
theorem ftake_gives (w:World)(g o:Nat)(A:Option Addr)(len c n:Nat)(hlen:len<=c)(hcc:c<=9223372036854775807)(hn:n<=len)(hc:w.cell? ⟨g,o,none⟩=some (.slice A len c))(hf:w.frozen? ⟨g,o,none⟩=false) :
  Calls Tryz.prog 147 #[.pointer (some ⟨g,o,none⟩),.int .i64 n] w fun e w'=>e = .returned (.slice A n n)/\w.setCell ⟨g,o,none⟩ (.slice (cutA A c n) (len - n) (c - n))=w':=by
 by_cases hcn:c=n
 ·obtain rfl:len=c:=by omega
  subst hcn
  go_enter Tryz.func147,Tryz.ntmps147
  go_wp2
  go_ret
  refine⟨rfl,?_⟩
  simp[cutA]
 ·go_enter Tryz.func147,Tryz.ntmps147
  go_wp2
  go_ret
  refine⟨rfl,?_⟩
  simp[cutA,hcn]
structure RdrAt (w:World)(g:Nat)(A:Option Addr)(c:Nat)(l:List UInt8):Prop where
 blk:BlkIs w g 197 #[.slice A l.length c]
 inb:InB w g A c l
theorem RdrAt.below {w w':World}{g:Nat}{A:Option Addr}{c:Nat}{l:List UInt8}(h:RdrAt w g A c l)(hB:Below w.heap.size w w'):RdrAt w' g A c l :=
 ⟨h.blk.below hB h.blk.lt,h.inb.below (hB.mono (Nat.le_of_lt h.blk.lt))⟩
theorem RdrAt.cut {w:World}{g:Nat}{A:Option Addr}{c:Nat}{l:List UInt8}(h:RdrAt w g A c l)(n:Nat)(hn:n<=l.length):RdrAt (w.setCell ⟨g,0,none⟩ (.slice (cutA A c n) (l.length - n) (c - n))) g (cutA A c n) (c - n) (l.drop n):=by
 refine⟨?_,(h.inb.drop n hn).keep fun p hp=>World.cell?_setCell_other w _ p _ (fun e=>by subst e;simp at hp)⟩
 have:=h.blk.set 0 (.slice (cutA A c n) (l.length - n) (c - n))
 rw[List.length_drop]
 exact this
theorem number64_gives (w:World)(g:Nat)(A:Option Addr)(c:Nat)(l:List UInt8)(h:RdrAt w g A c l)(hl:8<=l.length) :
  Calls Tryz.prog 134 #[.pointer (some ⟨g,0,none⟩),.int .i64 8,.func (.func 135) #[] #[]] w fun e w'=>e = .returned (.int .u64 (rfix (l.take 8):Int))/\RdrAt w' g (cutA A c 8) (c - 8) (l.drop 8)/\Below g w w':=by
 have hle:=h.inb.le
 have hmx:=h.inb.max
 have T:=ftake_gives w g 0 A l.length c 8 hle hmx hl (by rw[h.blk.cell];rfl) (h.blk.free 0)
 have hR:=h.cut 8 hl
 have hB1:Below g w (w.setCell ⟨g,0,none⟩ (.slice (cutA A c 8) (l.length - 8) (c - 8))):=(Below.refl g w).setCell (p:=⟨g,0,none⟩) (zG g) _
 have hin:=h.inb.below hB1
 clear h
 generalize w.setCell ⟨g,0,none⟩ (.slice (cutA A c 8) (l.length - 8) (c - 8))=w1 at *
 have ht:=hin.take 8 8 hl (zG _) (by omega)
 have E:=readEight_gives w1 A 8 (l.take 8) (ht.more (Nat.le_of_lt hR.blk.lt))
 have hl8:(l.take 8).length=8:=by simp;omega
 rw[fixV_ge (by omega),hl8,List.take_take,Nat.min_self] at E
 have hg:=hR.blk.lt
 go_enter Tryz.func134,Tryz.ntmps134
 go_wp2_with (first|(go_at_call 147;refine T.mono ?_;rintro e w' ⟨rfl,rfl⟩)|(go_at_call 135;refine E.mono ?_;rintro e w' ⟨rfl,hB2⟩))
 go_ret
 exact⟨rfl,hR.below hB2,hB1.trans (hB2.mono (Nat.le_of_lt hg))⟩
theorem number32_gives (w:World)(g:Nat)(A:Option Addr)(c:Nat)(l:List UInt8)(h:RdrAt w g A c l)(hl:4<=l.length) :
  Calls Tryz.prog 136 #[.pointer (some ⟨g,0,none⟩),.int .i64 4,.func (.func 73) #[] #[]] w fun e w'=>e = .returned (.int .u32 (rfix (l.take 4):Int))/\RdrAt w' g (cutA A c 4) (c - 4) (l.drop 4)/\Below g w w':=by
 have hle:=h.inb.le
 have hmx:=h.inb.max
 have T:=ftake_gives w g 0 A l.length c 4 hle hmx hl (by rw[h.blk.cell];rfl) (h.blk.free 0)
 have hR:=h.cut 4 hl
 have hB1:Below g w (w.setCell ⟨g,0,none⟩ (.slice (cutA A c 4) (l.length - 4) (c - 4))):=(Below.refl g w).setCell (p:=⟨g,0,none⟩) (zG g) _
 have hin:=h.inb.below hB1
 clear h
 generalize w.setCell ⟨g,0,none⟩ (.slice (cutA A c 4) (l.length - 4) (c - 4))=w1 at *
 have ht:=hin.take 4 4 hl (zG _) (by omega)
 have E:=readFour_gives w1 A 4 (l.take 4) (ht.more (Nat.le_of_lt hR.blk.lt))
 have hl4:(l.take 4).length=4:=by simp;omega
 rw[fixV32_ge (by omega),hl4,List.take_take,Nat.min_self] at E
 have hg:=hR.blk.lt
 go_enter Tryz.func136,Tryz.ntmps136
 go_wp2_with (first|(go_at_call 147;refine T.mono ?_;rintro e w' ⟨rfl,rfl⟩)|(go_at_call 73;refine E.mono ?_;rintro e w' ⟨rfl,hB2⟩))
 go_ret
 exact⟨rfl,hR.below hB2,hB1.trans (hB2.mono (Nat.le_of_lt hg))⟩
def decHV (l:List UInt8):Value:=if isHead l then .tuple #[.agg #[.int .u64 (hdS l:Int),.int .u64 (hdE l:Int),.int .i64 (hdZ l:Int),.int .i64 (hdC l:Int)],.int .i64 0] else .tuple #[.agg #[.int .u64 0,.int .u64 0,.int .i64 0,.int .i64 0],.int .i64 150]
theorem decHV_no {l:List UInt8}(h:isHead l=false):decHV l = .tuple #[.agg #[.int .u64 0,.int .u64 0,.int .i64 0,.int .i64 0],.int .i64 150]:=by simp[decHV,h]
theorem rfix_take4 (l:List UInt8):rfix (l.take 4)<4294967296:=by
 have h1:=rfix_lt (l.take 4)
 have h2:256 ^ (l.take 4).length<=256 ^ 4:=Nat.pow_le_pow_right (by omega) (by simp;omega)
 have h3:(256:Nat) ^ 4=4294967296:=by decide
 omega
theorem zeroHead_one:∀v∈(#[.int .u64 0,.int .u64 0,.int .i64 0,.int .i64 0]:Array Value).toList,v.oneCell'=true:=by
 intro v hv
 simp at hv
 rcases hv with rfl|rfl<;>rfl
theorem head_one (s e z c:Int):∀v∈(#[.int .u64 s,.int .u64 e,.int .i64 z,.int .i64 c]:Array Value).toList,v.oneCell'=true:=by
 intro v hv
 simp at hv
 rcases hv with rfl|rfl|rfl|rfl<;>rfl
theorem decodeHead_len (w:World)(A:Option Addr)(c:Nat)(l:List UInt8)(h:InB w w.heap.size A c l)(hl:l.length≠64) :
  Calls Tryz.prog 92 #[.slice A l.length c] w fun x w'=>x = .returned (decHV l)/\Below w.heap.size w w':=by
 have hb0:=BlkIs.new w 106 #[.int .u64 0,.int .u64 0,.int .i64 0,.int .i64 0]
 have hB0:Below w.heap.size w (w.alloc (.cells #[.int .u64 0,.int .u64 0,.int .i64 0,.int .i64 0] 106)):=(Below.refl _ w).alloc (zG _) _
 have hle:=h.le
 have hmx:=h.max
 have hno:isHead l=false:=by cases hi:isHead l;rfl;exact absurd ((isHead_iff l).1 hi).1 hl
 rw[decHV_no hno]
 have hq:((l.length:Int) == 64)=false:=by simp;omega
 clear hno hl
 go_enter Tryz.func92,Tryz.ntmps92
 go_wp2_with (refine wp_storeW rfl 106 (.tmp 2) (.tmp 35) rfl w.heap.size rfl rfl rowHead hb0 (by rfl) (by rfl) zeroHead_one ?_)
 refine bodyPost_ret_by (results_cellW_tmp 2 3 rfl rfl rfl rowHead (hb0.setRow _) (by rfl)) rfl ⟨rfl,below_setRow hB0 (zG _) _⟩
theorem decodeHead_64 (w:World)(A:Option Addr)(c:Nat)(l:List UInt8)(h:InB w w.heap.size A c l)(hl64:l.length=64) :
  Calls Tryz.prog 92 #[.slice A 64 c] w fun x w'=>x = .returned (decHV l)/\Below w.heap.size w w':=by
 have hle:=h.le
 have hmx:=h.max
 obtain⟨g,o,rfl,hg,hcs⟩:=h.lies (by omega)
 have hb0:=(BlkIs.new w 106 #[.int .u64 0,.int .u64 0,.int .i64 0,.int .i64 0]).alloc (.cells #[.slice (some ⟨g,o,none⟩) 64 c] 197)
 have hB0:Below w.heap.size w ((w.alloc (.cells #[.int .u64 0,.int .u64 0,.int .i64 0,.int .i64 0] 106)).alloc (.cells #[.slice (some ⟨g,o,none⟩) 64 c] 197)):=((Below.refl _ w).alloc (zG _) _).alloc (by simp) _
 have hr0:RdrAt ((w.alloc (.cells #[.int .u64 0,.int .u64 0,.int .i64 0,.int .i64 0] 106)).alloc (.cells #[.slice (some ⟨g,o,none⟩) 64 c] 197)) (w.heap.size+1) (some ⟨g,o,none⟩) c l:=by
  refine⟨?_,(h.below hB0).more (by omega)⟩
  have:=BlkIs.new (w.alloc (.cells #[.int .u64 0,.int .u64 0,.int .i64 0,.int .i64 0] 106)) 197 #[.slice (some ⟨g,o,none⟩) 64 c]
  rw[World.size_alloc] at this
  rw[hl64]
  exact this
 have HL:=Lib.hid hl64
 clear hl64
 go_enter Tryz.func92,Tryz.ntmps92
 go_wp2_with fail
 generalize (w.alloc (.cells #[.int .u64 0,.int .u64 0,.int .i64 0,.int .i64 0] 106)).alloc (.cells #[.slice (some ⟨g,o,none⟩) 64 c] 197)=W1 at *
 refine(number64_gives W1 _ _ c l hr0 (by have:=HL.out;omega)).mono ?_
 rintro x W2 ⟨rfl,hr1,hb1⟩
 go_wp2_with fail
 refine(number64_gives W2 _ _ _ _ hr1 (by have:=HL.out;simp;omega)).mono ?_
 rintro x W3 ⟨rfl,hr2,hb2⟩
 rw[List.drop_drop] at hr2
 go_wp2_with fail
 refine(number32_gives W3 _ _ _ _ hr2 (by have:=HL.out;simp;omega)).mono ?_
 rintro x W4 ⟨rfl,hr3,hb3⟩
 rw[List.drop_drop] at hr3
 have hz:=rfix_take4 (l.drop (8+8))
 have hzw:IntKind.i64.wrap (rfix ((l.drop (8+8)).take 4):Int)=(rfix ((l.drop (8+8)).take 4):Int):=wrap_i64_fr _ (by omega) (by omega)
 go_wp2_with fail
 refine(number32_gives W4 _ _ _ _ hr3 (by have:=HL.out;simp;omega)).mono ?_
 rintro x W5 ⟨rfl,hr4,hb4⟩
 have hcc:=rfix_take4 (l.drop (8+8+4))
 have hcw:IntKind.i64.wrap (rfix ((l.drop (8+8+4)).take 4):Int)=(rfix ((l.drop (8+8+4)).take 4):Int):=wrap_i64_fr _ (by omega) (by omega)
 go_wp2_with fail
 have hB25:Below (w.heap.size+1) W1 W5:=((hb1.trans hb2).trans hb3).trans hb4
 have hB05:Below w.heap.size w W5:=hB0.trans (hB25.mono (by omega))
 have hz0:=hb0.below hB25 (by omega)
 have hin5:=h.below hB05
 have s05:=hB05.size
 have eS:rfix (l.take 8)=hdS l:=rfl
 have eE:rfix ((l.drop 8).take 8)=hdE l:=rfl
 have eZ:rfix ((l.drop 16).take 4)=hdZ l:=rfl
 have eC:rfix ((l.drop 20).take 4)=hdC l:=rfl
 have hzb:hdZ l<4294967296:=rfix_take4 _
 have hcb:hdC l<4294967296:=rfix_take4 _
 have hiff:isHead l=(headOk (hdZ l) (hdC l) && (headW (hdS l) (hdE l) (hdZ l) (hdC l) == l)):=by
  rw[Bool.eq_iff_iff,isHead_iff,Bool.and_eq_true,headOk_iff,beq_iff_eq]
  constructor
  ·rintro⟨_,a1,a2,a3⟩
   exact⟨by omega,a3⟩
  ·rintro⟨a1,a2⟩
   exact⟨HL.out,by omega,by omega,a2⟩
 rw[eS,eE,eZ,eC]
 have hdv:decHV l=if isHead l then .tuple #[.agg #[.int .u64 (hdS l:Int),.int .u64 (hdE l:Int),.int .i64 (hdZ l:Int),.int .i64 (hdC l:Int)],.int .i64 0] else .tuple #[.agg #[.int .u64 0,.int .u64 0,.int .i64 0,.int .i64 0],.int .i64 150]:=rfl
 clear eS eE eZ eC hz hcc hzw hcw hr0 hr1 hr2 hr3 hr4 hb1 hb2 hb3 hb4 hB25 hB0 hb0
 generalize hdS l=s at *
 generalize hdE l=e at *
 generalize hdZ l=z at *
 generalize hdC l=cc at *
 have HI:=Lib.hid hiff
 have HD:=Lib.hid hdv
 clear hiff hdv
 have hB06:Below w.heap.size w (W5.alloc (.cells #[.int .u64 (s:Int),.int .u64 (e:Int),.int .i64 (z:Int),.int .i64 (cc:Int)] 106)):=hB05.alloc s05 _
 have hz6:=hz0.alloc (.cells #[.int .u64 (s:Int),.int .u64 (e:Int),.int .i64 (z:Int),.int .i64 (cc:Int)] 106)
 have hk6:=BlkIs.new W5 106 #[.int .u64 (s:Int),.int .u64 (e:Int),.int .i64 (z:Int),.int .i64 (cc:Int)]
 have hin6:InB (W5.alloc (.cells #[.int .u64 (s:Int),.int .u64 (e:Int),.int .i64 (z:Int),.int .i64 (cc:Int)] 106)) w.heap.size (some ⟨g,o,none⟩) c l:=hin5.below ((Below.refl _ W5).alloc s05 _)
 generalize hW6:W5.alloc (.cells #[.int .u64 (s:Int),.int .u64 (e:Int),.int .i64 (z:Int),.int .i64 (cc:Int)] 106)=W6 at *
 clear hW6
 have s06:=hB06.size
 have hl5:∀w',Grow W6 w'->(loadVar 106 ⟨W5.heap.size,0,none⟩).run Tryz.prog w' = .ok (.agg #[.int .u64 (s:Int),.int .u64 (e:Int),.int .i64 (z:Int),.int .i64 (cc:Int)]) w':=fun w' hG=>run_loadW rowHead (hk6.below hG hk6.lt)
 have hlb:∀w',Grow W6 w'->(loadVar 203 ⟨g,o,none⟩).run Tryz.prog w' = .ok (.agg (l.map b8).toArray) w':=fun w' hG=>by
  have hi:=(hin6.more s06).below hG
  refine run_loadVar_mid (P:=Tryz.prog) w' g o 203 (l.map b8) _ ?_ Tryz.underlying203 rfl (by simp only[qD];rw[HL.out];kernel_rfl)
  intro j v hj
  have hj2:j<l.length:=by
   have:=(List.getElem?_eq_some_iff.1 hj).1
   simpa using this
  obtain⟨g',o',e1,_,hc⟩:=hi.lies (by omega)
  injection e1 with e1
  injection e1 with e1 e2
  subst e1 e2
  rw[hc j hj2]
  rw[List.getElem?_map,zI hj2] at hj
  simpa[b8] using hj
 have hfit0:=fits_gives s e z cc
 generalize W5.heap.size=g5 at *
 cases hk:headOk z cc with
 | false =>
  have hfit:=hfit0
  rw[hk] at hfit
  have hno:isHead l=false:=by rw[HI.out,hk];rfl
  open Reg in
  refine region_acts (by kernel_rfl) (by kernel_rfl) 36 rfl (by kernel_rfl) [24,25,26,27,28,29,30,31,32,33] (by kernel_rfl)
   [(5,.val (.pointer (some ⟨g5,0,none⟩))),(0,.val (.slice (some ⟨g,o,none⟩) 64 c))]
   [(24,.val (.agg #[.int .u64 (s:Int),.int .u64 (e:Int),.int .i64 (z:Int),.int .i64 (cc:Int)])),(25,.val (.bool false)),(26,.val (.bool false)),(27,.any),(28,.any),(29,.any),(30,.any),(31,.any),(32,.any),(33,.val ((Go.Value.bool false)))]
   ⟨rfl,rfl,trivial⟩ (by kernel_rfl)
   (allOk_cons (ok_none rfl (l_loadV (.tmp 5) (⟨g5,0,none⟩) 106 (.agg #[.int .u64 (s:Int),.int .u64 (e:Int),.int .i64 (z:Int),.int .i64 (cc:Int)]) rfl (hs 5 (.pointer (some ⟨g5,0,none⟩)) (by kernel_rfl) (by kernel_rfl)) (fun w hg=>hl5 w hg) (by kernel_rfl)))
   <| allOk_cons (ok_none rfl (l_call 137 _ _ rfl (enters_of Tryz.func137 (by kernel_rfl) rfl) #[.agg #[.int .u64 (s:Int),.int .u64 (e:Int),.int .i64 (z:Int),.int .i64 (cc:Int)]] (.val (.bool false)) (args1 (hs 24 (.agg #[.int .u64 (s:Int),.int .u64 (e:Int),.int .i64 (z:Int),.int .i64 (cc:Int)]) (by kernel_rfl) (by kernel_rfl))) (fun w hg=>gives_grow (hfit w)) (by kernel_rfl)))
   <| allOk_cons (ok_none rfl (l_mvF 25 (.val (.bool false)) (.inl rfl) (by kernel_rfl) (by kernel_rfl) (by kernel_rfl)))
   <| allOk_cons (okg_not 2 true 26 rfl (by kernel_rfl) (by kernel_rfl) (by kernel_rfl) (by kernel_rfl))
   <| allOk_cons (okg_not 2 true 26 rfl (by kernel_rfl) (by kernel_rfl) (by kernel_rfl) (by kernel_rfl))
   <| allOk_cons (okg_not 2 true 26 rfl (by kernel_rfl) (by kernel_rfl) (by kernel_rfl) (by kernel_rfl))
   <| allOk_cons (okg_not 2 true 26 rfl (by kernel_rfl) (by kernel_rfl) (by kernel_rfl) (by kernel_rfl))
   <| allOk_cons (okg_not 2 true 26 rfl (by kernel_rfl) (by kernel_rfl) (by kernel_rfl) (by kernel_rfl))
   <| allOk_cons (okg_not 2 true 26 rfl (by kernel_rfl) (by kernel_rfl) (by kernel_rfl) (by kernel_rfl))
   <| allOk_cons (ok_none rfl (l_pickF (.tmp 26) (.tmp 32) (.const (Go.Value.bool false)) ((Go.Value.bool false)) rfl (hs 26 (.bool false) (by kernel_rfl) (by kernel_rfl)) (hc _) (by kernel_rfl)))
   <| allOk_nil) ?_
  intro a W7 hsz hdef hGW7 hF hU
  have e33:a.eval (.tmp 33)=(Go.Value.bool false):=hF 33
  have ha:=Reg.acts_eq [24,25,26,27,28,29,30,31,32,33] hsz hdef hU
  clear hF hU hdef
  simp only[List.foldl_cons,List.foldl_nil,e33] at ha
  clear e33 hsz
  generalize a.eval (.tmp 24)=v24 at *
  generalize a.eval (.tmp 25)=v25 at *
  generalize a.eval (.tmp 26)=v26 at *
  generalize a.eval (.tmp 27)=v27 at *
  generalize a.eval (.tmp 28)=v28 at *
  generalize a.eval (.tmp 29)=v29 at *
  generalize a.eval (.tmp 30)=v30 at *
  generalize a.eval (.tmp 31)=v31 at *
  generalize a.eval (.tmp 32)=v32 at *
  simp only[Act.put,zA,zE,zF] at ha
  subst ha
  simp only[Exit.then]
  refine ‹∀(a:Act) (w:World),Code.wp Tryz.prog _ _ a w->_› _ W7 ?_
  have hz7:=hz6.below hGW7 hz6.lt
  have hB07:Below w.heap.size w W7:=hB06.trans (hGW7.mono s06)
  go_wp2_with (refine wp_storeW rfl 106 (.tmp 2) (.tmp 35) rfl w.heap.size rfl rfl rowHead hz7 (by rfl) (by rfl) zeroHead_one ?_)
  refine bodyPost_ret_by (results_cellW_tmp 2 3 rfl rfl rfl rowHead (hz7.setRow _) (by rfl)) rfl ⟨?_,below_setRow hB07 (zG _) _⟩
  rw[HD.out,hno]
  rfl
 | true =>
  obtain⟨⟨_,hz1⟩,_,hc1⟩:=(headOk_iff _ _).1 hk
  have hfit:=hfit0
  rw[hk] at hfit
  have hyes:isHead l=(headW s e z cc == l):=by rw[HI.out,hk];rfl
  have hhead:=head_gives s e z cc (by omega) (by omega)
  have hW64:=headW_length s e z cc
  have hl64:=HL.out
  generalize headW s e z cc=HW at *
  have HY:=Lib.hid hyes
  clear hyes hk
  open Reg in
  refine region_acts (by kernel_rfl) (by kernel_rfl) 36 rfl (by kernel_rfl) [24,25,26,27,28,29,30,31,32,33] (by kernel_rfl)
   [(5,.val (.pointer (some ⟨g5,0,none⟩))),(0,.val (.slice (some ⟨g,o,none⟩) 64 c))]
   [(24,.val (.agg #[.int .u64 (s:Int),.int .u64 (e:Int),.int .i64 (z:Int),.int .i64 (cc:Int)])),(25,.val (.bool true)),(26,.val (.bool true)),(27,.val (.agg #[.int .u64 (s:Int),.int .u64 (e:Int),.int .i64 (z:Int),.int .i64 (cc:Int)])),(28,.val (.agg (HW.map b8).toArray)),(29,.val (.slice (some ⟨g,o,none⟩) 64 c)),(30,.val (.pointer (some ⟨g,o,none⟩))),(31,.val (.agg (l.map b8).toArray)),(32,.val (.bool (HW == l))),(33,.val (.bool (HW == l)))]
   ⟨rfl,rfl,trivial⟩ (by kernel_rfl)
   (allOk_cons (ok_none rfl (l_loadV (.tmp 5) (⟨g5,0,none⟩) 106 (.agg #[.int .u64 (s:Int),.int .u64 (e:Int),.int .i64 (z:Int),.int .i64 (cc:Int)]) rfl (hs 5 (.pointer (some ⟨g5,0,none⟩)) (by kernel_rfl) (by kernel_rfl)) (fun w hg=>hl5 w hg) (by kernel_rfl)))
   <| allOk_cons (ok_none rfl (l_call 137 _ _ rfl (enters_of Tryz.func137 (by kernel_rfl) rfl) #[.agg #[.int .u64 (s:Int),.int .u64 (e:Int),.int .i64 (z:Int),.int .i64 (cc:Int)]] (.val (.bool true)) (args1 (hs 24 (.agg #[.int .u64 (s:Int),.int .u64 (e:Int),.int .i64 (z:Int),.int .i64 (cc:Int)]) (by kernel_rfl) (by kernel_rfl))) (fun w hg=>gives_grow (hfit w)) (by kernel_rfl)))
   <| allOk_cons (ok_none rfl (l_mvF 25 (.val (.bool true)) (.inl rfl) (by kernel_rfl) (by kernel_rfl) (by kernel_rfl)))
   <| allOk_cons (okg 2 true 26 rfl (by kernel_rfl) (by kernel_rfl) (by kernel_rfl) (l_loadV (.tmp 5) (⟨g5,0,none⟩) 106 (.agg #[.int .u64 (s:Int),.int .u64 (e:Int),.int .i64 (z:Int),.int .i64 (cc:Int)]) rfl (hs 5 (.pointer (some ⟨g5,0,none⟩)) (by kernel_rfl) (by kernel_rfl)) (fun w hg=>hl5 w hg) (by kernel_rfl)))
   <| allOk_cons (okg 2 true 26 rfl (by kernel_rfl) (by kernel_rfl) (by kernel_rfl) (l_call 138 _ _ rfl (enters_of Tryz.func138 (by kernel_rfl) rfl) #[.agg #[.int .u64 (s:Int),.int .u64 (e:Int),.int .i64 (z:Int),.int .i64 (cc:Int)]] (.val (.agg (HW.map b8).toArray)) (args1 (hs 27 (.agg #[.int .u64 (s:Int),.int .u64 (e:Int),.int .i64 (z:Int),.int .i64 (cc:Int)]) (by kernel_rfl) (by kernel_rfl))) (fun w hg=>gives_grow (hhead w)) (by kernel_rfl)))
   <| allOk_cons (okg 2 true 26 rfl (by kernel_rfl) (by kernel_rfl) (by kernel_rfl) (l_mvF 0 (.val (.slice (some ⟨g,o,none⟩) 64 c)) (.inl rfl) (by kernel_rfl) (by kernel_rfl) (by kernel_rfl)))
   <| allOk_cons (okg 2 true 26 rfl (by kernel_rfl) (by kernel_rfl) (by kernel_rfl) (l_s2a (.tmp 29) g o 64 c (by decide) rfl (hs 29 _ (by kernel_rfl) (by kernel_rfl)) (by kernel_rfl)))
   <| allOk_cons (okg 2 true 26 rfl (by kernel_rfl) (by kernel_rfl) (by kernel_rfl) (l_loadV (.tmp 30) (⟨g,o,none⟩) 203 (.agg (l.map b8).toArray) rfl (hs 30 (.pointer (some ⟨g,o,none⟩)) (by kernel_rfl) (by kernel_rfl)) (fun w hg=>hlb w hg) (by kernel_rfl)))
   <| allOk_cons (okg 2 true 26 rfl (by kernel_rfl) (by kernel_rfl) (by kernel_rfl) (l_eqArr (.tmp 28) (.tmp 31) _ HW l hW64 hl64 rfl (hs 28 _ (by kernel_rfl) (by kernel_rfl)) (hs 31 _ (by kernel_rfl) (by kernel_rfl)) (by kernel_rfl)))
   <| allOk_cons (ok_none rfl (l_pickT (.tmp 26) (.tmp 32) (.const (Go.Value.bool false)) (.bool (HW == l)) rfl (hs 26 (.bool true) (by kernel_rfl) (by kernel_rfl)) (hs 32 (.bool (HW == l)) (by kernel_rfl) (by kernel_rfl)) (by kernel_rfl)))
   <| allOk_nil) ?_
  intro a W7 hsz hdef hGW7 hF hU
  have e33:a.eval (.tmp 33) = .bool (HW == l):=hF 33
  have ha:=Reg.acts_eq [24,25,26,27,28,29,30,31,32,33] hsz hdef hU
  clear hF hU hdef
  simp only[List.foldl_cons,List.foldl_nil,e33] at ha
  clear e33 hsz
  generalize a.eval (.tmp 24)=v24 at *
  generalize a.eval (.tmp 25)=v25 at *
  generalize a.eval (.tmp 26)=v26 at *
  generalize a.eval (.tmp 27)=v27 at *
  generalize a.eval (.tmp 28)=v28 at *
  generalize a.eval (.tmp 29)=v29 at *
  generalize a.eval (.tmp 30)=v30 at *
  generalize a.eval (.tmp 31)=v31 at *
  generalize a.eval (.tmp 32)=v32 at *
  simp only[Act.put,zA,zE,zF] at ha
  subst ha
  simp only[Exit.then]
  refine ‹∀(a:Act) (w:World),Code.wp Tryz.prog _ _ a w->_› _ W7 ?_
  have hz7:=hz6.below hGW7 hz6.lt
  have hk7:=hk6.below hGW7 hk6.lt
  have hB07:Below w.heap.size w W7:=hB06.trans (hGW7.mono s06)
  clear hl64 hW64
  cases hq:(HW == l) with
  | false =>
   go_wp2_with (refine wp_storeW rfl 106 (.tmp 2) (.tmp 35) rfl w.heap.size rfl rfl rowHead hz7 (by rfl) (by rfl) zeroHead_one ?_)
   refine bodyPost_ret_by (results_cellW_tmp 2 3 rfl rfl rfl rowHead (hz7.setRow _) (by rfl)) rfl ⟨?_,below_setRow hB07 (zG _) _⟩
   rw[HD.out,HY.out,hq]
   rfl
  | true =>
   go_wp2_with (first
    | (refine wp_loadW rfl 106 (.tmp 5) rfl g5 rfl rowHead hk7 (by rfl) ?_)
    | (refine wp_storeW rfl 106 (.tmp 2) (.tmp 34) rfl w.heap.size rfl rfl rowHead hz7 (by rfl) (by rfl) (head_one _ _ _ _) ?_))
   refine bodyPost_ret_by (results_cellW_tmp 2 3 rfl rfl rfl rowHead (hz7.setRow _) (by rfl)) rfl ⟨?_,below_setRow hB07 (zG _) _⟩
   rw[HD.out,HY.out,hq]
   rfl
theorem decodeHead_gives (w:World)(A:Option Addr)(c:Nat)(l:List UInt8)(h:InB w w.heap.size A c l) :
  Calls Tryz.prog 92 #[.slice A l.length c] w fun x w'=>x = .returned (decHV l)/\Below w.heap.size w w':=by
 by_cases hl:l.length=64
 ·rw[hl]
  exact decodeHead_64 w A c l h hl
 ·exact decodeHead_len w A c l h hl


theorem run_eq_nil {P:Program}(w:World)(t e:TypeId)(A:Option Addr)(n c:Nat)(ht:P.underlying t=some (.slice e)):(binOp .eql t (.slice A n c) (.slice none 0 0)).run P w = .ok (.bool A.isNone) w:=by
 have e1:binOp .eql t (.slice A n c) (.slice none 0 0)=(do pure (.bool (<-Op.equalIn (9999+1) t (.slice A n c) (.slice none 0 0)))):=rfl
 have h:(Op.equalIn (9999+1) t (.slice A n c) (.slice none 0 0)).run P w = .ok A.isNone w:=by
  unfold Op.equalIn
  cases A<;>simp[run_underlying ht]
 rw[e1]
 simp only[Sem.run_bind,h,Result.andThen,Sem.run_pure]
theorem clone_gives (w:World)(A:Option Addr)(c:Nat)(l:List UInt8)(h:InB w w.heap.size A c l)(hl:l.length<=100000000000):Calls Tryz.prog 67 #[.slice A l.length c] w (GivesB w l):=by
 have hle:=h.le
 rcases A with _|ad
 ·have hc:=h.nil rfl
  subst hc
  obtain rfl:l=[]:=qF (by omega)
  have hq:=fun W=>run_eq_nil (P:=Tryz.prog) W 22 5 none 0 0 Tryz.underlying22
  go_enter Tryz.func67,Tryz.ntmps67
  go_wp2
  go_ret
  exact⟨_,rfl,OwnB.nil _ _,Below.refl _ _⟩
 ·have e0:OwnB (w.alloc (.cells #[] 5)) w.heap.size (.slice (some ⟨w.heap.size,0,none⟩) 0 0) []:=World.ownsRow_lit w #[] 0 (zG _) (by unfold maxLen;omega) rfl
  have hB0:Below w.heap.size w (w.alloc (.cells #[] 5)):=(Below.refl _ w).alloc (zG _) _
  have h1:=h.below hB0
  have hq:=fun W=>run_eq_nil (P:=Tryz.prog) W 22 5 (some ad) l.length c Tryz.underlying22
  go_enter Tryz.func67,Tryz.ntmps67
  go_wp2_with (at_builtin;refine wp_appB rfl (.tmp 5) (.tmp 6) rfl w.heap.size (.slice (some ⟨w.heap.size,0,none⟩) 0 0) [] rfl e0 _ (some ad) c l rfl h1 (by simp;omega) (by simp) ?_;intro v1 w1 own1 hg1)
  go_ret
  rw[zQ] at own1
  exact⟨_,rfl,own1,hB0.trans (grown_below hg1 hB0.size e0.ownGe)⟩
def zeroFr:Array Value:=#[.int .u64 0,.int .i64 0,.int .i64 0,.bool false,.int .i64 0,.int .u32 0,.slice none 0 0]
theorem frCells_one (e:Nat)(i p:Int)(f:Bool)(z:Int)(n:Nat)(A:Option Addr)(len k:Nat):∀v∈(frCells e i p f z n A len k).toList,v.oneCell'=true:=by
 intro v hv
 simp[frCells] at hv
 rcases hv with rfl|rfl|rfl|rfl|rfl|rfl|rfl<;>rfl
namespace Reg
variable {L:List (Nat×Fact)}{ops:Array Oper}{w0:World}{o:Oper}{P:Program}
end Reg
theorem setCell_grownBy (w:World)(p:Addr)(u:Value):w.grownBy (w.setCell p u) (some p.block):=⟨rfl,rfl,rfl,by simp,fun k _ hk=>Below.heap_setCell w p u k (fun e=>hk (by rw[e]))⟩
def zer64:List UInt8:=zR 64 0
@[reducible] def secV (l:List UInt8):Value:=.agg (l.map b8).toArray
structure Ents (es:Array MapEntry)(f:Nat->Option (List UInt8)):Prop where
 keys:∀(i:Nat) e,es[i]? = some e->∃k l,f k=some l/\e.key = .int .i64 (k:Int)/\e.val=secV l
 all:∀k l,f k=some l->∃(i:Nat) (e:MapEntry),es[i]? = some e/\e.key = .int .i64 (k:Int)/\e.val=secV l
 inj:∀(i j:Nat) e e',es[i]? = some e->es[j]? = some e'->e.key=e'.key->i=j
theorem Ents.empty:Ents #[] (fun _=>none):=⟨fun i e h=>by simp at h,fun k l h=>by simp at h,fun i j e e' h=>by simp at h⟩
theorem key_inj {k m:Nat}(h:Value.int .i64 (k:Int) = .int .i64 (m:Int)):k=m:=by injection h with _ h;omega
def fset (f:Nat->Option (List UInt8))(k:Nat)(x:Option (List UInt8)):Nat->Option (List UInt8):=fun m=>if m=k then x else f m
section
variable {es:Array MapEntry}{f:Nat->Option (List UInt8)}
theorem Ents.find (h:Ents es f)(k:Nat):(Instr.findNow (.int .i64) (.int .i64 (k:Int)) es.toList 0=some none/\f k=none) ∨
  ∃j e l,Instr.findNow (.int .i64) (.int .i64 (k:Int)) es.toList 0=some (some (j,e.val))/\es[j]? = some e/\e.key = .int .i64 (k:Int)/\f k=some l/\e.val=secV l:=by
 have hk:MapKept.IsKey (.int .i64) (.int .i64 (k:Int)):=rfl
 have hall:∀x∈es.toList,MapKept.IsKey (.int .i64) x.key:=by
  intro x hx
  obtain⟨i,hi,rfl⟩:=List.getElem_of_mem hx
  obtain⟨k',l,_,h2,_⟩:=h.keys i es.toList[i] (by rw[<-qE];exact zI hi)
  rw[h2]
  rfl
 rcases MapKept.findNow_spec hk es.toList 0 hall with⟨h1,h2⟩|⟨j,e,h1,h2,h3⟩
 ·left
  refine⟨h1,?_⟩
  cases hf:f k with
  | none=>rfl
  | some l =>
   obtain⟨i,e,h4,h5,_⟩:=h.all k l hf
   exact absurd h5 (h2 e (Array.mem_toList_iff.2 (Array.mem_of_getElem? h4)))
 ·right
  have h4:es[j]? = some e:=by rw[<-qE];exact h2
  obtain⟨k',l,h5,h6,h7⟩:=h.keys j e h4
  have:k'=k:=key_inj (h6.symm.trans h3)
  subst this
  exact⟨j,e,l,by simpa using h1,h4,h3,h5,h7⟩
theorem Ents.push (h:Ents es f){k:Nat}(hk:f k=none)(l:List UInt8)(born:Nat):Ents (es.push { key:=.int .i64 (k:Int),val:=secV l,born:=born }) (fset f k (some l)):=by
 refine⟨fun i e he => ?_,fun m l' hm => ?_,fun i j e e' hi hj hkey => ?_⟩
 ·rw[Array.getElem?_push] at he
  split at he
  ·injection he with he
   subst he
   exact⟨k,l,by simp[fset],rfl,rfl⟩
  ·obtain⟨m,l',h1,h2,h3⟩:=h.keys i e he
   refine⟨m,l',?_,h2,h3⟩
   have:m≠k:=fun e=>by subst e;rw[hk] at h1;cases h1
   simp[fset,this,h1]
 ·by_cases e:m=k
  ·subst e
   simp[fset] at hm
   subst hm
   exact⟨es.size,{ key:=.int .i64 (m:Int),val:=secV l,born:=born },by simp,rfl,rfl⟩
  ·simp only[fset,if_neg e] at hm
   obtain⟨i,e',h1,h2,h3⟩:=h.all m l' hm
   refine⟨i,e',?_,h2,h3⟩
   have:=(zH.1 h1).1
   rw[Array.getElem?_push,if_neg (by omega)]
   exact h1
 ·rw[Array.getElem?_push] at hi hj
  have hno:∀(q:Nat) (e:MapEntry),es[q]? = some e->e.key≠.int .i64 (k:Int):=fun q e he hq=>by
   obtain⟨m,l',h1,h2,_⟩:=h.keys q e he
   have:=key_inj (h2.symm.trans hq)
   subst this
   rw[hk] at h1
   cases h1
  split at hi
  ·split at hj
   ·omega
   ·injection hi with hi
    subst hi
    exact absurd hkey.symm (hno j e' hj)
  ·split at hj
   ·injection hj with hj
    subst hj
    exact absurd hkey (hno i e hi)
   ·exact h.inj i j e e' hi hj hkey
theorem Ents.modify (h:Ents es f){k i:Nat}{e:MapEntry}(he:es[i]? = some e)(hek:e.key = .int .i64 (k:Int))(l:List UInt8):Ents (es.modify i fun e => { e with key:=.int .i64 (k:Int),val:=secV l }) (fset f k (some l)):=by
 have hget:∀j,(es.modify i fun e => { e with key:=.int .i64 (k:Int),val:=secV l })[j]? = if i=j then some { e with key:=.int .i64 (k:Int),val:=secV l } else es[j]?:=fun j=>by
  rw[Array.getElem?_modify]
  split
  ·rename_i hij
   subst hij
   rw[he]
   rfl
  ·rfl
 refine⟨fun j e' hj => ?_,fun m l' hm => ?_,fun a b e1 e2 ha hb hkey => ?_⟩
 ·rw[hget] at hj
  split at hj
  ·injection hj with hj
   subst hj
   exact⟨k,l,by simp[fset],rfl,rfl⟩
  ·rename_i hij
   obtain⟨m,l',h1,h2,h3⟩:=h.keys j e' hj
   refine⟨m,l',?_,h2,h3⟩
   have:m≠k:=fun q=>by
    subst q
    exact hij (h.inj i j e e' he hj (by rw[hek,h2]))
   simp[fset,this,h1]
 ·by_cases q:m=k
  ·subst q
   simp[fset] at hm
   subst hm
   exact⟨i,_,by rw[hget,if_pos rfl],rfl,rfl⟩
  ·simp only[fset,if_neg q] at hm
   obtain⟨j,e',h1,h2,h3⟩:=h.all m l' hm
   have hij:i≠j:=fun hij=>by
    subst hij
    rw[he] at h1
    injection h1 with h1
    subst h1
    exact q (key_inj (h2.symm.trans hek))
   exact⟨j,e',by rw[hget,if_neg hij];exact h1,h2,h3⟩
 ·have hk1:∀(a:Nat) (e1:MapEntry),(es.modify i fun e => { e with key:=.int .i64 (k:Int),val:=secV l })[a]? = some e1->∃e0:MapEntry,es[a]? = some e0/\e0.key=e1.key:=fun a e1 ha=>by
   rw[hget] at ha
   split at ha
   ·rename_i hia
    subst hia
    injection ha with ha
    subst ha
    exact⟨e,he,hek⟩
   ·exact⟨e1,ha,rfl⟩
  obtain⟨x,hx,hxk⟩:=hk1 a e1 ha
  obtain⟨y,hy,hyk⟩:=hk1 b e2 hb
  exact h.inj a b x y hx hy (by rw[hxk,hyk,hkey])
theorem Ents.erase (h:Ents es f){k i:Nat}{e:MapEntry}(he:es[i]? = some e)(hek:e.key = .int .i64 (k:Int)):Ents (es.eraseIdxIfInBounds i) (fset f k none):=by
 have hi:=(zH.1 he).1
 have hget:∀j,(es.eraseIdxIfInBounds i)[j]? = if j<i then es[j]? else es[j+1]?:=fun j=>by
  unfold Array.eraseIdxIfInBounds
  rw[dif_pos hi]
  rw[<-qE,Array.toList_eraseIdx,List.getElem?_eraseIdx]
  split<;>rw[qE]
 have back:∀j e',(es.eraseIdxIfInBounds i)[j]? = some e'->∃j',j'≠i/\es[j']? = some e'/\(j<i->j'=j)/\(¬ j<i->j'=j+1):=fun j e' hj=>by
  rw[hget] at hj
  split at hj
  ·exact⟨j,by omega,hj,fun _=>rfl,fun h=>by omega⟩
  ·exact⟨j+1,by omega,hj,fun h=>by omega,fun _=>rfl⟩
 refine⟨fun j e' hj => ?_,fun m l' hm => ?_,fun a b e1 e2 ha hb hkey => ?_⟩
 ·obtain⟨j',hne,hj',_⟩:=back j e' hj
  obtain⟨m,l',h1,h2,h3⟩:=h.keys j' e' hj'
  refine⟨m,l',?_,h2,h3⟩
  have:m≠k:=fun q=>by
   subst q
   exact hne (h.inj j' i e' e hj' he (by rw[hek,h2]))
  simp[fset,this,h1]
 ·by_cases q:m=k
  ·subst q
   simp[fset] at hm
  ·simp only[fset,if_neg q] at hm
   obtain⟨j,e',h1,h2,h3⟩:=h.all m l' hm
   have hij:j≠i:=fun hij=>by
    subst hij
    rw[he] at h1
    injection h1 with h1
    subst h1
    exact q (key_inj (h2.symm.trans hek))
   by_cases hlt:j<i
   ·exact⟨j,e',by rw[hget,if_pos hlt];exact h1,h2,h3⟩
   ·exact⟨j - 1,e',by rw[hget,if_neg (by omega),show j - 1+1=j by omega];exact h1,h2,h3⟩
 ·obtain⟨a',_,ha',p1,p2⟩:=back a e1 ha
  obtain⟨b',_,hb',q1,q2⟩:=back b e2 hb
  have:=h.inj a' b' e1 e2 ha' hb' hkey
  by_cases c1:a<i<;>by_cases c2:b<i
  ·have:=p1 c1;have:=q1 c2;omega
  ·have:=p1 c1;have:=q2 c2;omega
  ·have:=p2 c1;have:=q1 c2;omega
  ·have:=p2 c1;have:=q2 c2;omega
end
def spar (g:Nat->List UInt8):Nat->Option (List UInt8):=fun k=>if g k=zer64 then none else some (g k)
structure MapF (w:World)(r:Nat)(g:Nat->List UInt8):Prop where
 len:∀k,(g k).length=64
 lies:∃es clock,MapIs w r es clock/\Ents es (spar g)/\MapKept.Stamped es clock
def gset (g:Nat->List UInt8)(k:Nat)(l:List UInt8):Nat->List UInt8:=fun m=>if m=k then l else g m
theorem MapF.lt {w:World}{r:Nat}{g:Nat->List UInt8}(h:MapF w r g):r<w.heap.size:=by obtain⟨es,c,hm,_⟩:=h.lies;exact hm.lt
theorem MapF.keep {w w':World}{r:Nat}{g:Nat->List UInt8}(h:MapF w r g)(hk:w'.heap[r]? = w.heap[r]?):MapF w' r g:=by
 obtain⟨es,c,hm,he⟩:=h.lies
 exact⟨h.len,es,c,hk.trans hm,he⟩
theorem MapF.below {w w':World}{B r:Nat}{g:Nat->List UInt8}(h:MapF w r g)(hB:Below B w w')(hr:r<B):MapF w' r g:=h.keep (hB.block r hr)
theorem MapF.grow {w w':World}{r:Nat}{g:Nat->List UInt8}(h:MapF w r g)(hB:Below w.heap.size w w'):MapF w' r g:=h.below hB h.lt
theorem MapF.setCell {w:World}{r:Nat}{g:Nat->List UInt8}(h:MapF w r g)(p:Addr)(v:Value):MapF (w.setCell p v) r g:=by
 by_cases hp:p.block=r
 ·obtain⟨es,c,hm,he⟩:=h.lies
  refine⟨h.len,es,c,?_,he⟩
  have hm':w.heap[r]? = some (.map es c):=hm
  subst hp
  unfold MapIs World.setCell
  simp[Array.getElem?_modify,hm']
 ·exact h.keep (Below.heap_setCell w p v r (fun e=>hp e.symm))
theorem rowDSec:RowTy Tryz.prog 227 64:=⟨⟨_,Tryz.underlying227,rfl⟩,by kernel_rfl⟩
section
variable {P:Program}{w w':World}{ops:Array Oper}{rest:List Oper}{o:Oper}{a:Act}{Q:Exit->Act->World->Prop}
theorem wp_exec {v:Value}(hg:o.guard=none)(hr:(execOp a.eval o).run P w = .ok (.value v) w')(h:wpList P ops Q rest (a.put o.dst v) w'):wpList P ops Q (o::rest) a w :=
 wpList_plain hg fun _ hK=>by
  unfold Oper.wp
  rw[hr]
  exact hK _ _ h
theorem wp_execS (hg:o.guard=none)(hr:(execOp a.eval o).run P w = .ok .skip w')(h:wpList P ops Q rest (a.put o.dst undef) w'):wpList P ops Q (o::rest) a w :=
 wpList_plain hg fun _ hK=>by
  unfold Oper.wp
  rw[hr]
  exact hK _ _ h
theorem wp_execG {v:Value}(hw:Region.wanted o (yielded ops a.tmps)=true)(hr:(execOp a.eval o).run P w = .ok (.value v) w')(h:wpList P ops Q rest (a.put o.dst v) w'):wpList P ops Q (o::rest) a w :=
 wpList_step fun _ hK=>by
  rw[if_pos hw]
  unfold Oper.wp
  rw[hr]
  exact hK _ _ h
end
section
variable {ρ:Operand->Value}{w:World}{o:Oper}{x y z:Operand}
theorem x_eqSec {xs ys:List UInt8}(hx1:xs.length=64)(hy1:ys.length=64){T:TypeId}(ho:o.op = .binOp .eql 227 x y T)(h1:ρ x=secV xs)(h2:ρ y=secV ys):(execOp ρ o).run Tryz.prog w = .ok (.value (.bool (xs == ys))) w:=by
 unfold secV at h1 h2
 have hr:(binOp .eql 227 (.agg (xs.map b8).toArray) (.agg (ys.map b8).toArray)).run Tryz.prog w = .ok (.bool (xs == ys)) w :=
  run_eql_bytes w 227 5 64 Tryz.underlying227 Tryz.underlying5 (fun w=>by simp[go_sem]) xs ys hx1 hy1
 have hm:Tryz.prog.eqGuardType Tryz.prog.depth 227=false:=by kernel_rfl
 simp only[execOp,ho,h1,h2,Sem.run_bind,run_eqGuard_agg w .eql 227 x y _ _ hm,Result.andThen_ok,hr,Sem.run_pure]
theorem x_zeroSec (ho:o.op = .build 227 #[]):(execOp ρ o).run Tryz.prog w = .ok (.value (secV zer64)) w:=by
 simp[execOp,ho,go_sem,Result.andThen]
 kernel_rfl
section
variable {r k clock:Nat}{es:Array MapEntry}{f:Nat->Option (List UInt8)}{l:List UInt8}
theorem stampedSet {w:Value}(hst:MapKept.Stamped es clock){j:Nat}{e:MapEntry}(hj:es[j]? = some e)(hek:e.key=w)(v:Value):MapKept.Stamped (es.modify j fun e => { e with key:=w,val:=v }) clock :=
 MapKept.stamped_modify hst j (fun e => { e with key:=w,val:=v }) (fun e _=>rfl) (fun e' _ he'=>by rw[hj] at he';injection he' with he';subst he';exact hek.symm)
theorem x_put (he:Ents es f)(hst:MapKept.Stamped es clock)(hm:MapIs w r es clock)(ho:o.op = .mapUpdate 67 x y z)(h1:ρ x = .map (some r))(h2:ρ y = .int .i64 (k:Int))(h3:ρ z=secV l) :
  ∃es' clock',(execOp ρ o).run Tryz.prog w = .ok .skip (setMap w r es' clock')/\Ents es' (fset f k (some l))/\MapKept.Stamped es' clock':=by
 have hk:MapKept.IsKey (.int .i64) (.int .i64 (k:Int)):=rfl
 have hc:(Instr.checkKey false 10000 3 (.int .i64 (k:Int))).run Tryz.prog w = .ok () w:=MapKept.run_checkKey Tryz.underlying3 hk false 9999
 have hm':w.heap[r]? = some (.map es clock):=hm
 rcases he.find k with⟨hf,hn⟩|⟨j,e,l0,hf,hj,hek,_,_⟩
 ·refine⟨_,clock+1,?_,he.push hn l clock,MapKept.stamped_push hst fun x hx heq=>by
   obtain⟨i,hi,rfl⟩:=List.getElem_of_mem hx
   obtain⟨m,l',h1,h2,_⟩:=he.keys i es.toList[i] (by rw[<-qE];exact zI hi)
   have:=key_inj (h2.symm.trans heq)
   subst this
   rw[hn] at h1
   cases h1⟩
  simp[execOp,ho,h1,h2,h3,Instr.mapUpdate,run_underlying Tryz.underlying67,MapKept.run_getObj_map hm',hc,MapKept.run_findKey Tryz.underlying3 hf,MapKept.run_setObj_map _ hm',Result.andThen,setMap]
 ·refine⟨_,clock,?_,he.modify hj hek l,stampedSet hst hj hek (secV l)⟩
  have hkey:(((es[j]?).map (·.key)).getD (.int .i64 (k:Int))) = .int .i64 (k:Int):=by rw[hj];exact hek
  simp[execOp,ho,h1,h2,h3,Instr.mapUpdate,run_underlying Tryz.underlying67,MapKept.run_getObj_map hm',hc,MapKept.run_findKey Tryz.underlying3 hf,hj,hek,MapKept.run_keyThatStays hk,MapKept.run_setObj_map _ hm',Result.andThen,setMap]
theorem x_del (he:Ents es f)(hst:MapKept.Stamped es clock)(hm:MapIs w r es clock)(ho:o.op = .call { callee:=.builtin .delete,args:=#[x,y],argTypes:=#[67,3] })(h1:ρ x = .map (some r))(h2:ρ y = .int .i64 (k:Int)) :
  ∃es',(execOp ρ o).run Tryz.prog w = .ok (.value (.tuple #[])) (setMap w r es' clock)/\Ents es' (fset f k none)/\MapKept.Stamped es' clock:=by
 have hk:MapKept.IsKey (.int .i64) (.int .i64 (k:Int)):=rfl
 have hc:(Instr.checkKey es.isEmpty 10000 3 (.int .i64 (k:Int))).run Tryz.prog w = .ok () w:=MapKept.run_checkKey Tryz.underlying3 hk _ 9999
 have hm':w.heap[r]? = some (.map es clock):=hm
 rcases he.find k with⟨hf,hn⟩|⟨j,e,l0,hf,hj,hek,_,_⟩
 ·refine⟨es,?_,?_⟩
  ·simp[execOp,ho,h1,h2,resolve,invoke,builtin,Builtin.delete_,run_underlying Tryz.underlying67,MapKept.run_getObj_map hm',hc,MapKept.run_findKey Tryz.underlying3 hf,MapKept.run_setObj_map _ hm',Result.andThen,setMap]
  ·have:fset f k none=f:=by
    funext m
    unfold fset
    split
    ·rename_i e
     rw[e,hn]
    ·rfl
   rw[this]
   exact⟨he,hst⟩
 ·refine⟨_,?_,he.erase hj hek,MapKept.stamped_erase hst j⟩
  simp[execOp,ho,h1,h2,resolve,invoke,builtin,Builtin.delete_,run_underlying Tryz.underlying67,MapKept.run_getObj_map hm',hc,MapKept.run_findKey Tryz.underlying3 hf,MapKept.run_setObj_map _ hm',Result.andThen,setMap]
theorem x_lookup {g:Nat->List UInt8}(h:MapF w r g)(ho:o.op = .lookup 67 x y false)(h1:ρ x = .map (some r))(h2:ρ y = .int .i64 (k:Int)):(execOp ρ o).run Tryz.prog w = .ok (.value (secV (g k))) w:=by
 obtain⟨es,clock,hm,he,_⟩:=h.lies
 have hk:MapKept.IsKey (.int .i64) (.int .i64 (k:Int)):=rfl
 have hc:(Instr.checkKey es.isEmpty 10000 3 (.int .i64 (k:Int))).run Tryz.prog w = .ok () w:=MapKept.run_checkKey Tryz.underlying3 hk _ 9999
 have hm':w.heap[r]? = some (.map es clock):=hm
 rcases he.find k with⟨hf,hn⟩|⟨j,e,l0,hf,hj,hek,hfk,hv⟩
 ·have hz:g k=zer64:=by
   unfold spar at hn
   split at hn
   ·assumption
   ·cases hn
  rw[hz]
  have zv:(zeroValue 227).run Tryz.prog w = .ok (secV zer64) w:=by
   simp[go_sem]
   kernel_rfl
  simp[execOp,ho,h1,h2,Instr.lookup,run_underlying Tryz.underlying67,MapKept.run_getObj_map hm',hc,MapKept.run_findKey Tryz.underlying3 hf,zv,Result.andThen]
 ·have hg:l0=g k:=by
   unfold spar at hfk
   split at hfk
   ·cases hfk
   ·injection hfk with hfk
    exact hfk.symm
  subst hg
  rw[<-hv]
  simp[execOp,ho,h1,h2,Instr.lookup,run_underlying Tryz.underlying67,MapKept.run_getObj_map hm',hc,MapKept.run_findKey Tryz.underlying3 hf,Result.andThen]
end
end
section
variable {w:World}{ops:Array Oper}{rest:List Oper}{o:Oper}{a:Act}{Q:Exit->Act->World->Prop}{r k clock:Nat}{es:Array MapEntry}{f:Nat->Option (List UInt8)}{l:List UInt8}
theorem wp_mput (hg:o.guard=none)(x y z:Operand)(ho:o.op = .mapUpdate 67 x y z)(h1:a.eval x = .map (some r))(h2:a.eval y = .int .i64 (k:Int))(h3:a.eval z=secV l)(he:Ents es f)(hst:MapKept.Stamped es clock)(hm:MapIs w r es clock)
  (h:∀es' clock',Ents es' (fset f k (some l))->MapKept.Stamped es' clock'->wpList Tryz.prog ops Q rest (a.put o.dst undef) (setMap w r es' clock')):wpList Tryz.prog ops Q (o::rest) a w:=by
 obtain⟨es',clock',hr,he',hs'⟩:=x_put he hst hm ho h1 h2 h3
 exact wp_execS hg hr (h _ _ he' hs')
theorem wp_mdel (hg:o.guard=none)(x y:Operand)(ho:o.op = .call { callee:=.builtin .delete,args:=#[x,y],argTypes:=#[67,3] })(h1:a.eval x = .map (some r))(h2:a.eval y = .int .i64 (k:Int))(he:Ents es f)(hst:MapKept.Stamped es clock)(hm:MapIs w r es clock)
  (h:∀es',Ents es' (fset f k none)->MapKept.Stamped es' clock->wpList Tryz.prog ops Q rest (a.put o.dst (.tuple #[])) (setMap w r es' clock)):wpList Tryz.prog ops Q (o::rest) a w:=by
 obtain⟨es',hr,he',hs'⟩:=x_del he hst hm ho h1 h2
 exact wp_exec hg hr (h _ he' hs')
end
theorem spar_set {g:Nat->List UInt8}{k:Nat}{l:List UInt8}(h:l≠zer64):fset (spar g) k (some l)=spar (gset g k l):=by
 funext m
 unfold fset spar gset
 by_cases e:m=k<;>simp[e,h]
theorem spar_del {g:Nat->List UInt8}{k:Nat}(x:Option (List UInt8)):fset (fset (spar g) k x) k none=spar (gset g k zer64):=by
 funext m
 unfold fset spar gset
 by_cases e:m=k<;>simp[e]
section
variable {P:Program}(w:World)
theorem run_eql_map_nil (t k e:TypeId)(p:Option Nat)(h:P.underlying t=some (.map k e)):(binOp .eql t (.map p) (.map none)).run P w = .ok (.bool p.isNone) w:=by
 have e1:binOp .eql t (.map p) (.map none)=(do pure (.bool (<-Op.equalIn (9999+1) t (.map p) (.map none)))):=rfl
 have h1:(Op.equalIn (9999+1) t (.map p) (.map none)).run P w = .ok p.isNone w:=by
  unfold Op.equalIn
  cases p<;>simp[run_underlying h]
 rw[e1]
 simp only[Sem.run_bind,h1,Result.andThen,Sem.run_pure]
theorem run_typeAssert_map (t xT k e:TypeId)(v:Value)(h:P.underlying t=some (.map k e)):(Instr.typeAssert (.iface t v) xT t false).run P w = .ok v w:=by
 simp[Instr.typeAssert,run_underlying h,go_sem,Result.andThen]
theorem run_mclone {r:Nat}{es:Array MapEntry}{clock:Nat}(t:TypeId)(hb:w.heap[r]? = some (.map es clock)) :
  (Extern.MapsClone.clone #[.iface t (.map (some r))]).run P w = .ok (.iface t (.map (some w.heap.size))) (w.alloc (.map es clock)):=by
 have e:Extern.MapsClone.clone #[.iface t (.map (some r))]=(getObj r >>= fun o=>match o with
   | .map entries clock=>(newObj (.map entries clock) >>= fun n=>pure (.iface t (.map (some n))))
   | _ => stuck "maps.clone: a map expected") := rfl
 rw[e]
 simp[MapKept.run_getObj_map hb,Result.andThen,go_sem]
end
theorem put_gives (w:World)(r k:Nat)(g:Nat->List UInt8)(l:List UInt8)(hl:l.length=64)(h:MapF w r g) :
  Calls Tryz.prog 182 #[.map (some r),.int .i64 (k:Int),secV l] w fun e w'=>(∃v,e = .returned v)/\MapF w' r (gset g k l)/\w.grownBy w' (some r):=by
 obtain⟨es,clock,hm,he,hst⟩:=h.lies
 have hb:=BlkIs.new w 227 (l.map b8).toArray
 have hg0:w.grownBy (w.alloc (.cells (l.map b8).toArray 227)) (some r):=⟨rfl,rfl,rfl,by simp,fun j hj _=>Below.heap_alloc w _ j hj⟩
 have hm0:MapIs (w.alloc (.cells (l.map b8).toArray 227)) r es clock:=(Below.heap_alloc w _ r hm.lt).trans hm
 have hlen:∀m,(gset g k l m).length=64:=fun m=>by unfold gset;split;exact hl;exact h.len m
 have hsz:(l.map b8).toArray.size=64:=by simp[hl]
 have hRow:RowTy Tryz.prog 227 (l.map b8).toArray.size:=by rw[hsz];exact rowDSec
 have HL:=Lib.hid hl
 have hz:zer64.length=64:=by decide
 clear hl hsz
 go_enter Tryz.func182,Tryz.ntmps182
 by_cases hlz:l=zer64
 ·have hq:(l == zer64)=true:=by simpa using hlz
  have HZ:=Lib.hid hlz
  clear hlz
  go_wp2_with (first
   | (refine wp_loadW rfl 227 (.tmp 5) rfl w.heap.size rfl hRow (by with_reducible assumption) rfl ?_)
   | (refine wp_mput rfl (.tmp 6) (.tmp 7) (.tmp 8) rfl rfl rfl rfl he hst hm0 ?_;intro es1 ck1 he1 hs1;have hm1:=hm0.set es1 ck1;have hg1:=grownBy_trans hg0 (setMap_grown hm0 es1 ck1);have hb1:=hb.setMap hm0 es1 ck1)
   | (refine wp_exec rfl (x_zeroSec rfl) ?_)
   | (refine wp_exec rfl (x_eqSec HL.out hz rfl rfl rfl) ?_;rw[hq])
   | (refine wp_mdel rfl (.tmp 12) (.tmp 13) rfl rfl rfl he1 hs1 hm1 ?_;intro es2 he2 hs2;have hm2:=hm1.set es2 ck1;have hg2:=grownBy_trans hg1 (setMap_grown hm1 es2 ck1)))
  go_end0
  refine⟨⟨_,rfl⟩,⟨hlen,es2,ck1,hm2,?_,hs2⟩,hg2⟩
  rw[HZ.out,<-spar_del (some l)]
  exact he2
 ·have hq:(l == zer64)=false:=by simpa using hlz
  have HZ:=Lib.hid hlz
  clear hlz
  go_wp2_with (first
   | (refine wp_loadW rfl 227 (.tmp 5) rfl w.heap.size rfl hRow (by with_reducible assumption) rfl ?_)
   | (refine wp_mput rfl (.tmp 6) (.tmp 7) (.tmp 8) rfl rfl rfl rfl he hst hm0 ?_;intro es1 ck1 he1 hs1;have hm1:=hm0.set es1 ck1;have hg1:=grownBy_trans hg0 (setMap_grown hm0 es1 ck1);have hb1:=hb.setMap hm0 es1 ck1)
   | (refine wp_exec rfl (x_zeroSec rfl) ?_)
   | (refine wp_exec rfl (x_eqSec HL.out hz rfl rfl rfl) ?_;rw[hq]))
  go_end0
  refine⟨⟨_,rfl⟩,⟨hlen,es1,ck1,hm1,?_,hs1⟩,hg1⟩
  rw[<-spar_set HZ.out]
  exact he1
theorem mclone_gives (w:World)(r:Nat)(g:Nat->List UInt8)(h:MapF w r g) :
  Calls Tryz.prog 181 #[.map (some r)] w fun e w'=>e = .returned (.map (some w.heap.size))/\MapF w' w.heap.size g/\Below w.heap.size w w':=by
 obtain⟨es,clock,hm,he⟩:=h.lies
 have hm':w.heap[r]? = some (.map es clock):=hm
 have hnew:MapF (w.alloc (.map es clock)) w.heap.size g:=⟨h.len,es,clock,heap_alloc_new w _,he⟩
 have hB:Below w.heap.size w (w.alloc (.map es clock)):=(Below.refl _ _).alloc (zG _) _
 go_enter Tryz.func181,Tryz.ntmps181
 have hq:=fun W=>run_eql_map_nil (P:=Tryz.prog) W 67 _ _ (some r) Tryz.underlying67
 go_wp2_with fail
 rw[run_callFunc_extern Tryz.func213 (by kernel_rfl) (by kernel_rfl) (by kernel_rfl) (e:=Extern.MapsClone.clone) (by kernel_rfl),run_mclone w 67 hm']
 simp only[Result.andThen]
 rw[Oper.upon_value]
 go_wp2
 rw[run_typeAssert_map _ 67 20 _ _ _ Tryz.underlying67]
 simp only[Result.andThen]
 rw[Oper.upon_value]
 go_wp2
 go_ret
 exact⟨rfl,hnew,hB⟩
def lsC (x:Nat×List UInt8):List Value:=.int .i64 (x.1:Int)::x.2.map b8
def flC (xs:List (Nat×List UInt8)):List Value:=(xs.map lsC).flatten
def Wide (xs:List (Nat×List UInt8)):Prop:=∀x∈xs,x.2.length=64
theorem lsC_length {x:Nat×List UInt8}(h:x.2.length=64):(lsC x).length=65:=by simp[lsC,h]
theorem flC_length {xs:List (Nat×List UInt8)}(h:Wide xs):(flC xs).length=xs.length*65:=by
 induction xs with
 | nil=>rfl
 | cons x xs ih =>
  have h1:=ih (fun y hy=>h y (by simp[hy]))
  have h2:=lsC_length (h x (by simp))
  have e:flC (x::xs)=lsC x++flC xs:=rfl
  rw[e,zY,h1,h2,zN]
  omega
theorem flC_append (xs ys:List (Nat×List UInt8)):flC (xs++ys)=flC xs++flC ys:=by simp[flC]
theorem flC_elem {xs:List (Nat×List UInt8)}(h:Wide xs)(j:Nat)(hj:j<xs.length):((flC xs).drop (j*65)).take 65=lsC xs[j]:=by
 have e:flC xs=flC (xs.take j)++(lsC xs[j] ++ flC (xs.drop (j+1))):=by
  have e2:lsC xs[j] ++ flC (xs.drop (j+1))=flC (xs[j] :: xs.drop (j+1)):=rfl
  rw[e2,<-flC_append,<-List.drop_eq_getElem_cons hj,List.take_append_drop]
 have hl:(flC (xs.take j)).length=j*65:=by
  rw[flC_length (fun x hx=>h x (List.mem_of_mem_take hx)),List.length_take]
  congr 1
  omega
 rw[e,<-hl,List.drop_left]
 have h5:=lsC_length (h xs[j] (qJ hj))
 rw[List.take_append_of_le_length (by omega),qA (by omega)]
theorem lsC_one (x:Nat×List UInt8):∀v∈lsC x,v.oneCell'=true:=by
 intro v hv
 simp[lsC] at hv
 rcases hv with rfl|⟨y,_,rfl⟩<;>rfl
theorem flC_one (xs:List (Nat×List UInt8)):∀v∈flC xs,v.oneCell'=true:=by
 intro v hv
 unfold flC at hv
 obtain⟨l,hl,hv⟩:=List.mem_flatten.1 hv
 obtain⟨x,_,rfl⟩:=List.mem_map.1 hl
 exact lsC_one _ v hv
def zeroLs:Value:=.agg (lsC (0,zer64)).toArray
theorem rowLoose:RowTy Tryz.prog 239 65:=⟨⟨_,Tryz.underlying239,rfl⟩,by kernel_rfl⟩
theorem elLoose:ElT 68 239 65 72 zeroLs:=⟨Tryz.underlying68,by kernel_rfl,by kernel_rfl,by decide⟩
def InW (w:World)(B:Nat)(A:Option Addr)(c:Nat)(xs:List (Nat×List UInt8)):Prop:=Wide xs/\InG w B 65 A xs.length c (flC xs)
theorem InW.grow {w w':World}{A:Option Addr}{c:Nat}{xs:List (Nat×List UInt8)}(h:InW w w.heap.size A c xs)(hb:Below w.heap.size w w'):InW w' w'.heap.size A c xs:=⟨h.1,h.2.grow hb⟩
theorem InW.mt (w:World)(B:Nat):InW w B none 0 []:=⟨fun x h=>by simp at h,InG.mt _ _ _⟩
theorem InW.elem {w:World}{B g o c:Nat}{xs:List (Nat×List UInt8)}(h:InW w B (some ⟨g,o,none⟩) c xs)(j:Nat)(hj:j<xs.length):w.rangeAt g (o+j*65) (lsC xs[j]):=by
 have:=h.2.elem j hj
 rw[flC_elem h.1 j hj] at this
 exact this
def dkC (r:Nat)(many:Int)(A:Option Addr)(n c:Nat)(left:Int)(stops:Bool):Array Value:=#[.map (some r),.int .i64 many,.slice A n c,.int .i64 left,.bool stops]
structure DkIs (w:World)(p:Nat)(many:Nat)(g:Nat->List UInt8)(xs:List (Nat×List UInt8))(left:Int)(stops:Bool):Prop where
 has:∃r A c,BlkIs w p 70 (dkC r many A xs.length c left stops)/\MapF w r g/\InW w w.heap.size A c xs
theorem DkIs.lt {w:World}{p many:Nat}{g:Nat->List UInt8}{xs:List (Nat×List UInt8)}{left:Int}{stops:Bool}(h:DkIs w p many g xs left stops):p<w.heap.size:=by
 obtain⟨r,A,c,hb,_⟩:=h.has
 exact hb.lt
theorem DkIs.grow {w w':World}{p many:Nat}{g:Nat->List UInt8}{xs:List (Nat×List UInt8)}{left:Int}{stops:Bool}(h:DkIs w p many g xs left stops)(hB:Below w.heap.size w w'):DkIs w' p many g xs left stops:=by
 obtain⟨r,A,c,hb,hm,hx⟩:=h.has
 exact⟨r,A,c,hb.below hB hb.lt,hm.grow hB,hx.grow hB⟩
theorem InW.notDisk {w:World}{B q g o c:Nat}{xs:List (Nat×List UInt8)}{cs:Array Value}{T:TypeId}(h:InW w B (some ⟨g,o,none⟩) c xs)(h0:0<xs.length)(hb:BlkIs w q T cs)(hs:cs.size<=64):g≠q:=by
 intro e
 subst e
 have hr:=h.elem 0 h0
 have hl:=lsC_length (h.1 xs[0] (qJ h0))
 have:=hr 64 ((lsC xs[0])[64]'(by omega)) (zI (by omega))
 rw[hb.cell] at this
 have h2:=(zH.1 this).1
 omega
theorem DkIs.other {w w':World}{p q many:Nat}{g:Nat->List UInt8}{xs:List (Nat×List UInt8)}{left:Int}{stops:Bool}(h:DkIs w p many g xs left stops){cs:Array Value}{T:TypeId}(hq:BlkIs w q T cs)(hs:cs.size<=64)(hne:p≠q)(hg:w.grownBy w' (some q)):DkIs w' p many g xs left stops:=by
 obtain⟨r,A,c,hb,hm,hw,hx⟩:=h.has
 have hrq:r≠q:=fun e=>by
  subst e
  obtain⟨es,ck,h1,_⟩:=hm.lies
  have h2:w.heap[r]? = some (.cells cs T (0,0)):=hq
  have h1':w.heap[r]? = some (.map es ck):=h1
  rw[h1'] at h2
  cases h2
 refine⟨r,A,c,hb.grown hg (fun e=>hne (by injection e)),hm.keep (hg.block r hm.lt (fun e=>hrq (by injection e))),hw,?_⟩
 refine⟨hx.le,hx.max,hx.nil,hx.len,hx.one,fun h0 => ?_⟩
 obtain⟨b,o,e,hbl,hr⟩:=hx.lies h0
 subst e
 have hbq:b≠q:=InW.notDisk (w:=w) (B:=w.heap.size) (c:=c) ⟨hw,hx⟩ h0 hq hs
 exact⟨b,o,rfl,zO hbl hg.size,fun j v hj=>(World.cell?_of_block (hg.block b hbl (fun e=>hbq (by injection e)))).trans (hr j v hj)⟩
theorem lclone_gives (w:World)(A:Option Addr)(c:Nat)(xs:List (Nat×List UInt8))(h:InW w w.heap.size A c xs)(hl:xs.length<=1000000) :
  Calls Tryz.prog 186 #[.slice A xs.length c] w fun e w'=>∃v,e = .returned v/\w'.ownsRow w.heap.size 239 65 v xs.length (flC xs)/\Below w.heap.size w w':=by
 obtain⟨hw,hx⟩:=h
 rcases A with _|ad
 ·have hc:=hx.nil rfl
  subst hc
  have hle:=hx.le
  obtain rfl:xs=[]:=qF (by omega)
  have hq:=fun W=>run_eq_nil (P:=Tryz.prog) W 68 239 none 0 0 Tryz.underlying68
  go_enter Tryz.func186,Tryz.ntmps186
  go_wp2
  go_ret
  exact⟨_,rfl,World.ownsRow_nil _ _ _ _,Below.refl _ _⟩
 ·have e0:(w.alloc (.cells #[] 239)).ownsRow w.heap.size 239 65 (.slice (some ⟨w.heap.size,0,none⟩) 0 0) 0 []:=World.ownsRow_lit w #[] 0 (zG _) (by unfold maxLen;omega) rfl
  have hB0:Below w.heap.size w (w.alloc (.cells #[] 239)):=(Below.refl _ w).alloc (zG _) _
  have h1:=hx.below hB0
  have hq:=fun W=>run_eq_nil (P:=Tryz.prog) W 68 239 (some ad) xs.length c Tryz.underlying68
  go_enter Tryz.func186,Tryz.ntmps186
  go_wp2_with (at_builtin;refine wp_appG rfl elLoose (.tmp 5) (.tmp 6) rfl w.heap.size (.slice (some ⟨w.heap.size,0,none⟩) 0 0) 0 [] rfl e0 _ (some ad) xs.length c (flC xs) rfl h1 (by unfold maxLen;omega) (by omega) (by simp) ?_;intro v1 w1 own1 hg1)
  go_ret
  rw[zQ,qK] at own1
  exact⟨_,rfl,own1,hB0.trans (grown_below hg1 hB0.size (ownG_ge e0))⟩
section
variable (w:World)(p many:Nat)(g:Nat->List UInt8)(xs:List (Nat×List UInt8))(left:Int)(stops:Bool)
theorem none_gives (h:DkIs w p many g xs left stops):Calls Tryz.prog 90 #[.pointer (some ⟨p,0,none⟩)] w fun e w'=>e = .returned (.bool false)/\w=w':=by
 obtain⟨r,A,c,hb,hm,hx⟩:=h.has
 have c0:w.cell? ⟨p,0,none⟩=some (.map (some r)):=by rw[hb.cell];rfl
 have hq:=fun W=>run_eql_map_nil (P:=Tryz.prog) W 67 _ _ (some r) Tryz.underlying67
 go_enter Tryz.func90,Tryz.ntmps90
 go_wp2
 go_ret
 exact⟨rfl,rfl⟩
theorem stopped_gives (h:DkIs w p many g xs left stops):Calls Tryz.prog 180 #[.pointer (some ⟨p,0,none⟩)] w fun e w'=>e = .returned (.bool (stops && left == 0))/\w=w':=by
 have HN:=none_gives w p many g xs left stops h
 obtain⟨r,A,c,hb,hm,hx⟩:=h.has
 have c3:w.cell? ⟨p,3,none⟩=some (.int .i64 left):=by rw[hb.cell];rfl
 have c4:w.cell? ⟨p,4,none⟩=some (.bool stops):=by rw[hb.cell];rfl
 cases stops
 all_goals
  go_enter Tryz.func180,Tryz.ntmps180
  go_wp2_with (go_at_call 90;refine HN.mono ?_;rintro e w' ⟨rfl,rfl⟩)
  go_ret
  exact⟨by simp,rfl⟩
theorem done_gives (h:DkIs w p many g xs left stops)(hl : -1000000<=left)(hl2:left<=9223372036854775807) :
  Calls Tryz.prog 143 #[.pointer (some ⟨p,0,none⟩)] w fun e w'=>(∃v,e = .returned v)/\DkIs w' p many g xs (if stops then left - 1 else left) stops/\w.grownBy w' (some p)/\w'.cell? ⟨p,2,none⟩=w.cell? ⟨p,2,none⟩:=by
 have hDk:=h
 obtain⟨r,A,c,hb,hm,hx⟩:=h.has
 have c3:w.cell? ⟨p,3,none⟩=some (.int .i64 left):=by rw[hb.cell];rfl
 have c4:w.cell? ⟨p,4,none⟩=some (.bool stops):=by rw[hb.cell];rfl
 have f3:=hb.free 3
 have hw:IntKind.i64.wrap (left - 1)=left - 1:=wrap_i64_fr _ (by omega) (by omega)
 cases stops with
 | false =>
  go_enter Tryz.func143,Tryz.ntmps143
  go_wp2
  go_end0
  exact⟨⟨_,rfl⟩,hDk,World.grownBy.refl _ _,rfl⟩
 | true =>
  go_enter Tryz.func143,Tryz.ntmps143
  go_wp2
  go_end0
  have hg:=setCell_grownBy w ⟨p,3,none⟩ (.int .i64 (left - 1))
  refine⟨⟨_,rfl⟩,⟨r,A,c,hb.set 3 _,hm.setCell _ _,hx.1,?_⟩,hg,World.cell?_setCell_other _ _ _ _ (by simp)⟩
  refine⟨hx.2.le,hx.2.max,hx.2.nil,hx.2.len,hx.2.one,fun h0 => ?_⟩
  obtain⟨b,o,e,hbl,hr⟩:=hx.2.lies h0
  subst e
  have hbq:b≠p:=InW.notDisk hx h0 hb (by simp[dkC])
  exact⟨b,o,rfl,by simpa using hbl,fun j v hj=>(World.cell?_of_block (hg.block b hbl (fun e=>hbq (by injection e)))).trans (hr j v hj)⟩
end
structure Ask where
 f:Nat
 bd:Array Value
 lb:Array Value
 e:Int
 b:Bool
def Ask.fn (x:Ask):Value:=.func (.func x.f) x.bd x.lb
def askC (l:List Ask):List Value:=(l.map fun x=>[x.fn,.int .i64 x.e]).flatten
theorem askC_cons (x:Ask)(l:List Ask):askC (x::l)=x.fn :: .int .i64 x.e::askC l:=rfl
theorem askC_length (l:List Ask):(askC l).length=l.length*2:=by
 induction l with
 | nil=>rfl
 | cons x l ih=>rw[askC_cons,zN,zN,ih,zN];omega
theorem askC_get (l:List Ask)(k:Nat)(hk:k<l.length):(askC l)[k*2]? = some l[k].fn/\(askC l)[k*2+1]? = some (.int .i64 l[k].e):=by
 induction l generalizing k with
 | nil=>simp at hk
 | cons x l ih =>
  cases k with
  | zero=>exact⟨rfl,rfl⟩
  | succ k =>
   have:=ih k (by simpa using hk)
   rw[askC_cons]
   have e:(k+1)*2=k*2+1+1:=by omega
   rw[e]
   simpa using this
theorem askC_one (l:List Ask):∀v∈askC l,v.oneCell'=true:=by
 intro v hv
 unfold askC at hv
 obtain⟨m,hm,hv⟩:=List.mem_flatten.1 hv
 obtain⟨x,_,rfl⟩:=List.mem_map.1 hm
 simp at hv
 rcases hv with rfl|rfl<;>rfl
def firstE:List Ask->Int
 | []=>0
 | x::l=>if x.b then x.e else firstE l
theorem firstE_at (l:List Ask)(k:Nat)(hk:k<l.length)(hno:∀j (h:j<l.length),j<k->l[j].b=false)(hb:l[k].b=true):firstE l=l[k].e:=by
 induction l generalizing k with
 | nil=>simp at hk
 | cons x l ih =>
  cases k with
  | zero=>simp at hb;simp[firstE,hb]
  | succ k =>
   have h0:=hno 0 (by simp) (by omega)
   simp at h0
   have:=ih k (by simpa using hk) (fun j h hj=>by have:=hno (j+1) (by simpa using h) (by omega);simpa using this) (by simpa using hb)
   simp[firstE,h0,this]
theorem firstE_none (l:List Ask)(hno:∀j (h:j<l.length),l[j].b=false):firstE l=0:=by
 induction l with
 | nil=>rfl
 | cons x l ih =>
  have h0:=hno 0 (by simp)
  simp at h0
  have:=ih (fun j h=>by have:=hno (j+1) (by simpa using h);simpa using this)
  simp[firstE,h0,this]
theorem elAsk:ElT 236 208 2 16 (.agg #[.nilFunc,.int .i64 0]):=⟨Tryz.underlying236,by kernel_rfl,by kernel_rfl,by decide⟩
theorem rowAsk:RowTy Tryz.prog 208 2:=⟨⟨_,Tryz.underlying208,rfl⟩,by kernel_rfl⟩
theorem ask_one (f:Nat)(bd lb:Array Value)(e:Int):∀v∈(#[.func (.func f) bd lb,.int .i64 e]:Array Value).toList,v.oneCell'=true:=by
 intro v hv
 simp at hv
 rcases hv with rfl|rfl<;>rfl
def Answers (w:World)(l:List Ask):Prop:=∀x∈l,(∀args w,(callFunc x.f args).run Tryz.prog w = .ok (.enter x.f args) w)/\∀W,Below w.heap.size w W->Calls Tryz.prog x.f (x.bd++x.lb) W fun e w'=>e = .returned (.bool x.b)/\Below W.heap.size W w'
def AskNone (e:Int)(a:Act):Prop:=∃u0 u1 u2 u3 u5 u6 u7 u8 u9 u10 u11 u12 u13 u14 u15 u16 u17 u18 u19 u20 u21 u22 u23 u24,a = { tmps:=#[u0,u1,u2,u3,.int .i64 e,u5,u6,u7,u8,u9,u10,u11,u12,u13,u14,u15,u16,u17,u18,u19,u20,u21,u22,u23,u24],defers:=[] }
theorem asked_gives (w:World)(p many:Nat)(g:Nat->List UInt8)(xs:List (Nat×List UInt8))(left:Int)(stops:Bool)(hD:DkIs w p many g xs left stops)(l:List Ask)(A:Option Addr)(c:Nat)
  (hin:InG w w.heap.size 2 A l.length c (askC l)) (hl:l.length<=100) (hok:Answers w l) :
  Calls Tryz.prog 140 #[.pointer (some ⟨p,0,none⟩),.slice A l.length c] w fun e w'=>e = .returned (.int .i64 (firstE l))/\Below w.heap.size w w':=by
 obtain⟨a0,ha0⟩:∃a0:Ask,a0=⟨90,#[.pointer (some ⟨p,0,none⟩)],#[],1,false⟩:=⟨_,rfl⟩
 have hB0:Below w.heap.size w (w.alloc (.cells #[.func (.func 90) #[.pointer (some ⟨p,0,none⟩)] #[],.int .i64 1] 208)):=(Below.refl _ w).alloc (zG _) _
 have own0:(w.alloc (.cells #[.func (.func 90) #[.pointer (some ⟨p,0,none⟩)] #[],.int .i64 1] 208)).ownsRow w.heap.size 208 2 (.slice (some ⟨w.heap.size,0,none⟩) 1 1) 1 (askC [a0]):=by
  rw[ha0]
  exact World.ownsRow_lit w #[.func (.func 90) #[.pointer (some ⟨p,0,none⟩)] #[],.int .i64 1] 1 (zG _) (by unfold maxLen;omega) rfl
 have hin0:=hin.below hB0
 have hall:firstE (a0::l)=firstE l:=by rw[ha0];rfl
 have hok0:Answers w (a0::l):=by
  intro x hx
  rcases List.mem_cons.1 hx with rfl|hx
  ·rw[ha0]
   exact⟨enters_of Tryz.func90 (by kernel_rfl) rfl,fun W hB=>(none_gives W p many g xs left stops (hD.grow hB)).mono fun e w' ⟨h1,h2⟩=>⟨h1,h2▸Below.refl _ _⟩⟩
  ·exact hok x hx
 rw[<-hall]
 obtain⟨v,hv⟩:∃v,v=firstE (a0::l):=⟨_,rfl⟩
 rw[<-hv]
 have hV:=Lib.hid hv
 clear hall hok hD hv
 go_enter Tryz.func140,Tryz.ntmps140
 go_wp2_with fail
 refine wp_scope_jumps (rest:=?rest) 0 (fun a w'=>AskNone v a/\Below w.heap.size w w') (fun _ _=>0) ?hf ?first ?pass
 case hf=>exact rfl
 case pass =>
  rintro a w' ⟨⟨u0,u1,u2,u3,u5,u6,u7,u8,u9,u10,u11,u12,u13,u14,u15,u16,u17,u18,u19,u20,u21,u22,u23,u24,rfl⟩,hB⟩
  go_wp2
  simp only[Exit.jump]
  go_wp2
  go_ret
  exact⟨rfl,hB⟩
 case first =>
  go_wp2_with (at_builtin;refine wp_appG rfl elAsk (.tmp 10) (.tmp 11) rfl w.heap.size (.slice (some ⟨w.heap.size,0,none⟩) 1 1) 1 (askC [a0]) rfl own0 _ A l.length c (askC l) rfl hin0 (by unfold maxLen;omega) (by omega) (by simp) ?_;intro v1 w1 own1 hg1;have hB1:=hB0.trans (grown_below hg1 hB0.size (ownG_ge own0));obtain⟨A1,c1,rfl,hin1⟩:=ownG_in own1 (fun v hv=>by rcases List.mem_append.1 hv with h|h;exact askC_one _ v h;exact askC_one _ v h))
  have hAll:∀k,k<1+l.length->k<(a0::l).length:=fun k h=>by simp;omega
  have hAll2:∀k,k<(a0::l).length->k<1+l.length:=fun k h=>by simp at h;omega
  have hcat:askC [a0] ++ askC l=askC (a0::l):=rfl
  rw[hcat] at hin1
  clear own0 own1 hg1 hin0 hin hcat ha0
  generalize a0::l=qs at *
  go_loopw [14] (fun i wr=>∃k:Nat,k<=1+l.length/\i = .int .i64 k/\Hid (∀j (h:j<qs.length),j<k->qs[j].b=false)/\Below w1.heap.size w1 wr) (fun i _=>1+l.length - (intOf i).toNat)
  case atStart=>exact⟨0,by omega,rfl,Lib.hid (fun j h hj=>by omega),Below.refl _ _⟩
  case round =>
   obtain⟨k,hk,rfl,hno,hBr⟩:=hrel
   by_cases hlt:k<1+l.length
   ·obtain⟨g1,o1,rfl,hg1,hr⟩:=hin1.lies (by omega)
    have hka:=hAll k hlt
    obtain⟨q1,q2⟩:=askC_get qs k (hAll k hlt)
    have c1:wr.cell? ⟨g1,o1+k*2,none⟩=some qs[k].fn:=(hBr.cell (p:=⟨g1,o1+k*2,none⟩) hg1).trans (hr _ _ q1)
    have c2:wr.cell? ⟨g1,o1+k*2+1,none⟩=some (.int .i64 qs[k].e):=(hBr.cell (p:=⟨g1,o1+k*2+1,none⟩) hg1).trans (hr _ _ q2)
    obtain⟨hent,hcall⟩:=hok0 qs[k] (qJ (hAll k hlt))
    have hyes:qs[k].b=true->v=qs[k].e:=fun h=>by rw[hV.out];exact firstE_at _ k (hAll k hlt) hno.out h
    have hstep:qs[k].b=false->∀j (h:j<qs.length),j<k+1->qs[j].b=false:=fun hb j h hj=>by
     by_cases e:j=k
     ·subst e;exact hb
     ·exact hno.out j h (by omega)
    have hwk:IntKind.i64.wrap ((k:Int)+1)=(k:Int)+1:=wrap_i64_fr _ (by omega) (by omega)
    obtain⟨x,hx⟩:∃x,x=qs[k]:=⟨_,rfl⟩
    rw[<-hx] at c1 c2 hent hcall hyes
    have hst:x.b=false->Hid (∀j (h:j<qs.length),j<k+1->qs[j].b=false):=fun h=>Lib.hid (hstep (by rw[<-hx];exact h))
    unfold Ask.fn at c1
    clear hr q1 q2 hstep hx hno
    obtain⟨xf,xb,xl,xe,xr⟩:=x
    simp only at c1 c2 hent hcall hyes hst
    have hBw:Below w.heap.size w wr:=hB1.trans (hBr.mono hB1.size)
    have nb:=(BlkIs.new wr 208 #[.nilFunc,.int .i64 0]).setRow #[.func (.func xf) xb xl,.int .i64 xe]
    have nB:Below w1.heap.size w1 ((wr.alloc (.cells #[.nilFunc,.int .i64 0] 208)).setRow wr.heap.size #[.func (.func xf) xb xl,.int .i64 xe]):=below_setRow (hBr.alloc hBr.size _) hBr.size _
    have d0:((wr.alloc (.cells #[.nilFunc,.int .i64 0] 208)).setRow wr.heap.size #[.func (.func xf) xb xl,.int .i64 xe]).cell? ⟨wr.heap.size,0,none⟩=some (.func (.func xf) xb xl):=by rw[nb.cell];rfl
    have d1:((wr.alloc (.cells #[.nilFunc,.int .i64 0] 208)).setRow wr.heap.size #[.func (.func xf) xb xl,.int .i64 xe]).cell? ⟨wr.heap.size,1,none⟩=some (.int .i64 xe):=by rw[nb.cell];rfl
    have hC:=hcall _ (hB1.trans (nB.mono hB1.size))
    cases xr with
    | true =>
     have hv:=hyes rfl
     subst hv
     clear hyes hst hcall
     go_wp2_with (refine wp_storeW rfl 208 (.tmp 6) (.tmp 17) rfl wr.heap.size rfl rfl rowAsk (BlkIs.new wr 208 #[.nilFunc,.int .i64 0]) (by rfl) (by rfl) (ask_one _ _ _ _) ?_)
     refine hC.mono ?_
     rintro e w2 ⟨rfl,hB2⟩
     go_wp2
     go_step3
     exact⟨rfl,by repeat (first|exact rfl|apply Exists.intro),hB1.trans ((nB.trans (hB2.mono nB.size)).mono hB1.size)⟩
    | false =>
     have hN:=hst rfl
     clear hyes hst hcall
     go_wp2_with (refine wp_storeW rfl 208 (.tmp 6) (.tmp 17) rfl wr.heap.size rfl rfl rowAsk (BlkIs.new wr 208 #[.nilFunc,.int .i64 0]) (by rfl) (by rfl) (ask_one _ _ _ _) ?_)
     refine hC.mono ?_
     rintro e w2 ⟨rfl,hB2⟩
     go_wp2
     exact⟨⟨k+1,by omega,by simp,hN,nB.trans (hB2.mono nB.size)⟩,by simp[intOf];omega⟩
   ·obtain rfl:k=1+l.length:=by omega
    have h0:v=0:=by rw[hV.out];exact firstE_none _ (fun j h=>hno.out j h (hAll2 j h))
    subst h0
    go_wp2
    simp only[Exit.jump]
    go_ret
    exact⟨rfl,hB1.trans (hBr.mono hB1.size)⟩
theorem new_gives (w:World)(n:Nat)(h1:1<=n)(h2:n<=40000) :
  Calls Tryz.prog 6 #[.int .i64 (n:Int)] w fun e w'=>∃p,e = .returned (.tuple #[.pointer (some ⟨p,0,none⟩),.int .i64 0])/\w.heap.size<=p/\DkIs w' p n (fun _=>zer64) [] 0 false/\Below w.heap.size w w':=by
 have a1:¬ (n:Int)<1:=by omega
 have a2:¬ (40000:Int)<(n:Int):=by omega
 have hm:MapIs (w.alloc (.map #[] 0)) w.heap.size #[] 0:=heap_alloc_new w _
 have hB:Below w.heap.size w (w.alloc (.map #[] 0)):=(Below.refl _ w).alloc (zG _) _
 have hB2:=hB.alloc hB.size (.cells (dkC w.heap.size n none 0 0 0 false) 70)
 have hb:=BlkIs.new (w.alloc (.map #[] 0)) 70 (dkC w.heap.size n none 0 0 0 false)
 unfold dkC at *
 go_enter Tryz.func6,Tryz.ntmps6
 go_wp2_with (refine wp_makeMap rfl rfl ?_;intro _)
 refine bodyPost_ret (results_tmp2 rfl _ _ _) rfl ⟨w.heap.size+1,?_,by omega,?_,hB2⟩
 ·simp
 ·rw[World.size_alloc] at hb
  refine⟨w.heap.size,none,0,hb,⟨fun _=>by decide,#[],0,(Below.heap_alloc _ _ _ hm.lt).trans hm,?_⟩,InW.mt _ _⟩
  have:spar (fun _=>zer64)=fun _=>none:=by funext k;simp[spar]
  rw[this]
  exact⟨Ents.empty,MapKept.stamped_empty 0⟩
section
variable (w:World)(p many:Nat)(g:Nat->List UInt8)(xs:List (Nat×List UInt8))(left:Int)(stops:Bool)
theorem there_gives (at_:Int):Calls Tryz.prog 169 #[.pointer (some ⟨p,0,none⟩),.int .i64 at_] w fun e w' =>
   e = .returned (.agg #[.func (.func 194) #[] #[.pointer (some ⟨w.heap.size+1,0,none⟩),.pointer (some ⟨w.heap.size,0,none⟩)],.int .i64 4])/\BlkIs w' w.heap.size 26 #[.pointer (some ⟨p,0,none⟩)]/\BlkIs w' (w.heap.size+1) 3 #[.int .i64 at_]/\Below w.heap.size w w':=by
 have hB:Below w.heap.size w (((w.alloc (.cells #[.pointer (some ⟨p,0,none⟩)] 26)).alloc (.cells #[.int .i64 at_] 3)).alloc (.cells #[.nilFunc,.int .i64 0] 208)):=(((Below.refl _ w).alloc (zG _) _).alloc (by simp) _).alloc (by simp;omega) _
 have b0:=((BlkIs.new w 26 #[.pointer (some ⟨p,0,none⟩)]).alloc (.cells #[.int .i64 at_] 3)).alloc (.cells #[.nilFunc,.int .i64 0] 208)
 have b1:=(BlkIs.new (w.alloc (.cells #[.pointer (some ⟨p,0,none⟩)] 26)) 3 #[.int .i64 at_]).alloc (.cells #[.nilFunc,.int .i64 0] 208)
 have b2:=BlkIs.new ((w.alloc (.cells #[.pointer (some ⟨p,0,none⟩)] 26)).alloc (.cells #[.int .i64 at_] 3)) 208 #[.nilFunc,.int .i64 0]
 rw[World.size_alloc] at b1
 rw[World.size_alloc,World.size_alloc] at b2
 go_enter Tryz.func169,Tryz.ntmps169
 go_wp2_with (refine wp_storeW rfl 208 (.tmp 4) (.tmp 6) rfl (w.heap.size+1+1) rfl rfl rowAsk b2 (by rfl) (by rfl) (ask_one _ _ _ _) ?_)
 refine bodyPost_ret_by (results_cellW 4 rfl rfl rowAsk (b2.setRow _) (by rfl)) rfl ⟨rfl,b0.setRow_ne (by omega) _,b1.setRow_ne (by omega) _,below_setRow hB (by omega) _⟩
theorem goes_gives:Calls Tryz.prog 141 #[.pointer (some ⟨p,0,none⟩)] w fun e w' =>
   e = .returned (.agg #[.func (.func 180) #[.pointer (some ⟨p,0,none⟩)] #[],.int .i64 140])/\Below w.heap.size w w':=by
 have hB:Below w.heap.size w (w.alloc (.cells #[.nilFunc,.int .i64 0] 208)):=(Below.refl _ w).alloc (zG _) _
 have b2:=BlkIs.new w 208 #[.nilFunc,.int .i64 0]
 go_enter Tryz.func141,Tryz.ntmps141
 go_wp2_with (refine wp_storeW rfl 208 (.tmp 2) (.tmp 5) rfl w.heap.size rfl rfl rowAsk b2 (by rfl) (by rfl) (ask_one _ _ _ _) ?_)
 refine bodyPost_ret_by (results_cellW 2 rfl rfl rowAsk (b2.setRow _) (by rfl)) rfl ⟨rfl,below_setRow hB (zG _) _⟩
theorem write1_gives (b:Nat)(A:Option Addr)(n c:Nat)(h:BlkIs w b 22 #[.slice A n c]):Calls Tryz.prog 185 #[.pointer (some ⟨b,0,none⟩)] w fun e w'=>e = .returned (.bool ((n:Int) != 64))/\Below w.heap.size w w':=by
 have hc:=h.boxed
 go_enter Tryz.func185,Tryz.ntmps185
 go_wp2
 go_ret
 exact⟨rfl,Below.refl _ _⟩
theorem there1_gives (at_:Int)(s0 s1:Nat)(h:DkIs w p many g xs left stops)(h0:BlkIs w s0 26 #[.pointer (some ⟨p,0,none⟩)])(h1:BlkIs w s1 3 #[.int .i64 at_]) :
  Calls Tryz.prog 194 #[.pointer (some ⟨s1,0,none⟩),.pointer (some ⟨s0,0,none⟩)] w fun e w'=>e = .returned (.bool (decide (at_<0) || decide ((many:Int)<=at_)))/\Below w.heap.size w w':=by
 obtain⟨r,A,c,hb,hm,hx⟩:=h.has
 have c1:w.cell? ⟨p,1,none⟩=some (.int .i64 (many:Int)):=by rw[hb.cell];rfl
 have d0:=h0.boxed
 have d1:=h1.boxed
 rcases ha:decide (at_<0) with _|_
 ·rw[Bool.false_or]
  go_enter Tryz.func194,Tryz.ntmps194
  go_wp2_with fail
  go_region
  go_wp2
  go_ret
  exact⟨by simp,(Below.refl _ w).drew⟩
 ·rw[Bool.true_or]
  go_enter Tryz.func194,Tryz.ntmps194
  go_wp2_with fail
  go_region
  go_wp2
  go_ret
  exact⟨by simp,(Below.refl _ w).drew⟩
def askLen (b n:Nat):Ask:=⟨185,#[],#[.pointer (some ⟨b,0,none⟩)],2,(n:Int) != 64⟩
def askThere (s0 s1 many:Nat)(at_:Int):Ask:=⟨194,#[],#[.pointer (some ⟨s1,0,none⟩),.pointer (some ⟨s0,0,none⟩)],4,decide (at_<0) || decide ((many:Int)<=at_)⟩
def askGoes (p:Nat)(left:Int)(stops:Bool):Ask:=⟨180,#[.pointer (some ⟨p,0,none⟩)],#[],140,stops && left == 0⟩
def Answer (w:World)(x:Ask):Prop:=(∀args w,(callFunc x.f args).run Tryz.prog w = .ok (.enter x.f args) w)/\∀W,Below w.heap.size w W->Calls Tryz.prog x.f (x.bd++x.lb) W fun e w'=>e = .returned (.bool x.b)/\Below W.heap.size W w'
theorem ans_len (b:Nat)(A:Option Addr)(n c:Nat)(h:BlkIs w b 22 #[.slice A n c]):Answer w (askLen b n) :=
 ⟨enters_of Tryz.func185 (by kernel_rfl) rfl,fun W hB=>write1_gives W b A n c (h.below hB h.lt)⟩
theorem ans_there (at_:Int)(s0 s1:Nat)(h:DkIs w p many g xs left stops)(h0:BlkIs w s0 26 #[.pointer (some ⟨p,0,none⟩)])(h1:BlkIs w s1 3 #[.int .i64 at_]):Answer w (askThere s0 s1 many at_) :=
 ⟨enters_of Tryz.func194 (by kernel_rfl) rfl,fun W hB=>there1_gives W p many g xs left stops at_ s0 s1 (h.grow hB) (h0.below hB h0.lt) (h1.below hB h1.lt)⟩
theorem ans_goes (h:DkIs w p many g xs left stops):Answer w (askGoes p left stops) :=
 ⟨enters_of Tryz.func180 (by kernel_rfl) rfl,fun W hB=>(stopped_gives W p many g xs left stops (h.grow hB)).mono fun e w' ⟨h1,h2⟩=>⟨h1,h2▸Below.refl _ _⟩⟩
end
theorem Answer.grow {w w':World}{x:Ask}(h:Answer w x)(hB:Below w.heap.size w w'):Answer w' x:=⟨h.1,fun W hW=>h.2 W (hB.trans (hW.mono hB.size))⟩
theorem asks_new (w:World)(l:List Ask)(hm:l.length<=100):InG (w.alloc (.cells (askC l).toArray 208)) (w.alloc (.cells (askC l).toArray 208)).heap.size 2 (some ⟨w.heap.size,0,none⟩) l.length l.length (askC l) :=
 ⟨zG _,by omega,(fun e=>by cases e),askC_length l,askC_one l,fun _=>⟨w.heap.size,0,rfl,by simp,fun j v hj=>by
  rw[(BlkIs.new w 208 (askC l).toArray).cell,qK]
  simpa using hj⟩⟩
def laid (g:Nat->List UInt8)(xs:List (Nat×List UInt8)):Nat->List UInt8:=xs.foldl (fun g x=>gset g x.1 x.2) g
theorem laid_snoc (g:Nat->List UInt8)(xs:List (Nat×List UInt8))(k:Nat)(h:k<xs.length):laid g (xs.take (k+1))=gset (laid g (xs.take k)) xs[k].1 xs[k].2:=by
 unfold laid
 rw[List.take_add_one,zI h,List.foldl_append]
 rfl
section
variable {w:World}{o:Oper}{ρ:Operand->Value}
theorem x_allocLs (ho:o.op = .alloc 239):(execOp ρ o).run Tryz.prog w = .ok (.value (.pointer (some ⟨w.heap.size,0,none⟩))) (w.alloc (.cells (lsC (0,zer64)).toArray 239)):=by
 have hz:(Tryz.prog.info? 239).map (fun i=>i.zero)=some (some zeroLs):=by kernel_rfl
 obtain⟨i,hi,hz⟩:=Option.map_eq_some_iff.1 hz
 have hq:Tryz.zeroCells239=(lsC (0,zer64)).toArray:=by kernel_rfl
 have hc:zeroLs.cells=(lsC (0,zer64)).toArray:=by kernel_rfl
 simp[execOp,ho,Instr.alloc,newVar,newRow,go_sem,hq,Result.andThen]
end
theorem now_gives (w:World)(r:Nat)(g:Nat->List UInt8)(A:Option Addr)(c:Nat)(xs:List (Nat×List UInt8))(h:MapF w r g)(hx:InW w w.heap.size A c xs)(hl:xs.length<=1000000) :
  Calls Tryz.prog 142 #[.map (some r),.slice A xs.length c] w fun e w'=>e = .returned (.map (some w.heap.size))/\MapF w' w.heap.size (laid g xs)/\Below w.heap.size w w':=by
 have hM:=mclone_gives w r g h
 have hfin:laid g (xs.take xs.length)=laid g xs:=by rw[List.take_length]
 have hsn:=laid_snoc g xs
 obtain⟨F,hF⟩:∃F,F=fun k=>laid g (xs.take k):=⟨_,rfl⟩
 have hF0:F 0=g:=by rw[hF];rfl
 have hFn:F xs.length=laid g xs:=by rw[hF];exact hfin
 have hFs:Hid (∀k (h:k<xs.length),F (k+1)=gset (F k) xs[k].1 xs[k].2):=Lib.hid (by rw[hF];exact hsn)
 rw[<-hFn]
 clear hfin hsn hF hFn
 go_enter Tryz.func142,Tryz.ntmps142
 go_wp2_with (go_at_call 181;refine hM.mono ?_;rintro e w1 ⟨rfl,hm1,hB1⟩)
 rw[<-hF0] at hm1
 clear hM hF0 h
 go_loopw [12] (fun i wr=>∃k:Nat,k<=xs.length/\i = .int .i64 k/\MapF wr w.heap.size (F k)/\Below w.heap.size w wr) (fun i _=>xs.length - (intOf i).toNat)
 case atStart=>exact⟨0,by omega,rfl,hm1,hB1⟩
 case round =>
  obtain⟨k,hk,rfl,hmr,hBr⟩:=hrel
  by_cases hlt:k<xs.length
  ·obtain⟨g1,o1,rfl,hg1,_⟩:=hx.2.lies (by omega)
   have hr:wr.rangeAt g1 (o1+k*65) (lsC xs[k]):=fun j v hj=>(hBr.cell (p:=⟨g1,o1+k*65+j,none⟩) hg1).trans (hx.elem k hlt j v hj)
   have hw6:xs[k].2.length=64:=hx.1 _ (qJ hlt)
   have hs:=hFs.out k hlt
   have hwk:IntKind.i64.wrap ((k:Int)+1)=(k:Int)+1:=wrap_i64_fr _ (by omega) (by omega)
   obtain⟨x,hxe⟩:∃x,x=xs[k]:=⟨_,rfl⟩
   rw[<-hxe] at hr hw6 hs
   obtain⟨x1,x2⟩:=x
   have L65:=lsC_length hw6
   simp only at hw6 hs
   have hS:=Lib.hid hs
   have H6:=Lib.hid hw6
   have H65:=Lib.hid L65
   have HR:=Lib.hid hr
   have n0:=BlkIs.new wr 239 (lsC (0,zer64)).toArray
   have hz1:(lsC (x1,x2)).toArray.size=(lsC (0,zer64)).toArray.size:=by rw[zS,zS,L65];rfl
   have nb:=n0.setRow (lsC (x1,x2)).toArray
   have nB:Below w.heap.size w ((wr.alloc (.cells (lsC (0,zer64)).toArray 239)).setRow wr.heap.size (lsC (x1,x2)).toArray):=below_setRow (hBr.alloc hBr.size _) hBr.size _
   obtain⟨W,hW⟩:∃W,W=(wr.alloc (.cells (lsC (0,zer64)).toArray 239)).setRow wr.heap.size (lsC (x1,x2)).toArray:=⟨_,rfl⟩
   rw[<-hW] at nb nB
   have hWm:MapF W w.heap.size (F k):=by
    rw[hW]
    have h1:=hmr.grow ((Below.refl _ wr).alloc (zG _) (.cells (lsC (0,zer64)).toArray 239))
    exact h1.below (below_setRow (Below.refl wr.heap.size _) (zG _) _) hmr.lt
   have d0:W.cell? ⟨wr.heap.size,0,none⟩=some (.int .i64 (x1:Int)):=by rw[nb.cell];rfl
   have dr:W.rangeAt wr.heap.size 1 (x2.map b8):=fun j v hj=>by
    rw[nb.cell]
    simpa[lsC,Nat.add_comm] using hj
   have hP:=put_gives W w.heap.size x1 (F k) x2 hw6 hWm
   have hl6:(x2.map b8).length=64:=by rw[qD];exact hw6
   have HL6:=Lib.hid hl6
   have HZ1:=Lib.hid hz1
   have HW:=Lib.hid hW
   clear hs hw6 L65 hr hxe hz1 hl6 hW
   go_wp2_with (first
    | (refine wp_exec rfl (x_loadM rowLoose HR.out H65.out rfl rfl) ?_)
    | (refine wp_exec rfl (x_allocLs rfl) ?_)
    | (refine wp_storeW rfl 239 (.tmp 7) (.tmp 15) rfl wr.heap.size rfl rfl rowLoose n0 (by rfl) HZ1.out (lsC_one _) ?_;rw[<-HW.out])
    | (refine wp_exec rfl (x_loadM rowDSec dr HL6.out rfl rfl) ?_)
    | (go_at_call 182;refine hP.mono ?_;rintro e w2 ⟨⟨v2,rfl⟩,hm2,hg2⟩))
   rw[<-hS.out] at hm2
   exact⟨⟨k+1,by omega,by simp,hm2,grown_below hg2 nB.size (fun r hr=>by cases hr;exact zG _) |> nB.trans⟩,by simp[intOf];omega⟩
  ·obtain rfl:k=xs.length:=by omega
   go_wp2
   go_ret
   exact⟨rfl,hmr,hBr⟩
theorem below_grownBy {w w':World}(h:Below w.heap.size w w')(p:Nat):w.grownBy w' (some p):=⟨h.os,h.tape,h.output,h.size,fun j hj _=>h.block j hj⟩
def lft (stops:Bool)(left:Int):Int:=if stops then left - 1 else left
theorem InB.notDisk {w:World}{B q b o c:Nat}{l:List UInt8}(h:InB w B (some ⟨b,o,none⟩) c l)(h0:0<l.length){r many n c':Nat}{A:Option Addr}{left:Int}{stops:Bool}{T:TypeId}(hb:BlkIs w q T (dkC r many A n c' left stops)):b≠q:=by
 intro e
 subst e
 obtain⟨b',o',e,_,hc⟩:=h.lies h0
 injection e with e
 injection e with e1 e2
 subst e1 e2
 have h1:=hc 0 h0
 rw[hb.cell] at h1
 have hm:=Array.mem_of_getElem? h1
 simp[dkC] at hm
section
variable (w:World)(p many:Nat)(g:Nat->List UInt8)(xs:List (Nat×List UInt8))(left:Int)(stops:Bool)
theorem asked3_gives (hD:DkIs w p many g xs left stops)(a b c:Ask)(ha:Answer w a)(hb:Answer w b)(hc:Answer w c) :
  Calls Tryz.prog 140 #[.pointer (some ⟨p,0,none⟩),.slice (some ⟨w.heap.size,0,none⟩) 3 3] (w.alloc (.cells #[a.fn,.int .i64 a.e,b.fn,.int .i64 b.e,c.fn,.int .i64 c.e] 208)) fun e w'=>e = .returned (.int .i64 (firstE [a,b,c]))/\Below w.heap.size w w':=by
 have hB:Below w.heap.size w (w.alloc (.cells (askC [a,b,c]).toArray 208)):=(Below.refl _ w).alloc (zG _) _
 have h:=asked_gives _ p many g xs left stops (hD.grow hB) [a,b,c] _ _ (asks_new w [a,b,c] (by simp)) (by simp) (fun x hx=>by
  simp at hx
  rcases hx with rfl|rfl|rfl
  ·exact ha.grow hB
  ·exact hb.grow hB
  ·exact hc.grow hB)
 exact h.mono fun e w' ⟨h1,h2⟩=>⟨h1,hB.trans (h2.mono hB.size)⟩
theorem asked2_gives (hD:DkIs w p many g xs left stops)(a b:Ask)(ha:Answer w a)(hb:Answer w b) :
  Calls Tryz.prog 140 #[.pointer (some ⟨p,0,none⟩),.slice (some ⟨w.heap.size,0,none⟩) 2 2] (w.alloc (.cells #[a.fn,.int .i64 a.e,b.fn,.int .i64 b.e] 208)) fun e w'=>e = .returned (.int .i64 (firstE [a,b]))/\Below w.heap.size w w':=by
 have hB:Below w.heap.size w (w.alloc (.cells (askC [a,b]).toArray 208)):=(Below.refl _ w).alloc (zG _) _
 have h:=asked_gives _ p many g xs left stops (hD.grow hB) [a,b] _ _ (asks_new w [a,b] (by simp)) (by simp) (fun x hx=>by
  simp at hx
  rcases hx with rfl|rfl
  ·exact ha.grow hB
  ·exact hb.grow hB)
 exact h.mono fun e w' ⟨h1,h2⟩=>⟨h1,hB.trans (h2.mono hB.size)⟩
theorem asked1_gives (hD:DkIs w p many g xs left stops)(a:Ask)(ha:Answer w a) :
  Calls Tryz.prog 140 #[.pointer (some ⟨p,0,none⟩),.slice (some ⟨w.heap.size,0,none⟩) 1 1] (w.alloc (.cells #[a.fn,.int .i64 a.e] 208)) fun e w'=>e = .returned (.int .i64 (firstE [a]))/\Below w.heap.size w w':=by
 have hB:Below w.heap.size w (w.alloc (.cells (askC [a]).toArray 208)):=(Below.refl _ w).alloc (zG _) _
 have h:=asked_gives _ p many g xs left stops (hD.grow hB) [a] _ _ (asks_new w [a] (by simp)) (by simp) (fun x hx=>by
  simp at hx
  rcases hx with rfl
  exact ha.grow hB)
 exact h.mono fun e w' ⟨h1,h2⟩=>⟨h1,hB.trans (h2.mono hB.size)⟩
theorem sync_gives (hD:DkIs w p many g xs left stops)(hs:(stops && left == 0)=false)(hl:xs.length<=1000000)(h1 : -1000000<=left)(h2:left<=9223372036854775807) :
  Calls Tryz.prog 96 #[.pointer (some ⟨p,0,none⟩)] w fun e w'=>e = .returned (.int .i64 0)/\DkIs w' p many (laid g xs) [] (lft stops left) stops/\w.grownBy w' (some p):=by
 have HG:=goes_gives w p
 have HA:∀W,Below w.heap.size w W->Calls Tryz.prog 140 #[.pointer (some ⟨p,0,none⟩),.slice (some ⟨W.heap.size,0,none⟩) 1 1] (W.alloc (.cells #[.func (.func 180) #[.pointer (some ⟨p,0,none⟩)] #[],.int .i64 140] 208)) fun e w'=>e = .returned (.int .i64 0)/\Below W.heap.size W w':=by
  intro W hB
  have:=asked1_gives W p many g xs left stops (hD.grow hB) (askGoes p left stops) (ans_goes W p many g xs left stops (hD.grow hB))
  have hf:firstE [askGoes p left stops]=0:=firstE_none _ (fun j h=>by
   have:j=0:=by simp at h;omega
   subst this
   exact hs)
  rw[hf] at this
  exact this
 clear hs
 go_enter Tryz.func96,Tryz.ntmps96
 go_wp2_with (first
  | (go_at_call 141;refine HG.mono ?_;rintro e w1 ⟨rfl,hB1⟩)
  | (go_at_call 140;refine(HA _ hB1).mono ?_;rintro e w2 ⟨rfl,hB2⟩))
 have hB3:Below w.heap.size w w2:=hB1.trans (hB2.mono hB1.size)
 have hD2:=hD.grow hB3
 obtain⟨r,A,c,hb,hm,hx⟩:=hD2.has
 have c0:w2.drew.cell? ⟨p,0,none⟩=some (.map (some r)):=by rw[show w2.drew.cell? ⟨p,0,none⟩=w2.cell? ⟨p,0,none⟩ from rfl,hb.cell];rfl
 have c2:w2.drew.cell? ⟨p,2,none⟩=some (.slice A xs.length c):=by rw[show w2.drew.cell? ⟨p,2,none⟩=w2.cell? ⟨p,2,none⟩ from rfl,hb.cell];rfl
 have hBd:Below w2.heap.size w2 w2.drew:=(Below.refl _ w2).drew
 have HN:=now_gives w2.drew r g A c xs (hm.grow hBd) (hx.grow hBd) hl
 clear HA HG hB1 hB2
 go_region_with (go_at_call 142;refine HN.mono ?_;rintro e w4 ⟨rfl,hm4,hB4⟩;have hb4:BlkIs w4 p _ _:=hb.below (hBd.trans (hB4.mono hBd.size)) hb.lt;have f0:=hb4.free 0;have f2:=hb4.free 2;have k0:w4.cell? ⟨p,0,none⟩=some (.map (some r)):=(by rw[hb4.cell];rfl);have k2:w4.cell? ⟨p,2,none⟩=some (.slice A xs.length c):=(by rw[hb4.cell];rfl))
 all_goals
  have hD5:DkIs ((w4.setCell ⟨p,0,none⟩ (.map (some w2.heap.size))).setCell ⟨p,2,none⟩ (.slice none 0 0)) p many (laid g xs) [] left stops:=⟨w2.heap.size,none,0,(hb4.set 0 _).set 2 _,(hm4.setCell _ _).setCell _ _,InW.mt _ _⟩
  have hg5:w.grownBy ((w4.setCell ⟨p,0,none⟩ (.map (some w2.heap.size))).setCell ⟨p,2,none⟩ (.slice none 0 0)) (some p):=grownBy_trans (below_grownBy (hB3.trans ((hBd.trans (hB4.mono hBd.size)).mono hB3.size)) p) (grownBy_trans (setCell_grownBy w4 ⟨p,0,none⟩ _) (setCell_grownBy _ ⟨p,2,none⟩ _))
  generalize (w4.setCell ⟨p,0,none⟩ (.map (some w2.heap.size))).setCell ⟨p,2,none⟩ (.slice none 0 0)=w5 at *
  go_wp2_with (go_at_call 143;refine(done_gives _ p many _ [] left stops hD5 h1 h2).mono ?_;rintro e w6 ⟨⟨v,rfl⟩,hD6,hg6,-⟩)
  go_ret
  exact⟨rfl,hD6,grownBy_trans hg5 hg6⟩
end
namespace RegF
section
variable {P:Program}{ops:Array Oper}{Q:Exit->Act->World->Prop}{md:Region.Mode}{S:World->Prop}{fin:Nat}
def wpAnyF (P:Program)(md:Region.Mode)(ops:Array Oper)(Q:Exit->Act->World->Prop)(S:World->Prop)(fin:Nat):Nat->Array Bool->Act->World->Prop
 | 0,listed,a,w=>Region.ready md ops listed=[]/\Q .normal a w
 | fuel+1,listed,a,w =>
  (Region.ready md ops listed=[]->Q .normal a w) /\
  ∀i∈Region.ready md ops listed,wpOp P ops Q i (fun a' w'=>(i≠fin->S w')/\wpAnyF P md ops Q S fin fuel (listed.setIfInBounds i true) a' w') a w
theorem to_any:∀(fuel:Nat) (listed:Array Bool) (a:Act) (w:World),wpAnyF P md ops Q S fin fuel listed a w->wpAny P md ops Q fuel listed a w
 | 0,_,_,_,h=>h
 | fuel+1,_,_,_,h=>⟨h.1,fun i hi=>wpOp_mono (fun a' w' h'=>to_any fuel _ a' w' h'.2) (h.2 i hi)⟩
def waitsFor (md:Region.Mode)(ops:Array Oper)(i j:Nat):Bool:=match ops[i]? with|some o=>o.after.toList.any fun e=>Region.binds md e && e.on == j|none=>false
theorem waits_spec {i j:Nat}{o:Oper}(h:waitsFor md ops i j=true)(ho:ops[i]? = some o):∃e∈o.after,Region.binds md e=true/\e.on=j:=by
 simp only[waitsFor,ho,List.any_eq_true,Bool.and_eq_true,beq_iff_eq] at h
 obtain⟨e,hm,hb,he⟩:=h
 exact⟨e,Array.mem_toList_iff.1 hm,hb,he⟩
theorem first {i:Nat}{oi:Oper}{v:Value}(hi:ops[i]? = some oi)(hsel:∀(j:Nat) (o:Oper) cs b,ops[j]? = some o->o.op≠.select cs b)
  (hQ:∀c a w,Q (.panic c) (a.put oi.dst v) w->Q (.panic c) a w) (hfin:waitsFor md ops fin i=true) :
  ∀(fuel:Nat) (listed:Array Bool) (a:Act) (w:World),
   (∀j oj,ops[j]? = some oj->j≠i->listed.getD j true=false->(∀e∈oj.after,Region.binds md e=true->e.on≠i)->oi.apart ops oj=true) ->
   i∈Region.ready md ops listed->YieldsIf P ops S oi v a->S w ->
   wpAnyF P md ops Q S fin fuel (listed.setIfInBounds i true) (a.put oi.dst v) w->wpAnyF P md ops Q S fin (fuel+1) listed a w:=by
 intro fuel
 induction fuel with
 | zero =>
  intro listed a w _ hr hy hS H
  refine⟨fun h=>(by rw[h] at hr;cases hr),fun j hj => ?_⟩
  by_cases hji:j=i
  ·subst hji;exact hy.wpOp hi hS ⟨fun _=>hS,H⟩
  ·have:=ready_mono hj hji
   rw[H.1] at this
   cases this
 | succ fuel ih =>
  intro listed a w hfree hr hy hS H
  refine⟨fun h=>(by rw[h] at hr;cases hr),fun j hj => ?_⟩
  by_cases hji:j=i
  ·subst hji;exact hy.wpOp hi hS ⟨fun _=>hS,H⟩
  ·have h1:=H.2 j (ready_mono hj hji)
   obtain⟨hjun,oj,hoj,hall⟩:=mem_ready.1 hj
   have hnot:∀e∈oj.after,Region.binds md e=true->e.on≠i:=fun e he hb heq=>by
    have h1:=hall e he hb
    have h0:=(mem_ready.1 hr).1
    rw[heq] at h1
    rcases Nat.lt_or_ge i listed.size with h' | h'
    ·simp[h'] at h0 h1;rw[h0] at h1;cases h1
    ·simp[Array.getElem?_eq_none h'] at h1
   have hjf:j≠fin:=fun e=>by
    subst e
    obtain⟨e,he,hb,hon⟩:=waits_spec hfin hoj
    exact hnot e he hb hon
   have h2:=wpOp_putIf hoj (hfree j oj hoj hji hjun hnot) (fun cs b=>hsel i oi cs b hi) (fun cs b=>hsel j oj cs b hoj) hQ hy h1
   have hfree':∀k ok,ops[k]? = some ok->k≠i->(listed.setIfInBounds j true).getD k true=false ->
     (∀e∈ok.after,Region.binds md e=true->e.on≠i)->oi.apart ops ok=true:=fun k ok hk hki hun hno=>by
    refine hfree k ok hk hki ?_ hno
    by_cases hjk:j=k
    ·subst hjk;exact hjun
    ·rw[getD_set_ne true hjk] at hun;exact hun
   refine wpOp_mono (fun a' w' h3=>⟨h3.2.1,ih (listed.setIfInBounds j true) a' w' hfree' (ready_mono hr (Ne.symm hji)) h3.1 (h3.2.1 hjf) ?_⟩) h2
   rw[Array.setIfInBounds_comm _ _ hji]
   exact h3.2.2
theorem take {fuel:Nat}{listed:Array Bool}{a:Act}{w:World}(i:Nat){oi:Oper}(v:Value)(hi:ops[i]? = some oi)
  (hs:Region.noSelect ops=true) (hf:Region.free md ops listed i=true) (hr:(Region.ready md ops listed).contains i=true) (hfin:waitsFor md ops fin i=true)
  (hQ:∀c a w,Q (.panic c) (a.put oi.dst v) w->Q (.panic c) a w) (hS:S w) (hy:YieldsIf P ops S oi v a)
  (h:wpAnyF P md ops Q S fin fuel (listed.setIfInBounds i true) (a.put oi.dst v) w):wpAnyF P md ops Q S fin (fuel+1) listed a w :=
 first hi (Region.noSelect_spec hs) hQ hfin fuel listed a w (Region.free_spec hi hf) (by simpa using hr) hy hS h
theorem yld {o:Oper}{v:Value}{a:Act}(hg:o.guard=none)(h:∀w,S w->(execOp a.eval o).run P w = .ok (.value v) w):YieldsIf P ops S o v a:=.inl ⟨by simp[Region.wanted,hg],h⟩
theorem one {fuel:Nat}{listed:Array Bool}{a:Act}{w:World}(i:Nat)(hr:Region.ready md ops listed=[i])
  (h:wpOp P ops Q i (fun a' w'=>(i≠fin->S w')/\wpAnyF P md ops Q S fin fuel (listed.setIfInBounds i true) a' w') a w):wpAnyF P md ops Q S fin (fuel+1) listed a w :=
 ⟨fun h0=>(by rw[hr] at h0;cases h0),fun j hj=>by
  rw[hr] at hj
  obtain rfl:j=i:=by simpa using hj
  exact h⟩
theorem two {fuel:Nat}{listed:Array Bool}{a:Act}{w:World}(i j:Nat)(hr:Region.ready md ops listed=[i,j])
  (h1:wpOp P ops Q i (fun a' w'=>(i≠fin->S w')/\wpAnyF P md ops Q S fin fuel (listed.setIfInBounds i true) a' w') a w)
  (h2:wpOp P ops Q j (fun a' w'=>(j≠fin->S w')/\wpAnyF P md ops Q S fin fuel (listed.setIfInBounds j true) a' w') a w):wpAnyF P md ops Q S fin (fuel+1) listed a w :=
 ⟨fun h0=>(by rw[hr] at h0;cases h0),fun k hk=>by
  rw[hr] at hk
  rcases List.mem_cons.1 hk with rfl|hk
  ·exact h1
  ·obtain rfl:k=j:=by simpa using hk
   exact h2⟩
theorem done {fuel:Nat}{listed:Array Bool}{a:Act}{w:World}(hr:Region.ready md ops listed=[])(h:Q .normal a w):wpAnyF P md ops Q S fin fuel listed a w:=by
 cases fuel with
 | zero=>exact⟨hr,h⟩
 | succ n=>exact⟨fun _=>h,by rw[hr];simp⟩
theorem start {id:Nat}{a:Act}{w:World}(S:World->Prop)(fin:Nat)(hm:P.follows .mixedOrders=true)(h:wpAnyF P .any ops Q S fin ops.size (Array.replicate ops.size false) a w.drew):(Code.region id ops true).wp P Q a w :=
 wp_region_any hm (to_any _ _ _ _ h)
theorem opV {i:Nat}{o:Oper}{K:Act->World->Prop}{a:Act}{w w':World}(v:Value)(ho:ops[i]? = some o)(hg:o.guard=none)(hr:(execOp a.eval o).run P w = .ok (.value v) w')(h:K (a.put o.dst v) w'):wpOp P ops Q i K a w:=by
 unfold wpOp
 simp only[ho]
 rw[if_pos (by simp[Region.wanted,hg])]
 left
 unfold Oper.wp
 rw[hr]
 exact h
theorem opS {i:Nat}{o:Oper}{K:Act->World->Prop}{a:Act}{w w':World}(ho:ops[i]? = some o)(hg:o.guard=none)(hr:(execOp a.eval o).run P w = .ok .skip w')(h:K (a.put o.dst undef) w'):wpOp P ops Q i K a w:=by
 unfold wpOp
 simp only[ho]
 rw[if_pos (by simp[Region.wanted,hg])]
 left
 unfold Oper.wp
 rw[hr]
 exact h
theorem opC {i:Nat}{o:Oper}{K:Act->World->Prop}{a:Act}{w:World}(f:FuncId)(xs:Array Operand)(ts:Array TypeId)(ho:ops[i]? = some o)(hg:o.guard=none)(hc:o.op = .call { callee:=.value (.func f),args:=xs,argTypes:=ts })
  (hent:∀args w,(callFunc f args).run P w = .ok (.enter f args) w) (args:Array Value) (ha:xs.map a.eval=args) (h:Calls P f args w fun e w'=>∃v,e = .returned v/\K (a.put o.dst v) w'):wpOp P ops Q i K a w:=by
 unfold wpOp
 simp only[ho]
 rw[if_pos (by simp[Region.wanted,hg])]
 left
 have hr:(execOp a.eval o).run P w = .ok (.enter f args) w:=by
  have ef:a.eval (.func f) = .func (.func f) #[] #[]:=rfl
  simp[execOp,hc,resolve,ha,ef,Deferred.ofValue,invoke,hent args w]
 unfold Oper.wp
 rw[hr,Oper.upon_enter]
 refine h.mono ?_
 rintro e w' ⟨v,rfl,hK⟩
 exact hK
theorem t {fuel:Nat}{listed:Array Bool}{a:Act}{w:World}(i:Nat){oi:Oper}(v:Value)(hi:ops[i]? = some oi)(hS:S w)(h1:∀W,S W->(execOp a.eval oi).run P W = .ok (.value v) W)(h:wpAnyF P md ops Q S fin fuel (listed.setIfInBounds i true) (a.put oi.dst v) w)(hs:Region.noSelect ops=true:=by kernel_rfl)(hf:Region.free md ops listed i=true:=by kernel_rfl)(hr:(Region.ready md ops listed).contains i=true:=by kernel_rfl)(hfin:waitsFor md ops fin i=true:=by kernel_rfl)(hQ:∀c a w,Q (.panic c) (a.put oi.dst v) w->Q (.panic c) a w:=by exact fun _ _ _ h=>h)(hg:oi.guard=none:=by rfl):wpAnyF P md ops Q S fin (fuel+1) listed a w :=
 take i v hi hs hf hr hfin hQ hS (yld hg h1) h
end
end RegF
end Go.Proofs.YtnlimngkagmjpaaGreat
