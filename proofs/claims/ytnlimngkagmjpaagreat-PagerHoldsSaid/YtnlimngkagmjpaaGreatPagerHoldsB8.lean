/- Texts that the proof of PagerHolds leans on, part 8. -/
import Derived.Test.YtnlimngkagmjpaaGreatPagerHoldsB7
open List renaming mem_cons → qM, length_nil → qK, length_cons → zR, replicate → zN, cons_append → qA, take_succ_eq_append_getElem → zU, nil_append → zV
open Nat renaming le_refl → zG, le_trans → zO, zero_add → qG
open Array renaming getElem?_eq_some_iff → zH
set_option linter.unusedVariables false
set_option maxRecDepth 100000
set_option maxHeartbeats 8000000

namespace Go.Proofs.YtnlimngkagmjpaaGreat
open Go Go.RowKit Go.Shelf
attribute [local go_sem] Oper.semAt_some
def KeepU (U:Nat->Prop)(W W':World):Prop:=W.heap.size<=W'.heap.size/\∀k o,W.heap[k]? = some o->¬ U k->W'.heap[k]? = some o
theorem KeepU.refl (U:Nat->Prop)(W:World):KeepU U W W:=⟨zG _,fun _ _ h _=>h⟩
theorem KeepU.trans {U:Nat->Prop}{X Y Z:World}(h:KeepU U X Y)(k:KeepU U Y Z):KeepU U X Z:=⟨zO h.1 k.1,fun i o hi hm=>k.2 i o (h.2 i o hi hm) hm⟩
theorem KeepU.grow (U:Nat->Prop){X Y:World}(h:Below X.heap.size X Y):KeepU U X Y:=⟨h.size,fun k o hk _=>(h.block k (zH.1 hk).1).trans hk⟩
theorem KeepU.grown (U:Nat->Prop){X Y:World}{row:Option Nat}(h:X.grownBy Y row)(hr:∀r,row=some r->U r):KeepU U X Y:=⟨h.size,fun k o hk hn=>(h.block k (zH.1 hk).1 (fun e=>hn (hr k e.symm))).trans hk⟩
theorem KeepU.setCell {U:Nat->Prop}(X:World)(p:Addr)(v:Value)(hm:U p.block):KeepU U X (X.setCell p v) :=
 ⟨by simp,fun k o hk hn=>(Below.heap_setCell X p v k (fun e=>hn (by rw[e];exact hm))).trans hk⟩
theorem KeepU.cell {U:Nat->Prop}{X Y:World}(h:KeepU U X Y){p:Addr}{v:Value}(hc:X.cell? p=some v)(hm:¬ U p.block):Y.cell? p=some v:=by
 have hb:∃o,X.heap[p.block]? = some o:=by
  cases ho:X.heap[p.block]? with
  | none=>simp[World.cell?,ho] at hc
  | some o=>exact⟨o,rfl⟩
 obtain⟨o,ho⟩:=hb
 rw[World.cell?_of_block ((h.2 _ o ho hm).trans ho.symm)]
 exact hc
theorem KeepU.blk {U:Nat->Prop}{X Y:World}(h:KeepU U X Y){g:Nat}{t:TypeId}{cs:Array Value}(hb:BlkIs X g t cs)(hm:¬ U g):BlkIs Y g t cs:=h.2 _ _ hb hm
def LaterU (n:Nat)(U U':Nat->Prop):Prop:=∀k,U' k->U k∨n<=k
theorem LaterU.refl (n:Nat)(U:Nat->Prop):LaterU n U U:=fun _ h => .inl h
theorem LaterU.trans {n m:Nat}{U V X:Nat->Prop}(h:LaterU n U V)(k:LaterU m V X)(hn:n<=m):LaterU n U X:=fun j hj=>(k j hj).elim (fun e=>h j e) (fun e => .inr (by omega))
def StB {α : Type}(J:List α -> (Nat->Prop)->World->Prop):Prop:=∀s U X Y,J s U X->Below X.heap.size X Y->J s U Y
def StU {α : Type}(B:Nat)(I:List α -> (Nat->Prop)->World->Prop):Prop:=∀s U X Y row,I s U X->X.grownBy Y row->(∀r,row=some r->B<=r/\∃o:Obj,X.heap[r]? = some o/\o.isCells=false)->I s U Y
theorem StU.b {α : Type}{B:Nat}{I:List α -> (Nat->Prop)->World->Prop}(h:StU B I):StB I:=fun s U X Y hs hg=>h s U X Y none hs ⟨hg.os,hg.tape,hg.output,hg.size,fun k hk _=>hg.block k hk⟩ (fun r e=>by cases e)
theorem StU.putObj {α : Type}{B:Nat}{I:List α -> (Nat->Prop)->World->Prop}(h:StU B I){s:List α}{U:Nat->Prop}{X:World}{l:Nat}{o':Obj}(o:Obj)(hs:I s U X)(hl:B<=l)(ho:X.heap[l]? = some o')(hm:o'.isCells=false):I s U (X.putObj l o) :=
 h s U X _ (some l) hs (grownBy_putObj' X l o) (fun r e=>by cases e;exact⟨hl,_,ho,hm⟩)
def SeqU {α : Type}(F:Fence)(n:Nat)(P:Program)(g:Nat)(lb:Array Value)(encs : α -> Array Value)(Ok:(Nat->Prop)->Prop)(Rd:List α -> α -> World->Prop)(S Sp:List α -> Prop)(w:World):Prop :=
 ∀(l:Nat) (J Jx:List α -> (Nat->Prop)->World->Prop) (U0:Nat->Prop) (W:World),Below w.heap.size w W->Ok U0->StB J->(∀s U X,J s U X->∀k,U k->k<X.heap.size) ->
  (∀pre x U W1,J pre U W1->Rd pre x W1->YieldAt F (n - 1) P l (encs x) W1 fun e W' =>
   (e = .returned (.bool true)/\∃U',LaterU W1.heap.size U U'/\J (pre++[x]) U' W'/\KeepU U W1 W')∨(e = .returned (.bool false)/\∃U',Jx (pre++[x]) U' W')) ->
  J [] U0 W ->
  CallsIn F n P g (#[.func (.yield l) #[] #[]] ++ lb) W fun e W'=>(∃v,e = .returned v)/\((∃xs U',S xs/\J xs U' W')∨(∃pre U',Sp pre/\Jx pre U' W'))
def postU {α : Type}(I:List α -> (Nat->Prop)->World->Prop)(Ix:Code->List α -> (Nat->Prop)->World->Prop)(U:Nat->Prop)(xs:List α)(W:World):Exit->Act->World->Prop
 | .normal,_,W'=>∃U',LaterU W.heap.size U U'/\KeepU U W W'/\I xs U' W'
 | .ret,_,W'=>∃U',KeepU U W W'/\Ix .ret xs U' W'
 | .exit id,_,W'=>∃U',KeepU U W W'/\Ix (.exit id) xs U' W'
 | .goto t,_,W'=>∃U',KeepU U W W'/\Ix (.goto t) xs U' W'
 | .panic _,_,_=>False
 | .outgrown,_,_=>False
section
variable {F:Fence}{n:Nat}{P:Program}{w:World}
theorem wpIn_rangeFunc_U {α : Type}{g:Operand}{ps:Array Tmp}{assign body:Code}{Q:Exit->Act->World->Prop}{a:Act}
  (hro:F.round=none) (h1:1<=n) {gf:Nat} {lb:Array Value} (hg:a.eval g = .func (.func gf) #[] lb) (hFg:F.fn gf) (eg:∀args w,(callFunc gf args).run P w = .ok (.enter gf args) w)
  {encs : α -> Array Value} {Ok:(Nat->Prop)->Prop} {Rd:List α -> α -> World->Prop} {S Sp:List α -> Prop} {w0:World} (hseq:SeqU F (n - 1) P gf lb encs Ok Rd S Sp w0)
  (hb0:Below w0.heap.size w0 w) (hps:∀x,(encs x).size=ps.size) (U0:Nat->Prop) (hU0:Ok U0)
  (I:List α -> (Nat->Prop)->World->Prop) (Ix:Code->List α -> (Nat->Prop)->World->Prop) (hI:StU w.heap.size I) (hIx:∀c,StU w.heap.size (Ix c)) (hIl:∀s U X,I s U X->∀k,U k->k<X.heap.size)
  (hRd:∀pre x,OwnFrom w.heap.size (fun (_:Unit) W=>Rd pre x W)) (h0:I [] U0 w) (a₁ : α -> Act)
  (hassign:∀(l:Nat) (x : α) (W:World) (K:Act->World->Prop),K (a₁ x) W ->
   assign.wpIn (F.inRound l) (n - 1 - 1) P (Exit.then K (fun _ _ _=>False)) { tmps:=(ps.zip (encs x)).foldl (fun t (p,v)=>t.setIfInBounds p v) a.tmps,defers:=[] } W)
  (hbody:∀(l:Nat) (pre:List α) (x : α) (U:Nat->Prop) (W:World),I pre U W->Rd pre x W->body.wpIn (F.inRound l) (n - 1 - 1) P (postU I Ix U (pre++[x]) W) (a₁ x) W)
  (hdone:∀(D:Nat) (xs:List α) (U:Nat->Prop) (W:World),w.heap.size<=D->S xs->I xs U W->W.heap[D]? = some (.deferred (some []))->Q .normal { a with defers:={ target:=.collected D,args:=#[] }::a.defers } W)
  (hstop:∀(D:Nat) (c:Code) (pre:List α) (U:Nat->Prop) (W:World),w.heap.size<=D->Sp pre->Ix c pre U W->W.heap[D]? = some (.deferred (some []))->c.wpIn F n P Q { a with defers:={ target:=.collected D,args:=#[] }::a.defers } W) :
  (Code.rangeFunc g ps assign body).wpIn F n P Q a w:=by
 refine wpIn_rangeFunc fun fn hfn => ?_
 rw[hro]
 -- the loop's record, and the world that bears it and the block for deferred calls
 obtain⟨rec,hrec⟩:∃rec:LoopState->Option Code->Loop,rec=fun st pe => { state:=st,pending:=pe,fn,tmps:=a.tmps,params:=ps,assign,body,defers:=w.heap.size }:=⟨_,rfl⟩
 obtain⟨V,hV⟩:∃V,(w.alloc (.deferred (some []))).alloc (.loop (rec .ready none))=V:=⟨_,rfl⟩
 have vL:V.heap[w.heap.size+1]? = some (.loop (rec .ready none)):=by
  subst hV
  have:=World.alloc_heap_new (w.alloc (.deferred (some []))) (.loop (rec .ready none))
  rwa [World.size_alloc] at this
 have vD:V.heap[w.heap.size]? = some (.deferred (some [])):=by
  subst hV
  exact(Below.heap_alloc _ _ _ (by simp)).trans (World.alloc_heap_new w _)
 have vBw:Below w.heap.size w V:=by
  subst hV
  exact((Below.refl _ w).alloc (zG _) _).alloc (by simp) _
 have vI:I [] U0 V:=hI.b _ _ _ _ h0 vBw
 have vS:V.heap.size=w.heap.size+2:=by subst hV;simp
 have vB:Below w0.heap.size w0 V:=hb0.trans (vBw.mono hb0.size)
 refine⟨w.heap.size+1,[{ target:=.collected w.heap.size,args:=#[] }],V,{ target:=.fn (.func gf) lb,args:=#[.func (.yield (w.heap.size+1)) #[] #[]] },V,gf,#[.func (.yield (w.heap.size+1)) #[] #[]] ++ lb,V,?_,?_,?_,?_,fun _=>h1,?_⟩
 ·rw[<-hV,hrec];exact run_enterLoop_outer _ _ _ _ _
 ·simp only[resolve,hg]
  simp[go_sem]
 ·intro f' hf'
  simp[Target.leads] at hf'
  subst hf'
  exact hFg
 ·simp[invoke,go_sem,eg]
 have atB:∀{A B:World} {k:Nat} {o:Obj},A.heap[k]? = some o->Below A.heap.size A B->B.heap[k]? = some o:=fun hk hg=>(hg.block _ (zH.1 hk).1).trans hk
 refine(hseq (w.heap.size+1)
  (fun pre U W=>I pre U W/\W.heap[w.heap.size+1]? = some (.loop (rec .ready none))/\W.heap[w.heap.size]? = some (.deferred (some []))/\¬ U w.heap.size/\¬ U (w.heap.size+1))
  (fun pre U W=>∃c,Ix c pre U W/\W.heap[w.heap.size+1]? = some (.loop (rec .done (some c)))/\W.heap[w.heap.size]? = some (.deferred (some [])))
  U0 V vB hU0
  (fun s U A B hs hg=>⟨hI.b s U A B hs.1 hg,atB hs.2.1 hg,atB hs.2.2.1 hg,hs.2.2.2⟩)
  (fun s U X hs=>hIl s U X hs.1)
  ?round ⟨vI,vL,vD,fun e=>by have:=hIl _ _ _ h0 _ e;omega,fun e=>by have:=hIl _ _ _ h0 _ e;omega⟩).mono ?behind
 case round =>
  rintro pre x U W ⟨hi,hl,hk,hnD,hnL⟩ hrd
  have hlt:w.heap.size+1<W.heap.size:=(zH.1 hl).1
  have hy:=run_yield (P:=P) (args:=encs x) hl (by rw[hrec];exact hps x)
  rw[hrec] at hy
  refine⟨fn,_,assign,body,hy,roundIn_of_wpIn hfn (hassign _ x W _ ⟨_,run_beginRound hl (by rw[hrec]),?_⟩)⟩
  clear hy
  have bL:(W.putObj (w.heap.size+1) (.loop { rec .ready none with state:=.busy })).heap[w.heap.size+1]? = some (.loop { rec .ready none with state:=.busy }):=World.putObj_heap_same hlt
  have bD:(W.putObj (w.heap.size+1) (.loop { rec .ready none with state:=.busy })).heap[w.heap.size]? = some (.deferred (some [])):=(World.putObj_heap_other (by omega)).trans hk
  refine wpIn_mono (hbody _ pre x U _ (hI.putObj _ hi (by omega) hl rfl) ((hRd pre x).putObj (s:=()) _ hrd (by omega) hl rfl)) ?_
  -- the round's end
  have fin:∀(jump:Option Code) (Z:World),KeepU U (W.putObj (w.heap.size+1) (.loop { rec .ready none with state:=.busy })) Z ->
    (Instr.endRound (w.heap.size+1) jump).run P Z = .ok (.bool jump.isNone) (Z.putObj (w.heap.size+1) (.loop (rec (if jump.isNone then .ready else .done) jump))) /\
    Z.heap[w.heap.size+1]? = some (.loop { rec .ready none with state:=.busy }) /\
    (Z.putObj (w.heap.size+1) (.loop (rec (if jump.isNone then .ready else .done) jump))).heap[w.heap.size+1]? = some (.loop (rec (if jump.isNone then .ready else .done) jump)) /\
    (Z.putObj (w.heap.size+1) (.loop (rec (if jump.isNone then .ready else .done) jump))).heap[w.heap.size]? = some (.deferred (some [])):=fun jump Z hkU=>by
   have uL:=hkU.2 _ _ bL hnL
   have:=run_endRound (P:=P) jump uL
   rw[hrec] at this ⊢
   exact⟨this,by rw[hrec] at uL;exact uL,World.putObj_heap_same (zH.1 uL).1,(World.putObj_heap_other (by omega)).trans (hkU.2 _ _ bD hnD)⟩
  have out:∀(c:Code) (U':Nat->Prop) (Z:World),KeepU U (W.putObj (w.heap.size+1) (.loop { rec .ready none with state:=.busy })) Z->Ix c (pre++[x]) U' Z ->
    (∃c',Ix c' (pre++[x]) U' (Z.putObj (w.heap.size+1) (.loop (rec .done (some c))))/\(Z.putObj (w.heap.size+1) (.loop (rec .done (some c)))).heap[w.heap.size+1]? = some (.loop (rec .done (some c')))/\(Z.putObj (w.heap.size+1) (.loop (rec .done (some c)))).heap[w.heap.size]? = some (.deferred (some []))):=fun c U' Z hkU hix=>by
   obtain⟨_,h3,h4,h5⟩:=fin (some c) Z hkU
   exact⟨c,(hIx c).putObj _ hix (by omega) h3 rfl,h4,h5⟩
  rintro e a3 Z hp
  cases e with
  | normal =>
   obtain⟨U',hL3,hk3,hi3⟩:=hp
   obtain⟨hr,h3,h4,h5⟩:=fin none Z hk3
   have hsz:(W.putObj (w.heap.size+1) (.loop { rec .ready none with state:=.busy })).heap.size=W.heap.size:=by simp[World.putObj]
   rw[hsz] at hL3
   refine⟨_,_,hr,.inl ⟨rfl,U',hL3,⟨hI.putObj _ hi3 (by omega) h3 rfl,h4,h5,fun e => ?_,fun e => ?_⟩,by have:=hk3.1;simpa using this,fun k o hk hm => ?_⟩⟩
   ·rcases hL3 _ e with h|h
    ·exact hnD h
    ·omega
   ·rcases hL3 _ e with h|h
    ·exact hnL h
    ·omega
   ·by_cases hkl:k=w.heap.size+1
    ·subst hkl
     rw[hl] at hk
     rw[<-hk]
     exact h4
    ·rw[World.putObj_heap_other hkl]
     exact hk3.2 k o (by rw[World.putObj_heap_other hkl];exact hk) hm
  | ret =>
   obtain⟨U',hk3,hi3⟩:=hp
   exact⟨_,_,(fin (some .ret) Z hk3).1,.inr ⟨rfl,U',out .ret U' Z hk3 hi3⟩⟩
  | exit id =>
   obtain⟨U',hk3,hi3⟩:=hp
   exact⟨_,_,(fin (some (.exit id)) Z hk3).1,.inr ⟨rfl,U',out (.exit id) U' Z hk3 hi3⟩⟩
  | goto t =>
   obtain⟨U',hk3,hi3⟩:=hp
   exact⟨_,_,(fin (some (.goto t)) Z hk3).1,.inr ⟨rfl,U',out (.goto t) U' Z hk3 hi3⟩⟩
  | panic ch=>exact hp.elim
  | outgrown=>exact hp.elim
 case behind =>
  rintro e Z ⟨⟨v,rfl⟩,(⟨xs,U',hS,hi,hl,hk,_⟩|⟨pre,U',hSp,c,hi,hl,hk⟩)⟩
  ·have hr:=run_endLoop (P:=P) hl (by rw[hrec];simp)
   rw[hrec] at hr
   exact⟨none,_,hr,hdone _ xs U' _ (zG _) hS (hI.putObj _ hi (by omega) hl rfl) ((World.putObj_heap_other (by omega)).trans hk)⟩
  ·have hr:=run_endLoop (P:=P) hl (by rw[hrec];simp)
   rw[hrec] at hr
   exact⟨some c,_,hr,hstop _ c pre U' _ (zG _) hSp ((hIx c).putObj _ hi (by omega) hl rfl) ((World.putObj_heap_other (by omega)).trans hk)⟩
end
end Go.Proofs.YtnlimngkagmjpaaGreat
namespace Go.Proofs.YtnlimngkagmjpaaGreat
open Go Go.RowKit Lou



end Go.Proofs.YtnlimngkagmjpaaGreat
namespace Go.Proofs.YtnlimngkagmjpaaGreat
open Go Go.RowKit Lou Go.Shelf
attribute [local go_sem] Oper.semAt_some
section
variable {w:World}{o:Oper}{ρ:Operand->Value}
end
theorem ownG_kept {W W':World}{base sz n:Nat}{T:TypeId}{v:Value}{cs:List Value}{row:Option Nat}(h:W.ownsRow base T sz v n cs)(hg:W.grownBy W' row)(hr:∀r,row=some r->∃o:Obj,W.heap[r]? = some o/\o.isCells=false):W'.ownsRow base T sz v n cs:=by
 refine ownG_later h fun r hv=>hg.block r (ownG_lt h r hv) fun e => ?_
 obtain⟨o,ho,hc⟩:=hr r e.symm
 rcases h.2 with⟨rfl,_⟩|⟨g,cap,cur,rfl,_,hq,_⟩
 ·cases hv
 ·injection hv with hv
  subst hv
  rw[hq] at ho
  injection ho with ho
  subst ho
  cases hc
section
set_option maxRecDepth 100000
variable {F:Fence}{n:Nat}{w:World}{ops:Array Oper}{rest:List Oper}{o:Oper}{a:Act}{Q:Exit->Act->World->Prop}
end
end Go.Proofs.YtnlimngkagmjpaaGreat
namespace Go.Proofs.YtnlimngkagmjpaaGreat
open Go Go.RowKit Lou

section
variable (w:World)(p q many many':Nat)(g g':Nat->List UInt8)(xs xs':List (Nat×List UInt8))(left left':Int)(stops stops':Bool)
end


theorem two_oneR {v0 v1:Value}(h0:v0.oneCell'=true)(h1:v1.oneCell'=true):∀v∈(#[v0,v1]:Array Value).toList,v.oneCell'=true:=by
 intro v hv
 simp at hv
 rcases hv with rfl|rfl<;>assumption

section
variable (fr pg n:Int)
theorem refSectors_gives (w:World)(h1:1<=fr/\fr<=2000)(h2:1<=pg/\pg<=2000):Calls Tryz.prog 7 #[.agg #[.int .i64 fr,.int .i64 pg]] w fun e w'=>e = .returned (.int .i64 (2+9*fr+8*pg))/\Below w.heap.size w w':=by
 have e1:IntKind.i64.wrap (9*fr)=9*fr:=wrap_i64_fr _ (by omega) (by omega)
 have e2:IntKind.i64.wrap (2+9*fr)=2+9*fr:=wrap_i64_fr _ (by omega) (by omega)
 have e3:IntKind.i64.wrap (8*pg)=8*pg:=wrap_i64_fr _ (by omega) (by omega)
 have e4:IntKind.i64.wrap (2+9*fr+8*pg)=2+9*fr+8*pg:=wrap_i64_fr _ (by omega) (by omega)
 go_enter Tryz.func7,Tryz.ntmps7
 go_wp2
 go_ret
 exact⟨rfl,(Below.refl _ _).alloc (zG _) _⟩
end
namespace RegF
section
variable {P:Program}{ops:Array Oper}{Q:Exit->Act->World->Prop}{S:World->Prop}
theorem yldG {o:Oper}{v:Value}{a:Act}(hw:Region.wanted o (yielded ops a.tmps)=true)(h:∀w,S w->(execOp a.eval o).run P w = .ok (.value v) w):YieldsIf P ops S o v a:=.inl ⟨hw,h⟩
theorem opVg {i:Nat}{o:Oper}{K:Act->World->Prop}{a:Act}{w w':World}(v:Value)(ho:ops[i]? = some o)(hw:Region.wanted o (yielded ops a.tmps)=true)(hr:(execOp a.eval o).run P w = .ok (.value v) w')(h:K (a.put o.dst v) w'):wpOp P ops Q i K a w:=by
 unfold wpOp
 simp only[ho]
 rw[if_pos hw]
 left
 unfold Oper.wp
 rw[hr]
 exact h
theorem opCg {i:Nat}{o:Oper}{K:Act->World->Prop}{a:Act}{w:World}(f:FuncId)(xs:Array Operand)(ts:Array TypeId)(ho:ops[i]? = some o)(hw:Region.wanted o (yielded ops a.tmps)=true)(hc:o.op = .call { callee:=.value (.func f),args:=xs,argTypes:=ts })
  (hent:∀args w,(callFunc f args).run P w = .ok (.enter f args) w) (args:Array Value) (ha:xs.map a.eval=args) (h:Calls P f args w fun e w'=>∃v,e = .returned v/\K (a.put o.dst v) w'):wpOp P ops Q i K a w:=by
 unfold wpOp
 simp only[ho]
 rw[if_pos hw]
 left
 have hr:(execOp a.eval o).run P w = .ok (.enter f args) w:=by
  have ef:a.eval (.func f) = .func (.func f) #[] #[]:=rfl
  simp[execOp,hc,resolve,ha,ef,Deferred.ofValue,invoke,hent args w]
 unfold Oper.wp
 rw[hr,Oper.upon_enter]
 refine h.mono ?_
 rintro e w' ⟨v,rfl,hK⟩
 exact hK
end
end RegF
end Go.Proofs.YtnlimngkagmjpaaGreat
namespace Go.Proofs.YtnlimngkagmjpaaGreat
def ChainL (nx:Int->Int):Int->List Int->Prop
 | n,[]=>n=0
 | n,p::l=>n=p/\p≠0/\ChainL nx (nx p) l
theorem ChainL.congr {nx nx':Int->Int}:∀{l:List Int} {n:Int},ChainL nx n l->(∀p∈l,nx' p=nx p)->ChainL nx' n l
 | [],_,h,_=>h
 | p::l,n,⟨h1,h2,h3⟩,hn=>⟨h1,h2,by rw[hn p (by simp)];exact h3.congr fun q hq=>hn q (by simp[hq])⟩
theorem ChainL.cons {nx:Int->Int}{n:Int}{l:List Int}(h:ChainL nx n l)(hn:n≠0):∃l',l=n::l'/\ChainL nx (nx n) l':=by
 cases l with
 | nil=>exact absurd h hn
 | cons p l =>
  obtain⟨h1,h2,h3⟩:=h
  subst h1
  exact⟨l,rfl,h3⟩
structure FreeOk (pages size first many:Int)(nx:Int->Int)(l:List Int):Prop where
 sz:1<=size/\size<=pages
 ch:ChainL nx first l
 nd:l.Nodup
 rg:∀p∈l,1<=p/\p<size
 mn:many=(l.length:Int)
def HeldOk (size:Int)(l:List Int)(held:Int->Bool):Prop:=∀p,held p=true↔(1<=p/\p<size)/\p∉l
def hset (held:Int->Bool)(n:Int)(b:Bool):Int->Bool:=fun p=>if p=n then b else held p
section
variable {pages size first many:Int}{nx nx':Int->Int}{l:List Int}{held:Int->Bool}
theorem FreeOk.first0 (h:FreeOk pages size first many nx l):0<=first/\first<size:=by
 have hs:=h.sz
 by_cases h0:first=0
 ·omega
 ·obtain⟨l',rfl,_⟩:=h.ch.cons h0
  have:=h.rg first (by simp)
  omega
theorem FreeOk.new (h:FreeOk pages size first many nx l)(hp:size<pages)(hn:∀p,p<size->nx' p=nx p):FreeOk pages (size+1) first many nx' l :=
 ⟨by have:=h.sz;omega,h.ch.congr fun p hp=>hn p (h.rg p hp).2,h.nd,fun p hp=>by have:=h.rg p hp;omega,h.mn⟩
theorem HeldOk.new (hf:FreeOk pages size first many nx l)(h:HeldOk size l held):HeldOk (size+1) l (hset held size true)/\held size=false:=by
 have hs:=hf.sz
 have h0:held size=false:=by
  cases e:held size with
  | false=>rfl
  | true=>have:=((h size).1 e).1;omega
 refine⟨fun p => ?_,h0⟩
 unfold hset
 split
 ·rename_i e
  subst e
  exact⟨fun _=>⟨by omega,fun hp=>by have:=hf.rg p hp;omega⟩,fun _=>rfl⟩
 ·rw[h p]
  constructor
  ·rintro⟨h1,h2⟩
   exact⟨by omega,h2⟩
  ·rintro⟨h1,h2⟩
   exact⟨by omega,h2⟩
theorem FreeOk.take (h:FreeOk pages size first many nx l)(hf:first≠0)(hn:∀p,p≠first->nx' p=nx p):∃l',l=first::l'/\FreeOk pages size (nx first) (many - 1) nx' l':=by
 obtain⟨l',rfl,h2⟩:=h.ch.cons hf
 obtain⟨n1,n2⟩:=List.nodup_cons.1 h.nd
 exact⟨l',rfl,h.sz,h2.congr fun p hp=>hn p (fun e=>n1 (e▸hp)),n2,fun p hp=>h.rg p (by simp[hp]),by have:=h.mn;simp at this;omega⟩
theorem HeldOk.take {n:Int}{l':List Int}(hf:FreeOk pages size first many nx (n::l'))(h:HeldOk size (n::l') held):HeldOk size l' (hset held n true)/\held n=false:=by
 obtain⟨n1,n2⟩:=List.nodup_cons.1 hf.nd
 have h0:held n=false:=by
  cases e:held n with
  | false=>rfl
  | true=>exact absurd (List.mem_cons_self) ((h n).1 e).2
 refine⟨fun p => ?_,h0⟩
 unfold hset
 split
 ·rename_i e
  subst e
  exact⟨fun _=>⟨hf.rg p (by simp),n1⟩,fun _=>rfl⟩
 ·rename_i e
  rw[h p,qM,not_or]
  exact⟨fun h=>⟨h.1,h.2.2⟩,fun h=>⟨h.1,e,h.2⟩⟩
theorem FreeOk.put (h:FreeOk pages size first many nx l){n:Int}(h1:1<=n/\n<size)(h2:n∉l)(hn:nx' n=first)(ho:∀p,p≠n->nx' p=nx p):FreeOk pages size n (many+1) nx' (n::l) :=
 ⟨h.sz,⟨rfl,by omega,by rw[hn];exact h.ch.congr fun p hp=>ho p (fun e=>h2 (e▸hp))⟩,List.nodup_cons.2 ⟨h2,h.nd⟩,fun p hp=>by
  rcases qM.1 hp with rfl|hp
  ·exact h1
  ·exact h.rg p hp,by have:=h.mn;simp;omega⟩
theorem HeldOk.put (h:HeldOk size l held){n:Int}:HeldOk size (n::l) (hset held n false):=fun p=>by
 unfold hset
 split
 ·rename_i e
  subst e
  simp
 ·rename_i e
  rw[h p,qM,not_or]
  exact⟨fun h=>⟨h.1,e,h.2⟩,fun h=>⟨h.1,h.2.2⟩⟩
end
def countH (held:Int->Bool):Nat->Nat
 | 0=>0
 | n+1=>countH held n+(if held (n:Int) then 1 else 0)
theorem countH_add (h:Int->Bool)(k:Int)(hk:h k=false):∀n:Nat,countH (hset h k true) n=countH h n+(if 0<=k/\k<(n:Int) then 1 else 0)
 | 0=>by unfold countH;rw[if_neg (by omega)]
 | n+1=>by
  unfold countH
  rw[countH_add h k hk n]
  by_cases e:(n:Int)=k
  ·subst e
   have e1:hset h (n:Int) true (n:Int)=true:=if_pos rfl
   rw[if_neg (show ¬ (0<=(n:Int)/\(n:Int)<(n:Int)) by omega),if_pos (show 0<=(n:Int)/\(n:Int)<((n+1:Nat):Int) by omega),hk,e1]
   rfl
  ·have e1:hset h k true (n:Int)=h (n:Int):=by unfold hset;rw[if_neg e]
   rw[e1]
   by_cases h1:0<=k/\k<(n:Int)
   ·rw[if_pos h1,if_pos (show 0<=k/\k<((n+1:Nat):Int) by omega)];omega
   ·rw[if_neg h1,if_neg (show ¬ (0<=k/\k<((n+1:Nat):Int)) by omega)];omega
theorem count_held {size:Int}{P:Nat}(hs:1<=size/\size<=(P:Int)):∀(l:List Int) (held:Int->Bool),l.Nodup->(∀p∈l,1<=p/\p<size)->HeldOk size l held->(countH held P:Int)=size - 1 - (l.length:Int)
 | [],held,_,_,hh=>by
  have aux:∀n:Nat,(n:Int)<=(P:Int)->(countH held n:Int)=if (n:Int)<=1 then 0 else if (n:Int)<=size then (n:Int) - 1 else size - 1:=fun n=>by
   induction n with
   | zero=>intro _;rw[if_pos (by omega)];rfl
   | succ n ih =>
    intro hn
    have ih:=ih (by omega)
    unfold countH
    have hv:held (n:Int)=decide (1<=(n:Int)/\(n:Int)<size):=by
     cases e:held (n:Int) with
     | true=>exact(decide_eq_true ((hh _).1 e).1).symm
     | false =>
      symm
      refine decide_eq_false fun h => ?_
      have:=(hh (n:Int)).2 ⟨h,by simp⟩
      rw[e] at this
      cases this
    rw[hv,Int.natCast_add,ih]
    by_cases h1:1<=(n:Int)/\(n:Int)<size
    ·rw[decide_eq_true h1,if_pos rfl]
     repeat' split
     all_goals omega
    ·rw[decide_eq_false h1]
     simp only[Bool.false_eq_true,if_false]
     repeat' split
     all_goals omega
  have:=aux P (Int.le_refl _)
  rw[this]
  simp only[qK]
  repeat' split
  all_goals omega
 | p::l,held,hn,hr,hh=>by
  obtain⟨n1,n2⟩:=List.nodup_cons.1 hn
  have hp:=hr p (by simp)
  have h0:held p=false:=by
   cases e:held p with
   | false=>rfl
   | true=>exact absurd (List.mem_cons_self) ((hh p).1 e).2
  have ih:=count_held hs l (hset held p true) n2 (fun q hq=>hr q (by simp[hq])) (fun q=>by
   unfold hset
   split
   ·rename_i e
    subst e
    exact⟨fun _=>⟨hp,n1⟩,fun _=>rfl⟩
   ·rename_i e
    rw[hh q,qM,not_or]
    exact⟨fun h=>⟨h.1,h.2.2⟩,fun h=>⟨h.1,e,h.2⟩⟩)
  rw[countH_add held p h0 P,if_pos (by omega)] at ih
  simp only[zR]
  omega
end Go.Proofs.YtnlimngkagmjpaaGreat
namespace Go.Proofs.YtnlimngkagmjpaaGreat
open Lou
def nxV (V:Nat->List UInt8)(p:Int):Int:=(rfix ((V p.toNat).take 4):Int)
def Snap (pg s f m:Int)(V:Nat->List UInt8)(held:Int->Bool):Prop:=∃l,FreeOk pg s f m (nxV V) l/\HeldOk s l held
theorem Snap.begin {pg:Int}{V:Nat->List UInt8}(hp:1<=pg):Snap pg 1 0 0 V (fun _=>false) :=
 ⟨[],⟨⟨by omega,hp⟩,rfl,List.nodup_nil,fun p hp=>absurd hp (by simp),rfl⟩,fun p=>⟨fun h=>by (cases h),fun h=>by omega⟩⟩
section
variable {pg s f m n:Int}{V V':Nat->List UInt8}{held:Int->Bool}
theorem Snap.congr (h:Snap pg s f m V held)(hV:∀q:Nat,1<=q->(q:Int)<s->V' q=V q):Snap pg s f m V' held:=by
 obtain⟨l,h1,h2⟩:=h
 refine⟨l,⟨h1.sz,h1.ch.congr fun p hp => ?_,h1.nd,h1.rg,h1.mn⟩,h2⟩
 have:=h1.rg p hp
 unfold nxV
 rw[hV p.toNat (by omega) (by omega)]
theorem Snap.sizes (h:Snap pg s f m V held):(1<=s/\s<=pg)/\(0<=f/\f<s)/\(0<=m/\m<s):=by
 obtain⟨l,h1,h2⟩:=h
 refine⟨h1.sz,h1.first0,by have:=h1.mn;omega,?_⟩
 have hs:=h1.sz
 have:(countH held s.toNat:Int)=s - 1 - (l.length:Int):=count_held (size:=s) (P:=s.toNat) ⟨hs.1,by omega⟩ l held h1.nd h1.rg h2
 have:=h1.mn
 omega
theorem Snap.new (h:Snap pg s f m V held)(hp:s<pg)(hV:∀q:Nat,(q:Int)≠s->V' q=V q):Snap pg (s+1) f m V' (hset held s true)/\held s=false:=by
 obtain⟨l,h1,h2⟩:=h
 have hs:=h1.sz
 have h3:=h2.new h1
 exact⟨⟨l,h1.new hp (fun p hp=>by unfold nxV;rw[hV p.toNat (by omega)]),h3.1⟩,h3.2⟩
theorem Snap.take (h:Snap pg s f m V held)(hf:f≠0)(hV:∀q:Nat,(q:Int)≠f->V' q=V q):Snap pg s (nxV V f) (m - 1) V' (hset held f true)/\held f=false/\(nxV V f<s/\0<=m - 1):=by
 obtain⟨l,h1,h2⟩:=h
 have h0:=h1.first0
 obtain⟨l',rfl,h3⟩:=h1.ch.cons hf
 obtain⟨l'',e,h4⟩:=FreeOk.take (nx':=nxV V') h1 hf (fun p hp=>by
  unfold nxV
  by_cases e:((p.toNat:Nat):Int)=f
  ·by_cases h:0<=p
   ·omega
   ·have:p.toNat=0:=by omega
    omega
  ·rw[hV p.toNat e])
 injection e with _ e
 subst e
 have h5:=h2.take h1
 have:=h4.first0
 have:=h4.mn
 exact⟨⟨l',h4,h5.1⟩,h5.2,by omega,by omega⟩
theorem Snap.rng (h:Snap pg s f m V held)(hn:held n=true):1<=n/\n<s:=by
 obtain⟨l,_,h2⟩:=h
 exact((h2 n).1 hn).1
theorem Snap.put (h:Snap pg s f m V held)(hn:held n=true)(he:nxV V' n=f)(hV:∀q:Nat,(q:Int)≠n->V' q=V q):Snap pg s n (m+1) V' (hset held n false):=by
 obtain⟨l,h1,h2⟩:=h
 have hr:=(h2 n).1 hn
 refine⟨n::l,h1.put hr.1 hr.2 he (fun p hp => ?_),h2.put⟩
 unfold nxV
 by_cases e:((p.toNat:Nat):Int)=n
 ·by_cases h:0<=p
  ·omega
  ·have:p.toNat=0:=by omega
   omega
 ·rw[hV p.toNat e]
theorem Snap.count (h:Snap pg s f m V held){P:Nat}(hP:pg<=(P:Int)):(countH held P:Int)=s - 1 - m:=by
 obtain⟨l,h1,h2⟩:=h
 have hs:=h1.sz
 have:=count_held (size:=s) (P:=P) ⟨hs.1,by omega⟩ l held h1.nd h1.rg h2
 have:=h1.mn
 omega
end
def hF (l:List Bool)(p:Int):Bool:=if 0<=p then l.getD p.toNat false else false
theorem hF_set {l:List Bool}{n:Nat}(hn:n<l.length)(b:Bool):hF (l.set n b)=hset (hF l) (n:Int) b:=by
 funext p
 unfold hF hset
 by_cases e:p=(n:Int)
 ·subst e
  rw[if_pos rfl,if_pos (by omega)]
  simp[hn]
 ·rw[if_neg e]
  show _=if 0<=p then l.getD p.toNat false else false
  by_cases h:0<=p
  ·rw[if_pos h,if_pos h]
   have:n≠p.toNat:=by omega
   simp[this]
  ·rw[if_neg h,if_neg h]
theorem hF_none (n:Nat):hF (zN n false)=fun _=>false:=by
 funext p
 unfold hF
 split
 ·rw[List.getD_eq_getElem?_getD,List.getElem?_replicate]
  split<;>rfl
 ·rfl
def cntB:List Bool->Nat
 | []=>0
 | b::l=>(if b then 1 else 0)+cntB l
theorem cntB_snoc (l:List Bool)(b:Bool):cntB (l++[b])=cntB l+(if b then 1 else 0):=by
 induction l with
 | nil=>simp[cntB]
 | cons c l ih=>simp only[qA,cntB,ih];omega
theorem cntB_take (l:List Bool):∀n,n<=l.length->cntB (l.take n)=countH (hF l) n
 | 0,_=>by simp[cntB,countH]
 | n+1,h=>by
  have hl:n<l.length:=by omega
  rw[zU hl,cntB_snoc,cntB_take l n (by omega),countH]
  have:hF l (n:Int)=l[n]:=by
   unfold hF
   rw[if_pos (by omega)]
   simp[hl]
  rw[this]
theorem cntB_is (l:List Bool):cntB l=countH (hF l) l.length:=by
 rw[<-cntB_take l l.length (zG _),List.take_length]
end Go.Proofs.YtnlimngkagmjpaaGreat
namespace Go.Proofs.YtnlimngkagmjpaaGreat
open Go Go.RowKit Lou
def bsC (l:List Bool):List Value:=l.map Value.bool
theorem bsC_one (l:List Bool):∀v∈bsC l,v.oneCell'=true:=fun v hv=>by
 obtain⟨b,_,rfl⟩:=List.mem_map.1 hv
 rfl
def BsAt (B:Nat)(W:World)(v:Value)(l:List Bool):Prop:=W.ownsRow B 4 1 v l.length (bsC l)
theorem ownG_keep {W W':World}{base:Nat}{T:TypeId}{sz:Nat}{v:Value}{n:Nat}{cs:List Value}{Mu:Nat->Prop}(h:W.ownsRow base T sz v n cs)(hG:GrowBut Mu W W')(hn:∀k cs,BlkIs W k T cs->¬ Mu k):W'.ownsRow base T sz v n cs :=
 ownG_later h fun r hr=>by
  rcases h.2 with⟨rfl,_⟩|⟨g,cap,cur,rfl,_,hg,_⟩
  ·cases hr
  ·injection hr with hr
   subst hr
   exact hG.block _ (zH.1 hg).1 (hn _ _ hg)
theorem BsAt.keep {B:Nat}{W W':World}{v:Value}{l:List Bool}{Mu:Nat->Prop}(h:BsAt B W v l)(hG:GrowBut Mu W W')(hn:∀k cs,BlkIs W k 4 cs->¬ Mu k):BsAt B W' v l:=ownG_keep h hG hn
theorem BsAt.grow {B:Nat}{W W':World}{v:Value}{l:List Bool}(h:BsAt B W v l)(hB:Below W.heap.size W W'):BsAt B W' v l:=ownG_grow h hB
theorem BsAt.inG {B:Nat}{W:World}{v:Value}{l:List Bool}(h:BsAt B W v l):∃A c,v = .slice A l.length c/\InG W W.heap.size 1 A l.length c (bsC l):=ownG_in h (bsC_one l)
theorem bsAt_made {B:Nat}(W:World)(n:Nat)(hB:B<=W.heap.size)(hn:n<=1000):BsAt B (W.alloc (.cells ((zN n false).map Value.bool).toArray 4)) (.slice (some ⟨W.heap.size,0,none⟩) n n) (zN n false):=by
 have h:=World.ownsRow_lit (base:=B) (e:=4) (size:=1) W ((zN n false).map Value.bool).toArray n hB (by unfold maxLen;omega) (by simp)
 unfold BsAt
 rw[List.length_replicate]
 exact h
theorem elBools:ElT 40 39 1 24 (.slice none 0 0):=⟨Tryz.underlying40,by kernel_rfl,by kernel_rfl,by decide⟩
theorem cntB_le (l:List Bool):cntB l<=l.length:=by
 induction l with
 | nil=>exact zG _
 | cons b l ih=>simp only[cntB,zR];split<;>omega
theorem count9_gives (W:World)(l:List Bool)(A:Option Addr)(c:Nat)(hin:InG W W.heap.size 1 A l.length c (bsC l))(hl:l.length<=1000):Calls Tryz.prog 19 #[.slice A l.length c] W fun e w'=>e = .returned (.int .i64 (cntB l:Int))/\W=w':=by
 go_enter Tryz.func19,Tryz.ntmps19
 go_wp2
 go_loopw [4,3] (fun i v wr=>∃k:Nat,k<=l.length/\i = .int .i64 (k:Int)/\v = .int .i64 (cntB (l.take k):Int)/\wr=W) (fun i _ _=>l.length - (intOf i).toNat)
 case atStart=>exact⟨0,by omega,rfl,rfl,rfl⟩
 case round =>
  obtain⟨k,hk,rfl,rfl,rfl⟩:=hrel
  by_cases hlt:k<l.length
  ·obtain⟨g,o,rfl,hg,hr⟩:=hin.lies (by omega)
   have hs:=cntB_snoc (l.take k) l[k]
   rw[<-zU hlt] at hs
   have hb:=cntB_le (l.take k)
   have hbl:(l.take k).length=k:=by simp;omega
   have hwk:IntKind.i64.wrap ((k:Int)+1)=(k:Int)+1:=wrap_i64_fr _ (by omega) (by omega)
   have hwc:IntKind.i64.wrap ((cntB (l.take k):Int)+1)=(cntB (l.take k):Int)+1:=wrap_i64_fr _ (by omega) (by omega)
   have hc:wr.cell? ⟨g,o+k,none⟩=some (.bool l[k]):=hr k _ (by simp[bsC,hlt])
   have HS:=Lib.hid hs
   have i1:(0:Int)<=(k:Int):=by omega
   have i2:(k:Int)<(l.length:Int):=by omega
   clear hr hs hb hbl
   rcases hbk:l[k] with _|_
   ·rw[hbk] at hc HS
    clear hbk
    go_wp2
    have hs:=HS.out
    rw[show (if false=true then 1 else 0)=0 from rfl,Nat.add_zero] at hs
    exact⟨⟨k+1,by omega,by simp,by rw[hs];rfl,by first|rfl|trivial⟩,by simp[intOf];omega⟩
   ·rw[hbk] at hc HS
    clear hbk
    go_wp2
    have hs:=HS.out
    rw[show (if true=true then 1 else 0)=1 from rfl] at hs
    exact⟨⟨k+1,by omega,by simp,by rw[hs];simp,by first|rfl|trivial⟩,by simp[intOf];omega⟩
  ·obtain rfl:k=l.length:=by omega
   rw[List.take_length]
   have i2:¬ (l.length:Int)<(l.length:Int):=by omega
   go_wp2
   go_ret
   exact⟨rfl,rfl⟩
theorem ownG_some {W:World}{base:Nat}{T:TypeId}{sz:Nat}{v:Value}{n:Nat}{cs:List Value}(h:W.ownsRow base T sz v n cs)(hn:0<n):∃g cap,v = .slice (some ⟨g,0,none⟩) n cap:=by
 rcases h.2 with⟨_,h⟩|⟨g,cap,cur,h,_⟩
 ·omega
 ·exact⟨g,cap,h⟩
theorem with9_gives (W:World)(l:List Bool)(A:Option Addr)(c:Nat)(hin:InG W W.heap.size 1 A l.length c (bsC l))(n:Nat)(hn:n<l.length)(hl:l.length<=1000)(b:Bool):Calls Tryz.prog 13 #[.slice A l.length c,.int .i64 (n:Int),.bool b] W fun e w'=>∃v,e = .returned v/\BsAt W.heap.size w' v (l.set n b)/\Below W.heap.size W w':=by
 have h0:(W.alloc (.cells #[] 4)).ownsRow W.heap.size 4 1 (.slice (some ⟨W.heap.size,0,none⟩) 0 0) 0 []:=World.ownsRow_made W #[] 0 (zG _) (by decide) rfl
 have hin1:=hin.below ((Below.refl W.heap.size W).alloc (zG _) (.cells #[] 4))
 have i1:(0:Int)<=(n:Int):=by omega
 have i2:(n:Int)<(l.length:Int):=by omega
 go_enter Tryz.func13,Tryz.ntmps13
 go_wp2_with (at_builtin;refine wp_appG rfl elBool (.tmp 8) (.tmp 9) rfl W.heap.size (.slice (some ⟨W.heap.size,0,none⟩) 0 0) 0 [] rfl h0 _ A l.length c (bsC l) rfl hin1 (by unfold maxLen;omega) (by omega) (by simp) ?_;intro v2 w2 own2' hg2;obtain⟨own2,hO⟩:∃h:w2.ownsRow W.heap.size 4 1 v2 l.length (bsC l),Hid True:=⟨by rw[qG,zV] at own2';exact own2',Lib.hid trivial⟩;clear own2';obtain⟨g,cap,rfl⟩:=ownG_some own2 (by omega);obtain⟨b0,hc2⟩:∃b0,w2.cell? ⟨g,n,none⟩=some (.bool b0):=⟨l[n],by rw[own2.cellAt n (by omega)];simp[bsC,hn]⟩;have hf2:=own2.frozenAt n)
 have hB2:Below W.heap.size W w2:=((Below.refl _ W).alloc (zG _) _).trans (grown_below hg2 (by simp) (ownG_ge h0))
 obtain⟨own3,hg3⟩:=own2.stored n (.bool b)
 have hge:=ownG_ge own2 g rfl
 have hB3:Below W.heap.size W (w2.setCell ⟨g,n,none⟩ (.bool b)):=hB2.setCell (p:=⟨g,n,none⟩) hge _
 go_ret
 refine⟨_,rfl,?_,hB3⟩
 unfold BsAt
 rw[List.length_set]
 have e:bsC (l.set n b)=(bsC l).set n (.bool b):=by unfold bsC;rw[List.map_set]
 rw[e]
 exact own3
end Go.Proofs.YtnlimngkagmjpaaGreat
