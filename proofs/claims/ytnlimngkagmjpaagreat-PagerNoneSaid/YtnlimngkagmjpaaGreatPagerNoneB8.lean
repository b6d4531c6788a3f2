/- Texts that the proof of PagerNone leans on, part 8. -/
import Derived.Test.YtnlimngkagmjpaaGreatPagerNoneB7
open Nat renaming le_refl → zG, le_trans → zP
open Array renaming getElem?_eq_some_iff → zH
set_option linter.unusedVariables false
set_option maxRecDepth 100000
set_option maxHeartbeats 8000000

namespace Go.Proofs.YtnlimngkagmjpaaGreat
open Go Go.RowKit Go.Shelf
attribute [local go_sem] Oper.semAt_some
def KeepU (U:Nat->Prop)(W W':World):Prop:=W.heap.size<=W'.heap.size/\∀k o,W.heap[k]? = some o->¬ U k->W'.heap[k]? = some o
theorem KeepU.refl (U:Nat->Prop)(W:World):KeepU U W W:=⟨zG _,fun _ _ h _=>h⟩
theorem KeepU.trans {U:Nat->Prop}{X Y Z:World}(h:KeepU U X Y)(k:KeepU U Y Z):KeepU U X Z:=⟨zP h.1 k.1,fun i o hi hm=>k.2 i o (h.2 i o hi hm) hm⟩
theorem KeepU.grow (U:Nat->Prop){X Y:World}(h:Below X.heap.size X Y):KeepU U X Y:=⟨h.size,fun k o hk _=>(h.block k (zH.1 hk).1).trans hk⟩
theorem KeepU.grown (U:Nat->Prop){X Y:World}{row:Option Nat}(h:X.grownBy Y row)(hr:∀r,row=some r->U r):KeepU U X Y:=⟨h.size,fun k o hk hn=>(h.block k (zH.1 hk).1 (fun e=>hn (hr k e.symm))).trans hk⟩
theorem KeepU.setCell {U:Nat->Prop}(X:World)(p:Addr)(v:Value)(hm:U p.block):KeepU U X (X.setCell p v) :=
 ⟨by simp,fun k o hk hn=>(Below.heap_setCell X p v k (fun e=>hn (by rw[e];exact hm))).trans hk⟩
theorem KeepU.cell {U:Nat->Prop}{X Y:World}(h:KeepU U X Y){p:Addr}{v:Value}(hc:X.cell? p=some v)(hm:¬ U p.block):Y.cell? p=some v:=by
 have hb:∃o,X.heap[p.block]? = some o:=by
  cases ho:X.heap[p.block]? with
  | none=>simp[World.cell?,ho] at hc
  | some o=>exact⟨o,rfl⟩
 obtain⟨o,ho⟩:=hb
 rw[World.cell?_of_block ((h.2 _ o ho hm).trans ho.symm)]
 exact hc
theorem KeepU.blk {U:Nat->Prop}{X Y:World}(h:KeepU U X Y){g:Nat}{t:TypeId}{cs:Array Value}(hb:BlkIs X g t cs)(hm:¬ U g):BlkIs Y g t cs:=h.2 _ _ hb hm
def LaterU (n:Nat)(U U':Nat->Prop):Prop:=∀k,U' k->U k∨n<=k
theorem LaterU.refl (n:Nat)(U:Nat->Prop):LaterU n U U:=fun _ h => .inl h
theorem LaterU.trans {n m:Nat}{U V X:Nat->Prop}(h:LaterU n U V)(k:LaterU m V X)(hn:n<=m):LaterU n U X:=fun j hj=>(k j hj).elim (fun e=>h j e) (fun e => .inr (by omega))
def StB {α : Type}(J:List α -> (Nat->Prop)->World->Prop):Prop:=∀s U X Y,J s U X->Below X.heap.size X Y->J s U Y
def StU {α : Type}(B:Nat)(I:List α -> (Nat->Prop)->World->Prop):Prop:=∀s U X Y row,I s U X->X.grownBy Y row->(∀r,row=some r->B<=r/\∃o:Obj,X.heap[r]? = some o/\o.isCells=false)->I s U Y
theorem StU.b {α : Type}{B:Nat}{I:List α -> (Nat->Prop)->World->Prop}(h:StU B I):StB I:=fun s U X Y hs hg=>h s U X Y none hs ⟨hg.os,hg.tape,hg.output,hg.size,fun k hk _=>hg.block k hk⟩ (fun r e=>by cases e)
theorem StU.putObj {α : Type}{B:Nat}{I:List α -> (Nat->Prop)->World->Prop}(h:StU B I){s:List α}{U:Nat->Prop}{X:World}{l:Nat}{o':Obj}(o:Obj)(hs:I s U X)(hl:B<=l)(ho:X.heap[l]? = some o')(hm:o'.isCells=false):I s U (X.putObj l o) :=
 h s U X _ (some l) hs (grownBy_putObj' X l o) (fun r e=>by cases e;exact⟨hl,_,ho,hm⟩)
def SeqU {α : Type}(F:Fence)(n:Nat)(P:Program)(g:Nat)(lb:Array Value)(encs : α -> Array Value)(Ok:(Nat->Prop)->Prop)(Rd:List α -> α -> World->Prop)(S Sp:List α -> Prop)(w:World):Prop :=
 ∀(l:Nat) (J Jx:List α -> (Nat->Prop)->World->Prop) (U0:Nat->Prop) (W:World),Below w.heap.size w W->Ok U0->StB J->(∀s U X,J s U X->∀k,U k->k<X.heap.size) ->
  (∀pre x U W1,J pre U W1->Rd pre x W1->YieldAt F (n - 1) P l (encs x) W1 fun e W' =>
   (e = .returned (.bool true)/\∃U',LaterU W1.heap.size U U'/\J (pre++[x]) U' W'/\KeepU U W1 W')∨(e = .returned (.bool false)/\∃U',Jx (pre++[x]) U' W')) ->
  J [] U0 W ->
  CallsIn F n P g (#[.func (.yield l) #[] #[]] ++ lb) W fun e W'=>(∃v,e = .returned v)/\((∃xs U',S xs/\J xs U' W')∨(∃pre U',Sp pre/\Jx pre U' W'))
def postU {α : Type}(I:List α -> (Nat->Prop)->World->Prop)(Ix:Code->List α -> (Nat->Prop)->World->Prop)(U:Nat->Prop)(xs:List α)(W:World):Exit->Act->World->Prop
 | .normal,_,W'=>∃U',LaterU W.heap.size U U'/\KeepU U W W'/\I xs U' W'
 | .ret,_,W'=>∃U',KeepU U W W'/\Ix .ret xs U' W'
 | .exit id,_,W'=>∃U',KeepU U W W'/\Ix (.exit id) xs U' W'
 | .goto t,_,W'=>∃U',KeepU U W W'/\Ix (.goto t) xs U' W'
 | .panic _,_,_=>False
 | .outgrown,_,_=>False
section
variable {F:Fence}{n:Nat}{P:Program}{w:World}
theorem wpIn_rangeFunc_U {α : Type}{g:Operand}{ps:Array Tmp}{assign body:Code}{Q:Exit->Act->World->Prop}{a:Act}
  (hro:F.round=none) (h1:1<=n) {gf:Nat} {lb:Array Value} (hg:a.eval g = .func (.func gf) #[] lb) (hFg:F.fn gf) (eg:∀args w,(callFunc gf args).run P w = .ok (.enter gf args) w)
  {encs : α -> Array Value} {Ok:(Nat->Prop)->Prop} {Rd:List α -> α -> World->Prop} {S Sp:List α -> Prop} {w0:World} (hseq:SeqU F (n - 1) P gf lb encs Ok Rd S Sp w0)
  (hb0:Below w0.heap.size w0 w) (hps:∀x,(encs x).size=ps.size) (U0:Nat->Prop) (hU0:Ok U0)
  (I:List α -> (Nat->Prop)->World->Prop) (Ix:Code->List α -> (Nat->Prop)->World->Prop) (hI:StU w.heap.size I) (hIx:∀c,StU w.heap.size (Ix c)) (hIl:∀s U X,I s U X->∀k,U k->k<X.heap.size)
  (hRd:∀pre x,OwnFrom w.heap.size (fun (_:Unit) W=>Rd pre x W)) (h0:I [] U0 w) (a₁ : α -> Act)
  (hassign:∀(l:Nat) (x : α) (W:World) (K:Act->World->Prop),K (a₁ x) W ->
   assign.wpIn (F.inRound l) (n - 1 - 1) P (Exit.then K (fun _ _ _=>False)) { tmps:=(ps.zip (encs x)).foldl (fun t (p,v)=>t.setIfInBounds p v) a.tmps,defers:=[] } W)
  (hbody:∀(l:Nat) (pre:List α) (x : α) (U:Nat->Prop) (W:World),I pre U W->Rd pre x W->body.wpIn (F.inRound l) (n - 1 - 1) P (postU I Ix U (pre++[x]) W) (a₁ x) W)
  (hdone:∀(D:Nat) (xs:List α) (U:Nat->Prop) (W:World),w.heap.size<=D->S xs->I xs U W->W.heap[D]? = some (.deferred (some []))->Q .normal { a with defers:={ target:=.collected D,args:=#[] }::a.defers } W)
  (hstop:∀(D:Nat) (c:Code) (pre:List α) (U:Nat->Prop) (W:World),w.heap.size<=D->Sp pre->Ix c pre U W->W.heap[D]? = some (.deferred (some []))->c.wpIn F n P Q { a with defers:={ target:=.collected D,args:=#[] }::a.defers } W) :
  (Code.rangeFunc g ps assign body).wpIn F n P Q a w:=by
 refine wpIn_rangeFunc fun fn hfn => ?_
 rw[hro]
 -- the loop's record, and the world that bears it and the block for deferred calls
 obtain⟨rec,hrec⟩:∃rec:LoopState->Option Code->Loop,rec=fun st pe => { state:=st,pending:=pe,fn,tmps:=a.tmps,params:=ps,assign,body,defers:=w.heap.size }:=⟨_,rfl⟩
 obtain⟨V,hV⟩:∃V,(w.alloc (.deferred (some []))).alloc (.loop (rec .ready none))=V:=⟨_,rfl⟩
 have vL:V.heap[w.heap.size+1]? = some (.loop (rec .ready none)):=by
  subst hV
  have:=World.alloc_heap_new (w.alloc (.deferred (some []))) (.loop (rec .ready none))
  rwa [World.size_alloc] at this
 have vD:V.heap[w.heap.size]? = some (.deferred (some [])):=by
  subst hV
  exact(Below.heap_alloc _ _ _ (by simp)).trans (World.alloc_heap_new w _)
 have vBw:Below w.heap.size w V:=by
  subst hV
  exact((Below.refl _ w).alloc (zG _) _).alloc (by simp) _
 have vI:I [] U0 V:=hI.b _ _ _ _ h0 vBw
 have vS:V.heap.size=w.heap.size+2:=by subst hV;simp
 have vB:Below w0.heap.size w0 V:=hb0.trans (vBw.mono hb0.size)
 refine⟨w.heap.size+1,[{ target:=.collected w.heap.size,args:=#[] }],V,{ target:=.fn (.func gf) lb,args:=#[.func (.yield (w.heap.size+1)) #[] #[]] },V,gf,#[.func (.yield (w.heap.size+1)) #[] #[]] ++ lb,V,?_,?_,?_,?_,fun _=>h1,?_⟩
 ·rw[<-hV,hrec];exact run_enterLoop_outer _ _ _ _ _
 ·simp only[resolve,hg]
  simp[go_sem]
 ·intro f' hf'
  simp[Target.leads] at hf'
  subst hf'
  exact hFg
 ·simp[invoke,go_sem,eg]
 have atB:∀{A B:World} {k:Nat} {o:Obj},A.heap[k]? = some o->Below A.heap.size A B->B.heap[k]? = some o:=fun hk hg=>(hg.block _ (zH.1 hk).1).trans hk
 refine(hseq (w.heap.size+1)
  (fun pre U W=>I pre U W/\W.heap[w.heap.size+1]? = some (.loop (rec .ready none))/\W.heap[w.heap.size]? = some (.deferred (some []))/\¬ U w.heap.size/\¬ U (w.heap.size+1))
  (fun pre U W=>∃c,Ix c pre U W/\W.heap[w.heap.size+1]? = some (.loop (rec .done (some c)))/\W.heap[w.heap.size]? = some (.deferred (some [])))
  U0 V vB hU0
  (fun s U A B hs hg=>⟨hI.b s U A B hs.1 hg,atB hs.2.1 hg,atB hs.2.2.1 hg,hs.2.2.2⟩)
  (fun s U X hs=>hIl s U X hs.1)
  ?round ⟨vI,vL,vD,fun e=>by have:=hIl _ _ _ h0 _ e;omega,fun e=>by have:=hIl _ _ _ h0 _ e;omega⟩).mono ?behind
 case round =>
  rintro pre x U W ⟨hi,hl,hk,hnD,hnL⟩ hrd
  have hlt:w.heap.size+1<W.heap.size:=(zH.1 hl).1
  have hy:=run_yield (P:=P) (args:=encs x) hl (by rw[hrec];exact hps x)
  rw[hrec] at hy
  refine⟨fn,_,assign,body,hy,roundIn_of_wpIn hfn (hassign _ x W _ ⟨_,run_beginRound hl (by rw[hrec]),?_⟩)⟩
  clear hy
  have bL:(W.putObj (w.heap.size+1) (.loop { rec .ready none with state:=.busy })).heap[w.heap.size+1]? = some (.loop { rec .ready none with state:=.busy }):=World.putObj_heap_same hlt
  have bD:(W.putObj (w.heap.size+1) (.loop { rec .ready none with state:=.busy })).heap[w.heap.size]? = some (.deferred (some [])):=(World.putObj_heap_other (by omega)).trans hk
  refine wpIn_mono (hbody _ pre x U _ (hI.putObj _ hi (by omega) hl rfl) ((hRd pre x).putObj (s:=()) _ hrd (by omega) hl rfl)) ?_
  -- the round's end
  have fin:∀(jump:Option Code) (Z:World),KeepU U (W.putObj (w.heap.size+1) (.loop { rec .ready none with state:=.busy })) Z ->
    (Instr.endRound (w.heap.size+1) jump).run P Z = .ok (.bool jump.isNone) (Z.putObj (w.heap.size+1) (.loop (rec (if jump.isNone then .ready else .done) jump))) /\
    Z.heap[w.heap.size+1]? = some (.loop { rec .ready none with state:=.busy }) /\
    (Z.putObj (w.heap.size+1) (.loop (rec (if jump.isNone then .ready else .done) jump))).heap[w.heap.size+1]? = some (.loop (rec (if jump.isNone then .ready else .done) jump)) /\
    (Z.putObj (w.heap.size+1) (.loop (rec (if jump.isNone then .ready else .done) jump))).heap[w.heap.size]? = some (.deferred (some [])):=fun jump Z hkU=>by
   have uL:=hkU.2 _ _ bL hnL
   have:=run_endRound (P:=P) jump uL
   rw[hrec] at this ⊢
   exact⟨this,by rw[hrec] at uL;exact uL,World.putObj_heap_same (zH.1 uL).1,(World.putObj_heap_other (by omega)).trans (hkU.2 _ _ bD hnD)⟩
  have out:∀(c:Code) (U':Nat->Prop) (Z:World),KeepU U (W.putObj (w.heap.size+1) (.loop { rec .ready none with state:=.busy })) Z->Ix c (pre++[x]) U' Z ->
    (∃c',Ix c' (pre++[x]) U' (Z.putObj (w.heap.size+1) (.loop (rec .done (some c))))/\(Z.putObj (w.heap.size+1) (.loop (rec .done (some c)))).heap[w.heap.size+1]? = some (.loop (rec .done (some c')))/\(Z.putObj (w.heap.size+1) (.loop (rec .done (some c)))).heap[w.heap.size]? = some (.deferred (some []))):=fun c U' Z hkU hix=>by
   obtain⟨_,h3,h4,h5⟩:=fin (some c) Z hkU
   exact⟨c,(hIx c).putObj _ hix (by omega) h3 rfl,h4,h5⟩
  rintro e a3 Z hp
  cases e with
  | normal =>
   obtain⟨U',hL3,hk3,hi3⟩:=hp
   obtain⟨hr,h3,h4,h5⟩:=fin none Z hk3
   have hsz:(W.putObj (w.heap.size+1) (.loop { rec .ready none with state:=.busy })).heap.size=W.heap.size:=by simp[World.putObj]
   rw[hsz] at hL3
   refine⟨_,_,hr,.inl ⟨rfl,U',hL3,⟨hI.putObj _ hi3 (by omega) h3 rfl,h4,h5,fun e => ?_,fun e => ?_⟩,by have:=hk3.1;simpa using this,fun k o hk hm => ?_⟩⟩
   ·rcases hL3 _ e with h|h
    ·exact hnD h
    ·omega
   ·rcases hL3 _ e with h|h
    ·exact hnL h
    ·omega
   ·by_cases hkl:k=w.heap.size+1
    ·subst hkl
     rw[hl] at hk
     rw[<-hk]
     exact h4
    ·rw[World.putObj_heap_other hkl]
     exact hk3.2 k o (by rw[World.putObj_heap_other hkl];exact hk) hm
  | ret =>
   obtain⟨U',hk3,hi3⟩:=hp
   exact⟨_,_,(fin (some .ret) Z hk3).1,.inr ⟨rfl,U',out .ret U' Z hk3 hi3⟩⟩
  | exit id =>
   obtain⟨U',hk3,hi3⟩:=hp
   exact⟨_,_,(fin (some (.exit id)) Z hk3).1,.inr ⟨rfl,U',out (.exit id) U' Z hk3 hi3⟩⟩
  | goto t =>
   obtain⟨U',hk3,hi3⟩:=hp
   exact⟨_,_,(fin (some (.goto t)) Z hk3).1,.inr ⟨rfl,U',out (.goto t) U' Z hk3 hi3⟩⟩
  | panic ch=>exact hp.elim
  | outgrown=>exact hp.elim
 case behind =>
  rintro e Z ⟨⟨v,rfl⟩,(⟨xs,U',hS,hi,hl,hk,_⟩|⟨pre,U',hSp,c,hi,hl,hk⟩)⟩
  ·have hr:=run_endLoop (P:=P) hl (by rw[hrec];simp)
   rw[hrec] at hr
   exact⟨none,_,hr,hdone _ xs U' _ (zG _) hS (hI.putObj _ hi (by omega) hl rfl) ((World.putObj_heap_other (by omega)).trans hk)⟩
  ·have hr:=run_endLoop (P:=P) hl (by rw[hrec];simp)
   rw[hrec] at hr
   exact⟨some c,_,hr,hstop _ c pre U' _ (zG _) hSp ((hIx c).putObj _ hi (by omega) hl rfl) ((World.putObj_heap_other (by omega)).trans hk)⟩
end
end Go.Proofs.YtnlimngkagmjpaaGreat
namespace Go.Proofs.YtnlimngkagmjpaaGreat
open Go Go.RowKit Lou



end Go.Proofs.YtnlimngkagmjpaaGreat
namespace Go.Proofs.YtnlimngkagmjpaaGreat
open Go Go.RowKit Lou Go.Shelf
attribute [local go_sem] Oper.semAt_some
section
variable {w:World}{o:Oper}{ρ:Operand->Value}
end
theorem ownG_kept {W W':World}{base sz n:Nat}{T:TypeId}{v:Value}{cs:List Value}{row:Option Nat}(h:W.ownsRow base T sz v n cs)(hg:W.grownBy W' row)(hr:∀r,row=some r->∃o:Obj,W.heap[r]? = some o/\o.isCells=false):W'.ownsRow base T sz v n cs:=by
 refine ownG_later h fun r hv=>hg.block r (ownG_lt h r hv) fun e => ?_
 obtain⟨o,ho,hc⟩:=hr r e.symm
 rcases h.2 with⟨rfl,_⟩|⟨g,cap,cur,rfl,_,hq,_⟩
 ·cases hv
 ·injection hv with hv
  subst hv
  rw[hq] at ho
  injection ho with ho
  subst ho
  cases hc
section
set_option maxRecDepth 100000
variable {F:Fence}{n:Nat}{w:World}{ops:Array Oper}{rest:List Oper}{o:Oper}{a:Act}{Q:Exit->Act->World->Prop}
end
end Go.Proofs.YtnlimngkagmjpaaGreat
namespace Go.Proofs.YtnlimngkagmjpaaGreat
open Go Go.RowKit Lou

section
variable (w:World)(p q many many':Nat)(g g':Nat->List UInt8)(xs xs':List (Nat×List UInt8))(left left':Int)(stops stops':Bool)
end


theorem two_oneR {v0 v1:Value}(h0:v0.oneCell'=true)(h1:v1.oneCell'=true):∀v∈(#[v0,v1]:Array Value).toList,v.oneCell'=true:=by
 intro v hv
 simp at hv
 rcases hv with rfl|rfl<;>assumption

section
variable (fr pg n:Int)
theorem refSectors_gives (w:World)(h1:1<=fr/\fr<=2000)(h2:1<=pg/\pg<=2000):Calls Tryz.prog 7 #[.agg #[.int .i64 fr,.int .i64 pg]] w fun e w'=>e = .returned (.int .i64 (2+9*fr+8*pg))/\Below w.heap.size w w':=by
 have e1:IntKind.i64.wrap (9*fr)=9*fr:=wrap_i64_fr _ (by omega) (by omega)
 have e2:IntKind.i64.wrap (2+9*fr)=2+9*fr:=wrap_i64_fr _ (by omega) (by omega)
 have e3:IntKind.i64.wrap (8*pg)=8*pg:=wrap_i64_fr _ (by omega) (by omega)
 have e4:IntKind.i64.wrap (2+9*fr+8*pg)=2+9*fr+8*pg:=wrap_i64_fr _ (by omega) (by omega)
 go_enter Tryz.func7,Tryz.ntmps7
 go_wp2
 go_ret
 exact⟨rfl,(Below.refl _ _).alloc (zG _) _⟩
end
namespace RegF
section
variable {P:Program}{ops:Array Oper}{Q:Exit->Act->World->Prop}{S:World->Prop}
theorem yldG {o:Oper}{v:Value}{a:Act}(hw:Region.wanted o (yielded ops a.tmps)=true)(h:∀w,S w->(execOp a.eval o).run P w = .ok (.value v) w):YieldsIf P ops S o v a:=.inl ⟨hw,h⟩
theorem opVg {i:Nat}{o:Oper}{K:Act->World->Prop}{a:Act}{w w':World}(v:Value)(ho:ops[i]? = some o)(hw:Region.wanted o (yielded ops a.tmps)=true)(hr:(execOp a.eval o).run P w = .ok (.value v) w')(h:K (a.put o.dst v) w'):wpOp P ops Q i K a w:=by
 unfold wpOp
 simp only[ho]
 rw[if_pos hw]
 left
 unfold Oper.wp
 rw[hr]
 exact h
theorem opCg {i:Nat}{o:Oper}{K:Act->World->Prop}{a:Act}{w:World}(f:FuncId)(xs:Array Operand)(ts:Array TypeId)(ho:ops[i]? = some o)(hw:Region.wanted o (yielded ops a.tmps)=true)(hc:o.op = .call { callee:=.value (.func f),args:=xs,argTypes:=ts })
  (hent:∀args w,(callFunc f args).run P w = .ok (.enter f args) w) (args:Array Value) (ha:xs.map a.eval=args) (h:Calls P f args w fun e w'=>∃v,e = .returned v/\K (a.put o.dst v) w'):wpOp P ops Q i K a w:=by
 unfold wpOp
 simp only[ho]
 rw[if_pos hw]
 left
 have hr:(execOp a.eval o).run P w = .ok (.enter f args) w:=by
  have ef:a.eval (.func f) = .func (.func f) #[] #[]:=rfl
  simp[execOp,hc,resolve,ha,ef,Deferred.ofValue,invoke,hent args w]
 unfold Oper.wp
 rw[hr,Oper.upon_enter]
 refine h.mono ?_
 rintro e w' ⟨v,rfl,hK⟩
 exact hK
end
end RegF
end Go.Proofs.YtnlimngkagmjpaaGreat
