/- Texts that the proof of CacheHolds leans on, part 9. -/
import Derived.Deep.Slices
import Derived.Deep.Grids
import Derived.ChangeArms
import Derived.Test.YtmllnpjldmdaeaaGreatCacheHoldsB8
set_option maxRecDepth 100000
set_option maxHeartbeats 8000000

namespace Go.Proofs.YtmllnpjldmdaeaaGreat
open Go Go.RowKit Lou
theorem setCells_blk {g:Nat}{T:TypeId}:∀(vs:List Value) (o:Nat) (w:World) (cs:Array Value),BlkIs w g T cs->∃cs',BlkIs (w.setCells g o vs) g T cs'/\cs'.size=cs.size/\(∀q,q<o->cs'[q]? = cs[q]?)/\GrowBut (fun k=>k=g) w (w.setCells g o vs)
  | [],o,w,cs,h=>⟨cs,h,rfl,fun _ _=>rfl,GrowBut.refl _ _⟩
  | v::r,o,w,cs,h=>by
    obtain⟨cs',h1,h2,h3,h4⟩:=setCells_blk r (o+1) (w.setCell ⟨g,o,none⟩ v) _ (h.set o v)
    refine⟨cs',h1,by rw[h2];simp,fun q hq => ?_,(GrowBut.setCell (Mu:=fun k=>k=g) w ⟨g,o,none⟩ v rfl).trans h4⟩
    rw[h3 q (by omega),Array.getElem?_setIfInBounds_ne (by omega)]
def keptD (p:Int->Bool)(ks:List Int)(j:Nat):List Int:=(ks.take j).filter fun k => !p k
theorem keptD_next (p:Int->Bool)(ks:List Int){j:Nat}(h:j<ks.length):keptD p ks (j+1)=keptD p ks j++(if p ks[j]=true then [] else [ks[j]]):=by
  unfold keptD
  rw[List.take_succ_eq_append_getElem h,List.filter_append]
  congr 1
  by_cases hp:p ks[j]=true
  · rw[if_pos hp];simp[hp]
  · rw[if_neg hp];simp[hp]
def DelRel (w:World)(g:Nat)(p:Int->Bool)(ks:List Int)(cs:Array Value)(i j:Nat)(wr:World):Prop :=
  i<j/\j<=ks.length/\(keptD p ks j).length=i/\∃cs',BlkIs wr g 3 cs'/\cs'.size=cs.size/\(∀q (h:q<(keptD p ks j).length),cs'[q]? = some (.int .i64 (keptD p ks j)[q]))/\(∀q,j<=q->cs'[q]? = cs[q]?)/\GrowBut (fun k=>k=g) w wr
theorem delete_gives (w:World)(gf:Nat)(lb:Array Value)(eg:∀args w,(callFunc gf args).run Tryz.prog w = .ok (.enter gf args) w)(p:Int->Bool)(g cap:Nat)(ks:List Int)(cs:Array Value)(hb:BlkIs w g 3 cs)(hr:∀j (h:j<ks.length),cs[j]? = some (.int .i64 ks[j]))(hcap:ks.length<=cap)(hl:ks.length<=1000000)
    (hp:∀W,GrowBut (fun k=>k=g) w W->∀k∈ks,Calls Tryz.prog gf (#[.int .i64 k] ++ lb) W fun e w'=>e = .returned (.bool (p k))/\W=w') :
    Calls Tryz.prog 79 #[.slice (some ⟨g,0,none⟩) ks.length cap,.func (.func gf) #[] lb] w fun e w'=>∃cs',e = .returned (.slice (some ⟨g,0,none⟩) (ks.filter fun k => !p k).length cap)/\BlkIs w' g 3 cs'/\(∀q (h:q<(ks.filter fun k => !p k).length),cs'[q]? = some (.int .i64 (ks.filter fun k => !p k)[q]))/\GrowBut (fun k=>k=g) w w':=by
  have HI:=index_gives w gf lb eg p g cap ks (fun j h=>by rw[hb.cell];exact hr j h) hcap hl (hp w (GrowBut.refl _ _))
  go_enter Tryz.func79,Tryz.ntmps79
  go_wp2_with (go_at_call 125;refine HI.mono ?_;rintro e w1 ⟨rfl,(⟨rfl,hall⟩|⟨i0,hi0,rfl,hpi,hpre⟩)⟩)
  · go_ret
    have e:(ks.filter fun k => !p k)=ks:=List.filter_eq_self.2 (fun k hk=>by rw[hall k hk];rfl)
    rw[e]
    exact⟨cs,rfl,hb,hr,GrowBut.refl _ _⟩
  · have hw0:IntKind.i64.wrap ((i0:Int)+1)=((i0+1:Nat):Int):=by rw[wrap_i64_fr _ (by omega) (by omega)];omega
    have hk0:keptD p ks (i0+1)=ks.take i0:=by
      rw[keptD_next p ks hi0,if_pos hpi,List.append_nil]
      exact List.filter_eq_self.2 (fun k hk=>by rw[hpre k hk];rfl)
    have h0:DelRel w g p ks cs i0 (i0+1) w:=by
      refine⟨by omega,by omega,by rw[hk0];simp;omega,cs,hb,rfl,fun q hq => ?_,fun q _=>rfl,GrowBut.refl _ _⟩
      simp only[hk0] at hq ⊢
      have hq2:q<i0:=by simp at hq;omega
      rw[hr q (by omega)]
      simp
    clear hpi hpre hk0 HI
    go_wp2
    go_loopw [5,6] (fun i j wr=>∃a b:Nat,i = .int .i64 (a:Int)/\j = .int .i64 (b:Int)/\DelRel w g p ks cs a b wr) (fun _ j _=>ks.length - (intOf j).toNat)
    case atStart=>exact⟨i0,i0+1,rfl,by simp,h0⟩
    case round =>
      clear h0 hw0 hi0
      obtain⟨a,b,rfl,rfl,hab,hbn,hka,cs',hb',hs',hpre,hsuf,hG⟩:=hrel
      by_cases hlt:b<ks.length
      · have hcb:wr.cell? ⟨g,b,none⟩=some (.int .i64 ks[b]):=by rw[hb'.cell,hsuf b (Nat.le_refl _)];exact hr b hlt
        have hpk:=hp wr hG ks[b] (List.getElem_mem hlt)
        have hnx:=keptD_next p ks hlt
        have hwb:IntKind.i64.wrap ((b:Int)+1)=(b:Int)+1:=wrap_i64_fr _ (by omega) (by omega)
        have hwa:IntKind.i64.wrap ((a:Int)+1)=(a:Int)+1:=wrap_i64_fr _ (by omega) (by omega)
        have hfa:=hb'.free a
        obtain⟨x,hx⟩:∃x,x=ks[b]:=⟨_,rfl⟩
        rw[<-hx] at hcb hpk hnx
        cases hpx:p x with
        | true =>
          rw[hpx,if_pos rfl,List.append_nil] at hnx
          rw[hpx] at hpk
          have HN:Hid (DelRel w g p ks cs a (b+1) wr):=Lib.hid ⟨by omega,by omega,by rw[hnx];exact hka,cs',hb',hs',fun q hq=>(by simp only[hnx] at hq ⊢;exact hpre q hq),fun q hq=>hsuf q (by omega),hG⟩
          clear hpx hx hnx hpre hsuf hka
          go_wp2_with (refine hpk.mono ?_;rintro e w' ⟨rfl,rfl⟩)
          refine⟨?_,by simp[intOf];omega⟩
          (repeat apply Exists.intro)
          exact⟨⟨a,b+1,rfl,(by first|rfl|simp),HN.out⟩,rfl⟩
        | false =>
          rw[hpx,if_neg (by decide)] at hnx
          rw[hpx] at hpk
          have ha:a<cs'.size:=by
            have h1:=(Array.getElem?_eq_some_iff.1 ((hsuf b (Nat.le_refl _)).trans (hr b hlt))).1
            omega
          have hca:(wr.cell? ⟨g,a,none⟩).isSome=true:=by rw[hb'.cell,Array.getElem?_eq_getElem ha];rfl
          have HN:Hid (DelRel w g p ks cs (a+1) (b+1) (wr.setCell ⟨g,a,none⟩ (.int .i64 x))):=Lib.hid ⟨by omega,by omega,by rw[hnx,List.length_append,hka];rfl,_,hb'.set a (.int .i64 x),by rw[Array.size_setIfInBounds];exact hs',fun q hq=>(by
            simp only[hnx] at hq ⊢
            rw[List.length_append,List.length_singleton,hka] at hq
            by_cases hqa:q=a
            · subst hqa
              rw[Array.getElem?_setIfInBounds_self_of_lt ha]
              have e:(keptD p ks b++[x])[q]? = some x:=by rw[List.getElem?_append_right (by omega),hka,Nat.sub_self];rfl
              rw[List.getElem?_eq_getElem (by rw[List.length_append,List.length_singleton,hka];omega)] at e
              rw[Option.some.inj e]
            · rw[Array.getElem?_setIfInBounds_ne (fun e=>hqa e.symm),hpre q (by omega)]
              have e:(keptD p ks b++[x])[q]? = some ((keptD p ks b)[q]'(by omega)):=by rw[List.getElem?_append_left (by omega),List.getElem?_eq_getElem (by omega)]
              rw[List.getElem?_eq_getElem (by rw[List.length_append,List.length_singleton,hka];omega)] at e
              rw[Option.some.inj e]),fun q hq=>(by rw[Array.getElem?_setIfInBounds_ne (by omega)];exact hsuf q (by omega)),hG.trans (GrowBut.setCell (Mu:=fun k=>k=g) _ _ _ rfl)⟩
          have hacap:a<cap:=by omega
          have haks:a<ks.length:=by omega
          obtain⟨va,hva⟩:=Option.isSome_iff_exists.1 hca
          clear hpx hx hnx hpre hsuf hka hca
          go_wp2_with (refine hpk.mono ?_;rintro e w' ⟨rfl,rfl⟩)
          refine⟨?_,by simp[intOf];omega⟩
          (repeat apply Exists.intro)
          exact⟨⟨a+1,b+1,(by first|rfl|simp),(by first|rfl|simp),HN.out⟩,rfl⟩
      · have hbn2:b=ks.length:=by omega
        subst hbn2
        have ek:keptD p ks ks.length=ks.filter fun k => !p k:=by unfold keptD;rw[List.take_length]
        have hpreN:Hid (∀q (h:q<(ks.filter fun k => !p k).length),cs'[q]? = some (.int .i64 (ks.filter fun k => !p k)[q])):=Lib.hid (fun q hq=>by have h2:=hpre q (by rw[ek];exact hq);rw[h2];simp only[ek])
        rw[ek] at hka
        have hck:∀j,j<ks.length->(wr.cell? ⟨g,j,none⟩).isSome=true:=fun j hj=>by
          have h1:=(Array.getElem?_eq_some_iff.1 (hr j hj)).1
          rw[hb'.cell,Array.getElem?_eq_getElem (by omega)]
          rfl
        have hcl:∀ty,(Builtin.clear_ #[54] ty #[.slice (some ⟨g,a,none⟩) (ks.length - a) (cap - a)]).run Tryz.prog wr = .ok (.tuple #[]) (wr.setCells g a (List.replicate (ks.length - a) (.int .i64 0))):=fun ty =>
          Lib.run_clear_slice wr _ 3 ty (.int .i64 0) Tryz.underlying54 (fun w=>by kernel_rfl) rfl rfl g a _ _ (by omega) (fun j hj=>hck (a+j) (by omega)) (fun j hj=>hb'.free (a+j))
        obtain⟨cs2,hb2,hs2,hpre2,hG2⟩:=setCells_blk (List.replicate (ks.length - a) (.int .i64 0)) a wr cs' hb'
        have hac:a<=cap:=by omega
        have han:a<=ks.length:=by omega
        have hN:Hid (∀q (h:q<(ks.filter fun k => !p k).length),cs2[q]? = some (.int .i64 (ks.filter fun k => !p k)[q])):=Lib.hid (fun q hq=>by rw[hpre2 q (by omega)];exact hpreN.out q hq)
        clear hpre hsuf hpre2 hpreN hck
        go_wp2
        go_ret
        exact⟨cs2,by rw[hka];rfl,hb2,hN.out,hG.trans hG2⟩
end Go.Proofs.YtmllnpjldmdaeaaGreat
namespace Go.Proofs.YtmllnpjldmdaeaaGreat
open Go Go.RowKit Go.Shelf
attribute [local go_sem] Oper.semAt_some
def KeepU (U:Nat->Prop)(W W':World):Prop:=W.heap.size<=W'.heap.size/\∀k o,W.heap[k]? = some o->¬ U k->W'.heap[k]? = some o
theorem KeepU.refl (U:Nat->Prop)(W:World):KeepU U W W:=⟨Nat.le_refl _,fun _ _ h _=>h⟩
theorem KeepU.trans {U:Nat->Prop}{X Y Z:World}(h:KeepU U X Y)(k:KeepU U Y Z):KeepU U X Z:=⟨Nat.le_trans h.1 k.1,fun i o hi hm=>k.2 i o (h.2 i o hi hm) hm⟩
theorem KeepU.grow (U:Nat->Prop){X Y:World}(h:Below X.heap.size X Y):KeepU U X Y:=⟨h.size,fun k o hk _=>(h.block k (Array.getElem?_eq_some_iff.1 hk).1).trans hk⟩
theorem KeepU.grown (U:Nat->Prop){X Y:World}{row:Option Nat}(h:X.grownBy Y row)(hr:∀r,row=some r->U r):KeepU U X Y:=⟨h.size,fun k o hk hn=>(h.block k (Array.getElem?_eq_some_iff.1 hk).1 (fun e=>hn (hr k e.symm))).trans hk⟩
theorem KeepU.setCell {U:Nat->Prop}(X:World)(p:Addr)(v:Value)(hm:U p.block):KeepU U X (X.setCell p v) :=
  ⟨by simp,fun k o hk hn=>(Below.heap_setCell X p v k (fun e=>hn (by rw[e];exact hm))).trans hk⟩
theorem KeepU.cell {U:Nat->Prop}{X Y:World}(h:KeepU U X Y){p:Addr}{v:Value}(hc:X.cell? p=some v)(hm:¬ U p.block):Y.cell? p=some v:=by
  have hb:∃o,X.heap[p.block]? = some o:=by
    cases ho:X.heap[p.block]? with
    | none=>simp[World.cell?,ho] at hc
    | some o=>exact⟨o,rfl⟩
  obtain⟨o,ho⟩:=hb
  rw[World.cell?_of_block ((h.2 _ o ho hm).trans ho.symm)]
  exact hc
theorem KeepU.blk {U:Nat->Prop}{X Y:World}(h:KeepU U X Y){g:Nat}{t:TypeId}{cs:Array Value}(hb:BlkIs X g t cs)(hm:¬ U g):BlkIs Y g t cs:=h.2 _ _ hb hm
def LaterU (n:Nat)(U U':Nat->Prop):Prop:=∀k,U' k->U k∨n<=k
theorem LaterU.refl (n:Nat)(U:Nat->Prop):LaterU n U U:=fun _ h => .inl h
theorem LaterU.trans {n m:Nat}{U V X:Nat->Prop}(h:LaterU n U V)(k:LaterU m V X)(hn:n<=m):LaterU n U X:=fun j hj=>(k j hj).elim (fun e=>h j e) (fun e => .inr (by omega))
def StB {α : Type}(J:List α -> (Nat->Prop)->World->Prop):Prop:=∀s U X Y,J s U X->Below X.heap.size X Y->J s U Y
def StU {α : Type}(B:Nat)(I:List α -> (Nat->Prop)->World->Prop):Prop:=∀s U X Y row,I s U X->X.grownBy Y row->(∀r,row=some r->B<=r/\∃o:Obj,X.heap[r]? = some o/\o.isCells=false)->I s U Y
theorem StU.b {α : Type}{B:Nat}{I:List α -> (Nat->Prop)->World->Prop}(h:StU B I):StB I:=fun s U X Y hs hg=>h s U X Y none hs ⟨hg.os,hg.tape,hg.output,hg.size,fun k hk _=>hg.block k hk⟩ (fun r e=>by cases e)
theorem StU.putObj {α : Type}{B:Nat}{I:List α -> (Nat->Prop)->World->Prop}(h:StU B I){s:List α}{U:Nat->Prop}{X:World}{l:Nat}{o':Obj}(o:Obj)(hs:I s U X)(hl:B<=l)(ho:X.heap[l]? = some o')(hm:o'.isCells=false):I s U (X.putObj l o) :=
  h s U X _ (some l) hs (grownBy_putObj' X l o) (fun r e=>by cases e;exact⟨hl,_,ho,hm⟩)
def SeqU {α : Type}(F:Fence)(n:Nat)(P:Program)(g:Nat)(lb:Array Value)(encs : α -> Array Value)(Ok:(Nat->Prop)->Prop)(Rd:List α -> α -> World->Prop)(S Sp:List α -> Prop)(w:World):Prop :=
  ∀(l:Nat) (J Jx:List α -> (Nat->Prop)->World->Prop) (U0:Nat->Prop) (W:World),Below w.heap.size w W->Ok U0->StB J->(∀s U X,J s U X->∀k,U k->k<X.heap.size) ->
    (∀pre x U W1,J pre U W1->Rd pre x W1->YieldAt F (n - 1) P l (encs x) W1 fun e W' =>
      (e = .returned (.bool true)/\∃U',LaterU W1.heap.size U U'/\J (pre++[x]) U' W'/\KeepU U W1 W')∨(e = .returned (.bool false)/\∃U',Jx (pre++[x]) U' W')) ->
    J [] U0 W ->
    CallsIn F n P g (#[.func (.yield l) #[] #[]] ++ lb) W fun e W'=>(∃v,e = .returned v)/\((∃xs U',S xs/\J xs U' W')∨(∃pre U',Sp pre/\Jx pre U' W'))
def postU {α : Type}(I:List α -> (Nat->Prop)->World->Prop)(Ix:Code->List α -> (Nat->Prop)->World->Prop)(U:Nat->Prop)(xs:List α)(W:World):Exit->Act->World->Prop
  | .normal,_,W'=>∃U',LaterU W.heap.size U U'/\KeepU U W W'/\I xs U' W'
  | .ret,_,W'=>∃U',KeepU U W W'/\Ix .ret xs U' W'
  | .exit id,_,W'=>∃U',KeepU U W W'/\Ix (.exit id) xs U' W'
  | .goto t,_,W'=>∃U',KeepU U W W'/\Ix (.goto t) xs U' W'
  | .panic _,_,_=>False
  | .outgrown,_,_=>False
section
variable {F:Fence}{n:Nat}{P:Program}{w:World}
theorem wpIn_rangeFunc_U {α : Type}{g:Operand}{ps:Array Tmp}{assign body:Code}{Q:Exit->Act->World->Prop}{a:Act}
    (hro:F.round=none) (h1:1<=n) {gf:Nat} {lb:Array Value} (hg:a.eval g = .func (.func gf) #[] lb) (hFg:F.fn gf) (eg:∀args w,(callFunc gf args).run P w = .ok (.enter gf args) w)
    {encs : α -> Array Value} {Ok:(Nat->Prop)->Prop} {Rd:List α -> α -> World->Prop} {S Sp:List α -> Prop} {w0:World} (hseq:SeqU F (n - 1) P gf lb encs Ok Rd S Sp w0)
    (hb0:Below w0.heap.size w0 w) (hps:∀x,(encs x).size=ps.size) (U0:Nat->Prop) (hU0:Ok U0)
    (I:List α -> (Nat->Prop)->World->Prop) (Ix:Code->List α -> (Nat->Prop)->World->Prop) (hI:StU w.heap.size I) (hIx:∀c,StU w.heap.size (Ix c)) (hIl:∀s U X,I s U X->∀k,U k->k<X.heap.size)
    (hRd:∀pre x,OwnFrom w.heap.size (fun (_:Unit) W=>Rd pre x W)) (h0:I [] U0 w) (a₁ : α -> Act)
    (hassign:∀(l:Nat) (x : α) (W:World) (K:Act->World->Prop),K (a₁ x) W ->
      assign.wpIn (F.inRound l) (n - 1 - 1) P (Exit.then K (fun _ _ _=>False)) { tmps:=(ps.zip (encs x)).foldl (fun t (p,v)=>t.setIfInBounds p v) a.tmps,defers:=[] } W)
    (hbody:∀(l:Nat) (pre:List α) (x : α) (U:Nat->Prop) (W:World),I pre U W->Rd pre x W->body.wpIn (F.inRound l) (n - 1 - 1) P (postU I Ix U (pre++[x]) W) (a₁ x) W)
    (hdone:∀(D:Nat) (xs:List α) (U:Nat->Prop) (W:World),w.heap.size<=D->S xs->I xs U W->W.heap[D]? = some (.deferred (some []))->Q .normal { a with defers:={ target:=.collected D,args:=#[] }::a.defers } W)
    (hstop:∀(D:Nat) (c:Code) (pre:List α) (U:Nat->Prop) (W:World),w.heap.size<=D->Sp pre->Ix c pre U W->W.heap[D]? = some (.deferred (some []))->c.wpIn F n P Q { a with defers:={ target:=.collected D,args:=#[] }::a.defers } W) :
    (Code.rangeFunc g ps assign body).wpIn F n P Q a w:=by
  refine wpIn_rangeFunc fun fn hfn => ?_
  rw[hro]
  -- the loop's record, and the world that bears it and the block for deferred calls
  obtain⟨rec,hrec⟩:∃rec:LoopState->Option Code->Loop,rec=fun st pe => { state:=st,pending:=pe,fn,tmps:=a.tmps,params:=ps,assign,body,defers:=w.heap.size }:=⟨_,rfl⟩
  obtain⟨V,hV⟩:∃V,(w.alloc (.deferred (some []))).alloc (.loop (rec .ready none))=V:=⟨_,rfl⟩
  have vL:V.heap[w.heap.size+1]? = some (.loop (rec .ready none)):=by
    subst hV
    have:=World.alloc_heap_new (w.alloc (.deferred (some []))) (.loop (rec .ready none))
    rwa [World.size_alloc] at this
  have vD:V.heap[w.heap.size]? = some (.deferred (some [])):=by
    subst hV
    exact(Below.heap_alloc _ _ _ (by simp)).trans (World.alloc_heap_new w _)
  have vBw:Below w.heap.size w V:=by
    subst hV
    exact((Below.refl _ w).alloc (Nat.le_refl _) _).alloc (by simp) _
  have vI:I [] U0 V:=hI.b _ _ _ _ h0 vBw
  have vS:V.heap.size=w.heap.size+2:=by subst hV;simp
  have vB:Below w0.heap.size w0 V:=hb0.trans (vBw.mono hb0.size)
  refine⟨w.heap.size+1,[{ target:=.collected w.heap.size,args:=#[] }],V,{ target:=.fn (.func gf) lb,args:=#[.func (.yield (w.heap.size+1)) #[] #[]] },V,gf,#[.func (.yield (w.heap.size+1)) #[] #[]] ++ lb,V,?_,?_,?_,?_,fun _=>h1,?_⟩
  · rw[<-hV,hrec];exact run_enterLoop_outer _ _ _ _ _
  · simp only[resolve,hg]
    simp[go_sem]
  · intro f' hf'
    simp[Target.leads] at hf'
    subst hf'
    exact hFg
  · simp[invoke,go_sem,eg]
  have atB:∀{A B:World} {k:Nat} {o:Obj},A.heap[k]? = some o->Below A.heap.size A B->B.heap[k]? = some o:=fun hk hg=>(hg.block _ (Array.getElem?_eq_some_iff.1 hk).1).trans hk
  refine(hseq (w.heap.size+1)
    (fun pre U W=>I pre U W/\W.heap[w.heap.size+1]? = some (.loop (rec .ready none))/\W.heap[w.heap.size]? = some (.deferred (some []))/\¬ U w.heap.size/\¬ U (w.heap.size+1))
    (fun pre U W=>∃c,Ix c pre U W/\W.heap[w.heap.size+1]? = some (.loop (rec .done (some c)))/\W.heap[w.heap.size]? = some (.deferred (some [])))
    U0 V vB hU0
    (fun s U A B hs hg=>⟨hI.b s U A B hs.1 hg,atB hs.2.1 hg,atB hs.2.2.1 hg,hs.2.2.2⟩)
    (fun s U X hs=>hIl s U X hs.1)
    ?round ⟨vI,vL,vD,fun e=>by have:=hIl _ _ _ h0 _ e;omega,fun e=>by have:=hIl _ _ _ h0 _ e;omega⟩).mono ?behind
  case round =>
    rintro pre x U W ⟨hi,hl,hk,hnD,hnL⟩ hrd
    have hlt:w.heap.size+1<W.heap.size:=(Array.getElem?_eq_some_iff.1 hl).1
    have hy:=run_yield (P:=P) (args:=encs x) hl (by rw[hrec];exact hps x)
    rw[hrec] at hy
    refine⟨fn,_,assign,body,hy,roundIn_of_wpIn hfn (hassign _ x W _ ⟨_,run_beginRound hl (by rw[hrec]),?_⟩)⟩
    clear hy
    have bL:(W.putObj (w.heap.size+1) (.loop { rec .ready none with state:=.busy })).heap[w.heap.size+1]? = some (.loop { rec .ready none with state:=.busy }):=World.putObj_heap_same hlt
    have bD:(W.putObj (w.heap.size+1) (.loop { rec .ready none with state:=.busy })).heap[w.heap.size]? = some (.deferred (some [])):=(World.putObj_heap_other (by omega)).trans hk
    refine wpIn_mono (hbody _ pre x U _ (hI.putObj _ hi (by omega) hl rfl) ((hRd pre x).putObj (s:=()) _ hrd (by omega) hl rfl)) ?_
    -- the round's end
    have fin:∀(jump:Option Code) (Z:World),KeepU U (W.putObj (w.heap.size+1) (.loop { rec .ready none with state:=.busy })) Z ->
        (Instr.endRound (w.heap.size+1) jump).run P Z = .ok (.bool jump.isNone) (Z.putObj (w.heap.size+1) (.loop (rec (if jump.isNone then .ready else .done) jump))) /\
        Z.heap[w.heap.size+1]? = some (.loop { rec .ready none with state:=.busy }) /\
        (Z.putObj (w.heap.size+1) (.loop (rec (if jump.isNone then .ready else .done) jump))).heap[w.heap.size+1]? = some (.loop (rec (if jump.isNone then .ready else .done) jump)) /\
        (Z.putObj (w.heap.size+1) (.loop (rec (if jump.isNone then .ready else .done) jump))).heap[w.heap.size]? = some (.deferred (some [])):=fun jump Z hkU=>by
      have uL:=hkU.2 _ _ bL hnL
      have:=run_endRound (P:=P) jump uL
      rw[hrec] at this ⊢
      exact⟨this,by rw[hrec] at uL;exact uL,World.putObj_heap_same (Array.getElem?_eq_some_iff.1 uL).1,(World.putObj_heap_other (by omega)).trans (hkU.2 _ _ bD hnD)⟩
    have out:∀(c:Code) (U':Nat->Prop) (Z:World),KeepU U (W.putObj (w.heap.size+1) (.loop { rec .ready none with state:=.busy })) Z->Ix c (pre++[x]) U' Z ->
        (∃c',Ix c' (pre++[x]) U' (Z.putObj (w.heap.size+1) (.loop (rec .done (some c))))/\(Z.putObj (w.heap.size+1) (.loop (rec .done (some c)))).heap[w.heap.size+1]? = some (.loop (rec .done (some c')))/\(Z.putObj (w.heap.size+1) (.loop (rec .done (some c)))).heap[w.heap.size]? = some (.deferred (some []))):=fun c U' Z hkU hix=>by
      obtain⟨_,h3,h4,h5⟩:=fin (some c) Z hkU
      exact⟨c,(hIx c).putObj _ hix (by omega) h3 rfl,h4,h5⟩
    rintro e a3 Z hp
    cases e with
    | normal =>
      obtain⟨U',hL3,hk3,hi3⟩:=hp
      obtain⟨hr,h3,h4,h5⟩:=fin none Z hk3
      have hsz:(W.putObj (w.heap.size+1) (.loop { rec .ready none with state:=.busy })).heap.size=W.heap.size:=by simp[World.putObj]
      rw[hsz] at hL3
      refine⟨_,_,hr,.inl ⟨rfl,U',hL3,⟨hI.putObj _ hi3 (by omega) h3 rfl,h4,h5,fun e => ?_,fun e => ?_⟩,by have:=hk3.1;simpa using this,fun k o hk hm => ?_⟩⟩
      · rcases hL3 _ e with h|h
        · exact hnD h
        · omega
      · rcases hL3 _ e with h|h
        · exact hnL h
        · omega
      · by_cases hkl:k=w.heap.size+1
        · subst hkl
          rw[hl] at hk
          rw[<-hk]
          exact h4
        · rw[World.putObj_heap_other hkl]
          exact hk3.2 k o (by rw[World.putObj_heap_other hkl];exact hk) hm
    | ret =>
      obtain⟨U',hk3,hi3⟩:=hp
      exact⟨_,_,(fin (some .ret) Z hk3).1,.inr ⟨rfl,U',out .ret U' Z hk3 hi3⟩⟩
    | exit id =>
      obtain⟨U',hk3,hi3⟩:=hp
      exact⟨_,_,(fin (some (.exit id)) Z hk3).1,.inr ⟨rfl,U',out (.exit id) U' Z hk3 hi3⟩⟩
    | goto t =>
      obtain⟨U',hk3,hi3⟩:=hp
      exact⟨_,_,(fin (some (.goto t)) Z hk3).1,.inr ⟨rfl,U',out (.goto t) U' Z hk3 hi3⟩⟩
    | panic ch=>exact hp.elim
    | outgrown=>exact hp.elim
  case behind =>
    rintro e Z ⟨⟨v,rfl⟩,(⟨xs,U',hS,hi,hl,hk,_⟩|⟨pre,U',hSp,c,hi,hl,hk⟩)⟩
    · have hr:=run_endLoop (P:=P) hl (by rw[hrec];simp)
      rw[hrec] at hr
      exact⟨none,_,hr,hdone _ xs U' _ (Nat.le_refl _) hS (hI.putObj _ hi (by omega) hl rfl) ((World.putObj_heap_other (by omega)).trans hk)⟩
    · have hr:=run_endLoop (P:=P) hl (by rw[hrec];simp)
      rw[hrec] at hr
      exact⟨some c,_,hr,hstop _ c pre U' _ (Nat.le_refl _) hSp ((hIx c).putObj _ hi (by omega) hl rfl) ((World.putObj_heap_other (by omega)).trans hk)⟩
end
end Go.Proofs.YtmllnpjldmdaeaaGreat
namespace Go.Proofs.YtmllnpjldmdaeaaGreat
open Go Go.RowKit Lou



end Go.Proofs.YtmllnpjldmdaeaaGreat
namespace Go.Proofs.YtmllnpjldmdaeaaGreat
open Go Go.RowKit Lou Go.Shelf
attribute [local go_sem] Oper.semAt_some
section
variable {w:World}{o:Oper}{ρ:Operand->Value}
end
theorem ownG_kept {W W':World}{base sz n:Nat}{T:TypeId}{v:Value}{cs:List Value}{row:Option Nat}(h:W.ownsRow base T sz v n cs)(hg:W.grownBy W' row)(hr:∀r,row=some r->∃o:Obj,W.heap[r]? = some o/\o.isCells=false):W'.ownsRow base T sz v n cs:=by
  refine ownG_later h fun r hv=>hg.block r (ownG_lt h r hv) fun e => ?_
  obtain⟨o,ho,hc⟩:=hr r e.symm
  rcases h.2 with⟨rfl,_⟩|⟨g,cap,cur,rfl,_,hq,_⟩
  · cases hv
  · injection hv with hv
    subst hv
    rw[hq] at ho
    injection ho with ho
    subst ho
    cases hc
section
set_option maxRecDepth 100000
variable {F:Fence}{n:Nat}{w:World}{ops:Array Oper}{rest:List Oper}{o:Oper}{a:Act}{Q:Exit->Act->World->Prop}
end
end Go.Proofs.YtmllnpjldmdaeaaGreat
namespace Go.Proofs.YtmllnpjldmdaeaaGreat
open Go Go.RowKit Lou
theorem num8_gives (e:Int)(w:World):Calls Tryz.prog 8 #[.int .i64 e] w fun x w'=>x = .returned (.int .i64 e)/\w=w':=by
  go_enter Tryz.func8,Tryz.ntmps8
  go_wp2
  go_ret
  exact⟨rfl,rfl⟩
theorem page8_gives (w:World)(v:UInt8):Calls Tryz.prog 10 #[.int .u8 (v.toNat:Int)] w (GivesB w (pgL v)):=by
  have hv:=v.toNat_lt
  have hu:UInt8.ofNat v.toNat=v:=by simp
  obtain⟨F,hF⟩:∃F:Nat->List UInt8,F=fun k=>List.replicate k v++List.replicate (512 - k) 0:=⟨_,rfl⟩
  have hF0:F 0=List.replicate 512 0:=by rw[hF];rfl
  have hFn:F 512=pgL v:=by rw[hF];simp[pgL]
  have hFs:Hid (∀k,k<512->(F k).set k (UInt8.ofNat v.toNat)=F (k+1)):=Lib.hid (by rw[hF,hu];exact fun k h=>fill_nextP v k h)
  have hFl:Hid (∀k,k<=512->(F k).length=512):=Lib.hid (by rw[hF];intro k h;simp;omega)
  obtain⟨x,hx⟩:∃x,x=v.toNat:=⟨_,rfl⟩
  rw[<-hx] at hFs hv ⊢
  rw[<-hFn]
  clear hF hu hx hFn
  go_enter Tryz.func10,Tryz.ntmps10
  go_wp2_with (refine wp_makeB rfl _ _ rfl w.heap.size .i64 .i64 512 rfl rfl (by omega) (Nat.le_refl _) ?_;intro w1 own1 hg1;have hB1:Below w.heap.size w w1:=grown_below hg1 (Nat.le_refl _) (fun r hr=>by cases hr))
  rw[<-hF0] at own1
  have hgw:w.heap.size<w1.heap.size:=by
    rcases own1.form with⟨h1,_⟩|⟨g',cap',h1,h2,h3,h4⟩
    · cases h1
    · exact ownG_lt own1 w.heap.size rfl
  clear hF0
  go_loopw [4] (fun i wr=>∃k:Nat,k<=512/\i = .int .i64 k/\OwnB wr w.heap.size (.slice (some ⟨w.heap.size,0,none⟩) 512 512) (F k)/\Below w.heap.size w wr) (fun i _=>512 - (intOf i).toNat)
  case atStart=>exact⟨0,by omega,rfl,own1,hB1⟩
  case round =>
    obtain⟨k,hk,rfl,ownr,hBr⟩:=hrel
    by_cases hlt:k<512
    · have hwk:IntKind.i64.wrap ((k:Int)+1)=(k:Int)+1:=wrap_i64_fr _ (by omega) (by omega)
      have hc:=ownr.cell k (by rw[hFl.out k hk];exact hlt)
      have hfz:=ownr.free k
      have own2:=ownr.set k x hv
      rw[hFs.out k hlt] at own2
      go_wp2
      exact⟨⟨k+1,by omega,by simp,own2,hBr.setCell (p:=⟨w.heap.size,k,none⟩) (Nat.le_refl _) _⟩,by simp[intOf];omega⟩
    · obtain rfl:k=512:=by omega
      go_wp2
      go_ret
      exact⟨_,rfl,ownr,hBr⟩
section
variable (w:World)(p q many many':Nat)(g g':Nat->List UInt8)(xs xs':List (Nat×List UInt8))(left left':Int)(stops stops':Bool)
end


theorem two_oneR {v0 v1:Value}(h0:v0.oneCell'=true)(h1:v1.oneCell'=true):∀v∈(#[v0,v1]:Array Value).toList,v.oneCell'=true:=by
  intro v hv
  simp at hv
  rcases hv with rfl|rfl<;>assumption
theorem InG.noText {w:World}{B q g o n c:Nat}{xs:List (Nat×List UInt8)}{cs:Array Value}{T:TypeId}(h:InG w B 2 (some ⟨g,o,none⟩) n c (wsC xs))(h0:0<n)(hb:BlkIs w q T cs)(hs:∀(i:Nat) (s:ByteArray),cs[i]? ≠ some (Value.string s)):g≠q:=by
  intro e
  subst e
  obtain⟨g',o',e,_,hr⟩:=h.lies h0
  injection e with e
  injection e with e1 e2
  subst e1 e2
  cases xs with
  | nil=>have:=h.len;simp[wsC] at this;omega
  | cons x t =>
    have:=hr 1 (.string (str x.2)) rfl
    rw[hb.cell] at this
    exact hs _ _ this
theorem InG.grownT {w w':World}{q n c:Nat}{A:Option Addr}{xs:List (Nat×List UInt8)}{cs:Array Value}{T:TypeId}(h:InG w w.heap.size 2 A n c (wsC xs))(hb:BlkIs w q T cs)(hs:∀(i:Nat) (s:ByteArray),cs[i]? ≠ some (Value.string s))(hg:w.grownBy w' (some q)):InG w' w'.heap.size 2 A n c (wsC xs):=by
  refine⟨h.le,h.max,h.nil,h.len,h.one,fun h0 => ?_⟩
  obtain⟨g,o,e,hl,hr⟩:=h.lies h0
  subst e
  have hne:=h.noText h0 hb hs
  exact⟨g,o,rfl,Nat.lt_of_lt_of_le hl hg.size,fun j v hj=>(World.cell?_of_block (hg.block g hl (fun e=>hne (by injection e)))).trans (hr j v hj)⟩
theorem RIs.grownT {w w':World}{q:Nat}{sy ls:List (Nat×List UInt8)}{As Al:Option Addr}{cs cl:Nat}{bs:Array Value}{T:TypeId}(h:RIs w w.heap.size sy ls As cs Al cl)(hb:BlkIs w q T bs)(hs:∀(i:Nat) (s:ByteArray),bs[i]? ≠ some (Value.string s))(hg:w.grownBy w' (some q)):RIs w' w'.heap.size sy ls As cs Al cl:=⟨h.s.grownT hb hs hg,h.l.grownT hb hs hg⟩
theorem noText4 (a b:Int)(A A':Option Addr)(n c n' c':Nat):∀(i:Nat) (s:ByteArray),(#[.int .i64 a,.slice A n c,.slice A' n' c',.int .i64 b]:Array Value)[i]? ≠ some (Value.string s):=fun i s=>by
  match i with
  | 0=>simp
  | 1=>simp
  | 2=>simp
  | 3=>simp
  | i+4=>simp
section
variable (fr pg n:Int)
theorem refSectors_gives (w:World)(h1:1<=fr/\fr<=2000)(h2:1<=pg/\pg<=2000):Calls Tryz.prog 16 #[.agg #[.int .i64 fr,.int .i64 pg]] w fun e w'=>e = .returned (.int .i64 (2+9*fr+8*pg))/\Below w.heap.size w w':=by
  have e1:IntKind.i64.wrap (9*fr)=9*fr:=wrap_i64_fr _ (by omega) (by omega)
  have e2:IntKind.i64.wrap (2+9*fr)=2+9*fr:=wrap_i64_fr _ (by omega) (by omega)
  have e3:IntKind.i64.wrap (8*pg)=8*pg:=wrap_i64_fr _ (by omega) (by omega)
  have e4:IntKind.i64.wrap (2+9*fr+8*pg)=2+9*fr+8*pg:=wrap_i64_fr _ (by omega) (by omega)
  go_enter Tryz.func16,Tryz.ntmps16
  go_wp2
  go_ret
  exact⟨rfl,(Below.refl _ _).alloc (Nat.le_refl _) _⟩
end
end Go.Proofs.YtmllnpjldmdaeaaGreat
namespace Go.Proofs.YtmllnpjldmdaeaaGreat
open Go Lou Go.ChangeShapes Go.WideShapes Go.ChangeAt Go.RowKit
theorem flat_getC {α : Type}{C : α -> List Value}{sz:Nat}(hC:∀x,(C x).length=sz):∀(s:List α) (j:Nat) (v:Value),((s.map C).flatten)[j]? = some v->∃i q,∃hi:i<s.length,j=i*sz+q/\q<sz/\(C s[i])[q]? = some v
  | [],j,v,h=>by simp at h
  | x::s,j,v,h=>by
    have e:((x::s).map C).flatten=C x++(s.map C).flatten:=rfl
    rw[e] at h
    by_cases hj:j<(C x).length
    · rw[List.getElem?_append_left hj] at h
      exact⟨0,j,by simp,by omega,by rw[<-hC x];exact hj,by simpa using h⟩
    · rw[List.getElem?_append_right (by omega)] at h
      obtain⟨i,q,hi,e1,hq,e2⟩:=flat_getC hC s _ v h
      rw[hC] at e1 hj
      refine⟨i+1,q,by simpa using hi,?_,hq,by simpa using e2⟩
      rw[Nat.succ_mul]
      omega
section
variable {H:Type}{enc:TypeId×Value->H}{W:World}{r:Reach}{b0 b1:Nat}{held:Bool}{v:Value}{d:DataW H}{p:List MemPlace}
theorem one_rowC {α : Type}[Inhabited α](C : α -> List Value){sz:Nat}(hz:0<sz)(hC:∀x,(C x).length=sz)(h1:∀x,∀v∈C x,v.oneCell'=true){T E:TypeId}(hT:Tryz.prog.underlying T=some (.slice E))(hE:Tryz.prog.cellsOf E=sz)
    (hel:∀(n:Nat) (cs:List Value) (x:DataW H×List MemPlace),cs.length=sz->DataW.trod enc Tryz.prog W b1 (fun _=>true) held n E cs=some x->∃y : α,cs=C y)
    {n:Nat} {c:Value} {x:DataW H×List MemPlace} (h:DataW.trod enc Tryz.prog W b1 (fun _=>true) held n T [c]=some x):∃A k,∃s:List α,c = .slice A s.length k/\InG W W.heap.size sz A s.length k ((s.map C).flatten)/\(s=[]∨∃elems sp,x.1 = .slice elems sp/\elems.length=s.length):=by
  rcases Go.Deep.open_slice hT h with⟨hcs,_⟩|⟨a,len,cap,m,n',D,Pl,hcs,hb,hl,hm,hmm,hxd,hx⟩
  · simp at hcs
    exact⟨none,0,[],hcs,InG.mt _ _ _,.inl rfl⟩
  · simp at hcs
    simp only[if_true] at hmm
    subst hmm
    rw[hE] at hx
    obtain⟨B,hB⟩:=Go.Deep.choose_lt (α:=α) (p:=fun i y=>∀j (hj:j<(C y).length),W.cell? ((a.add (i*sz)).add j)=some (C y)[j]) (fun i hi=>by
      obtain⟨cs',h3,h4⟩:=hx i hi
      obtain⟨_,hlen,hcell⟩:=World.cells?_some h3
      obtain⟨y,rfl⟩:=hel _ _ _ hlen h4
      exact⟨y,fun j hj=>(hcell j (by omega)).trans (List.getElem?_eq_getElem hj)⟩)
    refine⟨some a,m,(List.range len).map B,by simpa using hcs,?_⟩
    have hln:((List.range len).map B).length=len:=by simp
    refine⟨?_,.inr ⟨_,_,congrArg Prod.fst hxd,by simp⟩⟩
    refine⟨by rw[hln];exact hl,by unfold maxLen at hm;omega,(fun e=>by cases e),?_,?_,fun h0 => ?_⟩
    · rw[List.length_flatten,List.map_map,hln]
      have:(List.map (List.length ∘ C) ((List.range len).map B))=List.replicate len sz:=by
        rw[List.eq_replicate_iff]
        refine⟨by simp,fun b hb => ?_⟩
        obtain⟨y,_,rfl⟩:=List.mem_map.1 hb
        exact hC y
      rw[this,List.sum_replicate_nat]
    · intro v hv
      obtain⟨l,hl',hv⟩:=List.mem_flatten.1 hv
      obtain⟨y,_,rfl⟩:=List.mem_map.1 hl'
      exact h1 y v hv
    · rw[hln] at h0
      obtain⟨b,off,spot⟩:=a
      have hc0:=hB 0 (by omega) 0 (by rw[hC];exact hz)
      have hspot:spot=none:=by simpa[Addr.add] using World.cell?_spot hc0
      subst hspot
      have hbl:b<W.heap.size:=by simpa[Addr.add] using cell_block_lt hc0
      refine⟨b,off,rfl,hbl,fun j v hj => ?_⟩
      obtain⟨i,q,hi,rfl,hq,e⟩:=flat_getC hC _ j v hj
      have hi':=hi
      rw[hln] at hi'
      have hg:((List.range len).map B)[i]=B i:=by simp
      rw[hg] at e
      obtain⟨hq2,e⟩:=List.getElem?_eq_some_iff.1 e
      have:=hB i (by omega) q hq2
      rw[Addr.add_mid,Addr.add_mid,e] at this
      rw[<-Nat.add_assoc]
      exact this
instance {W:World}:Inhabited { x:AcV // AcIs W W.heap.size x }:=⟨⟨⟨0,0,[],none,0,[],none,0,[],none,0⟩,InG.mt _ _ _,InB.mt _ _,InG.mt _ _ _⟩⟩
end
end Go.Proofs.YtmllnpjldmdaeaaGreat
