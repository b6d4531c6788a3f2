/- Texts that the proof of WalkHolds leans on, part 5. -/
import Derived.Recover
import Derived.Deep.RegionLaw
import Derived.Deep.Upon
import Derived.Test.YtohmkffoojdahaaGreatWalkHoldsB4
open List renaming replicate->zP
open Nat renaming reduceAdd->yJ,reduceSub->yK
open Array renaming getD_eq_getD_getElem?->zV
set_option linter.unusedVariables false
set_option linter.unusedSimpArgs false
set_option maxRecDepth 100000
set_option maxHeartbeats 8000000

open ByteArray renaming empty->oR
open Exists renaming intro->nw
open Go renaming Calls->pr,Addr->px,Operand->py,execOp->oB,TypeId->oD,MapEntry->oJ,Oper->oM,Program->oV,maxLen->oo,undef->ou,Act->oy,Ending->dT,CallsIn->dw,results->gL
open Go.Fence renaming wide->oS
open Go.Instr renaming findNow->ny,lookup->gE
open Go.MapKept renaming IsKey->dJ
open Go.Op renaming bytesLess->oa,equalIn->mT
open Go.Result renaming andThen->pv
open Go.RowKit renaming Below->ph
open Go.Value renaming int->mG
open List renaming range->dv,getElem_drop->nW,getElem_take->nX,getElem_append_right->ng,getElem_append_left->gz,length_singleton->mN
open Go.Proofs.Tryz renaming prog->Y3
open Go.Proofs.Tryz
namespace Go.Proofs.YtohmkffoojdahaaGreat
section
open Go Go.RowKit vA
theorem KH {g:Nat}{T:oD}:∀(c:Y8) (o:Nat) (w:World) (cs:Y7),za w g T cs->∃cs',za (w.setCells g o c) g T cs'/\cs'.size=cs.size/\(∀q,q<o->cs'[q]?=cs[q]?)/\ze (λk=>k=g) w (w.setCells g o c)
 | [],o,w,cs,h=>⟨cs,h,rfl,λ_ _=>rfl,ze.refl _ _⟩
 | v::r,o,w,cs,h=>by obtain⟨cs',h1,h2,d,e⟩:=KH r (o+1) (w.setCell ⟨g,o,none⟩ v) _ (h.set o v);refine⟨cs',h1,by rw[h2];simp,λq hq => ?_,(ze.setCell (Mu:=λk=>k=g) w ⟨g,o,none⟩ v rfl).trans e⟩;rw[d q (by omega),dx (by omega)]
def Xl (p:Int->Bool)(ks:List Int)(j:Nat):List Int:=(ks.take j).filter λk => !p k
theorem Gu (p:Int->Bool)(ks:List Int){j:Nat}(h:j<ks.length):Xl p ks (j+1)=Xl p ks j++(if p ks[j]=true then [] else [ks[j]]):=by
 unfold Xl;rw[zU h,List.filter_append];congr 1
 by_cases c:p ks[j]=true
 ·rw[if_pos c];simp[c]
 ·rw[if_neg c];simp[c]
def FU (w:World)(g:Nat)(p:Int->Bool)(ks:List Int)(cs:Y7)(i j:Nat)(wr:World):Prop :=
 i<j/\j<=ks.length/\(Xl p ks j).length=i/\∃cs',za wr g 3 cs'/\cs'.size=cs.size/\(∀q (h:q<(Xl p ks j).length),cs'[q]?=some (.int .i64 (Xl p ks j)[q]))/\(∀q,j<=q->cs'[q]?=cs[q]?)/\ze (λk=>k=g) w wr
theorem Ru (w:World)(gf:Nat)(lb:Y7)(eg:∀args w,(callFunc gf args).run Y3 w=.ok (.enter gf args) w)(p:Int->Bool)(g cap:Nat)(ks:List Int)(cs:Y7)(G:za w g 3 cs)(z:∀j (h:j<ks.length),cs[j]?=some (.int .i64 ks[j]))(aJ:ks.length<=cap)(hl:ks.length<=1000000)
  (Z:∀W,ze (λk=>k=g) w W->∀k∈ks,pr Y3 gf (#[.int .i64 k]++lb) W λe w'=>e=Y0 (.bool (p k))/\W=w') :
  pr Y3 243 #[.slice (some ⟨g,0,none⟩) ks.length cap,.func (.func gf) #[] lb] w λe w'=>∃cs',e=Y0 (.slice (some ⟨g,0,none⟩) (ks.filter λk => !p k).length cap)/\za w' g 3 cs'/\(∀q (h:q<(ks.filter λk => !p k).length),cs'[q]?=some (.int .i64 (ks.filter λk => !p k)[q]))/\ze (λk=>k=g) w w':=by
 have M:=TN w gf lb eg p g cap ks (λj h=>by rw[G.cell];exact z j h) aJ hl (Z w (ze.refl _ _))
 go_enter func243,ntmps243
 go_wp2_with (go_at_call 199;refine M.mono ?_;rintro e w1 ⟨rfl,(⟨rfl,aG⟩|⟨i0,X,rfl,aA,f⟩)⟩)
 ·go_ret;have e:(ks.filter λk => !p k)=ks:=List.filter_eq_self.2 (λk I=>by rw[aG k I];rfl);rw[e];exact⟨cs,rfl,G,z,ze.refl _ _⟩
 ·have aL:IntKind.i64.wrap ((i0:Int)+1)=((i0+1:Nat):Int):=by rw[zg _];omega
  have K:Xl p ks (i0+1)=ks.take i0:=by rw[Gu p ks X,if_pos aA,yE];exact List.filter_eq_self.2 (λk I=>by rw[f k I];rfl)
  have O:FU w g p ks cs i0 (i0+1) w:=by
   refine⟨by omega,by omega,by rw[K];simp;omega,cs,G,rfl,λq hq => ?_,λq _=>rfl,ze.refl _ _⟩;simp only[K] at hq ⊢;have aT:q<i0:=by simp at hq;omega
   rw[z q (by omega)];simp
  clear aA f K M;go_wp2
  go_loopw [5,6] (λi j wr=>∃a b:Nat,i=.int .i64 (a:Int)/\j=.int .i64 (b:Int)/\FU w g p ks cs a b wr) (λ_ j _=>ks.length-(intOf j).toNat)
  case atStart=>exact⟨i0,i0+1,rfl,by simp,O⟩
  case round =>
   clear O aL X;obtain⟨a,b,rfl,rfl,aM,aQ,c,cs',r,aE,f,s,B⟩:=hrel
   by_cases C:b<ks.length
   ·have aK:wr.cell? ⟨g,b,none⟩=some (.int .i64 ks[b]):=by rw[r.cell,s b (zG _)];exact z b C
    have A:=Z wr B ks[b] (qI C);have d:=Gu p ks C;have aX:IntKind.i64.wrap ((b:Int)+1)=(b:Int)+1:=zg _;have aW:IntKind.i64.wrap ((a:Int)+1)=(a:Int)+1:=zg _;have aS:=r.free a;obtain⟨x,L⟩:=Z9 (ks[b]);rw[<-L] at aK A d;cases u:p x with
    | true =>
     rw[u,if_pos rfl,yE] at d;rw[u] at A;have E:Hid (FU w g p ks cs a (b+1) wr):=pk ⟨by omega,by omega,by rw[d];exact c,cs',r,aE,λq hq=>(by simp only[d] at hq ⊢;exact f q hq),λq hq=>s q (by omega),B⟩;clear u L d f s c
     go_wp2_with (refine A.mono ?_;rintro e w' ⟨rfl,rfl⟩)
     refine⟨?_,by simp[intOf];omega⟩
     (repeat apply nw)
     exact⟨⟨a,b+1,rfl,(by first|rfl|simp),E.out⟩,rfl⟩
    | false =>
     rw[u,if_neg (by decide)] at d;rw[u] at A;have ha:a<cs'.size:=by have h1:=(zK.1 ((s b (zG _)).trans (z b C))).1;omega
     have U:(wr.cell? ⟨g,a,none⟩).isSome=true:=by rw[r.cell,dE ha];rfl
     have E:Hid (FU w g p ks cs (a+1) (b+1) (wr.setCell ⟨g,a,none⟩ (.int .i64 x))):=pk ⟨by omega,by omega,by rw[d,zH,c];rfl,_,r.set a (.int .i64 x),by rw[Array.size_setIfInBounds];exact aE,λq hq=>(by
      simp only[d] at hq ⊢;rw[zH,mN,c] at hq
      by_cases aD:q=a
      ·subst aD;rw[Array.getElem?_setIfInBounds_self_of_lt ha];have e:(Xl p ks b++[x])[q]?=some x:=by rw[qU (by omega),c,Nat.sub_self];rfl
       rw[zM (by rw[zH,mN,c];omega)] at e;rw[mL e]
      ·rw[dx (λe=>aD e.symm),f q (by omega)];have e:(Xl p ks b++[x])[q]?=some ((Xl p ks b)[q]'(by omega)):=by rw[ow (by omega),zM (by omega)]
       rw[zM (by rw[zH,mN,c];omega)] at e
       rw[mL e]),λq hq=>(by rw[dx (by omega)];exact s q (by omega)),B.trans (ze.setCell (Mu:=λk=>k=g) _ _ _ rfl)⟩
     have aO:a<ks.length:=by omega
     obtain⟨va,aV⟩:=Option.isSome_iff_exists.1 U;clear u L d f s c U
     go_wp2_with (refine A.mono ?_;rintro e w' ⟨rfl,rfl⟩)
     refine⟨?_,by simp[intOf];omega⟩
     (repeat apply nw)
     exact⟨⟨a+1,b+1,(by first|rfl|simp),(by first|rfl|simp),E.out⟩,rfl⟩
   ·have aI:b=ks.length:=by omega
    subst aI;have ek:Xl p ks ks.length=ks.filter λk => !p k:=by unfold Xl;rw[dD]
    have aC:Hid (∀q (h:q<(ks.filter λk => !p k).length),cs'[q]?=some (.int .i64 (ks.filter λk => !p k)[q])):=pk (λq hq=>by have h2:=f q (by rw[ek];exact hq);rw[h2];simp only[ek]);rw[ek] at c;have V:∀j,j<ks.length->(wr.cell? ⟨g,j,none⟩).isSome=true:=λj H=>by have h1:=(zK.1 (z j H)).1;rw[r.cell,dE (by omega)];rfl
    have aR:∀ty,(Builtin.clear_ #[67] ty #[.slice (some ⟨g,a,none⟩) (ks.length-a) (cap-a)]).run Y3 wr=.ok (.tuple #[]) (wr.setCells g a (zP (ks.length-a) (.int .i64 0))):=λty =>
     Lib.run_clear_slice wr _ 3 ty (.int .i64 0) underlying67 (λw=>by kernel_rfl) rfl rfl g a _ _ (by omega) (λj H=>V (a+j) (by omega)) (λj H=>r.free (a+j))
    obtain⟨N,aH,aU,aB,aF⟩:=KH (zP (ks.length-a) (.int .i64 0)) a wr cs' r;have aN:a<=cap:=by omega
    have aP:a<=ks.length:=by omega
    have hN:Hid (∀q (h:q<(ks.filter λk => !p k).length),N[q]?=some (.int .i64 (ks.filter λk => !p k)[q])):=pk (λq hq=>by rw[aB q (by omega)];exact aC.out q hq);clear f s aB aC V;go_wp2;go_ret;exact⟨N,by rw[c];rfl,aH,hN.out,B.trans aF⟩
end
section
open Go Go.RowKit Go.Shelf
attribute [local go_sem] Oper.semAt_some
def yg (U:Nat->Prop)(W W':World):Prop:=W.heap.size<=W'.heap.size/\∀k o,W.heap[k]?=some o->¬ U k->W'.heap[k]?=some o
theorem yg.refl (U:Nat->Prop)(W:World):yg U W W:=⟨zG _,λ_ _ h _=>h⟩
theorem yg.trans {U:Nat->Prop}{X Y Z:World}(h:yg U X Y)(k:yg U Y Z):yg U X Z:=⟨zT h.1 k.1,λi o d c=>k.2 i o (h.2 i o d c) c⟩
theorem yg.grow (U:Nat->Prop){X Y:World}(h:ph X.heap.size X Y):yg U X Y:=⟨h.size,λk o c _=>(h.block k (zK.1 c).1).trans c⟩
theorem yg.grown (U:Nat->Prop){X Y:World}{row:Option Nat}(h:X.grownBy Y row)(d:∀r,row=some r->U r):yg U X Y:=⟨h.size,λk o c hn=>(h.block k (zK.1 c).1 (λe=>hn (d k e.symm))).trans c⟩
theorem yg.setCell {U:Nat->Prop}(X:World)(p:px)(v:Value)(d:U p.block):yg U X (X.setCell p v) :=
 ⟨by simp,λk o c hn=>(oI X p v k (λe=>hn (by rw[e];exact d))).trans c⟩
theorem yg.cell {U:Nat->Prop}{X Y:World}(h:yg U X Y){p:px}{v:Value}(hc:X.cell? p=some v)(e:¬ U p.block):Y.cell? p=some v:=by
 have d:∃o,X.heap[p.block]?=some o:=by
  cases c:X.heap[p.block]? with
  | none=>simp[World.cell?,c] at hc
  | some o=>exact⟨o,rfl⟩
 obtain⟨o,c⟩:=d;rw[World.cell?_of_block ((h.2 _ o c e).trans c.symm)];exact hc
theorem yg.blk {U:Nat->Prop}{X Y:World}(h:yg U X Y){g:Nat}{t:oD}{cs:Y7}(c:za X g t cs)(d:¬ U g):za Y g t cs:=h.2 _ _ c d
def vh (n:Nat)(U U':Nat->Prop):Prop:=∀k,U' k->U k∨n<=k
theorem vh.refl (n:Nat)(U:Nat->Prop):vh n U U:=λ_ h => .inl h
theorem vh.trans {n m:Nat}{U V X:Nat->Prop}(h:vh n U V)(k:vh m V X)(hn:n<=m):vh n U X:=λj c=>(k j c).elim (λe=>h j e) (λe => .inr (by omega))
def tc {α : Type}(J:List α -> (Nat->Prop)->World->Prop):Prop:=∀s U X Y,J s U X->ph X.heap.size X Y->J s U Y
def wk {α : Type}(B:Nat)(I:List α -> (Nat->Prop)->World->Prop):Prop:=∀s U X Y row,I s U X->X.grownBy Y row->(∀r,row=some r->B<=r/\∃o:Obj,X.heap[r]?=some o/\o.isCells=false)->I s U Y
theorem wk.b {α : Type}{B:Nat}{I:List α -> (Nat->Prop)->World->Prop}(h:wk B I):tc I:=λs U X Y hs c=>h s U X Y none hs ⟨c.os,c.tape,c.output,c.size,λk d _=>c.block k d⟩ (λr e=>by cases e)
theorem wk.putObj {α : Type}{B:Nat}{I:List α -> (Nat->Prop)->World->Prop}(h:wk B I){s:List α}{U:Nat->Prop}{X:World}{l:Nat}{o':Obj}(o:Obj)(hs:I s U X)(hl:B<=l)(d:X.heap[l]?=some o')(c:o'.isCells=false):I s U (X.putObj l o) :=
 h s U X _ (some l) hs (grownBy_putObj' X l o) (λr e=>by cases e;exact⟨hl,_,d,c⟩)
def wJ {α : Type}(F:Fence)(n:Nat)(P:oV)(g:Nat)(lb:Y7)(encs : α -> Y7)(Ok:(Nat->Prop)->Prop)(Rd:List α -> α -> World->Prop)(S Sp:List α -> Prop)(w:World):Prop :=
 ∀(l:Nat) (J Jx:List α -> (Nat->Prop)->World->Prop) (U0:Nat->Prop) (W:World),ph w.heap.size w W->Ok U0->tc J->(∀s U X,J s U X->∀k,U k->k<X.heap.size) ->
  (∀pre x U W1,J pre U W1->Rd pre x W1->YieldAt F (n-1) P l (encs x) W1 λe W' =>
   (e=Y0 (.bool true)/\∃U',vh W1.heap.size U U'/\J (pre++[x]) U' W'/\yg U W1 W')∨(e=Y0 (.bool false)/\∃U',Jx (pre++[x]) U' W')) ->
  J [] U0 W ->
  dw F n P g (#[.func (.yield l) #[] #[]]++lb) W λe W'=>(∃v,e=Y0 v)/\((∃xs U',S xs/\J xs U' W')∨(∃pre U',Sp pre/\Jx pre U' W'))
def tC {α : Type}(I:List α -> (Nat->Prop)->World->Prop)(Ix:Code->List α -> (Nat->Prop)->World->Prop)(U:Nat->Prop)(xs:List α)(W:World):Exit->oy->World->Prop
 | .normal,_,W'=>∃U',vh W.heap.size U U'/\yg U W W'/\I xs U' W'
 | .ret,_,W'=>∃U',yg U W W'/\Ix .ret xs U' W'
 | .exit id,_,W'=>∃U',yg U W W'/\Ix (.exit id) xs U' W'
 | .goto t,_,W'=>∃U',yg U W W'/\Ix (.goto t) xs U' W'
 | .panic _,_,_=>False
 | .outgrown,_,_=>False
section
variable {F:Fence}{n:Nat}{P:oV}{w:World}
theorem vz {α : Type}{g:py}{ps:Array Tmp}{assign body:Code}{Q:Exit->oy->World->Prop}{a:oy}
  (aX:F.round=none) (h1:1<=n) {gf:Nat} {lb:Y7} (C:a.eval g=.func (.func gf) #[] lb) (aL:F.fn gf) (eg:∀args w,(callFunc gf args).run P w=.ok (.enter gf args) w)
  {encs : α -> Y7} {Ok:(Nat->Prop)->Prop} {Rd:List α -> α -> World->Prop} {S Sp:List α -> Prop} {O:World} (aY:wJ F (n-1) P gf lb encs Ok Rd S Sp O)
  (aG:ph O.heap.size O w) (aV:∀x,(encs x).size=ps.size) (U0:Nat->Prop) (aO:Ok U0)
  (I:List α -> (Nat->Prop)->World->Prop) (H:Code->List α -> (Nat->Prop)->World->Prop) (M:wk w.heap.size I) (aF:∀c,wk w.heap.size (H c)) (aC:∀s U X,I s U X->∀k,U k->k<X.heap.size)
  (aM:∀f x,OwnFrom w.heap.size (λ(_:Unit) W=>Rd f x W)) (h0:I [] U0 w) (a₁ : α -> oy)
  (aP:∀(l:Nat) (x : α) (W:World) (K:oy->World->Prop),K (a₁ x) W ->
   assign.wpIn (F.inRound l) (n-1-1) P (Exit.then K (λ_ _ _=>False)) {tmps:=(ps.zip (encs x)).foldl (λt (p,v)=>t.setIfInBounds p v) a.tmps,defers:=[]} W)
  (aQ:∀(l:Nat) (f:List α) (x : α) (U:Nat->Prop) (W:World),I f U W->Rd f x W->body.wpIn (F.inRound l) (n-1-1) P (tC I H U (f++[x]) W) (a₁ x) W)
  (aR:∀(D:Nat) (xs:List α) (U:Nat->Prop) (W:World),w.heap.size<=D->S xs->I xs U W->W.heap[D]?=some (.deferred (some []))->Q .normal {a with defers:={target:=.collected D,args:=#[]}::a.defers} W)
  (aZ:∀(D:Nat) (c:Code) (f:List α) (U:Nat->Prop) (W:World),w.heap.size<=D->Sp f->H c f U W->W.heap[D]?=some (.deferred (some []))->c.wpIn F n P Q {a with defers:={target:=.collected D,args:=#[]}::a.defers} W) :
  (Code.rangeFunc g ps assign body).wpIn F n P Q a w:=by
 refine wpIn_rangeFunc λfn aS => ?_
 rw[aX]
 -- the loop's record, and the world that bears it and the block for deferred calls
 obtain⟨d,z⟩:∃d:LoopState->Option Code->Loop,d=λst pe => {state:=st,pending:=pe,fn,tmps:=a.tmps,params:=ps,assign,body,defers:=w.heap.size}:=⟨_,rfl⟩
 obtain⟨V,hV⟩:∃V,(w.alloc (.deferred (some []))).alloc (.loop (d .ready none))=V:=⟨_,rfl⟩;have vL:V.heap[w.heap.size+1]?=some (.loop (d .ready none)):=by
  subst hV;have:=nS (w.alloc (.deferred (some []))) (.loop (d .ready none))
  rwa [pq] at this
 have vD:V.heap[w.heap.size]?=some (.deferred (some [])):=by subst hV;exact(Below.heap_alloc _ _ _ (by simp)).trans (nS w _)
 have aK:ph w.heap.size w V:=by subst hV;exact((pf _ w).alloc (zG _) _).alloc (by simp) _
 have vI:I [] U0 V:=M.b _ _ _ _ h0 aK;have vB:ph O.heap.size O V:=aG.trans (aK.mono aG.size);refine⟨w.heap.size+1,[{target:=.collected w.heap.size,args:=#[]}],V,{target:=.fn (.func gf) lb,args:=#[.func (.yield (w.heap.size+1)) #[] #[]]},V,gf,#[.func (.yield (w.heap.size+1)) #[] #[]]++lb,V,?_,?_,?_,?_,λ_=>h1,?_⟩
 ·rw[<-hV,z];exact run_enterLoop_outer _ _ _ _ _
 ·simp only[resolve,C];simp[go_sem]
 ·intro f' aH;simp[Target.leads] at aH;subst aH;exact aL
 ·simp[invoke,go_sem,eg]
 have aE:∀{A B:World} {k:Nat} {o:Obj},A.heap[k]?=some o->ph A.heap.size A B->B.heap[k]?=some o:=λj C=>(C.block _ (zK.1 j).1).trans j
 refine(aY (w.heap.size+1)
  (λf U W=>I f U W/\W.heap[w.heap.size+1]?=some (.loop (d .ready none))/\W.heap[w.heap.size]?=some (.deferred (some []))/\¬ U w.heap.size/\¬ U (w.heap.size+1))
  (λf U W=>∃c,H c f U W/\W.heap[w.heap.size+1]?=some (.loop (d .done (some c)))/\W.heap[w.heap.size]?=some (.deferred (some [])))
  U0 V vB aO
  (λs U A B hs C=>⟨M.b s U A B hs.1 C,aE hs.2.1 C,aE hs.2.2.1 C,hs.2.2.2⟩)
  (λs U X hs=>aC s U X hs.1)
  ?round ⟨vI,vL,vD,λe=>by have:=aC _ _ _ h0 _ e;omega,λe=>by have:=aC _ _ _ h0 _ e;omega⟩).mono ?behind
 case round =>
  rintro f x U W ⟨N,hl,j,aI,aJ⟩ aW;have aU:w.heap.size+1<W.heap.size:=(zK.1 hl).1;have hy:=run_yield (P:=P) (args:=encs x) hl (by rw[z];exact aV x);rw[z] at hy;refine⟨fn,_,assign,body,hy,roundIn_of_wpIn aS (aP _ x W _ ⟨_,run_beginRound hl (by rw[z]),?_⟩)⟩;clear hy;have bL:(W.putObj (w.heap.size+1) (.loop {d .ready none with state:=.busy})).heap[w.heap.size+1]?=some (.loop {d .ready none with state:=.busy}):=nY aU;have bD:(W.putObj (w.heap.size+1) (.loop {d .ready none with state:=.busy})).heap[w.heap.size]?=some (.deferred (some [])):=(oK (by omega)).trans j;refine wpIn_mono (aQ _ f x U _ (M.putObj _ N (by omega) hl rfl) ((aM f x).putObj (s:=()) _ aW (by omega) hl rfl)) ?_
  -- the round's end
  have fin:∀(u:Option Code) (Z:World),yg U (W.putObj (w.heap.size+1) (.loop {d .ready none with state:=.busy})) Z ->
    (Instr.endRound (w.heap.size+1) u).run P Z=.ok (.bool u.isNone) (Z.putObj (w.heap.size+1) (.loop (d (if u.isNone then .ready else .done) u))) /\
    Z.heap[w.heap.size+1]?=some (.loop {d .ready none with state:=.busy}) /\
    (Z.putObj (w.heap.size+1) (.loop (d (if u.isNone then .ready else .done) u))).heap[w.heap.size+1]?=some (.loop (d (if u.isNone then .ready else .done) u)) /\
    (Z.putObj (w.heap.size+1) (.loop (d (if u.isNone then .ready else .done) u))).heap[w.heap.size]?=some (.deferred (some [])):=λu Z aB=>by
   have uL:=aB.2 _ _ bL aJ;have:=run_endRound (P:=P) u uL;rw[z] at this ⊢;exact⟨this,by rw[z] at uL;exact uL,nY (zK.1 uL).1,(oK (by omega)).trans (aB.2 _ _ bD aI)⟩
  have out:∀(c:Code) (i:Nat->Prop) (Z:World),yg U (W.putObj (w.heap.size+1) (.loop {d .ready none with state:=.busy})) Z->H c (f++[x]) i Z ->
    (∃c',H c' (f++[x]) i (Z.putObj (w.heap.size+1) (.loop (d .done (some c))))/\(Z.putObj (w.heap.size+1) (.loop (d .done (some c)))).heap[w.heap.size+1]?=some (.loop (d .done (some c')))/\(Z.putObj (w.heap.size+1) (.loop (d .done (some c)))).heap[w.heap.size]?=some (.deferred (some []))):=λc i Z aB aT=>by
   obtain⟨_,h3,h4,h5⟩:=fin (some c) Z aB;exact⟨c,(aF c).putObj _ aT (by omega) h3 rfl,h4,h5⟩
  rintro e a3 Z L;cases e with
  | normal =>
   obtain⟨i,aA,r,E⟩:=L;obtain⟨G,h3,h4,h5⟩:=fin none Z r;have a0:(W.putObj (w.heap.size+1) (.loop {d .ready none with state:=.busy})).heap.size=W.heap.size:=by simp[World.putObj]
   rw[a0] at aA;refine⟨_,_,G,.inl ⟨rfl,i,aA,⟨M.putObj _ E (by omega) h3 rfl,h4,h5,λe => ?_,λe => ?_⟩,by have:=r.1;simpa using this,λk o j hm => ?_⟩⟩
   ·rcases aA _ e with h|h
    ·exact aI h
    ·omega
   ·rcases aA _ e with h|h
    ·exact aJ h
    ·omega
   ·by_cases aD:k=w.heap.size+1
    ·subst aD;rw[hl] at j;rw[<-j];exact h4
    ·rw[oK aD];exact r.2 k o (by rw[oK aD];exact j) hm
  | ret =>
   obtain⟨i,r,E⟩:=L;exact⟨_,_,(fin (some .ret) Z r).1,.inr ⟨rfl,i,out .ret i Z r E⟩⟩
  | exit id =>
   obtain⟨i,r,E⟩:=L;exact⟨_,_,(fin (some (.exit id)) Z r).1,.inr ⟨rfl,i,out (.exit id) i Z r E⟩⟩
  | goto t =>
   obtain⟨i,r,E⟩:=L;exact⟨_,_,(fin (some (.goto t)) Z r).1,.inr ⟨rfl,i,out (.goto t) i Z r E⟩⟩
  | panic ch=>exact L.elim
  | outgrown=>exact L.elim
 case behind =>
  rintro e Z ⟨⟨v,rfl⟩,(⟨xs,i,hS,N,hl,j,_⟩|⟨f,i,aN,c,N,hl,j⟩)⟩
  ·have G:=run_endLoop (P:=P) hl (by rw[z];simp);rw[z] at G;exact⟨none,_,G,aR _ xs i _ (zG _) hS (M.putObj _ N (by omega) hl rfl) ((oK (by omega)).trans j)⟩
  ·have G:=run_endLoop (P:=P) hl (by rw[z];simp);rw[z] at G;exact⟨some c,_,G,aZ _ c f i _ (zG _) aN ((aF c).putObj _ N (by omega) hl rfl) ((oK (by omega)).trans j)⟩
end
end
section
open Go Go.RowKit vA
theorem xd (n:Int)(h0 : -9223372036854775808<=n:=by omega)(h1:n<9223372036854775808:=by omega):IntKind.i64.wrap n=n:=by
 simp[IntKind.wrap,IntKind.bits,IntKind.signed];split<;>omega
structure xK where
 key:ByteArray
 val:ByteArray
 rQ:Int
 size:Int
structure yo where
 leaf:Bool
 cells:List xK
 keys:List ByteArray
 kids:List Int
def zm (c:xK):Y8:=[.string c.key,.string c.val,.int .i64 c.rQ,.int .i64 c.size]
def vV (cs:List xK):Y8:=(cs.map zm).flatten
def XJ (ks:List ByteArray):Y8:=ks.map Value.string
def Xr (ks:List Int):Y8:=ks.map (mG .i64)
theorem Hn:∀cs:List xK,(vV cs).length=cs.length*4
 | []=>rfl
 | c::cs=>by
  have e:vV (c::cs)=zm c++vV cs:=rfl;rw[e,zH,Hn cs,zL];show 4+_=_
  omega
theorem Ti:∀(cs:List xK) (j:Nat) (h:j<cs.length),((vV cs).drop (j*4)).take 4=zm cs[j]
 | c::cs,0,_=>by have e:vV (c::cs)=zm c++vV cs:=rfl;rw[e];rfl
 | c::cs,j+1,h=>by have e:vV (c::cs)=zm c++vV cs:=rfl;rw[e,show (j+1)*4=4+j*4 from by omega,<-List.drop_drop];have d:(zm c++vV cs).drop 4=vV cs:=rfl;rw[d,Ti cs j (by simpa using h)];rfl
theorem Ya (cs:List xK):∀v∈vV cs,v.oneCell'=true:=by
 intro v d;obtain⟨l,hl,d⟩:=List.mem_flatten.1 d;obtain⟨c,_,rfl⟩:=qP.1 hl;simp[zm] at d;rcases d with rfl|rfl|rfl|rfl<;>rfl
theorem jZ (ks:List ByteArray):∀v∈XJ ks,v.oneCell'=true:=by
 intro v c;obtain⟨k,_,rfl⟩:=qP.1 c;rfl
theorem YW (ks:List Int):∀v∈Xr ks,v.oneCell'=true:=by
 intro v c;obtain⟨k,_,rfl⟩:=qP.1 c;rfl
theorem ZZ (c:xK):∀v∈zm c,v.oneCell'=true:=by
 intro v d;simp[zm] at d;rcases d with rfl|rfl|rfl|rfl<;>rfl
theorem qt:yx Y3 94 4:=⟨⟨_,underlying94,rfl⟩,by kernel_rfl⟩
theorem zj:yx Y3 69 4:=⟨⟨_,underlying69,rfl⟩,by kernel_rfl⟩
theorem Ov:Zj 66 9 1 16 (.string oR):=⟨underlying66,by kernel_rfl,by kernel_rfl,by decide⟩
def zu (x:yo)(Ac:Y5)(cc:Nat)(Ak:Y5)(ck:Nat)(Ai:Y5)(ci:Nat):Y7:=#[.bool x.leaf,.slice Ac x.cells.length cc,.slice Ak x.keys.length ck,.slice Ai x.kids.length ci]
structure XH (w:World)(B:Nat)(x:yo)(Ac:Y5)(cc:Nat)(Ak:Y5)(ck:Nat)(Ai:Y5)(ci:Nat):Prop where
 c:yp w B 4 Ac x.cells.length cc (vV x.cells)
 k:yp w B 1 Ak x.keys.length ck (XJ x.keys)
 i:yp w B 1 Ai x.kids.length ci (Xr x.kids)
theorem XH.grow {w w':World}{x:yo}{e j f:Y5}{r s ci:Nat}(h:XH w w.heap.size x e r j s f ci)(d:ph w.heap.size w w'):XH w' w'.heap.size x e r j s f ci:=⟨h.c.grow d,h.k.grow d,h.i.grow d⟩
def qi (x:yo):List ByteArray:=if x.leaf then x.cells.map xK.key else x.keys
theorem VU {w:World}{B g o n c:Nat}{cs:List xK}(h:yp w B 4 (some ⟨g,o,none⟩) n c (vV cs))(hn:n=cs.length)(j:Nat)(d:j<cs.length):w.rangeAt g (o+j*4) (zm cs[j]):=by
 have:=h.elem j (by omega);rw[Ti cs j d] at this;exact this
theorem XP {w:World}{B g o n c:Nat}{ks:List ByteArray}(h:yp w B 1 (some ⟨g,o,none⟩) n c (XJ ks))(hn:n=ks.length)(j:Nat)(d:j<ks.length):w.cell? ⟨g,o+j,none⟩=some (.string ks[j]):=by
 obtain⟨g',o',e,_,f⟩:=h.rC (by omega);injection e with e
 injection e with e1 e2
 subst e1 e2;exact f j _ (by simp[XJ,d])
theorem tl {w:World}{g o:Nat}{c:xK}(h:w.rangeAt g o (zm c)):w.cell? ⟨g,o,none⟩=some (.string c.key):=by simpa using h 0 _ rfl
theorem KI (w:World)(T:oD)(v:Value)(h1:v.oneCell'=true):yp (w.alloc (.cells #[v] T)) (w.alloc (.cells #[v] T)).heap.size 1 (some ⟨w.heap.size,0,none⟩) 1 1 [v]:=by
 have h:=za.new w T #[v];refine⟨zG _,by omega,(λe=>by cases e),rfl,(λu hu=>by obtain rfl:u=v:=(by simpa using hu);exact h1),λ_=>⟨w.heap.size,0,rfl,h.lt,λj u c => ?_⟩⟩;rw[h.cell,qC];simpa using c
def EE (w:World)(l:List ByteArray)(e:dT)(w':World):Prop:=∃A c,e=Y0 (.slice A l.length c)/\yp w' w'.heap.size 1 A l.length c (XJ l)/\ph w.heap.size w w'
end
section
open Go Go.RowKit vA Go.Shelf
attribute [local go_sem] Oper.semAt_some
def Yp:xK:=⟨oR,oR,0,0⟩
section
variable {w:World}{o:oM}{ρ:py->Value}
theorem XN (c:o.op=.alloc 94):(oB ρ o).run Y3 w=.ok (.value (.pointer (some ⟨w.heap.size,0,none⟩))) (w.alloc (.cells (zm Yp).toArray 94)):=by
 simp[oB,c,Instr.alloc,newVar,newRow,go_sem,pv];rfl
end
theorem PN (n:Nat)(aJ:2<=n)(l G n₀:Nat)(A:Y5)(c:Nat)(cells:List xK)(J H:List xK->World->Prop)
  (hY:∀f x W,J f W->f.length<cells.length->YieldAt oS (n-1) Y3 l #[.agg (zm x).toArray] W λe W' =>
   (e=Y0 (.bool true)/\J (f++[x]) W'/\ph n₀ W W')∨(e=Y0 (.bool false)/\H (f++[x]) W'))
  (W:World) (aB:AbidesFrom W.heap.size J) (aE:n₀<=W.heap.size) (aG:W.cell? ⟨G,0,none⟩=some (.slice A cells.length c)) (s:yp W n₀ 4 A cells.length c (vV cells)) (h0:J [] W) :
  dw oS n Y3 221 #[.func (.yield l) #[] #[],.pointer (some ⟨G,0,none⟩)] W λe W'=>(∃v,e=Y0 v) /\
   ((∃U,U=cells/\J U W')∨(∃f,(∃t,cells=f++t)/\H f W')):=by
 have aH:=s.le;have aI:=s.max;have h1:1<=n:=by omega
 refine dN func221 rfl trivial ?_ rfl;simp only[ntmps221,zR,zL,zY,yJ,yK,qG,qH,qS,qL,zQ,zX]
 gi_wp2
 gi_loopw [7] (λi wr=>∃(k:Nat),k<=cells.length/\i=.int .i64 k/\J (cells.take k) wr/\ph n₀ W wr)
  (λi _=>cells.length-(intOf i).toNat)
 case atStart=>exact⟨0,by omega,rfl,h0,pf _ _⟩
 case round =>
  obtain⟨k,I,rfl,h,C⟩:=hrel
  by_cases L:k<cells.length
  ·obtain⟨g,o,rfl,hg,_⟩:=s.rC (by omega);have aF:wr.rangeAt g (o+k*4) (zm cells[k]):=λj v hj=>(C.cell (p:=⟨g,o+k*4+j,none⟩) hg).trans (VU s rfl k L j v hj)
   have E:cells.take (k+1)=cells.take k++[cells[k]]:=zU L;have N:∃t,cells=(cells.take k++[cells[k]])++t:=⟨cells.drop (k+1),by rw[<-E,qJ]⟩;have K:(cells.take k).length<cells.length:=by rw[zZ];omega
   have O:=za.new wr 94 (zm Yp).toArray;have nb:=O.setRow (zm cells[k]).toArray;have d:ph wr.heap.size wr ((wr.alloc (.cells (zm Yp).toArray 94)).setRow wr.heap.size (zm cells[k]).toArray):=zf ((pf _ wr).alloc (zG _) _) (zG _) _;have z:J (cells.take k) ((wr.alloc (.cells (zm Yp).toArray 94)).setRow wr.heap.size (zm cells[k]).toArray):=aB _ _ _ none h ⟨d.os,d.tape,d.output,d.size,λk I _=>d.block k I⟩ (λr e=>by cases e);have M:=C.trans (d.mono (zT aE C.size));obtain⟨u,B⟩:=Z9 ((wr.alloc (.cells (zm Yp).toArray 94)).setRow wr.heap.size (zm cells[k]).toArray);rw[<-B] at nb z M;have Z:=pk B;obtain⟨fn,tmps,assign,body,hy,hR⟩:=hY (cells.take k) cells[k] u z K;generalize cells[k]=x at *;have aK:IntKind.i64.wrap ((k:Int)+1)=(k:Int)+1:=xd _;have X:=pk E;have V:=pk N;clear E N K B d h z
   gi_wp2_with (first
    | (refine Qr rfl _ (.tmp 9) rfl (yX qt aF rfl rfl rfl) ?_)
    | (refine QB rfl _ rfl (XN rfl) ?_)
    | (refine jg rfl _ (.tmp 4) (.tmp 10) rfl wr.heap.size rfl rfl qt O rfl rfl (ZZ _) ?_;rw[<-Z.out])
    | (refine Qr rfl _ (.tmp 4) rfl (yX qt nb.range rfl rfl rfl) ?_))
   refine hR.mono ?_;rintro e W3 (⟨rfl,aA,aD⟩|⟨rfl,aC⟩)
   ·gi_wp2
    go_roundw
    case rel=>exact⟨k+1,by omega,by simp,by rw[X.out];exact aA,M.trans aD⟩
    case measure=>simp[intOf];omega
   ·gi_wp2
    exact oE (dS rfl _ _ _) rfl ⟨⟨_,rfl⟩,.inr ⟨_,V.out,aC⟩⟩
  ·obtain rfl:k=cells.length:=by omega
   rw[dD] at h
   gi_wp2
   go_end0;exact⟨⟨_,rfl⟩,.inl ⟨_,rfl,h⟩⟩
theorem DI (n:Nat)(u:2<=n)(d n₀:Nat)(A:Y5)(c:Nat)(cells:List xK)(w:World)(f:n₀<=w.heap.size)(j:d<w.heap.size)(hc:w.cell? ⟨d,0,none⟩=some (.slice A cells.length c))(s:yp w n₀ 4 A cells.length c (vV cells)):SeqStopsK oS n Y3 221 #[.pointer (some ⟨d,0,none⟩)] (λx:xK=>#[.agg (zm x).toArray]) (ph n₀)
   (λB=>B=cells) (λz=>∃t,cells=z++t) cells.length w:=λl J h W e k _ r i =>
 PN n u l d n₀ A c cells J h r W k (zT f e.size) ((e.cell (p:=⟨d,0,none⟩) j).trans hc) (s.below (e.mono f)) i
theorem PM (n:Nat)(A:Y5)(len c:Nat)(w:World):dw oS n Y3 155 #[.slice A len c] w λe w'=>e=Y0 (.func (.func 221) #[] #[.pointer (some ⟨w.heap.size,0,none⟩)])/\w.alloc (.cells #[.slice A len c] 65)=w':=by
 refine dN func155 rfl trivial ?_ rfl;simp only[ntmps155,zR,zL,zY,yJ,yK,qG,qH,qS,qL,zQ,zX]
 gi_wp2
 go_ret;exact⟨rfl,rfl⟩
theorem Yz {W W':World}{base sz n:Nat}{T:oD}{v:Value}{cs:Y8}{row:Option Nat}(h:W.ownsRow base T sz v n cs)(f:W.grownBy W' row)(i:∀r,row=some r->∃o:Obj,W.heap[r]?=some o/\o.isCells=false):W'.ownsRow base T sz v n cs:=by
 refine ql h λr c=>f.block r (kJ h r c) λe => ?_
 obtain⟨o,d,hc⟩:=i r e.symm;rcases h.2 with⟨rfl,_⟩|⟨g,cap,cur,rfl,_,hq,_⟩
 ·cases c
 ·injection c with c
  subst c;rw[hq] at d;injection d with d
  subst d;cases hc
theorem LC {W W':World}{base sz n:Nat}{T:oD}{v:Value}{cs:Y8}(h:W.ownsRow base T sz v n cs)(d:W.grownBy W' v.ownBlock):KeepsOthers W W' :=
 KeepsOthers.of_grownBy d λj o e c=>by
  rcases h.2 with⟨rfl,_⟩|⟨g,cap,cur,rfl,_,hq,_⟩
  ·cases e
  ·injection e with e
   subst e;rw[hq] at c;injection c with c
   subst c;rfl
theorem KP {W W':World}(h:ph W.heap.size W W'):KeepsOthers W W' :=
 KeepsOthers.of_grownBy (row:=none) ⟨h.os,h.tape,h.output,h.size,λk c _=>h.block k c⟩ (λj o e=>by cases e)
section
set_option maxRecDepth 100000
variable {F:Fence}{n:Nat}{w:World}{ops:Array oM}{rest:List oM}{o:oM}{a:oy}{Q:Exit->oy->World->Prop}
theorem Dv (G:o.guard=none){S T:oD}{sz i:Nat}{z:Value}(d:Zj S T sz i z)(s x:py)(M:o.op=.call {callee:=.builtin .append,args:=#[s,x],argTypes:=#[S,S]})
  (base:Nat) (v:Value) (k:Nat) (cs:Y8) (hs:a.eval s=v) (N:w.ownsRow base T sz v k cs) (B g c m:Nat) (r:Y8) (V:a.eval x=.slice (some ⟨g,0,none⟩) m c) (A:yp w B sz (some ⟨g,0,none⟩) m c r) (L:0<m)
  (K:k+m<=oo) (E:(k+m)*i<=140737488355328) (C:base<=w.heap.size)
  (h:∀f w',w'.ownsRow base T sz f (k+m) (cs++r)->w.grownBy w' v.ownBlock->wpListIn F n Y3 ops Q rest (a.put o.dst f) w'):wpListIn F n Y3 ops Q (o::rest) a w:=by
 obtain⟨i0,I,W,X,Z⟩:=info_parts d.inf;refine wpListIn_append_own w G s x _ M base _ i0 z sz i d.rX I W X Z d.zs d.pos v k cs hs N ⟨g,0,none⟩ m c r V A.len (λj u hu => ?_) A.one K E C ?_
 ·obtain⟨g',o',e,_,U⟩:=A.rC L;injection e with e
  injection e with e1 e2
  subst e1 e2;rw[Addr.add_mid];exact U j u hu
 ·intro f w' O H _;exact h f w' O H
end
abbrev tm (v0:Value)(h g4:Nat)(Ac:Y5)(len cc:Nat)(x:xK):oy :=
 {tmps:=#[v0,.pointer (some ⟨h,0,none⟩),.slice none 0 0,.pointer (some ⟨h+1,0,none⟩),.pointer (some ⟨g4,0,none⟩),.pointer (some ⟨h,0,none⟩),.bool true,.bool false,ou,ou,.pointer (some ⟨h,1,none⟩),.slice Ac len cc,
   .func (.func 221) #[] #[.pointer (some ⟨h+1+1,0,none⟩)],.agg (zm x).toArray,ou,ou,ou,ou,ou,ou],defers:=[]}
theorem TI (n:Nat)(hn:6<=n)(w:World)(cells:List xK)(keys:List ByteArray)(kids:List Int)(f:Y5)(i:Nat)(G:Y5)(I:Nat)(E:Y5)(H:Nat)(hc:yp w w.heap.size 4 f cells.length i (vV cells))(hl:cells.length<=1000000):dw oS n Y3 93 #[.agg #[.bool true,.slice f cells.length i,.slice G keys.length I,.slice E kids.length H]] w (EE w (cells.map xK.key)):=by
 have lc:=hc.le;have h1:1<=n:=by omega
 obtain⟨W2,B⟩:=Z9 ((w.alloc (.cells #[.bool true,.slice f cells.length i,.slice G keys.length I,.slice E kids.length H] 69)).alloc (.cells #[.slice none 0 0] 66));have Z:ph w.heap.size w W2:=by rw[B];exact((pf _ w).alloc (zG _) _).alloc (by simp) _
 have s2:W2.heap.size=w.heap.size+1+1:=by rw[B];simp
 have b1:za W2 w.heap.size 69 #[.bool true,.slice f cells.length i,.slice G keys.length I,.slice E kids.length H]:=by rw[B];exact(za.new w _ _).alloc _
 have b3:za W2 (w.heap.size+1) 66 #[.slice none 0 0]:=by have:=za.new (w.alloc (.cells #[.bool true,.slice f cells.length i,.slice G keys.length I,.slice E kids.length H] 69)) 66 #[.slice none 0 0];rw[pq] at this;rw[B];exact this
 have aB:=pk B;refine callsIn_of_wp_marks func93 rfl trivial ?_ rfl;simp only[ntmps93,zR,zL,zY,yJ,yK,qG,qH,qS,qL,zQ,zX];clear B
 gi_wp2_with (refine⟨trivial,?_⟩;gi_at_call 155;refine(PM (n-1) _ _ _ _).mono ?_;rintro e w' ⟨rfl,rfl⟩)
 obtain⟨W,aE⟩:∃W:Value,W=.agg #[.bool true,.slice f cells.length i,.slice G keys.length I,.slice E kids.length H]:=⟨_,rfl⟩;rw[<-aB.out,<-aE];obtain⟨W4,C⟩:=Z9 (W2.alloc (.cells #[.slice f cells.length i] 65));have aC:ph w.heap.size w W4:=by rw[C];exact Z.alloc Z.size _
 have s4:W4.heap.size=w.heap.size+1+1+1:=by rw[C];simp[s2]
 have aH:za W4 (w.heap.size+1) 66 #[.slice none 0 0]:=by rw[C];exact b3.alloc _
 have aK:W4.cell? ⟨w.heap.size+1+1,0,none⟩=some (.slice f cells.length i):=by rw[C,<-s2];exact(za.new W2 65 #[.slice f cells.length i]).boxed
 rw[<-C];clear C aE b1 b3 aB s2 Z;have aG:w.heap.size<=W4.heap.size:=by omega
 refine wpIn_rangeFunc_ownH rfl h1 (gf:=221) (lb:=#[.pointer (some ⟨w.heap.size+1+1,0,none⟩)]) rfl trivial (zb.eo func221)
  (DI (n-1) (by omega) (w.heap.size+1+1) w.heap.size f i cells W4 aG (by omega) aK (hc.below aC)) belowK_t (belowK_b aG) (pf _ _) (λ_=>rfl)
  (λd V=>ph w.heap.size w V/\∃A c,za V (w.heap.size+1) 66 #[.slice A d.length c]/\V.ownsRow (w.heap.size+1+1) 9 1 (.slice A d.length c) d.length (XJ (d.map xK.key)))
  (λ_ _ _=>False)
  ?own ?own2 ⟨aC,none,0,aH,oz _ _ _ _⟩
  (λx a V=>∃z,a=tm W w.heap.size z f cells.length i x/\za V z 94 (zm x).toArray) ?ownA ?assign ?body ?done ?stop
 case own =>
  rintro d X Y row ⟨hB,A,c,j,own⟩ s u;exact⟨hB.grown s hB.size (λk e=>by have:=(u k e).1;omega),A,c,j.kept s (λr e=>(u r e).2),Yz own s (λr e=>(u r e).2)⟩
 case own2=>exact λ_ _ _ _ _ h _ _=>h
 case ownA =>
  rintro x a ⟨⟩ X Y row ⟨z,e,h⟩ s u;exact⟨z,e,h.kept s (λr e=>(u r e).2)⟩
 case assign =>
  intro l1 d x V K ⟨hB,A,c,j,own⟩ N;have n0:=za.new V 94 (zm Yp).toArray;have nb:=n0.setRow (zm x).toArray;have L:ph V.heap.size V ((V.alloc (.cells (zm Yp).toArray 94)).setRow V.heap.size (zm x).toArray):=zf ((pf _ V).alloc (zG _) _) (zG _) _;simp only[Array.zip_eq_zipWith,List.zipWith_toArray,List.zipWith_cons_cons,List.zipWith_nil_right,List.foldl_toArray,List.foldl_cons,List.foldl_nil,zA,zF,zE]
  gi_wp2_with (first
   | (refine QB rfl _ rfl (XN rfl) ?_)
   | (refine jg rfl 94 (.tmp 4) (.tmp 13) rfl V.heap.size rfl rfl qt n0 rfl rfl (ZZ _) ?_))
  exact N _ _ ((KP L).from _) (L.mono hB.size) ⟨hB.trans (L.mono hB.size),A,c,j.below L j.lt,qw own L⟩ ⟨V.heap.size,rfl,nb⟩
 case body =>
  rintro l1 d x a V _ _ ⟨hB,A,c,j,own⟩ ⟨z,rfl,h4⟩ aN;have c3:=j.boxed;have d0:V.cell? ⟨z,0,none⟩=some (.string x.key):=by rw[h4.cell];rfl
  have M:ph V.heap.size V (V.alloc (.cells #[.string x.key] 9)):=(pf _ V).alloc (zG _) _;have U:=qw own M;have aJ:w.heap.size+1+1<=(V.alloc (.cells #[.string x.key] 9)).heap.size:=by have:=j.lt;have:=M.size;omega
  have ba:=j.below M j.lt;have HE:Hid (XJ (d.map xK.key)++[.string x.key]=XJ ((d++[x]).map xK.key)):=pk (by simp[XJ]);have HL:Hid ((d++[x]).length=d.length+1):=pk (by simp);have aM:=KI V 9 (.string x.key) rfl
  gi_wp2_with (gi_at_builtin;refine Dv rfl Ov (.tmp 14) (.tmp 17) rfl (w.heap.size+1+1) (.slice A d.length c) d.length (XJ (d.map xK.key)) rfl U _ _ 1 1 [.string x.key] rfl aM (by omega) (by unfold oo;omega) (by omega) aJ ?_;intro v5 w5 O aA;rw[HE.out] at O;obtain⟨A5,k5,rfl,_⟩:=qn O (jZ _);have b5:=ba.grown aA (λe=>by have:=zh U _ e.symm;omega);have c5:=b5.boxed;have f5:=b5.free 0)
  have aI:=zl aA (show w.heap.size<=(V.alloc (.cells #[.string x.key] 9)).heap.size by omega) (λr e=>by have:=zh U r e;omega);have aD:ph w.heap.size V w5:=(M.mono hB.size).trans aI;refine⟨(((KP M).trans (LC U aA)).trans (KeepsOthers.setCell _ _ _)).from _,aD.setCell (by simp) _,hB.trans (aD.setCell (by simp) _),A5,k5,?_,?_⟩
  ·rw[HL.out];exact b5.set 0 _
  ·rw[HL.out];exact ql O (λr u=>oI w5 ⟨w.heap.size+1,0,none⟩ _ r (λe=>by have h7:=zh O r u;have h8:r=w.heap.size+1:=e;omega))
 case done =>
  rintro D xs V hD rfl ⟨hB,A,c,j,own⟩ N;have c3:=j.boxed
  gi_wp2
  refine⟨by simp,.inl ⟨_,_,rfl,run_takeDeferred N,?_⟩⟩;have s:=grownBy_putObj' V D (.deferred none);have own2:=Yz own s (λr e=>⟨_,(by cases e;exact N),rfl⟩);obtain⟨A2,c2,e,aL⟩:=qn own2 (jZ _);injection e with e1 e2 e3
  subst e1 e3;have aF:(xs.map xK.key).length=xs.length:=by simp
  exact⟨_,results_tmp rfl _ _ _,A,c,by rw[aF];rfl,by rw[aF];exact aL,hB.grown s hB.size (λk e=>by cases e;omega)⟩
 case stop=>exact λ_ _ _ _ _ _ h _=>h.elim
theorem keys_gives (w:World)(x:yo)(e:Y5)(i:Nat)(c:Y5)(d:Nat)(f:Y5)(j:Nat)(h:XH w w.heap.size x e i c d f j)(hl:x.cells.length<=1000000):pr Y3 93 #[.agg (zu x e i c d f j)] w (EE w (qi x)):=by
 obtain⟨hc,k,r⟩:=h;obtain⟨leaf,cells,keys,kids⟩:=x;cases leaf with
 | false =>
  have hB:ph w.heap.size w (w.alloc (.cells (zu ⟨false,cells,keys,kids⟩ e i c d f j) 69)):=(pf _ w).alloc (zG _) _;unfold zu at hB ⊢
  go_enter func93,ntmps93
  go_wp2;go_ret;exact⟨c,d,rfl,k.grow hB,hB⟩
 | true=>exact callsIn_wide.1 (TI 6 (zG _) w cells keys kids e i c d f j hc hl)
end
section
open Go Go.RowKit vA

section
variable (w:World)(p q many many':Nat)(g g':Nat->Y4)(xs xs':List (Nat×Y4))(left left':Int)(stops stops':Bool)
end


theorem CA {v0 v1:Value}(d:v0.oneCell'=true)(h1:v1.oneCell'=true):∀v∈(#[v0,v1]:Y7).toList,v.oneCell'=true:=by
 intro v c;simp at c;rcases c with rfl|rfl<;>assumption

section
variable (fr pg n:Int)
theorem VD (w:World)(h1:1<=fr/\fr<=2000)(h2:1<=pg/\pg<=2000):pr Y3 36 #[.agg #[.int .i64 fr,.int .i64 pg]] w λe w'=>e=Y0 (.int .i64 (2+9*fr+8*pg))/\ph w.heap.size w w':=by
 have c:IntKind.i64.wrap (9*fr)=9*fr:=zg _;have d:IntKind.i64.wrap (2+9*fr)=2+9*fr:=zg _;have f:IntKind.i64.wrap (8*pg)=8*pg:=zg _;have h:IntKind.i64.wrap (2+9*fr+8*pg)=2+9*fr+8*pg:=zg _
 go_enter func36,ntmps36
 go_wp2;go_ret;exact⟨rfl,(pf _ _).alloc (zG _) _⟩
end
namespace zb
section
variable {P:oV}{ops:Array oM}{Q:Exit->oy->World->Prop}{S:World->Prop}
theorem yldG {o:oM}{v:Value}{a:oy}(c:Region.wanted o (yielded ops a.tmps)=true)(h:∀w,S w->(oB a.eval o).run P w=.ok (.value v) w):YieldsIf P ops S o v a:=.inl ⟨c,h⟩
end
end zb
theorem MH {x:yo}(hl:x.cells.length<=1000000)(c:x.keys.length<=1000000):(qi x).length<=1000000:=by
 unfold qi;split
 ·rw[qE];exact hl
 ·exact c
def xD (a b:ByteArray):Bool:=oa a.toList b.toList
def AX (a b:ByteArray):Bool:=oa a.toList b.toList||a.toList==b.toList
def vv (key:ByteArray)(l:List ByteArray):Nat:=l.countP (AX · key)
def yQ (key:ByteArray):List ByteArray->Nat
 | []=>0
 | s::l=>if xD s key then yQ key l+1 else 0
theorem Xb (key:ByteArray):∀l,yQ key l<=l.length
 | []=>zG _
 | s::l=>by unfold yQ;have:=Xb key l;split<;>simp<;>omega
theorem YB (key:ByteArray):∀(l:List ByteArray) (k:Nat),k<=l.length->(∀j,(h:j<l.length)->j<k->xD l[j] key=true)->(∀h:k<l.length,xD l[k] key=false)->yQ key l=k
 | [],k,hk,_,_=>by simp at hk;subst hk;rfl
 | s::l,0,_,_,h=>by unfold yQ;have:=h (by simp);simp at this;rw[if_neg (by simp[this])]
 | s::l,k+1,hk,h1,h2=>by unfold yQ;have c:=h1 0 (by simp) (by omega);simp at c;rw[if_pos c,YB key l k (by simpa using hk) (λj d e=>h1 (j+1) (Nat.succ_lt_succ d) (by omega)) (λh=>h2 (Nat.succ_lt_succ h))]
theorem OE (key:ByteArray)(l:List ByteArray)(k:Nat)(h:k<l.length):vv key (l.take (k+1))=vv key (l.take k)+(if AX l[k] key then 1 else 0):=by
 unfold vv;rw[zU h,List.countP_append,List.countP_singleton]
theorem Kh (key:ByteArray)(l:List ByteArray):vv key l<=l.length:=List.countP_le_length
def yu (leaf:Bool)(ks:List ByteArray)(key:ByteArray):Nat:=if leaf then yQ key ks else vv key ks
def je (leaf:Bool)(ks:List ByteArray)(key:ByteArray):Bool:=leaf&&(match ks[yQ key ks]? with|some s=>s.toList==key.toList|none=>false)
def JA (w:World)(x:yo)(key:ByteArray)(e:dT)(w':World):Prop:=e=Y0 (.tuple #[.int .i64 (yu x.leaf (qi x) key:Int),.bool (je x.leaf (qi x) key)])/\ph w.heap.size w w'
theorem Xc (w:World)(x:yo)(E:Y5)(I:Nat)(H:Y5)(L:Nat)(G:Y5)(K:Nat)(h:XH w w.heap.size x E I H L G K)(hl:x.cells.length<=1000000)(aA:x.keys.length<=1000000)(key:ByteArray):pr Y3 56 #[.agg (zu x E I H L G K),.string key] w (JA w x key):=by
 have r:=za.new w 69 (zu x E I H L G K);have hB:ph w.heap.size w (w.alloc (.cells (zu x E I H L G K) 69)):=(pf _ w).alloc (zG _) _;have Z:=keys_gives _ x E I H L G K (h.grow hB) hl;have aF:=MH hl aA;unfold JA;obtain⟨leaf,cells,keys,kids⟩:=x;generalize qi ⟨leaf,cells,keys,kids⟩=ks at *;unfold zu at *;clear hl aA h;cases leaf with
 | false =>
  go_enter func56,ntmps56
  go_wp2_with (first
   | (refine xA zj r ?_)
   | (go_at_call 93;refine Z.mono ?_;rintro e M ⟨A,c,rfl,f,u⟩;have k0:M.cell? ⟨w.heap.size,0,none⟩=some (.bool false):=(u.cell (p:=⟨w.heap.size,0,none⟩) r.lt).trans (by rw[r.cell];rfl)))
  have aC:=f.le
  go_loopw [7,18] (λv i wr=>∃(k:Nat),k<=ks.length/\i=.int .i64 k/\v=.int .i64 (vv key (ks.take k):Int)/\wr=M) (λ_ i _=>ks.length-(intOf i).toNat)
  case atStart=>exact⟨0,by omega,rfl,rfl,rfl⟩
  case round =>
   obtain⟨k,X,rfl,rfl,rfl⟩:=hrel
   by_cases B:k<ks.length
   ·obtain⟨g,o,rfl,hg,_⟩:=f.rC (by omega);have d0:=XP f rfl k B;have C:=OE key ks k B;have hm:=Kh key (ks.take k);have aB:(ks.take k).length<=k:=List.length_take_le _ _;generalize ks[k]=s at *;generalize vv key (ks.take k)=m at *;have HN:=pk C;clear C;have aD:IntKind.i64.wrap ((k:Int)+1)=(k:Int)+1:=xd _;have aG:IntKind.i64.wrap ((m:Int)+1)=(m:Int)+1:=xd _
    by_cases hs:AX s key=true
    ·have N:oa s.toList key.toList=true∨(s.toList==key.toList)=true:=by simpa[AX] using hs
     clear hm aB;go_wp2
     all_goals first
      | (exfalso;rename_i hx;(rcases N with h|h<;>simp[h] at hx);done)
      | exact⟨⟨k+1,by omega,by simp,by rw[HN.out,if_pos hs];simp,by simp⟩,by simp[intOf];omega⟩
    ·have N:¬ (oa s.toList key.toList=true∨(s.toList==key.toList)=true):=by simpa[AX] using hs
     clear hm aB;go_wp2;exact⟨⟨k+1,by omega,by simp,by rw[HN.out,if_neg hs];simp,by simp⟩,by simp[intOf];omega⟩
   ·obtain rfl:k=ks.length:=by omega
    rw[dD];go_wp2;exact oE (oN rfl _ _ _) rfl ⟨rfl,hB.trans (u.mono hB.size)⟩
 | true =>
  go_enter func56,ntmps56
  go_wp2_with (first
   | (refine xA zj r ?_)
   | (go_at_call 93;refine Z.mono ?_;rintro e M ⟨A,c,rfl,f,u⟩;have k0:M.cell? ⟨w.heap.size,0,none⟩=some (.bool true):=(u.cell (p:=⟨w.heap.size,0,none⟩) r.lt).trans (by rw[r.cell];rfl)))
  have aC:=f.le
  go_loopw [10] (λi wr=>∃(k:Nat),k<=ks.length/\i=.int .i64 k/\(∀j,(h:j<ks.length)->j<k->xD ks[j] key=true)/\wr=M) (λi _=>ks.length-(intOf i).toNat)
  case atStart=>exact⟨0,by omega,rfl,λj _ h=>by omega,rfl⟩
  case round =>
   obtain⟨k,X,rfl,z,rfl⟩:=hrel
   by_cases B:k<ks.length
   ·obtain⟨g,o,rfl,hg,_⟩:=f.rC (by omega);have d0:=XP f rfl k B;have C:xD ks[k] key=true->∀j,(h:j<ks.length)->j<k+1->xD ks[j] key=true:=λh1 j hj aE=>by
     by_cases e:j=k
     ·subst e;exact h1
     ·exact z j hj (by omega)
    have V:xD ks[k] key=false->yQ key ks=k:=λh1=>YB key ks k X z (λ_=>h1)
    have W:ks[k]?=some ks[k]:=zM B;generalize ks[k]=s at *;have aD:IntKind.i64.wrap ((k:Int)+1)=(k:Int)+1:=xd _;cases hs:xD s key with
    | true =>
     have N:oa s.toList key.toList=true:=hs;have d:=pk (C hs);clear C V z W hs;go_wp2;exact⟨⟨k+1,by omega,by simp,d.out,by simp⟩,by simp[intOf];omega⟩
    | false =>
     have N:oa s.toList key.toList=false:=hs;have d:=pk (V hs);have HG:=pk W;clear C V z W hs;go_wp2
     go_region
     go_wp2;have O:yu true ks key=k:=d.out;have U:je true ks key=(s.toList==key.toList):=by unfold je;rw[d.out,HG.out];rfl
     exact oE (oN rfl _ _ _) rfl ⟨by rw[O,U];rfl,hB.trans (u.drew.mono hB.size)⟩
   ·obtain rfl:k=ks.length:=by omega
    have d:=pk (YB key ks ks.length X z (λh=>absurd h B));clear z;go_wp2
    go_region
    go_wp2;have O:yu true ks key=ks.length:=d.out;have U:je true ks key=false:=by unfold je;rw[d.out,List.getElem?_eq_none (zG _)];rfl
    exact oE (oN rfl _ _ _) rfl ⟨by rw[O,U];rfl,hB.trans (u.drew.mono hB.size)⟩
theorem LL (w:World)(a:ByteArray):pr Y3 356 #[.string a] w λe w'=>e=Y0 (.bool false)/\w=w':=by
 go_enter func356,ntmps356
 go_wp2;go_ret;exact⟨by simp,rfl⟩
theorem Vz (w:World)(a b:ByteArray):pr Y3 317 #[.string a,.string b] w λe w'=>e=Y0 (.bool (xD a b))/\w=w':=by
 go_enter func317,ntmps317
 go_wp2_with (go_at_call 356;refine(LL _ _).mono ?_;rintro e c ⟨rfl,rfl⟩)
 go_ret;exact⟨by simp[xD],rfl⟩
def Yb (l:List ByteArray):Prop:=∀j,(h:j+1<l.length)->xD l[j+1] l[j]=false
def Eh (w:World)(l:List ByteArray)(e:dT)(w':World):Prop:=∃b,e=Y0 (.bool b)/\ph w.heap.size w w'/\(b=true↔Yb l)
theorem JG (w:World)(A:Y5)(c:Nat)(l:List ByteArray)(h:yp w w.heap.size 1 A l.length c (XJ l))(hl:l.length<=1000000):pr Y3 279 #[.slice A l.length c] w (Eh w l):=by
 have aC:IntKind.i64.wrap ((l.length:Int)-1)=(l.length:Int)-1:=xd _
 go_enter func279,ntmps279
 go_wp2
 go_loopw [3] (λi wr=>∃(q:Int),i=.int .i64 q/\q+1<=l.length/\-1<=q/\(∀j,(h:j+1<l.length)->q<=j->xD l[j+1] l[j]=false)/\ph w.heap.size w wr) (λi _=>(intOf i+1).toNat)
 case atStart=>exact⟨_,rfl,by omega,by omega,λj h h2=>by omega,pf _ _⟩
 case round =>
  obtain⟨q,rfl,hq,aB,f,hB⟩:=hrel
  by_cases aA:0<q
  ·obtain⟨k,K⟩:∃k:Nat,q=((k+1:Nat):Int):=⟨(q-1).toNat,by omega⟩;have I:k+1<l.length:=by omega
   obtain⟨m,d⟩:=Z9 (k+1);rw[<-d] at K;subst K;obtain⟨g,o,rfl,H,_⟩:=h.rC (by omega);have G:wr.drew.cell? ⟨g,o+m,none⟩=some (.string l[k+1]):=by rw[d];exact(hB.cell (p:=⟨g,o+(k+1),none⟩) H).trans (XP h rfl (k+1) I)
   have E:wr.drew.cell? ⟨g,o+k,none⟩=some (.string l[k]):=(hB.cell (p:=⟨g,o+k,none⟩) H).trans (XP h rfl k (by omega));have z:xD l[k+1] l[k]=false->∀j,(h:j+1<l.length)->(k:Int)<=j->xD l[j+1] l[j]=false:=λh1 j u O=>by
    by_cases e:j=k
    ·subst e;exact h1
    ·exact f j u (by omega)
   have x:xD l[k+1] l[k]=true->¬ Yb l:=λh1 h2=>by have:=h2 k I;rw[h1] at this;cases this
   generalize l[k+1]=C at *;generalize l[k]=B at *;have aD:IntKind.i64.wrap ((m:Int)-1)=(k:Int):=by rw[xd _];omega
   have U:(0:Int)<=(m:Int):=by omega
   have V:(m:Int)<(l.length:Int):=by omega
   have X:(0:Int)<=(k:Int):=by omega
   have Z:(k:Int)<(l.length:Int):=by omega
   have M:=pk d;clear f d;cases hs:xD C B with
   | true =>
    have r:=pk (x hs);have s:=pk hs;clear z x hs;go_wp2
    go_region_held3 (λW=>W.cell? ⟨g,o+m,none⟩=some (.string C)/\W.cell? ⟨g,o+k,none⟩=some (.string B)) (exact⟨G,E⟩) (first|(go_at_call 317;refine(Vz _ _ _).mono ?_;rintro e N ⟨rfl,rfl⟩))
    rw[s.out];go_wp2;go_ret;exact⟨false,rfl,hB.drew,⟨λh=>(by cases h),λh=>absurd h r.out⟩⟩
   | false =>
    have r:=pk (z hs);have s:=pk hs;clear z x hs;go_wp2
    go_region_held3 (λW=>W.cell? ⟨g,o+m,none⟩=some (.string C)/\W.cell? ⟨g,o+k,none⟩=some (.string B)) (exact⟨G,E⟩) (first|(go_at_call 317;refine(Vz _ _ _).mono ?_;rintro e N ⟨rfl,rfl⟩))
    rw[s.out];go_wp2;have d:=M.out;exact⟨⟨(k:Int),by simp,by omega,by omega,r.out,hB.drew⟩,by simp[intOf];omega⟩
  ·have L:=pk f;clear f;go_wp2;go_ret;exact⟨true,rfl,hB,⟨λ_ j u=>L.out j u (by omega),λ_=>rfl⟩⟩
def yq (s:ByteArray):Bool:=decide (s.size<=81)
theorem FA (w:World)(s:ByteArray):pr Y3 282 #[.string s] w λe w'=>e=Y0 (.bool (yq s))/\ph w.heap.size w w':=by
 go_enter func282,ntmps282
 go_wp2;go_ret;refine⟨?_,pf _ _⟩;simp[yq];omega
theorem Rq (w:World)(s:ByteArray)(B:Nat)(hB:za w B 356 #[.func (.func 282) #[] #[]]):pr Y3 319 #[.string s,.pointer (some ⟨B,0,none⟩)] w λe w'=>e=Y0 (.bool (!yq s))/\ph w.heap.size w w':=by
 have c0:=hB.boxed
 go_enter func319,ntmps319
 go_wp2_with (go_at_call 282;refine(FA _ _).mono ?_;rintro e d ⟨rfl,c⟩)
 go_ret;exact⟨rfl,c⟩
def OV (w:World)(b:Prop)(e:dT)(w':World):Prop:=∃r:Int,e=Y0 (.int .i64 r)/\ph w.heap.size w w'/\(0<=r↔b)
def VZ (w:World)(b:Prop)(e:dT)(w':World):Prop:=∃r:Bool,e=Y0 (.bool r)/\ph w.heap.size w w'/\(r=true↔b)
theorem RY (w:World)(A:Y5)(c:Nat)(l:List ByteArray)(h:yp w w.heap.size 1 A l.length c (XJ l))(hl:l.length<=1000000)(B:Nat)(hB:za w B 356 #[.func (.func 282) #[] #[]]):pr Y3 357 #[.slice A l.length c,.func (.func 319) #[] #[.pointer (some ⟨B,0,none⟩)]] w (OV w (∃s∈l,yq s=false)):=by
 go_enter func357,ntmps357
 go_wp2
 go_loopw [8] (λi wr=>∃(k:Nat),i=.int .i64 k/\k<=l.length/\(∀j,(h:j<l.length)->j<k->yq l[j]=true)/\ph w.heap.size w wr) (λi _=>l.length-(intOf i).toNat)
 case atStart=>exact⟨0,rfl,by omega,λj h h2=>by omega,pf _ _⟩
 case round =>
  obtain⟨k,rfl,N,r,d⟩:=hrel
  by_cases G:k<l.length
  ·obtain⟨g,o,rfl,I,_⟩:=h.rC (by omega);have L:wr.cell? ⟨g,o+k,none⟩=some (.string l[k]):=(d.cell (p:=⟨g,o+k,none⟩) I).trans (XP h rfl k G);have C:yq l[k]=true->∀j,(h:j<l.length)->j<k+1->yq l[j]=true:=λh1 j u M=>by
    by_cases e:j=k
    ·subst e;exact h1
    ·exact r j u (by omega)
   have E:yq l[k]=false->∃s∈l,yq s=false:=λh1=>⟨_,qI G,h1⟩
   have f:=Rq wr l[k] B (hB.below d hB.lt);generalize l[k]=s at *;have O:IntKind.i64.wrap ((k:Int)+1)=(k:Int)+1:=xd _;clear r;cases hs:yq s with
   | true =>
    have x:=pk (C hs);rw[hs] at f;clear C E hs
    go_wp2_with (go_at_call 319;refine f.mono ?_;rintro e K ⟨rfl,z⟩)
    exact⟨⟨k+1,by simp,by omega,x.out,d.trans (z.mono d.size)⟩,by simp[intOf];omega⟩
   | false =>
    have x:=pk (E hs);rw[hs] at f;clear C E hs
    go_wp2_with (go_at_call 319;refine f.mono ?_;rintro e K ⟨rfl,z⟩)
    go_ret;exact⟨(k:Int),rfl,d.trans (z.mono d.size),⟨λ_=>x.out,λ_=>by omega⟩⟩
  ·obtain rfl:k=l.length:=by omega
   have H:=pk r;clear r;go_wp2;go_ret;refine⟨-1,rfl,d,⟨λh=>by omega,λ⟨s,hs,h⟩ => ?_⟩⟩;obtain⟨j,u,rfl⟩:=yG hs;rw[H.out j u u] at h;cases h
theorem Ua (w:World)(A:Y5)(c:Nat)(l:List ByteArray)(h:yp w w.heap.size 1 A l.length c (XJ l))(hl:l.length<=1000000)(B:Nat)(hB:za w B 356 #[.func (.func 282) #[] #[]]):pr Y3 318 #[.slice A l.length c,.func (.func 319) #[] #[.pointer (some ⟨B,0,none⟩)]] w (VZ w (∃s∈l,yq s=false)):=by
 have d:=RY w A c l h hl B hB;generalize (∃s∈l,yq s=false)=b at *
 go_enter func318,ntmps318
 go_wp2_with (go_at_call 357;refine d.mono ?_;rintro e j ⟨r,rfl,f,i⟩)
 go_ret;exact⟨_,rfl,f,by rw[decide_eq_true_iff];exact i⟩
theorem UG (w:World)(A:Y5)(c:Nat)(l:List ByteArray)(h:yp w w.heap.size 1 A l.length c (XJ l))(hl:l.length<=1000000):pr Y3 281 #[.slice A l.length c,.func (.func 282) #[] #[]] w (VZ w (∀s∈l,yq s=true)):=by
 have k:=za.new w 356 #[.func (.func 282) #[] #[]];have hB:ph w.heap.size w (w.alloc (.cells #[.func (.func 282) #[] #[]] 356)):=(pf _ w).alloc (zG _) _;have j:=Ua _ A c l (h.grow hB) hl _ k;have f:(∀s∈l,yq s=true)↔¬ (∃s∈l,yq s=false):=by simp
 generalize (∃s∈l,yq s=false)=b at *;generalize (∀s∈l,yq s=true)=d at *
 go_enter func281,ntmps281
 have i:=pk f;clear f
 go_wp2_with (go_at_call 318;refine j.mono ?_;rintro e z ⟨r,rfl,u,x⟩)
 go_ret;have f:=i.out;refine⟨_,rfl,hB.trans (u.mono hB.size),?_⟩;cases r<;>simp_all
theorem Le {w:World}{B g o n c:Nat}{ks:List Int}(h:yp w B 1 (some ⟨g,o,none⟩) n c (Xr ks))(hn:n=ks.length)(j:Nat)(d:j<ks.length):w.cell? ⟨g,o+j,none⟩=some (.int .i64 ks[j]):=by
 obtain⟨g',o',e,_,f⟩:=h.rC (by omega);injection e with e
 injection e with e1 e2
 subst e1 e2;exact f j _ (by simp[Xr,d])
def xW (s:Int):Bool:=decide (1<=s)&&decide (s<=2000)
theorem Gg (w:World)(s:Int):pr Y3 286 #[.int .i64 s] w λe w'=>e=Y0 (.bool (xW s))/\ph w.heap.size w w':=by
 go_enter func286,ntmps286
 by_cases h1:1<=s
 ·by_cases h2:s<=2000
  ·go_wp2;go_ret;exact⟨by simp[xW,h1,h2],pf _ _⟩
  ·go_wp2;go_ret;exact⟨by simp[xW,h1,h2],pf _ _⟩
 ·go_wp2;go_ret;exact⟨by simp[xW];omega,pf _ _⟩
theorem Rr (w:World)(s:Int)(B:Nat)(hB:za w B 207 #[.func (.func 286) #[] #[]]):pr Y3 322 #[.int .i64 s,.pointer (some ⟨B,0,none⟩)] w λe w'=>e=Y0 (.bool (!xW s))/\ph w.heap.size w w':=by
 have c0:=hB.boxed
 go_enter func322,ntmps322
 go_wp2_with (go_at_call 286;refine(Gg _ _).mono ?_;rintro e d ⟨rfl,c⟩)
 go_ret;exact⟨rfl,c⟩
theorem RZ (w:World)(A:Y5)(c:Nat)(l:List Int)(h:yp w w.heap.size 1 A l.length c (Xr l))(hl:l.length<=1000000)(B:Nat)(hB:za w B 207 #[.func (.func 286) #[] #[]]):pr Y3 199 #[.slice A l.length c,.func (.func 322) #[] #[.pointer (some ⟨B,0,none⟩)]] w (OV w (∃s∈l,xW s=false)):=by
 go_enter func199,ntmps199
 go_wp2
 go_loopw [8] (λi wr=>∃(k:Nat),i=.int .i64 k/\k<=l.length/\(∀j,(h:j<l.length)->j<k->xW l[j]=true)/\ph w.heap.size w wr) (λi _=>l.length-(intOf i).toNat)
 case atStart=>exact⟨0,rfl,by omega,λj h h2=>by omega,pf _ _⟩
 case round =>
  obtain⟨k,rfl,N,r,d⟩:=hrel
  by_cases G:k<l.length
  ·obtain⟨g,o,rfl,I,_⟩:=h.rC (by omega);have L:wr.cell? ⟨g,o+k,none⟩=some (.int .i64 l[k]):=(d.cell (p:=⟨g,o+k,none⟩) I).trans (Le h rfl k G);have C:xW l[k]=true->∀j,(h:j<l.length)->j<k+1->xW l[j]=true:=λh1 j u M=>by
    by_cases e:j=k
    ·subst e;exact h1
    ·exact r j u (by omega)
   have E:xW l[k]=false->∃s∈l,xW s=false:=λh1=>⟨_,qI G,h1⟩
   have f:=Rr wr l[k] B (hB.below d hB.lt);generalize l[k]=s at *;have O:IntKind.i64.wrap ((k:Int)+1)=(k:Int)+1:=xd _;clear r;cases hs:xW s with
   | true =>
    have x:=pk (C hs);rw[hs] at f;clear C E hs
    go_wp2_with (go_at_call 322;refine f.mono ?_;rintro e K ⟨rfl,z⟩)
    exact⟨⟨k+1,by simp,by omega,x.out,d.trans (z.mono d.size)⟩,by simp[intOf];omega⟩
   | false =>
    have x:=pk (E hs);rw[hs] at f;clear C E hs
    go_wp2_with (go_at_call 322;refine f.mono ?_;rintro e K ⟨rfl,z⟩)
    go_ret;exact⟨(k:Int),rfl,d.trans (z.mono d.size),⟨λ_=>x.out,λ_=>by omega⟩⟩
  ·obtain rfl:k=l.length:=by omega
   have H:=pk r;clear r;go_wp2;go_ret;refine⟨-1,rfl,d,⟨λh=>by omega,λ⟨s,hs,h⟩ => ?_⟩⟩;obtain⟨j,u,rfl⟩:=yG hs;rw[H.out j u u] at h;cases h
theorem Ub (w:World)(A:Y5)(c:Nat)(l:List Int)(h:yp w w.heap.size 1 A l.length c (Xr l))(hl:l.length<=1000000)(B:Nat)(hB:za w B 207 #[.func (.func 286) #[] #[]]):pr Y3 121 #[.slice A l.length c,.func (.func 322) #[] #[.pointer (some ⟨B,0,none⟩)]] w (VZ w (∃s∈l,xW s=false)):=by
 have d:=RZ w A c l h hl B hB;generalize (∃s∈l,xW s=false)=b at *
 go_enter func121,ntmps121
 go_wp2_with (go_at_call 199;refine d.mono ?_;rintro e j ⟨r,rfl,f,i⟩)
 go_ret;exact⟨_,rfl,f,by rw[decide_eq_true_iff];exact i⟩
theorem Tc (w:World)(A:Y5)(c:Nat)(l:List Int)(h:yp w w.heap.size 1 A l.length c (Xr l))(hl:l.length<=1000000):pr Y3 285 #[.slice A l.length c,.func (.func 286) #[] #[]] w (VZ w (∀s∈l,xW s=true)):=by
 have k:=za.new w 207 #[.func (.func 286) #[] #[]];have hB:ph w.heap.size w (w.alloc (.cells #[.func (.func 286) #[] #[]] 207)):=(pf _ w).alloc (zG _) _;have j:=Ub _ A c l (h.grow hB) hl _ k;have f:(∀s∈l,xW s=true)↔¬ (∃s∈l,xW s=false):=by simp
 generalize (∃s∈l,xW s=false)=b at *;generalize (∀s∈l,xW s=true)=d at *
 go_enter func285,ntmps285
 have i:=pk f;clear f
 go_wp2_with (go_at_call 121;refine j.mono ?_;rintro e z ⟨r,rfl,u,x⟩)
 go_ret;have f:=i.out;refine⟨_,rfl,hB.trans (u.mono hB.size),?_⟩;cases r<;>simp_all
section
variable {P:oV}{w w':World}{ops:Array oM}{rest:List oM}{o:oM}{a:oy}{Q:Exit->oy->World->Prop}
theorem KD {v:Value}(d:o.guard=none)(e:(oB a.eval o).run P w=.ok (.value v) w')(h:wpList P ops Q rest (a.put o.dst v) w'):wpList P ops Q (o::rest) a w :=
 wpList_plain d λ_ c=>by unfold Oper.wp;rw[e];exact c _ _ h
end
def xO (c:xK):Bool:=if c.rQ=0 then decide (c.val.size<=60)&&c.size==0 else xW c.rQ&&c.val.toList.isEmpty&&decide (60<c.size)&&decide (c.size<=4000)
theorem RR (w:World)(c:xK):pr Y3 284 #[.agg (zm c).toArray] w λe w'=>e=Y0 (.bool (xO c))/\ph w.heap.size w w':=by
 obtain⟨key,val,d,size⟩:=c;have s:=za.new w 94 #[.string key,.string val,.int .i64 d,.int .i64 size];have i:ph w.heap.size w (w.alloc (.cells #[.string key,.string val,.int .i64 d,.int .i64 size] 94)):=(pf _ w).alloc (zG _) _;show pr Y3 284 #[.agg #[.string key,.string val,.int .i64 d,.int .i64 size]] w _
 unfold xO;simp only
 by_cases k:d=0
 ·subst k;rw[if_pos rfl]
  by_cases h1:val.size<=60
  ·have x:(val.size:Int)<=60:=by omega
   go_enter func284,ntmps284
   go_wp2;go_ret;exact⟨by simp[h1],i⟩
  ·have x:¬ (val.size:Int)<=60:=by omega
   go_enter func284,ntmps284
   go_wp2;go_ret;exact⟨by simp[h1],i⟩
 ·rw[if_neg k];have B:(d==0)=false:=by simpa using k
  have r:=Gg (w.alloc (.cells #[.string key,.string val,.int .i64 d,.int .i64 size] 94)) d;generalize xW d=pb at *;cases pb with
  | false =>
   go_enter func284,ntmps284
   go_wp2_with (go_at_call 286;refine r.mono ?_;rintro e f ⟨rfl,j⟩)
   go_ret;exact⟨by simp,i.trans (j.mono i.size)⟩
  | true =>
   go_enter func284,ntmps284
   have c1:∀f,ph (w.alloc (.cells #[.string key,.string val,.int .i64 d,.int .i64 size] 94)).heap.size (w.alloc (.cells #[.string key,.string val,.int .i64 d,.int .i64 size] 94)) f->f.cell? ⟨w.heap.size,1,none⟩=some (.string val)/\f.cell? ⟨w.heap.size,3,none⟩=some (.int .i64 size):=λf h=>by have u:=s.below h s.lt;exact⟨by rw[u.cell];rfl,by rw[u.cell];rfl⟩
   go_wp2_with (go_at_call 286;refine r.mono ?_;rintro e f ⟨rfl,j⟩;obtain⟨z,A⟩:=c1 f j)
   all_goals
    go_ret;refine⟨?_,i.trans (j.mono i.size)⟩
    first
     | (simp_all;done)
     | (simp_all;intros;omega)
theorem Rs (w:World)(s:xK)(B:Nat)(hB:za w B 303 #[.func (.func 284) #[] #[]]):pr Y3 321 #[.agg (zm s).toArray,.pointer (some ⟨B,0,none⟩)] w λe w'=>e=Y0 (.bool (!xO s))/\ph w.heap.size w w':=by
 have d:=za.new w 94 (zm s).toArray;have c:ph w.heap.size w (w.alloc (.cells (zm s).toArray 94)):=(pf _ w).alloc (zG _) _;have c0:=(hB.below c hB.lt).boxed
 go_enter func321,ntmps321
 go_wp2_with (first
  | (refine xA qt d ?_)
  | (go_at_call 284;refine(RR _ _).mono ?_;rintro e h ⟨rfl,f⟩))
 go_ret;exact⟨rfl,c.trans (f.mono c.size)⟩
theorem Ra (w:World)(A:Y5)(c:Nat)(l:List xK)(h:yp w w.heap.size 4 A l.length c (vV l))(hl:l.length<=1000000)(B:Nat)(hB:za w B 303 #[.func (.func 284) #[] #[]]):pr Y3 358 #[.slice A l.length c,.func (.func 321) #[] #[.pointer (some ⟨B,0,none⟩)]] w (OV w (∃s∈l,xO s=false)):=by
 go_enter func358,ntmps358
 go_wp2
 go_loopw [8] (λi wr=>∃(k:Nat),i=.int .i64 k/\k<=l.length/\(∀j,(h:j<l.length)->j<k->xO l[j]=true)/\ph w.heap.size w wr) (λi _=>l.length-(intOf i).toNat)
 case atStart=>exact⟨0,rfl,by omega,λj h h2=>by omega,pf _ _⟩
 case round =>
  obtain⟨k,rfl,N,u,d⟩:=hrel
  by_cases G:k<l.length
  ·obtain⟨g,o,rfl,K,_⟩:=h.rC (by omega);have H:wr.rangeAt g (o+k*4) (zm l[k]):=λj v f=>(d.cell (p:=⟨g,o+k*4+j,none⟩) K).trans (VU h rfl k G j v f)
   have C:xO l[k]=true->∀j,(h:j<l.length)->j<k+1->xO l[j]=true:=λh1 j f M=>by
    by_cases e:j=k
    ·subst e;exact h1
    ·exact u j f (by omega)
   have E:xO l[k]=false->∃s∈l,xO s=false:=λh1=>⟨_,qI G,h1⟩
   have r:=Rs wr l[k] B (hB.below d hB.lt);generalize l[k]=s at *;have O:IntKind.i64.wrap ((k:Int)+1)=(k:Int)+1:=xd _;clear u;cases hs:xO s with
   | true =>
    have x:=pk (C hs);rw[hs] at r;clear C E hs
    go_wp2_with (first
     | (refine KD rfl (yX qt H rfl rfl rfl) ?_)
     | (go_at_call 321;refine r.mono ?_;rintro e L ⟨rfl,z⟩))
    exact⟨⟨k+1,by simp,by omega,x.out,d.trans (z.mono d.size)⟩,by simp[intOf];omega⟩
   | false =>
    have x:=pk (E hs);rw[hs] at r;clear C E hs
    go_wp2_with (first
     | (refine KD rfl (yX qt H rfl rfl rfl) ?_)
     | (go_at_call 321;refine r.mono ?_;rintro e L ⟨rfl,z⟩))
    go_ret;exact⟨(k:Int),rfl,d.trans (z.mono d.size),⟨λ_=>x.out,λ_=>by omega⟩⟩
  ·obtain rfl:k=l.length:=by omega
   have I:=pk u;clear u;go_wp2;go_ret;refine⟨-1,rfl,d,⟨λh=>by omega,λ⟨s,hs,h⟩ => ?_⟩⟩;obtain⟨j,f,rfl⟩:=yG hs;rw[I.out j f f] at h;cases h
theorem Uc (w:World)(A:Y5)(c:Nat)(l:List xK)(h:yp w w.heap.size 4 A l.length c (vV l))(hl:l.length<=1000000)(B:Nat)(hB:za w B 303 #[.func (.func 284) #[] #[]]):pr Y3 320 #[.slice A l.length c,.func (.func 321) #[] #[.pointer (some ⟨B,0,none⟩)]] w (VZ w (∃s∈l,xO s=false)):=by
 have d:=Ra w A c l h hl B hB;generalize (∃s∈l,xO s=false)=b at *
 go_enter func320,ntmps320
 go_wp2_with (go_at_call 358;refine d.mono ?_;rintro e j ⟨r,rfl,f,i⟩)
 go_ret;exact⟨_,rfl,f,by rw[decide_eq_true_iff];exact i⟩
theorem Td (w:World)(A:Y5)(c:Nat)(l:List xK)(h:yp w w.heap.size 4 A l.length c (vV l))(hl:l.length<=1000000):pr Y3 283 #[.slice A l.length c,.func (.func 284) #[] #[]] w (VZ w (∀s∈l,xO s=true)):=by
 have k:=za.new w 303 #[.func (.func 284) #[] #[]];have hB:ph w.heap.size w (w.alloc (.cells #[.func (.func 284) #[] #[]] 303)):=(pf _ w).alloc (zG _) _;have j:=Uc _ A c l (h.grow hB) hl _ k;have f:(∀s∈l,xO s=true)↔¬ (∃s∈l,xO s=false):=by simp
 generalize (∃s∈l,xO s=false)=b at *;generalize (∀s∈l,xO s=true)=d at *
 go_enter func283,ntmps283
 have i:=pk f;clear f
 go_wp2_with (go_at_call 320;refine j.mono ?_;rintro e z ⟨r,rfl,u,x⟩)
 go_ret;have f:=i.out;refine⟨_,rfl,hB.trans (u.mono hB.size),?_⟩;cases r<;>simp_all
theorem Ft {w:World}{p a:Nat}(hc:w.cell? ⟨p,0,none⟩=some (.pointer (some ⟨a,0,none⟩))):pr Y3 42 #[.pointer (some ⟨p,0,none⟩)] w λe w'=>e=Y0 (.bool false)/\w=w':=by
 go_enter func42,ntmps42
 go_wp2;go_ret;exact⟨rfl,rfl⟩
theorem jf (w:World)(x:Obj):ph w.heap.size w (w.alloc x):=(pf _ _).alloc (zG _) _
theorem VX (w:World)(x y:Obj):ph w.heap.size w ((w.alloc x).alloc y):=(jf w x).alloc (by simp) _
theorem Za (w:World)(x y z:Obj):ph w.heap.size w (((w.alloc x).alloc y).alloc z):=(VX w x y).alloc (by simp;omega) _
def MB (tmps:Y7):ResultVar->Sem Value
 | .tmp t=>pure (tmps.getD t ou)
 | .cell a t=>do loadVar t (<-asAddr (tmps.getD a ou))
theorem Yf (fn:Func)(tmps:Y7):gL fn tmps=(do
  let vs <-fn.results.mapM (MB tmps)
  pure (if h:vs.size=1 then vs[0] else .tuple vs)):=by
 have:MB tmps=(fun
  | .tmp t=>pure (tmps.getD t ou)
  | .cell a t=>do loadVar t (<-asAddr (tmps.getD a ou))):=by
  funext r
  cases r
  ·rfl
  ·rfl
 rw[this];rfl
def Jt (P:oV)(w:World)(a:oy)(r:ResultVar)(v:Value):Prop:=(MB a.tmps r).run P w=.ok v w
section
variable {P:oV}{w:World}{a:oy}{v v1 v2 v3 v4:Value}{r1 r2 r3 r4:ResultVar}{fn:Func}
theorem vn (k:Tmp)(h:a.eval (.tmp k)=v):Jt P w a (.tmp k) v:=by
 have e:a.tmps.getD k ou=v:=h;unfold Jt MB;simp only[e];rfl
theorem Zr {p:px}{t:oD}(k:Tmp)(d:a.eval (.tmp k)=.pointer (some p))(c:(isAgg t).run P w=.ok false w)(f:w.cell? p=some v):Jt P w a (.cell k t) v:=by
 have e:a.tmps.getD k ou=.pointer (some p):=d;unfold Jt MB;simp[-zV,e,loadVar,asAddr,c,f,pv]
theorem xF {g:Nat}{T t:oD}{cs:Y7}(k:Tmp)(f:a.eval (.tmp k)=.pointer (some ⟨g,0,none⟩)){n:Nat}(c:yx P T n)(d:za w g t cs)(hn:cs.size=n):Jt P w a (.cell k T) (.agg cs):=by
 have e:a.tmps.getD k ou=.pointer (some ⟨g,0,none⟩):=f;unfold Jt MB;simp[-zV,e,asAddr,Qi (hn▸c) d]
theorem vq (h:fn.results=#[r1,r2])(h1:Jt P w a r1 v1)(h2:Jt P w a r2 v2):(gL fn a.tmps).run P w=.ok (.tuple #[v1,v2]) w:=by
 unfold Jt at h1 h2;rw[Yf];simp only[h];simp[-zV,h1,h2,pv]
theorem JJ (h:fn.results=#[r1,r2,r3])(h1:Jt P w a r1 v1)(h2:Jt P w a r2 v2)(c:Jt P w a r3 v3):(gL fn a.tmps).run P w=.ok (.tuple #[v1,v2,v3]) w:=by
 unfold Jt at h1 h2 c;rw[Yf];simp only[h];simp[-zV,h1,h2,c,pv]
theorem yi (h:fn.results=#[r1])(h1:Jt P w a r1 v1):(gL fn a.tmps).run P w=.ok v1 w:=by
 unfold Jt at h1;rw[Yf];simp only[h];simp[-zV,h1]
end
section
variable {w:World}{T:Y5}
end
def Jy (l:List ByteArray):Prop:=∀j,(h:j+1<l.length)->(l[j+1].toList==l[j].toList)=false
theorem Kg (w:World)(A:Y5)(c:Nat)(l:List ByteArray)(h:yp w w.heap.size 1 A l.length c (XJ l))(hl:l.length<=1000000)(ha:Jy l):pr Y3 280 #[.slice A l.length c] w λe w'=>e=Y0 (.slice A l.length c)/\ph w.heap.size w w':=by
 by_cases h2:l.length<2
 ·have s:(l.length:Int)<2:=by omega
  go_enter func280,ntmps280
  go_wp2;go_ret;exact⟨rfl,pf _ _⟩
 ·have s:¬ (l.length:Int)<2:=by omega
  go_enter func280,ntmps280
  go_wp2
  go_loopw [3] (λi wr=>∃(k m:Nat),i=.int .i64 m/\m=k+1/\m<=l.length/\ph w.heap.size w wr) (λi _=>l.length-(intOf i).toNat)
  case atStart=>exact⟨0,1,rfl,rfl,by omega,pf _ _⟩
  case round =>
   obtain⟨k,m,rfl,d,H,hB⟩:=hrel
   by_cases G:m<l.length
   ·have j:k+1<l.length:=by omega
    obtain⟨g,o,rfl,f,_⟩:=h.rC (by omega);have x:wr.drew.cell? ⟨g,o+m,none⟩=some (.string l[k+1]):=by rw[d];exact(hB.cell (p:=⟨g,o+(k+1),none⟩) f).trans (XP h rfl (k+1) j)
    have u:wr.drew.cell? ⟨g,o+k,none⟩=some (.string l[k]):=(hB.cell (p:=⟨g,o+k,none⟩) f).trans (XP h rfl k (by omega));have I:=ha k j;generalize l[k+1]=N at *;generalize l[k]=M at *;have K:IntKind.i64.wrap ((m:Int)-1)=(k:Int):=by rw[xd _];omega
    have L:IntKind.i64.wrap ((m:Int)+1)=(m:Int)+1:=xd _;have z:(0:Int)<=(m:Int):=by omega
    have B:(m:Int)<(l.length:Int):=by omega
    have C:(0:Int)<=(k:Int):=by omega
    have E:(k:Int)<(l.length:Int):=by omega
    have r:=pk d;clear d;go_wp2
    go_region
    go_wp2;exact⟨⟨k+1,m+1,by simp,by rw[r.out],by omega,hB.drew⟩,by simp[intOf];omega⟩
   ·obtain⟨hs⟩:Nonempty (m=l.length):=⟨by omega⟩;have hn:¬ (m:Int)<(l.length:Int):=by omega
    clear d hs;go_wp2;go_ret;exact⟨rfl,hB⟩
end
section
open Go Go.RowKit vA Go.Shelf
attribute [local go_sem] Oper.semAt_some
theorem jh {P:oV}(w:World)(t e:oD)(A:Y5)(n c:Nat)(ht:P.underlying t=some (.slice e)):(binOp .eql t (.slice A n c) (.slice none 0 0)).run P w=.ok (.bool A.isNone) w:=by
 have d:binOp .eql t (.slice A n c) (.slice none 0 0)=(do pure (.bool (<-mT (9999+1) t (.slice A n c) (.slice none 0 0)))):=rfl;have h:(mT (9999+1) t (.slice A n c) (.slice none 0 0)).run P w=.ok A.isNone w:=by unfold mT;cases A<;>simp[run_underlying ht]
 rw[d];simp only[Sem.run_bind,h,pv,Sem.run_pure]
def Uq (w:World)(l:List ByteArray)(e:dT)(w':World):Prop:=∃A c,e=Y0 (.slice A l.length c)/\w'.ownsRow w.heap.size 9 1 (.slice A l.length c) l.length (XJ l)/\ph w.heap.size w w'
theorem kA (w:World)(A:Y5)(c:Nat)(l:List ByteArray)(h:yp w w.heap.size 1 A l.length c (XJ l))(hl:l.length<=1000000):pr Y3 210 #[.slice A l.length c] w (Uq w l):=by
 rcases A with _|j
 ·have hc:=h.nil rfl;subst hc;have s:=h.le;obtain rfl:l=[]:=qF (by omega);have hq:=λW=>jh (P:=Y3) W 66 9 none 0 0 underlying66
  go_enter func210,ntmps210
  go_wp2;go_ret;exact⟨none,0,rfl,oz _ _ _ _,pf _ _⟩
 ·have f:(w.alloc (.cells #[] 9)).ownsRow w.heap.size 9 1 (.slice (some ⟨w.heap.size,0,none⟩) 0 0) 0 []:=World.ownsRow_lit w #[] 0 (zG _) (by unfold oo;omega) rfl;have d:ph w.heap.size w (w.alloc (.cells #[] 9)):=(pf _ w).alloc (zG _) _;have hq:=λW=>jh (P:=Y3) W 66 9 (some j) l.length c underlying66
  go_enter func210,ntmps210
  go_wp2_with (at_builtin;refine xy rfl Ov (.tmp 5) (.tmp 6) rfl w.heap.size (.slice (some ⟨w.heap.size,0,none⟩) 0 0) 0 [] rfl f _ _ l.length c (XJ l) rfl (h.grow d) (by unfold oo;omega) (by omega) d.size ?_;intro v5 w5 e r)
  go_ret;rw[qC,zQ] at e;obtain⟨i,k,rfl,_⟩:=qn e (jZ _);exact⟨i,k,rfl,e,d.trans (zl r d.size (zh f))⟩
end
section
open Go Go.RowKit vA
structure yj (x:yo):Prop where
 sorted:Yb (qi x)
 apart:Jy (qi x)
 short:∀s∈qi x,yq s=true
 leaf:x.leaf=true->x.keys=[]/\x.kids=[]/\∀c∈x.cells,xO c=true
 inner:x.leaf=false->x.cells=[]/\0<x.keys.length/\x.kids.length=x.keys.length+1/\∀i∈x.kids,xW i=true
def ue (w:World)(e:dT)(w':World):Prop:=(∃v,e=Y0 v)/\ph w.heap.size w w'
theorem Um (w:World)(e:Int):pr Y3 152 #[.bool true,.int .i64 e] w λe w'=>(∃v,e=Y0 v)/\w=w':=by
 go_enter func152,ntmps152
 go_wp2;go_end0;exact⟨⟨_,rfl⟩,rfl⟩
theorem BY (w:World)(x:yo)(k:Y5)(s:Nat)(B:Y5)(C:Nat)(r:Y5)(u:Nat)(h:XH w w.heap.size x k s B C r u)(hl:x.cells.length<=1000000)(aO:x.keys.length<=1000000)(aP:x.kids.length<=1000000)(hR:yj x):pr Y3 219 #[.agg (zu x k s B C r u)] w (ue w):=by
 have I:=za.new w 69 (zu x k s B C r u);have hB:ph w.heap.size w (w.alloc (.cells (zu x k s B C r u) 69)):=(pf _ w).alloc (zG _) _;have h1:=h.grow hB;have HK:=keys_gives _ x k s B C r u h1 hl;have z:=MH hl aO;obtain⟨aL,aH,aK,aC,aA⟩:=hR;generalize qi x=ks at *;unfold ue;obtain⟨leaf,cells,keys,kids⟩:=x;unfold zu at *;simp only at *;have aG:=pk aL;have aE:=pk aH;have aF:=pk aK;clear aL aH aK;cases leaf with
 | true =>
  obtain⟨rfl,rfl,aI⟩:=aC rfl;have U:=pk aI;clear aC aA aI
  go_enter func219,ntmps219
  go_wp2_with (first
   | (refine xA zj I ?_)
   | (go_at_call 93;refine HK.mono ?_;rintro e w2 ⟨A,c,rfl,H,K⟩)
   | (go_at_call 279;refine(JG w2 A c ks H z).mono ?_;rintro e w3 ⟨r3,rfl,j,L⟩;obtain rfl:r3=true:=L.2 aG.out;clear L)
   | (go_at_call 210;refine(kA w3 A c ks (H.grow j) z).mono ?_;rintro e w4 ⟨O,V,rfl,aD,E⟩)
   | (go_at_call 280;obtain⟨A5,c5,W,aB⟩:=qn aD (jZ _);injection W with e51 e52 e53;subst e51 e53;refine(Kg w4 O V ks aB z aE.out).mono ?_;rintro e w5 ⟨rfl,G⟩)
   | (go_at_call 281;refine(UG w5 A c ks ((((H.grow j).grow E)).grow G) z).mono ?_;rintro e d ⟨r6,rfl,X,M⟩;obtain rfl:r6=true:=M.2 aF.out;clear M;have f:=K.trans ((j.trans ((E.trans ((G.trans (X.mono G.size)).mono E.size)).mono j.size)).mono K.size);have b6:=I.below f I.lt;have k0:d.cell? ⟨w.heap.size,0,none⟩=some (.bool true):=(by rw[b6.cell];rfl);have k1:d.cell? ⟨w.heap.size,1,none⟩=some (.slice k cells.length s):=(by rw[b6.cell];rfl);have k2:d.cell? ⟨w.heap.size,2,none⟩=some (.slice B 0 C):=(by rw[b6.cell];rfl);have k3:d.cell? ⟨w.heap.size,3,none⟩=some (.slice r 0 u):=(by rw[b6.cell];rfl))
   | (go_at_call 283;refine(Td d k s cells (h1.c.grow f) hl).mono ?_;rintro e w8 ⟨r8,rfl,Z,N⟩;obtain rfl:r8=true:=N.2 U.out;clear N)
   | (go_at_call 152;refine(Um _ _).mono ?_;rintro e w7 ⟨⟨v7,rfl⟩,rfl⟩))
  exact oE (dS rfl _ _ _) rfl ⟨⟨_,rfl⟩,(hB.trans (f.mono hB.size)).trans (Z.mono (hB.trans (f.mono hB.size)).size)⟩
 | false =>
  obtain⟨rfl,aN,aM,aJ⟩:=aA rfl;have U:=pk aJ;have g1:(0:Int)<(keys.length:Int):=by omega
  have g2:IntKind.i64.wrap ((keys.length:Int)+1)=(kids.length:Int):=by rw[xd _];omega
  clear aC aA aJ aN aM
  go_enter func219,ntmps219
  go_wp2_with (first
   | (refine xA zj I ?_)
   | (go_at_call 93;refine HK.mono ?_;rintro e w2 ⟨A,c,rfl,H,K⟩)
   | (go_at_call 279;refine(JG w2 A c ks H z).mono ?_;rintro e w3 ⟨r3,rfl,j,L⟩;obtain rfl:r3=true:=L.2 aG.out;clear L)
   | (go_at_call 210;refine(kA w3 A c ks (H.grow j) z).mono ?_;rintro e w4 ⟨O,V,rfl,aD,E⟩)
   | (go_at_call 280;obtain⟨A5,c5,W,aB⟩:=qn aD (jZ _);injection W with e51 e52 e53;subst e51 e53;refine(Kg w4 O V ks aB z aE.out).mono ?_;rintro e w5 ⟨rfl,G⟩)
   | (go_at_call 281;refine(UG w5 A c ks ((((H.grow j).grow E)).grow G) z).mono ?_;rintro e d ⟨r6,rfl,X,M⟩;obtain rfl:r6=true:=M.2 aF.out;clear M;have f:=K.trans ((j.trans ((E.trans ((G.trans (X.mono G.size)).mono E.size)).mono j.size)).mono K.size);have b6:=I.below f I.lt;have k0:d.cell? ⟨w.heap.size,0,none⟩=some (.bool false):=(by rw[b6.cell];rfl);have k1:d.cell? ⟨w.heap.size,1,none⟩=some (.slice k 0 s):=(by rw[b6.cell];rfl);have k2:d.cell? ⟨w.heap.size,2,none⟩=some (.slice B keys.length C):=(by rw[b6.cell];rfl);have k3:d.cell? ⟨w.heap.size,3,none⟩=some (.slice r kids.length u):=(by rw[b6.cell];rfl))
   | (go_at_call 285;refine(Tc d r u kids (h1.i.grow f) aP).mono ?_;rintro e w8 ⟨r8,rfl,Z,N⟩;obtain rfl:r8=true:=N.2 U.out;clear N)
   | (go_at_call 152;refine(Um _ _).mono ?_;rintro e w7 ⟨⟨v7,rfl⟩,rfl⟩))
  go_end0;exact⟨⟨_,rfl⟩,(hB.trans (f.mono hB.size)).trans (Z.mono (hB.trans (f.mono hB.size)).size)⟩
theorem xZ (w:World)(n:Nat)(hn:n<9223372036854775808):pr Y3 220 #[.int .i64 (n:Int)] w (yU w (jQ n)):=by
 have hc:IntKind.u64.wrap (n:Int)=(n:Int):=by simp[IntKind.wrap,IntKind.bits,IntKind.signed];omega
 go_enter func220,ntmps220
 go_wp2_with (go_at_call 287;refine(KR n (by omega) w).mono ?_;rintro e c ⟨v,rfl,own,hB⟩)
 go_ret;exact⟨v,rfl,own,hB⟩
theorem Ka {ls:List Y4}{v:Value}{w:World}(h:xN ls v w)(d:ls.length<=1000)(hf:ls.flatten.length<=1000000000):pr Y3 153 #[v] w (yU w ls.flatten):=by
 have c:=jV h d hf;obtain⟨b,rfl,_⟩:=h;generalize ls.flatten=l at *
 go_enter func153,ntmps153
 go_wp2_with (go_at_call 185;refine c.mono ?_;rintro e f ⟨v,rfl,own,hB⟩)
 go_ret;exact⟨v,rfl,own,hB⟩
def QO (s:ByteArray):Y4:=Ef s.data.toList
theorem XW (w:World)(s:ByteArray)(hs:s.size<=1000000000):pr Y3 269 #[.string s] w (yU w (QO s)):=by
 have h:=RB s.data.toList (by rw[zW];exact hs) w;rw[<-Kz] at h;exact h
theorem TD (w:World)(c:xK)(hs:c.val.size<=1000000000):pr Y3 268 #[.agg (zm c).toArray] w (yU w (QO c.val)):=by
 have d:=za.new w 94 (zm c).toArray;have hB:ph w.heap.size w (w.alloc (.cells (zm c).toArray 94)):=(pf _ w).alloc (zG _) _;have c1:(w.alloc (.cells (zm c).toArray 94)).cell? ⟨w.heap.size,1,none⟩=some (.string c.val):=by rw[d.cell];rfl
 go_enter func268,ntmps268
 go_wp2_with (go_at_call 269;refine(XW _ _ hs).mono ?_;rintro e h ⟨v,rfl,own,f⟩)
 go_ret;exact⟨v,rfl,yZ.base own hB.size,hB.trans (f.mono hB.size)⟩
theorem TC (w:World)(c:xK)(n:Nat)(hn:c.size=(n:Int))(h:n<9223372036854775808):pr Y3 270 #[.agg (zm c).toArray] w (yU w (jQ n)):=by
 have d:=za.new w 94 (zm c).toArray;have hB:ph w.heap.size w (w.alloc (.cells (zm c).toArray 94)):=(pf _ w).alloc (zG _) _;have c3:(w.alloc (.cells (zm c).toArray 94)).cell? ⟨w.heap.size,3,none⟩=some (.int .i64 (n:Int)):=by rw[d.cell,<-hn];rfl
 go_enter func270,ntmps270
 go_wp2_with (go_at_call 220;refine(xZ _ n h).mono ?_;rintro e i ⟨v,rfl,own,f⟩)
 go_ret;exact⟨v,rfl,yZ.base own hB.size,hB.trans (f.mono hB.size)⟩
def jL (c:xK):Y4:=QO c.key++jQ c.rQ.toNat++(if c.rQ=0 then QO c.val else jQ c.size.toNat)
def UY (s:ByteArray)(i:Int):Y4:=QO s++jQ i.toNat
def qh (x:yo):List Y4:=x.cells.map jL++(dv x.keys.length).map λj=>UY (x.keys.getD j oR) (x.kids.getD (j+1) 0)
theorem Rn:Zj 142 129 1 24 (.slice none 0 0):=⟨underlying142,by kernel_rfl,by kernel_rfl,by decide⟩
theorem IP {w:World}{b i:Nat}{T d:oD}{sz u n s:Nat}{v f:Value}{cs cs':Y8}(h:w.ownsRow b T sz v n cs)(j:w.ownsRow i d u f s cs')(k:T≠d):∀r,f.ownBlock=some r->some r≠v.ownBlock:=by
 intro r c e;rcases h.2 with⟨rfl,_⟩|⟨g,cap,cur,rfl,_,hq,_⟩
 ·cases e
 ·rcases j.2 with⟨rfl,_⟩|⟨g',cap',cur',rfl,_,hq',_⟩
  ·cases c
  ·injection c with c
   injection e with e
   subst c;subst e;rw[hq] at hq';injection hq' with hq'
   injection hq' with _ h2
   exact k h2
theorem QE {w w':World}{b e:Nat}{T c:oD}{sz j n i:Nat}{v k:Value}{cs cs':Y8}(h:w.ownsRow b T sz v n cs)(d:w.ownsRow e c j k i cs')(s:T≠c)(u:w.grownBy w' v.ownBlock):w'.ownsRow e c j k i cs' :=
 ql d λr f=>u.block r (kJ d r f) (IP h d s r f)
theorem Og {w:World}{b:Nat}{T d:oD}{sz n g:Nat}{v:Value}{cs:Y8}{cs':Y7}(h:w.ownsRow b T sz v n cs)(i:za w g d cs')(f:T≠d):some g≠v.ownBlock:=by
 intro e;rcases h.2 with⟨rfl,_⟩|⟨g',cap,cur,rfl,_,hq,_⟩
 ·cases e
 ·injection e with e
  subst e;have c:w.heap[g]?=some (.cells cs' d (0,0)):=i;rw[hq] at c;injection c with c
  injection c with _ h2
  exact f h2
theorem Of {w:World}{b:Nat}{T:oD}{sz n r c:Nat}{v:Value}{cs:Y8}{es:Array oJ}(h:w.ownsRow b T sz v n cs)(f:zw w r es c):some r≠v.ownBlock:=by
 intro e;rcases h.2 with⟨rfl,_⟩|⟨g',cap,cur,rfl,_,hq,_⟩
 ·cases e
 ·injection e with e
  subst e;have d:w.heap[r]?=some (.map es c):=f;rw[hq] at d;cases d
structure Zg (w:World)(base:Nat)(v:Value)(ls:List Y4)(vs:Y8):Prop where
 own:w.ownsRow base 129 1 v ls.length vs
 one:∀v∈vs,v.oneCell'=true
 at_:∀j,(h:j<ls.length)->∃A c,vs[j]?=some (.slice A ls[j].length c)/\yZ w 0 (.slice A ls[j].length c) ls[j]
theorem Zg.none (w:World)(base:Nat):Zg w base (.slice none 0 0) [] []:=⟨oz _ _ _ _,λv h=>by simp at h,λj h=>by simp at h⟩
theorem Zg.grow {w w':World}{base:Nat}{v:Value}{ls:List Y4}{vs:Y8}(h:Zg w base v ls vs)(hB:ph w.heap.size w w'):Zg w' base v ls vs:=by
 refine⟨qw h.own hB,h.one,λj f => ?_⟩;obtain⟨A,c,e,d⟩:=h.at_ j f;exact⟨A,c,e,qw d hB⟩
theorem Zg.more {w w':World}{base s:Nat}{v k:Value}{ls:List Y4}{d:Y8}(h:Zg w base v ls d){l:Y4}{A:Y5}{c:Nat}(E:yZ w s (.slice A l.length c) l)
  (own:w'.ownsRow base 129 1 k (ls.length+1) (d++[.slice A l.length c])) (i:w.grownBy w' v.ownBlock):Zg w' base k (ls++[l]) (d++[.slice A l.length c]):=by
 have G:d.length=ls.length:=by have:=h.own.1;omega
 have f:129≠5:=by decide
 refine⟨by rw[zH];exact own,?_,λj C => ?_⟩
 ·intro u hu;rcases qA.1 hu with hu|hu
  ·exact h.one u hu
  ·obtain rfl:=qK.1 hu;rfl
 ·by_cases e:j<ls.length
  ·obtain⟨r,c',x,B⟩:=h.at_ j e;refine⟨r,c',?_,?_⟩
   ·rw[ow (by omega),x,gz e]
   ·rw[gz e];exact QE h.own B f i
  ·have z:j=ls.length:=by simp at C;omega
   subst z;refine⟨A,c,?_,?_⟩
   ·rw[qU (by omega),G,Nat.sub_self,ng (zG _)];simp
   ·rw[ng (zG _)];have:=QE h.own (yZ.base E (Nat.zero_le _)) f i;simp only[Nat.sub_self,zB];exact this
def Ut (w:World)(ls:List Y4)(e:dT)(w':World):Prop:=∃A c vs,e=Y0 (.slice A ls.length c)/\Zg w' w.heap.size (.slice A ls.length c) ls vs/\ph w.heap.size w w'
theorem QH (s:ByteArray):(QO s).length<=10+s.size:=by
 unfold QO Ef;rw[zH];have h1:=xa s.data.toList.length;have h2:s.data.toList.length=s.size:=zW;omega
theorem Vt {c:xK}(h:xO c=true):∃d sn:Nat,c.rQ=d/\c.size=sn/\d<=2000/\sn<=4000/\(d=0->c.val.size<=60):=by
 unfold xO at h
 by_cases f:c.rQ=0
 ·rw[if_pos f] at h;simp only[oZ,decide_eq_true_eq,beq_iff_eq] at h;exact⟨0,0,by omega,by omega,by omega,by omega,λ_=>h.1⟩
 ·rw[if_neg f] at h;simp only[xW,oZ,decide_eq_true_eq] at h;exact⟨c.rQ.toNat,c.size.toNat,by omega,by omega,by omega,by omega,λe=>by omega⟩
theorem UN {c:xK}(i:c.key.size<=81)(e:xO c=true):(jL c).length<=200:=by
 obtain⟨j,sn,f,h,h1,h2,d⟩:=Vt e;unfold jL;rw[zH,zH];have q1:=QH c.key;have q2:=xa c.rQ.toNat;have k:=QH c.val;have r:=xa c.size.toNat;split
 ·have:=d (by omega);omega
 ·omega
def ZT:Array oJ:=#[{key:=.bool true,val:=.func (.func 268) #[] #[],born:=0},{key:=.bool false,val:=.func (.func 270) #[] #[],born:=1}]
theorem Cl (b:Bool):ny .bool (.bool b) ZT.toList 0=some (some (if b then 0 else 1,.func (.func (if b then 268 else 270)) #[] #[])):=by cases b<;>rfl
theorem Om {W:World}{r:Nat}(h:zw W r ZT 2)(b:Bool):(gE 348 (.map (some r)) (.bool b) false).run Y3 W=.ok (.func (.func (if b then 268 else 270)) #[] #[]) W :=
 RC underlying348 underlying4 (show dJ .bool (.bool b) from trivial) h (Cl b)
theorem wZ {A s c:World}{j k r:Y5}{u x z:Nat}{d f i l:Y4}(I:qq A A.heap.size j u d)(K:qq s s.heap.size k x f)(L:qq c c.heap.size r z i)(E:ph A.heap.size A s)(B:ph s.heap.size s c)(hl:[d,f,i].flatten=l)(M:l.length<=200):pr Y3 153 #[.slice (some ⟨c.heap.size,0,none⟩) 3 3] (c.alloc (.cells #[.slice j d.length u,.slice k f.length x,.slice r i.length z] 129)) (yU (c.alloc (.cells #[.slice j d.length u,.slice k f.length x,.slice r i.length z] 129)) l):=by
 have C:=E.trans (B.mono E.size)
 have H:=xN.new (w:=c) [((j,u),d),((k,x),f),((r,z),i)] (by
  intro y G;simp at G;rcases G with rfl|rfl|rfl
  ·exact(I.below C).more C.size
  ·exact(K.below B).more B.size
  ·exact L)
 have h:=Ka H (by simp) (by show [d,f,i].flatten.length<=_;rw[hl];omega);have e:(([((j,u),d),((k,x),f),((r,z),i)]:List ((Y5×Nat)×Y4)).map (·.2)).flatten=l:=hl;rw[e] at h;exact h
theorem Gv {s c:World}{i j:Y5}{k r:Nat}{d f l:Y4}(A:qq s s.heap.size i k d)(B:qq c c.heap.size j r f)(u:ph s.heap.size s c)(hl:[d,f].flatten=l)(C:l.length<=1000000000):pr Y3 153 #[.slice (some ⟨c.heap.size,0,none⟩) 2 2] (c.alloc (.cells #[.slice i d.length k,.slice j f.length r] 129)) (yU (c.alloc (.cells #[.slice i d.length k,.slice j f.length r] 129)) l):=by
 have z:=xN.new (w:=c) [((i,k),d),((j,r),f)] (by
  intro y x;simp at x;rcases x with rfl|rfl
  ·exact(A.below u).more u.size
  ·exact B)
 have h:=Ka z (by simp) (by show [d,f].flatten.length<=_;rw[hl];omega);have e:(([((i,k),d),((j,r),f)]:List ((Y5×Nat)×Y4)).map (·.2)).flatten=l:=hl;rw[e] at h;exact h
def keyAt (keys:List ByteArray)(kids:List Int)(j:Nat):Y4:=UY (keys.getD j oR) (kids.getD (j+1) 0)
theorem Jj (w:World)(x:yo)(Ac:Y5)(cc:Nat)(Ak:Y5)(ck:Nat)(Ai:Y5)(ci:Nat)(h:XH w w.heap.size x Ac cc Ak ck Ai ci)(hl:x.cells.length<=1000000)(cH:x.keys.length<=1000000)(cI:x.kids.length<=1000000)(hR:yj x):pr Y3 208 #[.agg (zu x Ac cc Ak ck Ai ci)] w (Ut w (qh x)):=by
 have b0:=za.new w 69 (zu x Ac cc Ak ck Ai ci);have hB:ph w.heap.size w (w.alloc (.cells (zu x Ac cc Ak ck Ai ci) 69)):=(pf _ w).alloc (zG _) _;have h1:=h.grow hB;obtain⟨hc,hk,hi⟩:=h;have lc:=hc.le;have lk:=hk.le;have li:=hi.le;obtain⟨leaf,cells,keys,kids⟩:=x;unfold zu at *;simp only at *;have b2:∀c∈cells,xO c=true/\c.key.size<=81:=λc hc=>by
  cases leaf with
  | true =>
   refine⟨(hR.leaf rfl).2.2 c hc,?_⟩;have:=hR.short c.key (qP.2 ⟨c,hc,rfl⟩);unfold yq at this;simpa using this
  | false =>
   have e:cells=[]:=(hR.inner rfl).1;rw[e] at hc;cases hc
 have b7:∀j,(h:j<keys.length)->keys[j].size<=81/\∃n:Nat,n<=2000/\∃h2:j+1<kids.length,kids[j+1]=(n:Int):=λj hj=>by
  cases leaf with
  | true =>
   have e:keys=[]:=(hR.leaf rfl).1;subst e;simp at hj
  | false =>
   obtain⟨_,_,a6,hp⟩:=hR.inner rfl;simp only at a6 hp;have h2:j+1<kids.length:=by omega
   have cA:=hp _ (qI h2);simp only[xW,oZ,decide_eq_true_eq] at cA;have hs:=hR.short keys[j] (qI hj);refine⟨by unfold yq at hs;simpa using hs,kids[j+1].toNat,by omega,h2,by omega⟩
 go_enter func208,ntmps208
 have e0:ny .bool (.bool true) (#[]:Array oJ).toList 0=some none:=rfl;have e1:ny .bool (.bool false) (#[{key:=.bool true,val:=.func (.func 268) #[] #[],born:=0}]:Array oJ).toList 0=some none:=rfl;have E0:=pk e0;have E1:=pk e1;clear e0 e1;obtain⟨W1,a3⟩:=Z9 (w.alloc (.cells #[.bool leaf,.slice Ac cells.length cc,.slice Ak keys.length ck,.slice Ai kids.length ci] 69));rw[<-a3] at b0 hB h1;have cC:W1.heap.size=w.heap.size+1:=by rw[a3];exact pq _ _
 have bZ:=pk a3;clear a3 cC
 go_wp2_with (first
  | (refine Qq rfl rfl ?_;rw[<-bZ.out];intro bM;have a2:=(pf _ W1).alloc (zG _) (.map #[] 0))
  | (refine XO rfl (.tmp 8) (.const (.bool true)) (.func 268) (.inl rfl) underlying348 underlying4 (show dJ .bool (.bool true) from trivial) rfl rfl rfl bM E0.out ?_;intro w3 bN a9)
  | (refine XO rfl (.tmp 8) (.const (.bool false)) (.func 270) (.inl rfl) underlying348 underlying4 (show dJ .bool (.bool false) from trivial) rfl rfl rfl bN E1.out ?_;intro w4 bO bG;have a7:ph W1.heap.size W1 w4:=((a2.trans (zl a9 a2.size (λr e=>by injection e with e;omega))).trans (zl bG (zT a2.size a9.size) (λr e=>by injection e with e;omega)));have b4:=b0.below a7 b0.lt;have k1:w4.cell? ⟨w.heap.size,1,none⟩=some (.slice Ac cells.length cc):=(by rw[b4.cell];rfl)))
 have hm:zw w4 W1.heap.size ZT 2:=bO;obtain⟨r,hr⟩:=Z9 W1.heap.size;rw[<-hr] at hm ⊢;have aA:ph w.heap.size w w4:=hB.trans (a7.mono hB.size);clear hr bM bN bO a9 bG a2 h1 a7
 go_loopw [2,13] (λv i wr=>∃(k:Nat) (A:Y5) (c:Nat) (vs:Y8),k<=cells.length/\i=.int .i64 k/\v=.slice A k c/\Zg wr w4.heap.size (.slice A k c) ((cells.take k).map jL) vs/\ph w4.heap.size w4 wr) (λ_ i _=>cells.length-(intOf i).toNat)
 case atStart=>exact⟨0,none,0,[],by omega,rfl,rfl,Zg.none _ _,pf _ _⟩
 case round =>
  obtain⟨k,A,c,vs,b8,rfl,rfl,hL,u⟩:=hrel
  by_cases aO:k<cells.length
  ·obtain⟨g,o,rfl,hg,_⟩:=hc.rC (by omega);have cB:wr.rangeAt g (o+k*4) (zm cells[k]):=λj v hj=>(u.cell (p:=⟨g,o+k*4+j,none⟩) (zO hg aA.size)).trans ((aA.cell (p:=⟨g,o+k*4+j,none⟩) hg).trans (VU hc rfl k aO j v hj))
   have b3:=b2 _ (qI aO);have bR:(cells.take (k+1)).map jL=(cells.take k).map jL++[jL cells[k]]:=by rw[zU aO,qW];rfl
   have aI:((cells.take k).map jL).length=k:=by rw[qE,zZ];omega
   generalize cells[k]=x at *;obtain⟨bT,bU⟩:=b3;have a6:=UN bU bT;obtain⟨E,sn,e1,e2,h1,h2,h3⟩:=Vt bT;obtain⟨d,B,xp,xz⟩:=x;simp only at bU e1 e2 h3;subst e1 e2;have n0:=za.new wr 94 (zm Yp).toArray;have nb:=n0.setRow (zm (⟨d,B,(E:Int),(sn:Int)⟩:xK)).toArray;have nB:ph wr.heap.size wr ((wr.alloc (.cells (zm Yp).toArray 94)).setRow wr.heap.size (zm (⟨d,B,(E:Int),(sn:Int)⟩:xK)).toArray):=zf ((pf _ wr).alloc (zG _) _) (zG _) _;obtain⟨X,a8⟩:=Z9 ((wr.alloc (.cells (zm Yp).toArray 94)).setRow wr.heap.size (zm (⟨d,B,(E:Int),(sn:Int)⟩:xK)).toArray);rw[<-a8] at nb nB;have HW:=pk a8;have aE:=u.trans (nB.mono u.size);have bF:=hL.grow nB;generalize (cells.take k).map jL=ls at *;have aL:=pk aI;have a1:=pk bR;have bP:∀W,ph X.heap.size X W->zw W r ZT 2:=λW hW=>(hm.below aE hm.lt).below hW (zO hm.lt aE.size)
   obtain⟨f,a4⟩:=Z9 wr.heap.size;have z:∀W,ph X.heap.size X W->W.cell? ⟨f,0,none⟩=some (.string d)/\W.cell? ⟨f,1,none⟩=some (.string B)/\W.cell? ⟨f,2,none⟩=some (.int .i64 (E:Int))/\W.cell? ⟨f,3,none⟩=some (.int .i64 (sn:Int))/\zw W r ZT 2:=λW hW=>by have b:=nb.below hW nb.lt;rw[<-a4] at b;exact⟨by rw[b.cell];rfl,by rw[b.cell];rfl,by rw[b.cell];rfl,by rw[b.cell];rfl,bP W hW⟩
   clear a8 bR aI hL bP
   go_wp2_with (first
    | (refine KD rfl (yX qt cB rfl rfl rfl) ?_)
    | (refine KD rfl (XN rfl) ?_)
    | (refine zt rfl 94 (.tmp 5) (.tmp 16) rfl wr.heap.size rfl rfl qt n0 rfl rfl (ZZ _) ?_;rw[<-HW.out]))
   rw[<-a4];have bD:=pk a4;clear a4;simp only[Act.put,zA,zF,zE];have aD:ph X.heap.size X X.drew:=(pf _ X).drew;rcases dp E with h0|h0
   ·have cD:B.size<=1000000000:=by have:=h3 h0;omega
    subst h0;have qd:=z _ aD;have bX:∀W,zw W r ZT 2->(gE 348 (.map (some r)) (.bool true) false).run Y3 W=.ok (.func (.func 268) #[] #[]) W:=λW h=>Om h true
    have aQ:Hid ([QO d,jQ 0,QO B].flatten=jL (⟨d,B,((0:Nat):Int),(sn:Int)⟩:xK)):=pk (by unfold jL;simp)
    go_region_held3 (λW=>W.cell? ⟨f,0,none⟩=some (.string d)/\W.cell? ⟨f,1,none⟩=some (.string B)/\W.cell? ⟨f,2,none⟩=some (.int .i64 0)/\W.cell? ⟨f,3,none⟩=some (.int .i64 (sn:Int))/\zw W r ZT 2) (first|exact qd|exact q5|exact q6|exact q7|exact q8|exact q9|exact aB|exact a0) (first
     | (go_at_call 269;refine(XW _ d (by omega)).mono ?_;rintro e W5 ⟨v5,rfl,aY,aS⟩;have N:=aD.trans (aS.mono aD.size);have q5:=z _ N;obtain⟨A5,c5,rfl,aW⟩:=aY.inB)
     | (go_at_call 220;refine(xZ _ 0 (by omega)).mono ?_;rintro e W6 ⟨v6,rfl,aZ,aC⟩;have O:=N.trans (aC.mono N.size);have q6:=z _ O;obtain⟨A6,c6,rfl,aX⟩:=aZ.inB)
     | (go_at_call 268;refine(TD _ (⟨d,B,((0:Nat):Int),(sn:Int)⟩:xK) cD).mono ?_;rintro e W7 ⟨v7,rfl,bC,aT⟩;have aN:=O.trans (aT.mono O.size);have q7:=z _ aN;obtain⟨A7,c7,rfl,bA⟩:=bC.inB;have V:=aN.alloc aN.size (.cells #[.slice A5 (QO d).length c5,.slice A6 (jQ 0).length c6,.slice A7 (QO B).length c7] 129);have q8:=z _ V)
     | (go_at_call 153;have HJ:=wZ aW aX bA aC aT aQ.out a6;refine HJ.mono ?_;rintro e C ⟨v9,rfl,aK,aU⟩;have U:=V.trans (aU.mono V.size);have q9:=z _ U;obtain⟨L,M,rfl,bI⟩:=aK.inB;have G:=U.alloc U.size (.cells #[.slice L (jL (⟨d,B,((0:Nat):Int),(sn:Int)⟩:xK)).length M] 129);have aB:=z _ G;have aF:=bF.grow G;have H:=aF.own;rw[aL.out] at H;have aH:=zT aE.size G.size)
     | (refine VA rfl Rn (.tmp 17) (.tmp 33) rfl w4.heap.size (.slice A k c) k vs rfl H _ _ 1 1 [.slice L (jL (⟨d,B,((0:Nat):Int),(sn:Int)⟩:xK)).length M] rfl (KI C 129 _ rfl) (by unfold oo;omega) (by omega) aH ?_;intro bV K aJ I;have aM:=nb.below G nb.lt;rw[<-bD.out] at aM;have Z:=aM.grown I (Og H aM (by decide));have a0:K.cell? ⟨f,0,none⟩=some (.string d)/\K.cell? ⟨f,1,none⟩=some (.string B)/\K.cell? ⟨f,2,none⟩=some (.int .i64 0)/\K.cell? ⟨f,3,none⟩=some (.int .i64 (sn:Int))/\zw K r ZT 2:=⟨by rw[Z.cell];rfl,by rw[Z.cell];rfl,by rw[Z.cell];rfl,by rw[Z.cell];rfl,aB.2.2.2.2.grown I (Of H aB.2.2.2.2)⟩))
    go_wp2
    all_goals
     have aV:ph C.heap.size C (C.alloc (.cells #[.slice L (jL (⟨d,B,((0:Nat):Int),(sn:Int)⟩:xK)).length M] 129)):=(pf _ C).alloc (zG _) _;have aG:=aF.more (qw aK aV) (by rw[aL.out];exact aJ) I;obtain⟨aP,aR,rfl,_⟩:=qn aJ aG.one;exact⟨⟨k+1,aP,aR,_,by omega,by simp,rfl,by rw[a1.out];exact aG,(aE.trans (G.mono aE.size)).trans (zl I aH (zh H))⟩,by simp[intOf];omega⟩
   ·have cE:((E:Int)==0)=false:=by simp;omega
    have qd:=z _ aD;have bX:∀W,zw W r ZT 2->(gE 348 (.map (some r)) (.bool false) false).run Y3 W=.ok (.func (.func 270) #[] #[]) W:=λW h=>Om h false
    have aQ:Hid ([QO d,jQ E,jQ sn].flatten=jL (⟨d,B,(E:Int),(sn:Int)⟩:xK)):=pk (by unfold jL;rw[if_neg (by show ¬ ((E:Int)=0);omega)];simp)
    go_region_held3 (λW=>W.cell? ⟨f,0,none⟩=some (.string d)/\W.cell? ⟨f,1,none⟩=some (.string B)/\W.cell? ⟨f,2,none⟩=some (.int .i64 (E:Int))/\W.cell? ⟨f,3,none⟩=some (.int .i64 (sn:Int))/\zw W r ZT 2) (first|exact qd|exact q5|exact q6|exact q7|exact q8|exact q9|exact aB|exact a0) (first
     | (go_at_call 269;refine(XW _ d (by omega)).mono ?_;rintro e W5 ⟨v5,rfl,aY,aS⟩;have N:=aD.trans (aS.mono aD.size);have q5:=z _ N;obtain⟨A5,c5,rfl,aW⟩:=aY.inB)
     | (go_at_call 220;refine(xZ _ E (by omega)).mono ?_;rintro e W6 ⟨v6,rfl,aZ,aC⟩;have O:=N.trans (aC.mono N.size);have q6:=z _ O;obtain⟨A6,c6,rfl,aX⟩:=aZ.inB)
     | (go_at_call 270;refine(TC _ (⟨d,B,(E:Int),(sn:Int)⟩:xK) sn rfl (by omega)).mono ?_;rintro e W7 ⟨v7,rfl,bC,aT⟩;have aN:=O.trans (aT.mono O.size);have q7:=z _ aN;obtain⟨A7,c7,rfl,bA⟩:=bC.inB;have V:=aN.alloc aN.size (.cells #[.slice A5 (QO d).length c5,.slice A6 (jQ E).length c6,.slice A7 (jQ sn).length c7] 129);have q8:=z _ V)
     | (go_at_call 153;have HJ:=wZ aW aX bA aC aT aQ.out a6;refine HJ.mono ?_;rintro e C ⟨v9,rfl,aK,aU⟩;have U:=V.trans (aU.mono V.size);have q9:=z _ U;obtain⟨L,M,rfl,bI⟩:=aK.inB;have G:=U.alloc U.size (.cells #[.slice L (jL (⟨d,B,(E:Int),(sn:Int)⟩:xK)).length M] 129);have aB:=z _ G;have aF:=bF.grow G;have H:=aF.own;rw[aL.out] at H;have aH:=zT aE.size G.size)
     | (refine VA rfl Rn (.tmp 17) (.tmp 33) rfl w4.heap.size (.slice A k c) k vs rfl H _ _ 1 1 [.slice L (jL (⟨d,B,(E:Int),(sn:Int)⟩:xK)).length M] rfl (KI C 129 _ rfl) (by unfold oo;omega) (by omega) aH ?_;intro bV K aJ I;have aM:=nb.below G nb.lt;rw[<-bD.out] at aM;have Z:=aM.grown I (Og H aM (by decide));have a0:K.cell? ⟨f,0,none⟩=some (.string d)/\K.cell? ⟨f,1,none⟩=some (.string B)/\K.cell? ⟨f,2,none⟩=some (.int .i64 (E:Int))/\K.cell? ⟨f,3,none⟩=some (.int .i64 (sn:Int))/\zw K r ZT 2:=⟨by rw[Z.cell];rfl,by rw[Z.cell];rfl,by rw[Z.cell];rfl,by rw[Z.cell];rfl,aB.2.2.2.2.grown I (Of H aB.2.2.2.2)⟩))
    go_wp2
    all_goals
     have aV:ph C.heap.size C (C.alloc (.cells #[.slice L (jL (⟨d,B,(E:Int),(sn:Int)⟩:xK)).length M] 129)):=(pf _ C).alloc (zG _) _;have aG:=aF.more (qw aK aV) (by rw[aL.out];exact aJ) I;obtain⟨aP,aR,rfl,_⟩:=qn aJ aG.one;exact⟨⟨k+1,aP,aR,_,by omega,by simp,rfl,by rw[a1.out];exact aG,(aE.trans (G.mono aE.size)).trans (zl I aH (zh H))⟩,by simp[intOf];omega⟩
  ·obtain rfl:k=cells.length:=by omega
   rw[dD] at hL;have b5:za wr w.heap.size 69 _:=b4.below u b4.lt;have k2:wr.cell? ⟨w.heap.size,2,none⟩=some (.slice Ak keys.length ck):=by rw[b5.cell];rfl
   go_wp2
   go_loopw [2,39] (λv i w2=>∃(k:Nat) (A:Y5) (c:Nat) (vs:Y8),k<=keys.length/\i=.int .i64 k/\v=.slice A (cells.length+k) c/\Zg w2 w4.heap.size (.slice A (cells.length+k) c) (cells.map jL++(dv k).map (keyAt keys kids)) vs/\ph w4.heap.size w4 w2) (λ_ i _=>keys.length-(intOf i).toNat)
   case atStart=>exact⟨0,A,c,vs,by omega,rfl,rfl,by simpa using hL,u⟩
   case round =>
    obtain⟨k,A,c,vs,b8,rfl,rfl,hL,u⟩:=hrel
    by_cases aO:k<keys.length
    ·obtain⟨cJ,n,hn,bJ,bB⟩:=b7 k aO;obtain⟨g,o,rfl,hg,_⟩:=hk.rC (by omega);obtain⟨gi,oi,rfl,bH,_⟩:=hi.rC (by omega);have d0:wr.cell? ⟨g,o+k,none⟩=some (.string keys[k]):=(u.cell (p:=⟨g,o+k,none⟩) (zO hg aA.size)).trans ((aA.cell (p:=⟨g,o+k,none⟩) hg).trans (XP hk rfl k aO));have z:∀W,ph w4.heap.size w4 W->W.cell? ⟨w.heap.size,3,none⟩=some (.slice (some ⟨gi,oi,none⟩) kids.length ci)/\W.cell? ⟨gi,oi+(k+1),none⟩=some (.int .i64 (n:Int)):=λW hW=>by
      refine⟨?_,?_⟩
      ·have b:=b4.below hW b4.lt;rw[b.cell];rfl
      ·rw[<-bB];exact(hW.cell (p:=⟨gi,oi+(k+1),none⟩) (zO bH aA.size)).trans ((aA.cell (p:=⟨gi,oi+(k+1),none⟩) bH).trans (Le hi rfl (k+1) bJ))
     have bK:keyAt keys kids k=QO keys[k]++jQ n:=by unfold keyAt UY;rw[qT,zM aO,qT,zM bJ,mF,mF,bB];rfl
     have bQ:(dv (k+1)).map (keyAt keys kids)=(dv k).map (keyAt keys kids)++[QO keys[k]++jQ n]:=by rw[List.range_succ,qW,List.map_singleton,bK]
     have aI:(cells.map jL++(dv k).map (keyAt keys kids)).length=cells.length+k:=by simp
     generalize keys[k]=s at *;have bW:=QH s;have bY:=xa n;obtain⟨kB,a5⟩:=Z9 (QO s++jQ n);generalize bL:cells.map jL++(dv k).map (keyAt keys kids)=ls at *;have a1:Hid (cells.map jL++(dv (k+1)).map (keyAt keys kids)=ls++[kB]):=pk (by rw[bQ,<-qO,bL,a5]);have aL:=pk aI;have cK:IntKind.i64.wrap ((k:Int)+1)=(k:Int)+1:=xd _;have cF:(0:Int)<=(k:Int)+1:=by omega
     have cG:(k:Int)+1<(kids.length:Int):=by omega
     have aQ:Hid ([QO s,jQ n].flatten=kB):=pk (by rw[a5];simp);have b6:kB.length<=1000000000:=by rw[a5,zH];omega
     have aD:=u.drew;have qd:=z _ aD;have bS:ph wr.heap.size wr wr.drew:=(pf _ wr).drew;clear bK bQ aI bL bB bY bW a5;go_wp2
     go_region_held3 (λW=>W.cell? ⟨w.heap.size,3,none⟩=some (.slice (some ⟨gi,oi,none⟩) kids.length ci)/\W.cell? ⟨gi,oi+(k+1),none⟩=some (.int .i64 (n:Int))) (first|exact qd|exact q5|exact q6|exact q8|exact q9|exact aB|exact a0) (first
      | (go_at_call 269;refine(XW _ s (by omega)).mono ?_;rintro e W5 ⟨v5,rfl,aY,aS⟩;have N:=bS.trans (aS.mono bS.size);have q5:=z _ (u.trans (N.mono u.size));obtain⟨A5,c5,rfl,aW⟩:=aY.inB)
      | (go_at_call 220;refine(xZ _ n (by omega)).mono ?_;rintro e W6 ⟨v6,rfl,aZ,aC⟩;have O:=N.trans (aC.mono N.size);have q6:=z _ (u.trans (O.mono u.size));obtain⟨A6,c6,rfl,aX⟩:=aZ.inB;have V:=O.alloc O.size (.cells #[.slice A5 (QO s).length c5,.slice A6 (jQ n).length c6] 129);have q8:=z _ (u.trans (V.mono u.size)))
      | (go_at_call 153;have HJ:=Gv aW aX aC aQ.out b6;refine HJ.mono ?_;rintro e C ⟨v9,rfl,aK,aU⟩;have U:=V.trans (aU.mono V.size);have q9:=z _ (u.trans (U.mono u.size));obtain⟨L,M,rfl,bI⟩:=aK.inB;have G:=U.alloc U.size (.cells #[.slice L kB.length M] 129);have aB:=z _ (u.trans (G.mono u.size));have aF:=hL.grow G;have H:=aF.own;rw[aL.out] at H;have aH:=zT u.size G.size)
      | (refine VA rfl Rn (.tmp 44) (.tmp 56) rfl w4.heap.size (.slice A (cells.length+k) c) (cells.length+k) vs rfl H _ _ 1 1 [.slice L kB.length M] rfl (KI C 129 _ rfl) (by unfold oo;omega) (by omega) aH ?_;intro bV K aJ I;have bE:=(u.trans (G.mono u.size)).trans (zl I aH (zh H));have a0:=z _ bE))
     go_wp2;have aV:ph C.heap.size C (C.alloc (.cells #[.slice L kB.length M] 129)):=(pf _ C).alloc (zG _) _;have aG:=aF.more (qw aK aV) (by rw[aL.out];exact aJ) I;obtain⟨aP,aR,rfl,_⟩:=qn aJ aG.one;exact⟨⟨k+1,aP,aR,_,by omega,by simp,by rw[dq],by rw[a1.out,<-dq];exact aG,bE⟩,by simp[intOf];omega⟩
    ·obtain rfl:k=keys.length:=by omega
     go_wp2;go_ret;have aI:(qh ⟨leaf,cells,keys,kids⟩).length=cells.length+keys.length:=by simp[qh]
     have b9:w.heap.size<=w4.heap.size:=aA.size;have b1:Zg wr w.heap.size (.slice A (cells.length+keys.length) c) (qh ⟨leaf,cells,keys,kids⟩) vs:=⟨yS hL.own b9,hL.one,hL.at_⟩;exact⟨A,c,vs,by rw[aI];rfl,by rw[aI];exact b1,aA.trans (u.mono aA.size)⟩
theorem ID {w:World}{A:Y5}{c:Nat}{ls:List Y4}{i:Y8}(h:yp w w.heap.size 1 A ls.length c i)(d:∀j,(h:j<ls.length)->∃A c,i[j]?=some (.slice A ls[j].length c)/\qq w w.heap.size A c ls[j]):∃zs:List (xC w w.heap.size),zs.length=ls.length/\zs.map xC.l=ls/\Nd w w.heap.size A c zs:=by
 have key:∀n,n<=ls.length->∃zs:List (xC w w.heap.size),zs.length=n/\zs.map xC.l=ls.take n/\∀j (d:j<zs.length),i[j]?=some zs[j].val:=by
  intro n
  induction n with
  | zero=>exact λ_=>⟨[],rfl,by simp,λj d=>by simp at d⟩
  | succ n ih =>
   intro hn;obtain⟨zs,h1,h2,f⟩:=ih (by omega);obtain⟨A,c,k,r⟩:=d n (by omega);refine⟨zs++[⟨((A,c),ls[n]),r⟩],by simp[h1],?_,λj d => ?_⟩
   ·rw[qW,h2,zU (by omega)];rfl
   ·by_cases e:j<zs.length
    ·rw[gz e];exact f j e
    ·have:j=n:=by simp at d;omega
     subst this;rw[ng (by omega)];simp only[h1,Nat.sub_self,zB];exact k
 obtain⟨zs,h1,h2,f⟩:=key ls.length (zG _);refine⟨zs,h1,by rw[h2,dD],⟨by rw[h1];exact h.le,h.max,λx => ?_⟩⟩;obtain⟨g,o,e,s,u⟩:=h.rC (by omega);exact⟨g,o,e,s,λj d=>u j _ (f j d)⟩
theorem Yi {w:World}{base:Nat}{A:Y5}{c:Nat}{ls:List Y4}{C:Y8}(h:Zg w base (.slice A ls.length c) ls C)(hf:ls.flatten.length<=1000000000):pr Y3 153 #[.slice A ls.length c] w (yU w ls.flatten):=by
 obtain⟨E,c',e,u⟩:=qn h.own h.one;injection e with e1 i d
 subst e1 d
 obtain⟨zs,B,k,s⟩:=ID u (λj z=>by
  obtain⟨r,c2,i,own⟩:=h.at_ j z;obtain⟨G,c3,d,x⟩:=yZ.inB own;injection d with e31 e32 e33
  subst e31 e33
  exact⟨r,c2,i,x⟩)
 have f:=Xd w A c zs s (by rw[k];exact hf);rw[B,k] at f;generalize ls.flatten=l at *
 go_enter func153,ntmps153
 go_wp2_with (go_at_call 185;refine f.mono ?_;rintro e H ⟨v,rfl,own,hB⟩)
 go_ret;exact⟨v,rfl,own,hB⟩
theorem jd (ls:List Y4)(m:Nat)(h:∀l∈ls,l.length<=m):ls.flatten.length<=ls.length*m:=by
 induction ls with
 | nil=>simp
 | cons l ls ih =>
  have h1:=h l (by simp);have h2:=ih (λx c=>h x (by simp[c]));rw[qZ,zH,zL,Nat.add_mul];omega
def qb (x:yo):Y4:=(if x.leaf then 1 else 2)::jQ (qh x).length++(if x.leaf then [] else jQ (x.kids.getD 0 0).toNat)++(qh x).flatten
theorem Zt {x:yo}(d:yj x):∀l∈qh x,l.length<=200:=by
 obtain⟨leaf,cells,keys,kids⟩:=x;intro l hl;rcases qA.1 hl with hl|hl
 ·obtain⟨c,hc,rfl⟩:=qP.1 hl;cases leaf with
  | true =>
   have hs:=d.short c.key (qP.2 ⟨c,hc,rfl⟩);exact UN (by unfold yq at hs;simpa using hs) ((d.leaf rfl).2.2 c hc)
  | false =>
   have e:cells=[]:=(d.inner rfl).1;subst e;cases hc
 ·obtain⟨j,h,rfl⟩:=qP.1 hl;have f:j<keys.length:=by simpa using h
  unfold UY;have h2:=xa (kids.getD (j+1) 0).toNat;cases leaf with
  | true =>
   have e:keys=[]:=(d.leaf rfl).1;subst e;simp at f
  | false =>
   have hs:=d.short keys[j] (qI f);have h1:=QH keys[j];have e:keys.getD j oR=keys[j]:=by rw[qT,zM f];rfl
   have i:keys[j].size<=81:=by unfold yq at hs;simpa using hs
   simp only;rw[e,zH];omega
theorem Hq:∀a:Y4,oa a a=false
 | []=>by simp[oa]
 | a::x=>by simp[oa,Hq x]
theorem VW:∀a b c:Y4,oa a b=true->oa b c=true->oa a c=true
 | _,[],_,h,_=>by cases ‹Y4›<;>simp[oa] at h
 | _,b::y,[],_,h=>by simp[oa] at h
 | [],b::y,c::z,_,_=>by simp[oa]
 | a::x,b::y,c::z,h1,h2=>by
  simp only[oa,Bool.or_eq_true,oZ,decide_eq_true_eq,beq_iff_eq] at *;rcases h1 with h1|⟨rfl,h1⟩
  ·rcases h2 with h2|⟨rfl,h2⟩
   ·exact .inl (UInt8.lt_trans h1 h2)
   ·exact .inl h1
  ·rcases h2 with h2|⟨rfl,h2⟩
   ·exact .inl h2
   ·exact .inr ⟨rfl,VW x y z h1 h2⟩
theorem EB:∀a b:Y4,oa b a=false->(b==a)=false->oa a b=true
 | [],[],_,h=>by simp at h
 | [],_::_,_,_=>by simp[oa]
 | _::_,[],h,_=>by simp[oa] at h
 | a::x,b::y,h1,h2=>by
  simp only[oa,Bool.or_eq_true,oZ,decide_eq_true_eq,beq_iff_eq,Bool.or_eq_false_iff,decide_eq_false_iff_not,Bool.and_eq_false_iff,beq_eq_false_iff_ne] at *
  by_cases e:b=a
  ·subst e;refine .inr ⟨rfl,EB x y ?_ ?_⟩
   ·rcases h1.2 with h|h
    ·exact absurd rfl h
    ·exact h
   ·rw[beq_eq_false_iff_ne];intro e;exact h2 (by rw[e])
  ·left;rcases Nat.lt_trichotomy a.toNat b.toNat with h|h|h
   ·exact UInt8.lt_iff_toNat_lt.2 h
   ·exact absurd (UInt8.toNat_inj.1 h).symm e
   ·exact absurd (UInt8.lt_iff_toNat_lt.2 h) h1.1
theorem NU (a b:Y4)(h:oa a b=true):oa b a=false:=by
 cases e:oa b a with
 | false=>rfl
 | true =>
  have:=VW a b a h e;rw[Hq] at this;cases this
theorem SC {l:List ByteArray}(hs:Yb l)(k:Nat):Yb (l.take k):=λj h=>by
 rw[nX,nX];exact hs j (by simp at h;omega)
theorem OP {l:List ByteArray}(hs:Jy l)(k:Nat):Jy (l.take k):=λj h=>by
 rw[nX,nX];exact hs j (by simp at h;omega)
theorem SD {l:List ByteArray}(hs:Yb l)(k:Nat):Yb (l.drop k):=λj h=>by
 rw[nW,nW];exact hs (k+j) (by simp at h;omega)
theorem OQ {l:List ByteArray}(hs:Jy l)(k:Nat):Jy (l.drop k):=λj h=>by
 rw[nW,nW];exact hs (k+j) (by simp at h;omega)
def xG (x:yo)(k:Nat):yo:=if x.leaf then ⟨true,x.cells.take k,[],[]⟩ else ⟨false,[],x.keys.take k,x.kids.take (k+1)⟩
def yT (x:yo)(k:Nat):yo:=if x.leaf then ⟨true,x.cells.drop k,[],[]⟩ else ⟨false,[],x.keys.drop (k+1),x.kids.drop (k+1)⟩
def yn (x:yo)(k:Nat):ByteArray:=(qi x).getD k oR
def xM (x:yo):Nat:=if x.leaf then x.cells.length else x.keys.length
def xj (x:yo):Nat:=if x.leaf then x.cells.length-1 else x.keys.length-2
def vQ (x:yo):Nat:=if x.leaf then 2 else 3
theorem Ji (x:yo)(k:Nat):qi (xG x k)=(qi x).take k:=by
 obtain⟨leaf,cells,keys,kids⟩:=x;cases leaf<;>simp[xG,qi,mB]
theorem ZR (x:yo)(k:Nat):qi (yT x k)=(qi x).drop (if x.leaf then k else k+1):=by
 obtain⟨leaf,cells,keys,kids⟩:=x;cases leaf<;>simp[yT,qi,mA]
theorem Jh (x:yo):(qi x).length=xM x:=by
 obtain⟨leaf,cells,keys,kids⟩:=x;cases leaf<;>simp[xM,qi]
theorem LS {x:yo}(d:yj x){k:Nat}(u:0<k)(r:k<xM x):yj (xG x k):=by
 refine⟨?_,?_,?_,?_,?_⟩
 ·rw[Ji];exact SC d.sorted k
 ·rw[Ji];exact OP d.apart k
 ·rw[Ji];exact λs hs=>d.short s (yI hs)
 ·intro e;obtain⟨leaf,cells,keys,kids⟩:=x;cases leaf with
  | false=>simp[xG] at e
  | true=>exact⟨rfl,rfl,λc hc=>(d.leaf rfl).2.2 c (yI hc)⟩
 ·intro e;obtain⟨leaf,cells,keys,kids⟩:=x;cases leaf with
  | true=>simp[xG] at e
  | false =>
   obtain⟨h1,h2,f,h⟩:=d.inner rfl;simp only[xM,oF,if_false] at r;simp only at f;refine⟨rfl,?_,?_,λi j=>h i (yI j)⟩
   ·simp only[xG,oF,if_false,zZ];omega
   ·simp only[xG,oF,if_false,zZ];omega
theorem SN {x:yo}(d:yj x){k:Nat}(r:k<=xj x)(u:vQ x<=xM x):yj (yT x k):=by
 refine⟨?_,?_,?_,?_,?_⟩
 ·rw[ZR];exact SD d.sorted _
 ·rw[ZR];exact OQ d.apart _
 ·rw[ZR];exact λs hs=>d.short s (qV hs)
 ·intro e;obtain⟨leaf,cells,keys,kids⟩:=x;cases leaf with
  | false=>simp[yT] at e
  | true=>exact⟨rfl,rfl,λc hc=>(d.leaf rfl).2.2 c (qV hc)⟩
 ·intro e;obtain⟨leaf,cells,keys,kids⟩:=x;cases leaf with
  | true=>simp[yT] at e
  | false =>
   obtain⟨h1,h2,f,h⟩:=d.inner rfl;simp only[xj,xM,vQ,oF,if_false] at r u;simp only at f;refine⟨rfl,?_,?_,λi j=>h i (qV j)⟩
   ·simp only[yT,oF,if_false,qD];omega
   ·simp only[yT,oF,if_false,qD];omega
theorem Ie {x:yo}(d:yj x)(k:Nat)(h:k<=xM x):qh (xG x k)=(qh x).take k:=by
 obtain⟨leaf,cells,keys,kids⟩:=x;cases leaf with
 | true =>
  obtain⟨h1,h2,c⟩:=d.leaf rfl;simp only at h1;subst h1;simp[qh,xG,mB]
 | false =>
  obtain⟨h1,h2,c,i⟩:=d.inner rfl;simp only at h1 c;subst h1;simp only[xM,oF,if_false] at h;refine List.ext_getElem (by simp[qh,xG]) λj r f => ?_
  have e:j<k:=by simp at f;omega
  simp only[qh,xG,oF,if_false,zN,zQ,da,List.getElem_range,nX];congr 1
  ·simp[qT,e]
  ·simp[qT,e]
theorem LQ {x:yo}(d:yj x)(k:Nat):qh (yT x k)=(qh x).drop (if x.leaf then k else k+1):=by
 obtain⟨leaf,cells,keys,kids⟩:=x;cases leaf with
 | true =>
  obtain⟨h1,h2,c⟩:=d.leaf rfl;simp only at h1;subst h1;simp[qh,yT,mA]
 | false =>
  obtain⟨h1,h2,c,e⟩:=d.inner rfl;simp only at h1 c;subst h1;refine List.ext_getElem (by simp[qh,yT]) λj f h => ?_
  simp only[qh,yT,oF,if_false,zN,zQ,da,List.getElem_range,nW];congr 1
  ·simp[qT]
  ·simp[qT,dq]
theorem Ql {x:yo}(c:yj x):(qh x).length=xM x:=by
 obtain⟨leaf,cells,keys,kids⟩:=x;cases leaf with
 | true =>
  have h1:keys=[]:=(c.leaf rfl).1;subst h1;simp[qh,xM]
 | false =>
  have h1:cells=[]:=(c.inner rfl).1;subst h1;simp[qh,xM]
def jy (ls:List Y4)(k:Nat):Nat:=(ls.take k).flatten.length
theorem JX (ls:List Y4)(k:Nat)(h:k<ls.length):jy ls (k+1)=jy ls k+ls[k].length:=by
 unfold jy;rw[zU h,yF,zH,qZ,nj,yE]
theorem JW (ls:List Y4)(k:Nat):jy ls k+(ls.drop k).flatten.length=ls.flatten.length:=by
 unfold jy;rw[<-zH,<-yF,qJ]
structure kn (ls:List Y4)(last k:Nat):Prop where
 le:k<=last
 low:∀j,j<k->2*jy ls j<=ls.flatten.length
 high:k=last∨ls.flatten.length<2*jy ls k
theorem kn.pos {ls:List Y4}{last k:Nat}(h:kn ls last k)(c:0<last):0<k:=by
 rcases dp k with e|e
 ·subst e;rcases h.high with h1|h1
  ·omega
  ·simp[jy] at h1
 ·exact e
theorem jm (x:yo):(qh x).flatten.length+1<=(qb x).length/\(qb x).length<=(qh x).flatten.length+21:=by
 unfold qb;have h1:=xa (qh x).length;have h2:=xa (x.kids.getD 0 0).toNat;generalize jQ (qh x).length=a at *;generalize jQ (x.kids.getD 0 0).toNat=b at *;generalize (qh x).flatten=c at *;simp only[zH,zL];split<;>(try simp only[zY])<;>omega
theorem TK {x:yo}(c:yj x)(hl:x.leaf=false):∀l∈qh x,l.length<=101:=by
 obtain⟨leaf,cells,keys,kids⟩:=x;simp only at hl;subst hl;have h1:cells=[]:=(c.inner rfl).1;subst h1;intro l hl;simp only[qh,zN,zQ,qP,List.mem_range] at hl;obtain⟨j,d,rfl⟩:=hl
 have hs:=c.short (keys.getD j oR) (by
  rw[qT,zM d]
  exact qI d)
 unfold yq at hs;simp only[decide_eq_true_eq] at hs;unfold UY;have q1:=QH (keys.getD j oR);have q2:=xa (kids.getD (j+1) 0).toNat;rw[zH];omega
theorem NB {x:yo}(h:yj x){k:Nat}(hh:kn (qh x) (xj x) k)(A:vQ x<=xM x)(C:(qb x).length<=656)(hc:x.leaf=true->∀c∈x.cells,(qb ⟨true,[c],[],[]⟩).length<=146):(qb (xG x k)).length<=512/\(qb (yT x k)).length<=512:=by
 have j:=Ql h;have u:0<xj x/\xj x<xM x:=by unfold xj vQ xM at *;cases d:x.leaf<;>simp[d] at A ⊢<;>omega
 have E:=hh.pos u.1;have H:k<xM x:=by have:=hh.le;omega
 have h1:=jm x;have h2:=jm (xG x k);have f:=jm (yT x k);rw[Ie h k (by omega)] at h2;rw[LQ h k] at f;have I:=hh.low (k-1) (by omega);have hn:=JX (qh x) (k-1) (by omega);rw[show k-1+1=k from by omega] at hn;have i:∀l∈qh x,l.length<=145:=by
  intro l hl;cases d:x.leaf with
  | false=>have:=TK h d l hl;omega
  | true =>
   have s:x.keys=[]:=(h.leaf d).1;unfold qh at hl;rw[s] at hl;simp only[zY,List.range_zero,zN,yE,qP] at hl;obtain⟨c,r,rfl⟩:=hl;have q1:=hc d c r;have q2:=(jm ⟨true,[c],[],[]⟩).1;have e:(qh ⟨true,[c],[],[]⟩).flatten=jL c:=by simp[qh]
   rw[e] at q2;omega
 have G:=i (qh x)[k-1] (qI _);have L:=JW (qh x) k;have B:((qh x).take k).flatten.length=jy (qh x) k:=rfl;refine⟨by omega,?_⟩;rcases hh.high with e|e
 ·cases d:x.leaf with
  | true =>
   rw[d] at f;simp only[if_true] at f;have z:((qh x).drop k).length<=1:=by rw[qD,j,e];unfold xj xM;rw[d];simp;omega
   have:=jd ((qh x).drop k) 145 (λl hl=>i l (qV hl));omega
  | false =>
   rw[d] at f;simp only[oF,if_false] at f;have z:((qh x).drop (k+1)).length<=1:=by rw[qD,j,e];unfold xj xM;rw[d];simp;omega
   have:=jd ((qh x).drop (k+1)) 145 (λl hl=>i l (qV hl));omega
 ·cases d:x.leaf with
  | true =>
   rw[d] at f;simp only[if_true] at f;omega
  | false =>
   rw[d] at f;simp only[oF,if_false] at f;have M:=JW (qh x) (k+1);have K:=JX (qh x) k (by omega);omega
theorem Yy {x:yo}{k:Nat}(c:k<(qi x).length):yn x k=(qi x)[k]:=by
 unfold yn;rw[qT,zM c];rfl
def xP (l:Y4):Option (Nat×Y4) :=
 match rd l with
 | some (n,k)=>if n<=100000 then some (n,l.drop k) else none
 | none=>none
def jk (l:Y4):Option (ByteArray×Y4) :=
 match Pq l with
 | some (s,k)=>some (Jz s,l.drop k)
 | none=>none
def kH (l:Y4):Option (xK×Y4) :=
 match jk l with
 | none=>none
 | some (s,r) =>
  match xP r with
  | none=>none
  | some (p,r2) =>
   if p=0 then
    match jk r2 with
    | none=>none
    | some (v,r3)=>some (⟨s,v,0,0⟩,r3)
   else
    match xP r2 with
    | none=>none
    | some (z,r3)=>some (⟨s,oR,p,z⟩,r3)
def jJ (l:Y4):Option ((ByteArray×Int)×Y4) :=
 match jk l with
 | none=>none
 | some (s,r) =>
  match xP r with
  | none=>none
  | some (p,r2)=>some ((s,(p:Int)),r2)
def yY {α : Type}(f:Y4->Option (α × Y4)):Nat->Y4->Option (List α × Y4)
 | 0,l=>some ([],l)
 | k+1,l =>
  match f l with
  | none=>none
  | some (c,r) =>
   match yY f k r with
   | none=>none
   | some (cs,r2)=>some (c::cs,r2)
theorem ZF {α : Type}(f:Y4->Option (α × Y4)):∀(k:Nat) (d:Y4) (cs:List α) (l:Y4) (c : α) (r:Y4),yY f k d=some (cs,l)->f l=some (c,r)->yY f (k+1) d=some (cs++[c],r)
 | 0,d,cs,l,c,r,h,hf=>by simp only[yY,od,dK] at h;obtain⟨rfl,rfl⟩:=h;simp[yY,hf]
 | k+1,d,cs,l,c,r,h,hf=>by
  rw[yY] at h ⊢;cases i:f d with
  | none=>rw[i] at h;cases h
  | some y =>
   obtain⟨c1,r1⟩:=y;rw[i] at h;simp only at h ⊢;cases e:yY f k r1 with
   | none=>rw[e] at h;cases h
   | some z =>
    obtain⟨j,r2⟩:=z;rw[e] at h;simp only[od,dK] at h;obtain⟨rfl,rfl⟩:=h;rw[ZF f k r1 j r2 c r e hf];rfl
theorem Vu {α : Type}(f:Y4->Option (α × Y4))(c:Y4)(cs:List α)(l:Y4)(k:Nat)(h:yY f k c=some (cs,l))(hf:f l=none):∀d,yY f (k+1+d) c=none:=by
 intro d
 induction k generalizing c cs with
 | zero =>
  simp only[yY,od,dK] at h;obtain⟨rfl,rfl⟩:=h;rw[show 0+1+d=d+1 from by omega,yY,hf]
 | succ k ih =>
  rw[show k+1+1+d=(k+1+d)+1 from by omega,yY];rw[yY] at h;cases j:f c with
  | none=>rfl
  | some y =>
   obtain⟨c1,r1⟩:=y;rw[j] at h;simp only at h ⊢;cases e:yY f k r1 with
   | none=>rw[e] at h;cases h
   | some z =>
    obtain⟨i,r2⟩:=z;rw[e] at h;simp only[od,dK] at h;obtain⟨rfl,rfl⟩:=h;rw[ih r1 i e]
theorem Yg {α : Type}(f:Y4->Option (α × Y4)):∀(k:Nat) (c:Y4) (cs:List α) (l:Y4),yY f k c=some (cs,l)->cs.length=k
 | 0,c,cs,l,h=>by simp only[yY,od,dK] at h;rw[<-h.1];rfl
 | k+1,c,cs,l,h=>by
  rw[yY] at h;cases e:f c with
  | none=>rw[e] at h;cases h
  | some y =>
   obtain⟨c1,r1⟩:=y;rw[e] at h;simp only at h;cases d:yY f k r1 with
   | none=>rw[d] at h;cases h
   | some z =>
    obtain⟨i,r2⟩:=z;rw[d] at h;simp only[od,dK] at h;rw[<-h.1,zL,Yg f k r1 i r2 d]
theorem vr {l r:Y4}{n:Nat}(h:xP l=some (n,r)):r.length<l.length/\n<=100000:=by
 unfold xP at h;cases e:rd l with
 | none=>rw[e] at h;cases h
 | some y =>
  obtain⟨m,k⟩:=y;rw[e] at h;simp only at h;have c:=Yw e;split at h
  ·simp only[od,dK] at h;obtain⟨rfl,rfl⟩:=h;rw[qD];omega
  ·cases h
theorem Jc {l r:Y4}{s:ByteArray}(h:jk l=some (s,r)):r.length<l.length:=by
 unfold jk Pq at h;cases e:rd l with
 | none=>rw[e] at h;cases h
 | some y =>
  obtain⟨m,k⟩:=y;rw[e] at h;simp only at h;have c:=Yw e;split at h
  ·rename_i h2
   split at h2
   ·simp only[od,dK] at h h2;obtain⟨rfl,rfl⟩:=h;obtain⟨_,h2⟩:=h2;rw[qD];omega
   ·cases h2
  ·cases h
theorem Px {l r:Y4}{c:xK}(h:kH l=some (c,r)):r.length<l.length:=by
 unfold kH at h;cases e:jk l with
 | none=>rw[e] at h;cases h
 | some y =>
  obtain⟨s,r1⟩:=y;rw[e] at h;simp only at h;have h1:=Jc e;cases f:xP r1 with
  | none=>rw[f] at h;cases h
  | some z =>
   obtain⟨p,r2⟩:=z;rw[f] at h;simp only at h;have h2:=vr f;split at h
   ·cases d:jk r2 with
    | none=>rw[d] at h;cases h
    | some u =>
     obtain⟨v,r3⟩:=u;rw[d] at h;simp only[od,dK] at h;have i:=Jc d;rw[<-h.2];omega
   ·cases d:xP r2 with
    | none=>rw[d] at h;cases h
    | some u =>
     obtain⟨v,r3⟩:=u;rw[d] at h;simp only[od,dK] at h;have i:=vr d;rw[<-h.2];omega
theorem Pv {l r:Y4}{c:ByteArray×Int}(h:jJ l=some (c,r)):r.length<l.length:=by
 unfold jJ at h;cases e:jk l with
 | none=>rw[e] at h;cases h
 | some y =>
  obtain⟨s,r1⟩:=y;rw[e] at h;simp only at h;have h1:=Jc e;cases d:xP r1 with
  | none=>rw[d] at h;cases h
  | some z =>
   obtain⟨p,r2⟩:=z;rw[d] at h;simp only[od,dK] at h;have h2:=vr d;rw[<-h.2];omega
theorem ZH {α : Type}{f:Y4->Option (α × Y4)}(hf:∀l c r,f l=some (c,r)->r.length<l.length):∀(k:Nat) (d:Y4) (cs:List α) (l:Y4),yY f k d=some (cs,l)->cs.length+l.length<=d.length
 | 0,d,cs,l,h=>by simp only[yY,od,dK] at h;rw[<-h.1,<-h.2];simp
 | k+1,d,cs,l,h=>by
  rw[yY] at h;cases e:f d with
  | none=>rw[e] at h;cases h
  | some y =>
   obtain⟨c1,r1⟩:=y;rw[e] at h;simp only at h;cases i:yY f k r1 with
   | none=>rw[i] at h;cases h
   | some z =>
    obtain⟨j,r2⟩:=z;rw[i] at h;simp only[od,dK] at h;have h1:=hf _ _ _ e;have h2:=ZH hf k r1 j r2 i;rw[<-h.1,<-h.2,zL];omega
def ym (leaf:Bool)(l:Y4):Option yo :=
 match xP l with
 | none=>none
 | some (many,r) =>
  if leaf then
   match yY kH many r with
   | none=>none
   | some (cs,_)=>some ⟨true,cs,[],[]⟩
  else
   match xP r with
   | none=>none
   | some (kid,r2) =>
    match yY jJ many r2 with
    | none=>none
    | some (ks,_)=>some ⟨false,[],ks.map (·.1),(kid:Int)::ks.map (·.2)⟩
def kG (b:Y4):Option yo :=
 match xP b with
 | none=>none
 | some (f,r)=>if f=1 then ym true r else if f=2 then ym false r else none
def Jv (x:yo)(b:Y4):Prop:=yj x/\(qb x).length<=512/\qb x++zP (512-(qb x).length) 0=b
theorem Jv.head {x:yo}{b:Y4}(h:Jv x b):b.head?=some (if x.leaf then 1 else 2):=by
 rw[<-h.2.2];unfold qb;rfl
theorem SP (c:UInt8)(r:Y4)(h:c.toNat<128):xP (c::r)=some (c.toNat,r):=by
 have e:rd (c::r)=some (c.toNat,1):=by
  unfold rd Nf;have h1:¬ 128<=c.toNat:=by omega
  simp[h1,Nat.mod_eq_of_lt h]
 unfold xP;rw[e];simp only;rw[if_pos (by omega)];rfl
theorem Pr {b:Y4}{x:yo}(hf:Jv x b):kG b=ym x.leaf (b.drop 1):=by
 have hh:=hf.head;cases b with
 | nil=>cases hh
 | cons c r =>
  simp only[List.head?_cons,od] at hh;subst hh;unfold kG;cases x.leaf with
  | true=>rw[SP _ _ (by decide)];rfl
  | false=>rw[SP _ _ (by decide)];rfl
theorem YS (w:World)(x:yo)(r:Y5)(u:Nat)(s:Y5)(z:Nat)(d:Y5)(f:Nat)(h:XH w w.heap.size x r u s z d f)(hl:x.cells.length<=1000)(bR:x.keys.length<=1000)(bS:x.kids.length<=1001)(hR:yj x):pr Y3 151 #[.agg (zu x r u s z d f)] w (yU w (qb x)):=by
 have j:=za.new w 69 (zu x r u s z d f);have hB:ph w.heap.size w (w.alloc (.cells (zu x r u s z d f) 69)):=(pf _ w).alloc (zG _) _;have h1:=h.grow hB;have HC:=BY _ x r u s z d f h1 (by omega) (by omega) (by omega) hR;have HL:∀W,ph (w.alloc (.cells (zu x r u s z d f) 69)).heap.size (w.alloc (.cells (zu x r u s z d f) 69)) W->pr Y3 208 #[.agg (zu x r u s z d f)] W (Ut W (qh x)):=λW hW=>Jj W x r u s z d f (h1.grow hW) (by omega) (by omega) (by omega) hR
 have bH:(qh x).length=x.cells.length+x.keys.length:=by simp[qh]
 have bO:(qh x).flatten.length<=1000000:=by have:=jd (qh x) 200 (Zt hR);omega
 have a2:qb x=((if x.leaf then 1 else 2)::jQ (qh x).length++(if x.leaf then [] else jQ (x.kids.getD 0 0).toNat))++(qh x).flatten:=rfl;have aT:x.leaf=false->∃n:Nat,n<=2000/\∃h2:0<x.kids.length,x.kids[0]=(n:Int):=λe=>by
  obtain⟨_,_,bU,hp⟩:=hR.inner e;have h2:0<x.kids.length:=by omega
  have bI:=hp _ (qI h2);simp only[xW,oZ,decide_eq_true_eq] at bI;exact⟨x.kids[0].toNat,by omega,h2,by omega⟩
 rw[a2];generalize qh x=ls at *;generalize a0:ls.flatten=N at *;have aD:=pk a0;clear a0;have bV:=xa ls.length;clear a2;have bW:ls.length<=2000:=by omega
 clear bH;obtain⟨leaf,cells,keys,kids⟩:=x;unfold zu at *;simp only at *;unfold ue at HC;cases leaf with
 | true =>
  clear aT
  go_enter func151,ntmps151
  go_wp2_with (first
   | (refine xA zj j ?_)
   | (refine xA zj b2 ?_)
   | (go_at_call 219;refine HC.mono ?_;rintro e w2 ⟨⟨v2,rfl⟩,A⟩;have b2:=j.below A j.lt)
   | (go_at_call 208;refine(HL _ A).mono ?_;rintro e c ⟨A3,c3,vs,rfl,aN,aI⟩;have k:=A.trans (aI.mono A.size);have b3:=j.below k j.lt))
  have aA:ph c.heap.size c (c.alloc (.cells #[.int .u8 2] 5)):=(pf _ c).alloc (zG _) _;have n2:za (c.alloc (.cells #[.int .u8 2] 5)) c.heap.size 5 (([2]:Y4).map b8).toArray:=za.new c 5 _;have aP:qq (c.alloc (.cells #[.int .u8 2] 5)) (c.alloc (.cells #[.int .u8 2] 5)).heap.size (some ⟨c.heap.size,0,none⟩) 1 [2]:=n2.inB _ n2.lt (by decide);refine(xZ _ ls.length (by omega)).mono ?_;rintro e E ⟨v4,rfl,aV,X⟩;obtain⟨A4,c4,rfl,aQ⟩:=aV.inB
  go_wp2_with fail
  refine(Gv aP aQ X rfl (by simp;omega)).mono ?_;rintro e w5 ⟨v5,rfl,C,aJ⟩;have e5:([[2],jQ ls.length]:List Y4).flatten=2::jQ ls.length:=by simp
  rw[e5] at C;have K:ph E.heap.size E (E.alloc (.cells #[.slice (some ⟨c.heap.size,0,none⟩) 1 1,.slice A4 (jQ ls.length).length c4] 129)):=(pf _ E).alloc (zG _) _;have I:=aA.trans (X.mono aA.size);have B:=I.trans ((K.trans (aJ.mono K.size)).mono I.size);have b5:=b3.below B b3.lt;have k0:w5.cell? ⟨w.heap.size,0,none⟩=some (.bool true):=by rw[b5.cell];rfl
  have k3:w5.cell? ⟨w.heap.size,3,none⟩=some (.slice d kids.length f):=by rw[b5.cell];rfl
  obtain⟨g5,aF,rfl,aO,bC,bB⟩:=C.at_ (by simp);have a1:c.heap.size<=g5:=zT (zT I.size K.size) aO;have U:=(hB.trans (k.mono hB.size)).trans (B.mono (hB.trans (k.mono hB.size)).size);have k5:=C.cell 0 (by simp);have f5:=C.free 0;have bG:(1:Int)<=((2::jQ ls.length:Y4).length:Int):=by simp;omega
  have aE:=C.set 0 1 (by decide);have e6:(2::jQ ls.length:Y4).set 0 (UInt8.ofNat 1)=1::jQ ls.length:=rfl;rw[e6] at aE;have aK:ph c.heap.size c (w5.setCell ⟨g5,0,none⟩ (.int .u8 1)):=B.setCell a1 _;have V:ph w.heap.size w (w5.setCell ⟨g5,0,none⟩ (.int .u8 1)):=U.setCell (by have:=U.size;have:=(hB.trans (k.mono hB.size)).size;show w.heap.size<=g5;omega) _;have bT:(2::jQ ls.length:Y4).length=(jQ ls.length).length+1:=rfl
  go_wp2_with fail
  have O:=Yi (aN.grow aK) (by rw[aD.out];omega);rw[aD.out] at O;refine O.mono ?_;rintro e G ⟨v7,rfl,aW,Z⟩;obtain⟨A7,c7,rfl,aS⟩:=aW.inB;obtain⟨A6,c6,aG,aR⟩:=aE.inB;injection aG with e61 e62 e63
  subst e61 e63
  go_wp2_with fail
  refine(Gv aR aS Z rfl (by simp only[qZ,nj,yE,zH,zL];omega)).mono ?_;rintro e w8 ⟨v8,rfl,aC,aL⟩;have L:ph G.heap.size G (G.alloc (.cells #[.slice (some ⟨g5,0,none⟩) ((1::jQ ls.length:Y4)).length aF,.slice A7 N.length c7] 129)):=(pf _ G).alloc (zG _) _;have H:=V.trans (Z.mono V.size);have aH:=H.trans ((L.trans (aL.mono L.size)).mono H.size);have e8:([(1::jQ ls.length:Y4),N]:List Y4).flatten=1::(jQ ls.length++N):=by simp
  rw[e8] at aC;go_wp2;go_ret;exact⟨v8,rfl,yZ.base aC (zT H.size L.size),aH⟩
 | false =>
  obtain⟨q,hq,a3,aU⟩:=aT rfl;clear aT
  go_enter func151,ntmps151
  go_wp2_with (first
   | (refine xA zj j ?_)
   | (refine xA zj b2 ?_)
   | (go_at_call 219;refine HC.mono ?_;rintro e w2 ⟨⟨v2,rfl⟩,A⟩;have b2:=j.below A j.lt)
   | (go_at_call 208;refine(HL _ A).mono ?_;rintro e c ⟨A3,c3,vs,rfl,aN,aI⟩;have k:=A.trans (aI.mono A.size);have b3:=j.below k j.lt))
  have aA:ph c.heap.size c (c.alloc (.cells #[.int .u8 2] 5)):=(pf _ c).alloc (zG _) _;have n2:za (c.alloc (.cells #[.int .u8 2] 5)) c.heap.size 5 (([2]:Y4).map b8).toArray:=za.new c 5 _;have aP:qq (c.alloc (.cells #[.int .u8 2] 5)) (c.alloc (.cells #[.int .u8 2] 5)).heap.size (some ⟨c.heap.size,0,none⟩) 1 [2]:=n2.inB _ n2.lt (by decide);refine(xZ _ ls.length (by omega)).mono ?_;rintro e E ⟨v4,rfl,aV,X⟩;obtain⟨A4,c4,rfl,aQ⟩:=aV.inB
  go_wp2_with fail
  refine(Gv aP aQ X rfl (by simp;omega)).mono ?_;rintro e w5 ⟨v5,rfl,C,aJ⟩;have e5:([[2],jQ ls.length]:List Y4).flatten=2::jQ ls.length:=by simp
  rw[e5] at C;have K:ph E.heap.size E (E.alloc (.cells #[.slice (some ⟨c.heap.size,0,none⟩) 1 1,.slice A4 (jQ ls.length).length c4] 129)):=(pf _ E).alloc (zG _) _;have I:=aA.trans (X.mono aA.size);have B:=I.trans ((K.trans (aJ.mono K.size)).mono I.size);have b5:=b3.below B b3.lt;have k0:w5.cell? ⟨w.heap.size,0,none⟩=some (.bool false):=by rw[b5.cell];rfl
  have k3:w5.cell? ⟨w.heap.size,3,none⟩=some (.slice d kids.length f):=by rw[b5.cell];rfl
  obtain⟨g5,aF,rfl,aO,bC,bB⟩:=C.at_ (by simp);have a1:c.heap.size<=g5:=zT (zT I.size K.size) aO;have U:=(hB.trans (k.mono hB.size)).trans (B.mono (hB.trans (k.mono hB.size)).size);obtain⟨gi,oi,rfl,bD,_⟩:=h1.i.rC a3;have d0:w5.cell? ⟨gi,oi,none⟩=some (.int .i64 (q:Int)):=by have h2:=Le h1.i rfl 0 a3;rw[aU] at h2;have a8:=k.trans (B.mono k.size);exact(a8.cell (p:=⟨gi,oi,none⟩) bD).trans h2
  have bG:(1:Int)<=(kids.length:Int):=by omega
  have a5:=pk aU;have bX:=xa q;clear aU;obtain⟨bK,bL,a7,bE⟩:=C.inB;injection a7 with e51 e52 e53
  subst e51 e53
  go_wp2_with fail
  refine(xZ _ q (by omega)).mono ?_;rintro e wa ⟨va,rfl,bJ,aM⟩;obtain⟨Aa,ca,rfl,bF⟩:=bJ.inB
  go_wp2_with fail
  refine(Gv bE bF aM rfl (by simp only[qZ,nj,yE,zH,zL];omega)).mono ?_;rintro e wb ⟨vb,rfl,aX,a9⟩;have eb:([(2::jQ ls.length:Y4),jQ q]:List Y4).flatten=2::(jQ ls.length++jQ q):=by simp
  obtain⟨M,aB⟩:∃M:Y4,M=2::(jQ ls.length++jQ q):=⟨_,rfl⟩;rw[eb,<-aB] at aX;have bM:M.length<=21:=by rw[aB];simp;omega
  have bA:0<M.length:=by rw[aB];simp
  have a4:=pk aB;clear aB;have aZ:ph wa.heap.size wa (wa.alloc (.cells #[.slice (some ⟨g5,0,none⟩) (2::jQ ls.length:Y4).length aF,.slice Aa (jQ q).length ca] 129)):=(pf _ wa).alloc (zG _) _;have aY:=aM.trans ((aZ.trans (a9.mono aZ.size)).mono aM.size);have aK:=B.trans (aY.mono B.size);have V:=U.trans (aY.mono U.size);obtain⟨gq,a6,rfl,bP,bQ,bN⟩:=aX.at_ bA;have aE:=aX
  go_wp2_with fail
  have O:=Yi (aN.grow aK) (by rw[aD.out];omega);rw[aD.out] at O;refine O.mono ?_;rintro e G ⟨v7,rfl,aW,Z⟩;obtain⟨A7,c7,rfl,aS⟩:=aW.inB;obtain⟨A6,c6,aG,aR⟩:=aE.inB;injection aG with e61 e62 e63
  subst e61 e63
  go_wp2_with fail
  refine(Gv aR aS Z rfl (by simp only[qZ,nj,yE,zH];omega)).mono ?_;rintro e w8 ⟨v8,rfl,aC,aL⟩;have L:ph G.heap.size G (G.alloc (.cells #[.slice (some ⟨gq,0,none⟩) (M).length a6,.slice A7 N.length c7] 129)):=(pf _ G).alloc (zG _) _;have H:=V.trans (Z.mono V.size);have aH:=H.trans ((L.trans (aL.mono L.size)).mono H.size);have e8:([M,N]:List Y4).flatten=2::(jQ ls.length++(jQ q++N)):=by rw[a4.out];simp
  rw[e8] at aC;go_wp2;go_ret;refine⟨v8,rfl,?_,aH⟩;have ek:kids[0].toNat=q:=by rw[a5.out];rfl
  rw[ek];exact yZ.base aC (zT H.size L.size)
theorem QG (p f:Value)(w:World):CallsD Y3 149 #[p,f] .returning w λe d w'=>e=Y0 (.tuple #[])/\d=.returning/\w'=w:=by
 refine callsD_of_wpS func149 rfl λc cs hu => ?_
 apply wpS_seq;apply wpS_region;simp[wpOpsS,go_sem,recoverD,hu,ntmps149,Exit.thenS];apply wpS_seq;apply wpS_region;simp[wpOpsS,go_sem,Exit.thenS];refine wpS_cond (t:=false) (by simp[Act.eval,Array.replicate]) ?_;simp only[oF,if_false];refine wpS_of_wp (wp_skip ?_);cases c
 simp_all [bodyPostS,gL,Tryz.results149]
theorem Tn (w:World)(x:yo)(c:Y5)(j:Nat)(i:Y5)(r:Nat)(d:Y5)(k:Nat)(h:XH w w.heap.size x c j i r d k)(hl:x.cells.length<=1000)(O:x.keys.length<=1000)(U:x.kids.length<=1001)(M:yj x):pr Y3 136 #[.agg (zu x c j i r d k)] w λe w'=>e=Y0 (.tuple #[.int .i64 ((qb x).length:Int),.int .i64 0])/\ph w.heap.size w w':=by
 have H:∀W,ph w.heap.size w W->pr Y3 151 #[.agg (zu x c j i r d k)] W (yU W (qb x)):=λW N=>YS W x c j i r d k (h.grow N) hl O U M
 generalize qb x=lb at *;have E:=za.new w 69 (zu x c j i r d k);unfold zu at *;obtain⟨W1,s⟩:=Z9 (((w.alloc (.cells #[.bool x.leaf,.slice c x.cells.length j,.slice i x.keys.length r,.slice d x.kids.length k] 69)).alloc (.cells #[.int .i64 0] 3)).alloc (.cells #[.int .i64 0] 27));have K:za W1 w.heap.size 69 #[.bool x.leaf,.slice c x.cells.length j,.slice i x.keys.length r,.slice d x.kids.length k]:=by rw[s];exact(E.alloc _).alloc _
 have G:za W1 (w.heap.size+1) 3 #[.int .i64 0]:=by have:=za.new (w.alloc (.cells #[.bool x.leaf,.slice c x.cells.length j,.slice i x.keys.length r,.slice d x.kids.length k] 69)) 3 #[.int .i64 0];rw[pq] at this;rw[s];exact this.alloc _
 have b3:za W1 (w.heap.size+1+1) 27 #[.int .i64 0]:=by have:=za.new ((w.alloc (.cells #[.bool x.leaf,.slice c x.cells.length j,.slice i x.keys.length r,.slice d x.kids.length k] 69)).alloc (.cells #[.int .i64 0] 3)) 27 #[.int .i64 0];rw[pq,pq] at this;rw[s];exact this
 have B:ph w.heap.size w W1:=by rw[s];exact(((pf _ w).alloc (zG _) _).alloc (by simp) _).alloc (by simp;omega) _
 have I:=pk s;clear s E
 go_enter_defers func136,ntmps136
 go_wp2_with (first
  | (rw[<-I.out];refine xA zj K ?_)
  | (go_at_call 151;refine(H _ B).mono ?_;rintro e u ⟨v,rfl,own,C⟩;obtain⟨Z,c2,rfl,aA⟩:=own.inB;have z:=G.below C G.lt;have A:=b3.below C b3.lt;have k2:=z.boxed;have k3:=A.boxed;have f2:=z.free 0;have f3:=A.free 0))
 refine leaves_cons (f:=149) (args:=#[.pointer (some ⟨w.heap.size+1+1,0,none⟩),.func (.func 206) #[] #[.pointer (some ⟨w.heap.size+1,0,none⟩)]]) (by simp) (by simp[go_sem]) ?_;refine(QG _ _ _).mono ?_;rintro e u' aB ⟨rfl,rfl,rfl⟩;have q2:((u.setCell ⟨w.heap.size+1,0,none⟩ (.int .i64 (lb.length:Int))).setCell ⟨w.heap.size+1+1,0,none⟩ (.int .i64 0)).cell? ⟨w.heap.size+1,0,none⟩=some (.int .i64 (lb.length:Int)):=((z.set 0 _).other (p:=⟨w.heap.size+1+1,0,none⟩) (by simp) _).boxed;have X:((u.setCell ⟨w.heap.size+1,0,none⟩ (.int .i64 (lb.length:Int))).setCell ⟨w.heap.size+1+1,0,none⟩ (.int .i64 0)).cell? ⟨w.heap.size+1+1,0,none⟩=some (.int .i64 0):=((A.other (p:=⟨w.heap.size+1,0,none⟩) (by simp) _).set 0 _).boxed;have L:ph w.heap.size w ((u.setCell ⟨w.heap.size+1,0,none⟩ (.int .i64 (lb.length:Int))).setCell ⟨w.heap.size+1+1,0,none⟩ (.int .i64 0)):=((B.trans (C.mono B.size)).setCell (by simp) _).setCell (by simp;omega) _;generalize (u.setCell ⟨w.heap.size+1,0,none⟩ (.int .i64 (lb.length:Int))).setCell ⟨w.heap.size+1+1,0,none⟩ (.int .i64 0)=V at *;simp[Leaves,settle,gL,Tryz.results136,go_sem,q2,X];exact L
theorem Bv (w:World)(n:Nat)(hn:n<=1000000):(Instr.makeSlice 129 (.int .i64 (n:Int)) (.int .i64 (n:Int))).run Y3 w=.ok (.slice (some ⟨w.heap.size,0,none⟩) n n) (w.alloc (.cells ((zP n (0:UInt8)).map b8).toArray 5)):=by
 have h:=run_make_row' (P:=Y3) 129 5 (.int .u8 0) 1 underlying129 Yj rfl .i64 .i64 n (by omega) (by omega) w;have e:madeCells #[mG .u8 0] n=((zP n (0:UInt8)).map b8).toArray:=by apply Array.toList_inj.1;rw[toList_madeCells_one];simp[b8]
 rw[e] at h;exact h
theorem Gi {w:World}{base r:Nat}{v:Value}{l:Y4}(h:yZ w base v l)(d:r<base)(i:Nat)(u:Value):yZ (w.setCell ⟨r,i,none⟩ u) base v l :=
 World.ownsRow.kept h (vt w r i u) (by
  cases c:v.ownBlock with
  | none=>exact .inl rfl
  | some b=>exact .inr (λe=>by injection e with e;have:=h.sL b c;omega))
def FR (w:World)(lb:Y4)(e:dT)(w':World):Prop:=∃A c,e=Y0 (.tuple #[.slice A 512 c,.int .i64 0])/\qq w' w'.heap.size A c (lb++zP (512-lb.length) 0)/\ph w.heap.size w w'
theorem MS (w:World)(x:yo)(i:Y5)(s:Nat)(k:Y5)(z:Nat)(j:Y5)(u:Nat)(h:XH w w.heap.size x i s k z j u)(hl:x.cells.length<=1000)(aR:x.keys.length<=1000)(aS:x.kids.length<=1001)(hR:yj x)(aX:(qb x).length<=512):pr Y3 90 #[.agg (zu x i s k z j u)] w (FR w (qb x)):=by
 have HL:∀W,ph w.heap.size w W->pr Y3 151 #[.agg (zu x i s k z j u)] W (yU W (qb x)):=λW I=>YS W x i s k z j u (h.grow I) hl aR aS hR
 generalize qb x=lb at *;have b0:=za.new w 69 (zu x i s k z j u);unfold zu at *;obtain⟨W1,C⟩:=Z9 (((w.alloc (.cells #[.bool x.leaf,.slice i x.cells.length s,.slice k x.keys.length z,.slice j x.kids.length u] 69)).alloc (.cells #[.slice none 0 0] 129)).alloc (.cells #[.int .i64 0] 27));have b1:za W1 w.heap.size 69 #[.bool x.leaf,.slice i x.cells.length s,.slice k x.keys.length z,.slice j x.kids.length u]:=by rw[C];exact(b0.alloc _).alloc _
 have b2:za W1 (w.heap.size+1) 129 #[.slice none 0 0]:=by have:=za.new (w.alloc (.cells #[.bool x.leaf,.slice i x.cells.length s,.slice k x.keys.length z,.slice j x.kids.length u] 69)) 129 #[.slice none 0 0];rw[pq] at this;rw[C];exact this.alloc _
 have b3:za W1 (w.heap.size+1+1) 27 #[.int .i64 0]:=by have:=za.new ((w.alloc (.cells #[.bool x.leaf,.slice i x.cells.length s,.slice k x.keys.length z,.slice j x.kids.length u] 69)).alloc (.cells #[.slice none 0 0] 129)) 27 #[.int .i64 0];rw[pq,pq] at this;rw[C];exact this
 have U:ph w.heap.size w W1:=by rw[C];exact(((pf _ w).alloc (zG _) _).alloc (by simp) _).alloc (by simp;omega) _
 have aD:=pk C;clear C b0
 go_enter_defers func90,ntmps90
 have aT:(lb.length:Int)<=512:=by omega
 have aU:IntKind.i64.wrap (512-(lb.length:Int))=((512-lb.length:Nat):Int):=by rw[xd _];omega
 go_wp2_with (first
  | (rw[<-aD.out];refine xA zj b1 ?_)
  | (go_at_call 151;refine(HL _ U).mono ?_;rintro e w2 ⟨v,rfl,own,X⟩;obtain⟨c,c2,rfl,aY⟩:=own.inB;have M:=b2.below X b2.lt;have N:=b3.below X b3.lt;have k2:=M.boxed;have k3:=N.boxed;have f2:=M.free 0;have f3:=N.free 0)
  | (go_at_call 152;refine(Um _ _).mono ?_;rintro e w7 ⟨⟨v7,rfl⟩,rfl⟩))
 have aZ:W1.heap.size=w.heap.size+3:=by rw[aD.out,pq,pq,pq]
 have aM:=U.trans (X.mono U.size);have own2:yZ (w2.setCell ⟨w.heap.size+1,0,none⟩ (.slice c lb.length c2)) W1.heap.size (.slice c lb.length c2) lb :=
  Gi own (by omega) 0 _
 have v2:=M.set 0 (.slice c lb.length c2);have v3:=N.other (p:=⟨w.heap.size+1,0,none⟩) (by simp) (.slice c lb.length c2);have aE:ph w.heap.size w (w2.setCell ⟨w.heap.size+1,0,none⟩ (.slice c lb.length c2)):=aM.setCell (by simp) _;generalize w2.setCell ⟨w.heap.size+1,0,none⟩ (.slice c lb.length c2)=V at *;obtain⟨aW,aK,aL,aQ⟩:=own2.inB;injection aL with e21 e22 e23
 subst e21 e23;obtain⟨m,hm⟩:=Z9 (512-lb.length);rw[<-hm] at aU;have G:∀W,ph V.heap.size V W->W.cell? ⟨w.heap.size+1,0,none⟩=some (.slice c lb.length c2)/\W.cell? ⟨w.heap.size+1+1,0,none⟩=some (.int .i64 0)/\W.frozen? ⟨w.heap.size+1,0,none⟩=false/\W.frozen? ⟨w.heap.size+1+1,0,none⟩=false:=λW I=>by have x2:=v2.below I v2.lt;have x3:=v3.below I v3.lt;exact⟨by rw[x2.cell];rfl,by rw[x3.cell];rfl,x2.free 0,x3.free 0⟩
 have aB:ph V.heap.size V V.drew:=(pf _ V).drew;have qd:=G _ aB;obtain⟨W5,E⟩:=Z9 (V.drew.alloc (.cells ((zP m (0:UInt8)).map b8).toArray 5));have aA:ph V.heap.size V W5:=by rw[E];exact aB.alloc aB.size _
 have q5:=G _ aA;have aG:qq W5 W5.heap.size (some ⟨V.heap.size,0,none⟩) (zP m (0:UInt8)).length (zP m (0:UInt8)):=by have h:=(za.new V.drew 5 ((zP m (0:UInt8)).map b8).toArray).inB (l:=zP m (0:UInt8)) W5.heap.size (by rw[E,pq];exact Nat.lt_succ_self _) (by simp;omega);rw[<-E] at h;exact h
 have L:=Gv (aQ.drew) aG (by rw[E];exact(pf _ V.drew).alloc (zG _) _) (show [lb,zP m (0:UInt8)].flatten=lb++zP m 0 by simp) (by simp;omega);rw[dV] at L aG;have aF:(lb++zP m (0:UInt8)).length=512:=by rw[zH,dV];omega
 have aJ:Hid (lb++zP (512-lb.length) (0:UInt8)=lb++zP m (0:UInt8)):=pk (by rw[<-hm]);generalize lb++zP m (0:UInt8)=full at *;have aH:=Bv V.drew m (by omega);rw[<-E] at aH;have aC:V.drew.heap.size=V.heap.size:=rfl;rw[aC] at aH;have aI:=pk aF;have A:=aA.alloc aA.size (.cells #[.slice c lb.length c2,.slice (some ⟨V.heap.size,0,none⟩) m m] 129);have q6:=G _ A;clear E hm aC aF;obtain⟨d1,d2,d3,d4⟩:=qd;obtain⟨c1,aK,c3,c4⟩:=q5;obtain⟨r1,r2,r3,r4⟩:=q6;refine wp_region_noPanic ?_
 go_region_law (first
  | (go_at_call 153;refine L.mono ?_;rintro e B ⟨v7,rfl,K,H⟩;obtain⟨y1,y2,y3,y4⟩:=G _ (A.trans (H.mono A.size));obtain⟨d,r,rfl,aO⟩:=K.inB)
  | (go_simp;go_at_call 153;refine L.mono ?_;rintro e B ⟨v7,rfl,K,H⟩;obtain⟨y1,y2,y3,y4⟩:=G _ (A.trans (H.mono A.size));obtain⟨d,r,rfl,aO⟩:=K.inB))
 all_goals
  refine NoPanic.normal ?_;go_wp2;refine leaves_cons (f:=149) (args:=#[.pointer (some ⟨w.heap.size+1+1,0,none⟩),.func (.func 150) #[] #[.pointer (some ⟨w.heap.size+1,0,none⟩)]]) (by simp) (by simp[go_sem]) ?_;refine(QG _ _ _).mono ?_;rintro e u' a0 ⟨rfl,rfl,rfl⟩;have O:=A.trans (H.mono A.size);have z2:=v2.below O v2.lt;have z3:=v3.below O v3.lt;have q2:((B.setCell ⟨w.heap.size+1,0,none⟩ (.slice d full.length r)).setCell ⟨w.heap.size+1+1,0,none⟩ (.int .i64 0)).cell? ⟨w.heap.size+1,0,none⟩=some (.slice d full.length r):=((z2.set 0 _).other (p:=⟨w.heap.size+1+1,0,none⟩) (by simp) _).boxed;have q3:((B.setCell ⟨w.heap.size+1,0,none⟩ (.slice d full.length r)).setCell ⟨w.heap.size+1+1,0,none⟩ (.int .i64 0)).cell? ⟨w.heap.size+1+1,0,none⟩=some (.int .i64 0):=((z3.other (p:=⟨w.heap.size+1,0,none⟩) (by simp) _).set 0 _).boxed;have aT:W1.heap.size<=V.heap.size:=by have:=v3.lt;omega
  have aC:V.heap.size<=(W5.alloc (.cells #[.slice c lb.length c2,.slice (some ⟨V.heap.size,0,none⟩) m m] 129)).heap.size:=A.size;have aV:yZ ((B.setCell ⟨w.heap.size+1,0,none⟩ (.slice d full.length r)).setCell ⟨w.heap.size+1+1,0,none⟩ (.int .i64 0)) (W5.alloc (.cells #[.slice c lb.length c2,.slice (some ⟨V.heap.size,0,none⟩) m m] 129)).heap.size (.slice d full.length r) full :=
   Gi (Gi K (by omega) 0 _) (by omega) 0 _
  have aN:ph w.heap.size w ((B.setCell ⟨w.heap.size+1,0,none⟩ (.slice d full.length r)).setCell ⟨w.heap.size+1+1,0,none⟩ (.int .i64 0)):=((aE.trans (O.mono aE.size)).setCell (by simp) _).setCell (by simp;omega) _;obtain⟨A9,c9,e9,aP⟩:=aV.inB;injection e9 with e91 e92 e93
  subst e91 e93;generalize (B.setCell ⟨w.heap.size+1,0,none⟩ (.slice d full.length r)).setCell ⟨w.heap.size+1+1,0,none⟩ (.int .i64 0)=Z at *;simp[Leaves,settle,gL,Tryz.results90,go_sem,q2,q3];rw[aI.out];exact⟨d,r,rfl,by rw[aJ.out];exact aP,aN⟩
def TT (e:Int)(r:Bool):PanicEntry:={v:=.iface 27 (.int .i64 e),recovered:=r}
theorem AU (w:World)(e:Int):pr Y3 152 #[.bool false,.int .i64 e] w λc w'=>c=.panicked [TT e false]/\w=w':=by
 go_enter func152,ntmps152
 go_wp2;exact⟨rfl,rfl,rfl⟩
@[local go_sem] theorem Hy (v:Value) (w:World):(Instr.typeAssert (.iface 27 v) 20 27 false).run Y3 w=.ok v w:=by kernel_rfl

theorem Qd {w w':World}(h:ph w.heap.size w w')(r:Nat):w.grownBy w' (some r):=⟨h.os,h.tape,h.output,h.size,λk c _=>h.block k c⟩
theorem jF {a b c:World}{row:Option Nat}(h1:a.grownBy b row)(h2:b.grownBy c row):a.grownBy c row :=
 ⟨h2.os.trans h1.os,h2.tape.trans h1.tape,h2.output.trans h1.output,zT h1.size h2.size,λk d e=>(h2.block k (zO d h1.size) e).trans (h1.block k d e)⟩
theorem yr (w:World)(b:Bool)(n:Int):pr Y3 152 #[.bool b,.int .i64 n] w λe w'=>w=w'/\(b=true->∃v,e=Y0 v)/\(b=false->e=.panicked [TT n false]):=by
 cases b with
 | true=>exact(Um w n).mono λe w' h=>⟨h.2,λ_=>h.1,(λe=>by cases e)⟩
 | false=>exact(AU w n).mono λe w' h=>⟨h.2,(λe=>by cases e),λ_=>h.1⟩
end
end Go.Proofs.YtohmkffoojdahaaGreat
