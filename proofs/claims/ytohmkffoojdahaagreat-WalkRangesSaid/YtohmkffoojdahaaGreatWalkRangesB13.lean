/- Texts that the proof of WalkRanges leans on, part 13. -/
import Derived.Test.YtohmkffoojdahaaGreatWalkRangesB12
open Nat renaming reduceAdd->yB,reduceSub->yC
set_option linter.unusedVariables false
set_option linter.unusedSimpArgs false
set_option maxRecDepth 100000
set_option maxHeartbeats 8000000

open ByteArray renaming empty->nX
open Go renaming Calls->nK,Addr->nN,Operand->nO,execOp->nQ,TypeId->nS,Program->gF,maxLen->gP,callFunc->gm,Code->ff,below_drewN->eP
open Go.Act renaming put->nJ
open Go.Code renaming rangeFunc->fz
open Go.Exit renaming noGoto->lv
open Go.Fence renaming wide->nv
open Go.Op renaming bytesLess->gH
open Go.Result renaming andThen->nM
open Go.RowKit renaming Below->nH
open Go.World renaming setRow->gM
open List.Pairwise renaming nil->fx
open Go.Proofs.Tryz renaming prog->Y3
open Go.Proofs.Tryz
open Go.Value renaming int->Y1,pointer->Y9,slice->X1,bool->X3,string->X9,agg->Q0,tuple->Q2
open Go.IntKind renaming i64->Q4
open Go.Obj renaming cells->Q9
open Option renaming none->K3,some->K4
namespace Go.Proofs.YtohmkffoojdahaaGreat
section
open Go Go.RowKit xq
def wZ (o:Obj):Prop:=(∃cs T,o=Q9 cs T (0,0)/\QO T)\/(o.isCells=false/\∀es c,o≠.map es c)
def yo (W W':World):Prop:=W.heap.size<=W'.heap.size/\∀(b:Nat) (o:Obj),W.heap[b]?=some o->wZ o->W'.heap[b]?=some o
def vA (c:Nat)(W W':World):Prop:=W.heap.size<=W'.heap.size/\∀(b:Nat) (o:Obj),b≠c->W.heap[b]?=some o->wZ o->W'.heap[b]?=some o
section
variable {W0 W W' X Y:World}{K:xB}{p t b c d:Nat}{k:Int}{v:yj}{st last:qj}{under:Bool}{mk:Value}{ms:List xo}{o:Obj}{T:nS}{cs:Y7}
theorem Fv (a:QO T):wZ (Q9 cs T (0,0)):=.inl ⟨cs,T,rfl,a⟩
theorem jI (h:W.heap[b]?=some o):b<W.heap.size:=(zI.1 h).1
theorem yo.trans (h:yo W X)(a:yo X Y):yo W Y:=⟨zT h.1 a.1,λb o f e=>a.2 b o (h.2 b o f e) e⟩
theorem yo.grow (h:nH W.heap.size W X):yo W X:=⟨h.size,λb _ a _=>(h.block b (jI a)).trans a⟩
theorem yo.blk (h:yo W X)(e:za W b T cs)(a:QO T):za X b T cs:=h.2 b _ e (Fv a)
theorem zy.dv (h:zy W0 K p t k v st last under mk ms W)(A:W.heap[b]?=some o)(i:wZ o):¬ qi K p v b:=by
 rcases i with⟨cs,T,rfl,i⟩|⟨h1,h2⟩
 .exact h.pP A i
 .have hc:∀{T:nS} {cs:Y7} {k:Nat},za W k T cs->b≠k:=λE e=>by
   subst e;have a:W.heap[b]?=some (.cells _ _ (0,0)):=E;rw[A] at a;injection a with a
   rw[a] at h1;cases h1
  have g:=h.pa.ca.cs.ca;rintro(e|e|e|⟨j,u,hu,e⟩)
  .exact hc h.pa.pb e
  .exact hc g.cb e
  .obtain⟨es,C,G,_⟩:=g.mp;have f:W.heap[K.r]?=some (.map es C):=G;rw[<-e,A] at f;injection f with f
   exact h2 _ _ f
  .exact hc (g.rows j u hu).blk e
theorem yo.pS (h:zy W0 K p t k v st last under mk ms W)(e:ze (qi K p v) W X):yo W X:=⟨e.size,λb _ a f=>(e.block b (jI a) (h.dv a f)).trans a⟩
theorem yo.new (h:yo W X)(a:ze (λj=>j=d) X Y)(hd:W.heap.size<=d):yo W Y:=⟨zT h.1 a.size,λb o e f=>by
 have hl:=jI e
 exact(a.block b (zO hl h.1) K5).trans (h.2 b o e f)⟩
theorem vA.of (h:yo W X):vA c W X:=⟨h.1,λb o _ e a=>h.2 b o e a⟩
theorem vA.pS (h:vA c W X)(a:ze (λj=>j=c) X Y):vA c W Y:=⟨zT h.1 a.size,λb o hc e f=>(a.block b (zO (jI e) h.1) hc).trans (h.2 b o hc e f)⟩
theorem vA.new (h:vA c W X)(a:ze (λj=>j=d) X Y)(hd:W.heap.size<=d):vA c W Y:=⟨zT h.1 a.size,λb o hc e f=>by
 have hl:=jI e
 exact(a.block b (zO hl h.1) K5).trans (h.2 b o hc e f)⟩
theorem vA.blk (h:vA c W X)(e:za W b T cs)(hc:b≠c)(a:QO T):za X b T cs:=h.2 b _ hc e (Fv a)
end
section
variable {W0 W W':World}{K:xB}{p t:Nat}{v v':yj}{st last st' last':qj}{under:Bool}{mk mk':Value}{ms:List xo}
theorem LW {k:Int}(h:zy W0 K p t k v st last under mk ms W)(g:K.Ok)(E:v.N<=790000){used free:List Int}(i:xd K v.D st used free){c:xG}{e:qw}{C:List Int}(hc:xP v.D c e C)(I:∀a∈C,a∈used):nK Y3 100 #[Q0 #[Y9 t],Q0 (zl c).toArray] W (rP W0 K p t k v st last under mk ms W e.2):=by
 obtain⟨j,M,f,O⟩:=c;rcases hc.val with⟨h1,h2,h3,h4,h5⟩|⟨h1,h2,h3,h4,h5,h6,h7,h8⟩
 .simp only at h1 h2 h3;subst h1 h2 h3;refine(Re W _ j e.2 K5).mono ?_;rintro x w' ⟨rfl,hB⟩;exact⟨v,rfl,h.grow hB,⟨by omega,rfl,rfl,rfl,rfl⟩,λk H => .inl H,ze.below hB⟩
 .simp only at h1 h2 h3 h6 h8;subst h1 h3;have G:f∈used:=I f (by rw[h2];simp);have A:=i.pZ f (yH _ G);have U:=i.sz;have Q:=g.hP;exact Sk h g E f ⟨A.1,A.2⟩ K5 (i.loose g) e.2 j ⟨h4,h5⟩ h8
theorem FX {M:Nat->Prop}{A B:World}{b:Nat}(h:ze M W A)(g:ze (λj=>j=b) A B)(C:W.heap.size<=b):ze M W B:=by
 have a:ze (λj=>M j\/j=b) W B:=(h.more λj f _ => .inl f).trans (g.more λj f _ => .inr f);exact⟨a.os,a.tape,a.output,a.size,λj f i=>a.block j f (λe=>e.elim i (λe=>by omega))⟩
theorem BL (h:zy W0 K p t 0 v st last under mk ms W)(hK:K.Ok)(hN:v.N<=700000){es:List qw}(hI:xu K v.D st es)(cA:es.length<=61)(e:qw)(he:e∈es)(bI:e.1.size<=81):nK Y3 61 #[Y9 t,X9 e.1] W λx w'=>x=.returned (Q2 #[X9 e.2,X3 true,Y1 Q4 0])/\∃v',zy W0 K p t 0 v' st last under mk ms w'/\vH K v v' 63/\yo W w':=by
 obtain⟨ky,u⟩:=e;replace bI:ky.size<=81:=bI;obtain⟨used,free,root,hp,h0,⟨_,b9,_⟩|⟨d,x,ps,hu,hD,hl,hx⟩⟩:=hI.has
 .subst b9;cases he
 have cE:=hx.ov;have bL:=h.up;obtain⟨W1,E⟩:=Z9 (((W.alloc (Q9 #[X9 ⟨#[]⟩] 9)).alloc (Q9 #[X3 false] 4)).alloc (Q9 #[Y1 Q4 0] 27));have aR:nH W.heap.size W W1:=by rw[E];exact YK _ _ _ _
 have b4:za W1 W.heap.size 9 #[X9 ⟨#[]⟩]:=by rw[E];exact((za.new W _ _).alloc _).alloc _
 have b5:za W1 (W.heap.size+1) 4 #[X3 false]:=by have:=(za.new (W.alloc (Q9 #[X9 ⟨#[]⟩] 9)) 4 #[X3 false]).alloc (Q9 #[Y1 Q4 0] 27);rw[nG] at this;rw[E];exact this
 have b6:za W1 (W.heap.size+1+1) 27 #[Y1 Q4 0]:=by have:=za.new ((W.alloc (Q9 #[X9 ⟨#[]⟩] 9)).alloc (Q9 #[X3 false] 4)) 27 #[Y1 Q4 0];rw[nG,nG] at this;rw[E];exact this
 have cC:W1.heap.size=W.heap.size+1+1+1:=by rw[E,nG,nG,nG]
 have h1:=h.grow aR;have aT:=h1.none;obtain⟨W2,aE,G,-⟩:=Qp W1 92 #[Y9 t];have Z:za W2 (W.heap.size+1+1+1) 92 #[Y9 t]:=by rw[aE,<-cC];exact za.new W1 _ _
 have h2:=h1.grow G;have aH:=b4.below G b4.lt;have aK:=b5.below G b5.lt;have aM:=b6.below G b6.lt;have HF:=Ij h2 hK hN hp h0 (ky,u) (d0:=d) K5 ⟨root,x,es,ps,rfl,hu.mem_iff.2 K9,λa ha=>hu.mem_iff.2 (by simp[ha]),hD,hl,hx,hI.so,he,cA⟩;have n4:=h2.pP aH K7;have n5:=h2.pP aK K7;have n6:=h2.pP aM K7;have n7:=h2.pP Z K7;have a8:=Z.boxed;rw[aE] at a8;have bR:=nI E.symm;have bS:=nI aE.symm;have g2:ze (qi K p v) W W2:=(ze.below aR).trans (ze.below G);have aU:=nI bL;have bP:=nI (show ∀w',ze (qi K p v) W w'->yo W w' from λw' hG=>yo.pS h hG);have bQ:=nI hp;clear E aE h h1 hx h0 b4 b5 b6 hI he hp hu hD hl bL
 go_enter_defers func61,ntmps61
 go_wp2_with (first
  | (go_at_call 42;rw[bR.out];refine aT.mono ?_;rintro x2 w2 ⟨rfl,rfl⟩))
 rw[bS.out];refine HF.mono ?_;rintro x3 I ⟨v3,c,pc,rfl,bG,bK,h3,aG,bJ,A⟩;have aI:=A.blk aH n4;have aL:=A.blk aK n5;have aN:=A.blk aM n6;have aP:=A.blk Z n7;have cF:=A.size;have l7:=Z.lt;obtain⟨C,aB⟩:=Z9 ((zl c).toArray);have bC:C.size=4:=by rw[aB];rfl
 have b8:∀u∈C.toList,u.oneCell'=true:=by rw[aB];exact zw rfl rfl rfl rfl
 rw[<-aB];obtain⟨W4,bE,bB,aQ⟩:=Qp I 94 #[X9 ⟨#[]⟩,X9 ⟨#[]⟩,Y1 Q4 0,Y1 Q4 0];have i:nH I.heap.size I (W4.setRow I.heap.size C):=zf bB (zG _) _;have a5:=aQ.setRow C;generalize bF:W4.setRow I.heap.size C=W5 at *;have h5:=h3.grow i;have aV:=aI.below i aI.lt;have O:=aL.below i aL.lt;have a0:=aN.below i aN.lt;have a3:=aP.below i aP.lt;have cG:=i.size;have bZ:=O.boxed;have b2:=O.free 0;obtain⟨W6,aC⟩:=Z9 (W5.setCell (W.heap.size+1:Nat) (X3 true));have g:ze (λj=>j=W.heap.size+1) W5 W6:=by rw[aC];exact ze.setCell _ _ _ rfl
 have h6:=h5.pQ g O K9 (λm e=>by cases e) (by have:=aU.out;omega) K7;have aD:za W6 (W.heap.size+1) 4 #[X3 true]:=by rw[aC];exact O.set 0 _
 have aJ:=g.blk aV K5;have aO:=g.blk a0 K5;have a4:=g.blk a3 K5;have a6:=g.blk a5 K5;have a7:=aD.boxed;have a9:=a4.boxed;rw[aC] at a7 a9;have cH:=g.size;have HV:=LW h6 hK (by have:=aG.nn;omega) (by rw[aG.dd];exact bQ.out) bG bK;rw[<-aB] at HV;have bM:=h6.pP aJ K7;have bN:=h6.pP aD K7;have bO:=h6.pP aO K7;have gA:ze (qi K p v) W W6:=FX ((g2.trans A).trans (ze.below i)) g K5;have N3:zz K W v v3:=bJ.mono g2.size;have bT:=nI bE.symm;have bU:=nI bF;have bV:=nI aC.symm;clear bE bF aC h2 h3 h5 aI aL aN aP aV O a0 a3 aH aK aM Z A HF aT bB i aR G bJ a8 g g2 aB bG bK
 go_wp2_with (first
  |(rw[bT.out];refine vC ql aQ bC b8 ?_;rw[bU.out])
  | (rw[bV.out];refine yO rfl 94 (.tmp 8) rfl I.heap.size rfl ql a6 bC ?_))
 refine HV.mono ?_;rintro x7 w7 ⟨v7,rfl,h7,bH,cB,H⟩;have M:=H.blk aJ bM;have aY:=H.blk aD bN;have a1:=H.blk aO bO;have cI:=H.size;have gB:ze (qi K p v) W w7:=H.fresh gA N3 gA.size;have cJ:=aU.out;have cD:=M.boxed;have f47:=M.free 0;have g8:ze (λj=>j=W.heap.size) w7 (w7.setCell W.heap.size (X9 u)):=ze.setCell _ _ _ rfl;have h8:=h7.pQ g8 M K9 (λm e=>by cases e) K5 K7;have aW:=M.set 0 (X9 u);have Q:=g8.blk aY K5;have a2:=g8.blk a1 K5;have b0:=Q.boxed;have b3:=Q.free 0;have gC:=FX gB g8 K5;generalize aF:w7.setCell W.heap.size (X9 u)=W8 at *;have g9:ze (λj=>j=W.heap.size+1) W8 (W8.setCell (W.heap.size+1:Nat) (X3 true)):=ze.setCell _ _ _ rfl;have h9:=h8.pQ g9 Q K9 (λm e=>by cases e) K5 K7;have aZ:=Q.set 0 (X3 true);have aX:=g9.blk aW K5;have U:=g9.blk a2 K5;have b1:=U.boxed;have b7:=U.free 0;have gD:=FX gC g9 K5;generalize aS:W8.setCell (W.heap.size+1:Nat) (X3 true)=W9 at *;have aA:ze (λj=>j=W.heap.size+1+1) W9 (W9.setCell (W.heap.size+1+1:Nat) (Y1 Q4 0)):=ze.setCell _ _ _ rfl;have bA:=h9.pQ aA U K9 (λm e=>by cases e) K5 K7;have bY:=U.set 0 (Y1 Q4 0);have bW:=aA.blk aX K5;have bX:=aA.blk aZ K5;have gE:=FX gD aA K5;generalize bD:W9.setCell (W.heap.size+1+1:Nat) (Y1 Q4 0)=W10 at *;rw[<-aF] at b0 b3;rw[<-aS,<-aF] at b1 b7;have HW:=nI (show ((w7.setCell W.heap.size (X9 u)).setCell (W.heap.size+1:Nat) (X3 true)).setCell (W.heap.size+1+1:Nat) (Y1 Q4 0)=W10 by rw[aF,aS,bD]);have F:∃v',zy W0 K p t 0 v' st last under mk ms W10/\vH K v v' 63/\yo W W10:=⟨v7,bA,aG.trans bH,bP.out _ gE⟩;clear aF aS bD h6 h7 h8 h9 bA g8 g9 aA gA gB gC gD gE aJ M aW aX aD aY Q aZ aO a1 a2 U a4 aQ a5 a6 HV H cB bZ b2 a7 a9 bM bN bO N3 aG bH;go_wp2;rw[HW.out];refine leaves_cons (f:=75) (args:=#[Y9 (W.heap.size+1+1:Nat),.func (.func 98) #[] #[Y9 W.heap.size,Y9 (W.heap.size+1:Nat)]]) K9 (by simp[go_sem]) ?_;refine(Xg _ _ _).mono ?_;rintro e u' wz ⟨rfl,rfl,rfl⟩;exact⟨_,Ys rfl (kZ (p:=⟨W.heap.size,0,K3⟩) 4 rfl (by simp[go_sem]) bW.boxed) (kZ (p:=⟨W.heap.size+1,0,K3⟩) 5 rfl (by simp[go_sem]) bX.boxed) (kZ (p:=⟨W.heap.size+1+1,0,K3⟩) 6 rfl (by simp[go_sem]) bY.boxed),rfl,F⟩
end
section
variable {W0:World}{K:xB}{p t c:Nat}{k:Int}{st last:qj}{under:Bool}{mk:Value}{ms:List xo}{used free:List Int}{D:Int->Option Y4}{L:List Cq}{s:Ja}{up:Bool}{P:qw->Bool}{cf kf:ym->Int}{ky:ByteArray}{bb:Bool}
structure wX (W0:World)(K:xB)(p t:Nat)(k:Int)(v:yj)(st last:qj)(under:Bool)(mk:Value)(ms:List xo)(L:List Cq)(W:World)(q5 q6 q8:Nat)(S N:Y7)(x:ym)(Ac:Y5)(cc:Nat)(Ak:Y5)(ck:Nat)(Ai:Y5)(ci:Nat)(up:Bool)(P:qw->Bool)(ks:List YP)(j:Int)(rest done:List YP)(v2:yj)(wr:World):Prop where
 at_:JN up ks j rest done
 no:∀a∈done,pick up P a.es=none
 tr:zy W0 K p t k v2 st last under mk ms wr
 km:vH K v v2 (1+(ZD done).length)
 nd:yc wr K p v2 x Ac cc Ak ck Ai ci
 bx:xW L wr
 b5:za wr q5 60 S
 b6:za wr q6 94 (zl kP).toArray
 b8:za wr q8 69 N
 nm:zz K W v v2
 gb:ze (qi K p v) W wr
theorem uY {ks:List YP}{a:YP}(h:a∈ks):1+a.ps.length<=(ZD ks).length:=by
 obtain⟨A,B,rfl⟩:=List.append_of_mem h;rw[QC,jX];simp only[zH,zK];omega
theorem Sd (hK:K.Ok)(hs:Xz L s up P cf kf)(hc:(c,54,#[Y9 t,X9 ky,X3 bb])∈L){v:yj}{W:World}{d:Nat}{n:Int}{x:ym}{es:List qw}{ps:List Int}(H:KO W0 K p t k v st last under mk ms used free D W (d+1) n x es ps)(hL:xW L W)
  (IH:∀(v:yj) (W:World) (n:Int) (x:ym) (es:List qw) (ps:List Int),KO W0 K p t k v st last under mk ms used free D W d n x es ps->xW L W->nK Y3 60 #[Y9 c,Y1 Q4 n,Q0 s.val] W (QF W0 K p t k v st last under mk ms W (1+ps.length) (pick up P es))) :
  nK Y3 60 #[Y9 c,Y1 Q4 n,Q0 s.val] W (QF W0 K p t k v st last under mk ms W (1+ps.length) (pick up P es)):=by
 have h:=H.at_;have c2:=h.up;have cS:=hK.hP;have b7:=H.pl.pZ n (yH _ H.us);have c1:=H.pl.sz;have hm:=H.nd.many;have cV:=H.many;have cX:=H.nn;have cR:=H.nd;obtain⟨ks,hi,b2⟩:=cR;obtain⟨cA,done0,bV,b4⟩:=hs.pl.inner x es ps ks hi (λa ha=>(b2 a ha).1.ne);have b1:x.kids.length=ks.length:=by rw[hi.kids];unfold Uu;simp
 have cY:(ZD ks).length=ps.length:=by rw[hi.dE]
 have a6:=hi.oV;have cP:=hi.leaf;have b9:zu (KR ks):=by rw[<-hi.oV];exact H.so
 have b0:∀a∈ks,a.es.length<=es.length:=λa ha=>by obtain⟨A,B,cG⟩:=List.append_of_mem ha;rw[a6,cG,QD,vz];simp only[zH];omega
 have aP:∀(a:YP) (E:yj) (W2:World),a∈ks->zy W0 K p t k E st last under mk ms W2->vH K v E (1+(ps.length-1-a.ps.length))->KO W0 K p t k E st last under mk ms used free D W2 d a.pg a.nd a.es a.ps:=λa E W2 ha ht hk=>by obtain⟨a1,a2,a3⟩:=b2 a ha;obtain⟨m1,m2⟩:=Kr ha;have hl:=uY ha;exact⟨ht,hk.dd.trans H.dd,H.pl,H.sub _ (by rw[hi.dE];exact m1),a2,a3,a1,λb hb=>H.sub _ (by rw[hi.dE];exact m2 b hb),zu.oW b9 a ha,by have:=b0 a ha;omega,by have:=hk.nn;omega⟩
 have a7:∀(a:YP) (j:Nat),ks[j]?=some a->x.kids[j]?=some a.pg:=λa j ha=>by rw[hi.kids];unfold Uu;rw[List.getElem?_map,ha];rfl
 obtain⟨S,aC⟩:=Z9 s.val;have cK:S.size=3:=by rw[aC];rfl
 have cI:S[1]?=some (.func (.func s.fk) #[] s.qk):=by rw[aC];rfl
 have cJ:S[2]?=some (.func (.func s.fn) #[] #[]):=by rw[aC];rfl
 obtain⟨W1,Q⟩:=Z9 ((W.alloc (Q9 S 60)).alloc (Q9 (zl kP).toArray 94));have aE:nH W.heap.size W W1:=by rw[Q];exact QU _ _ _
 have b5:za W1 W.heap.size 60 S:=by rw[Q];exact(za.new W _ _).alloc _
 have b6:za W1 (W.heap.size+1) 94 (zl kP).toArray:=by have:=za.new (W.alloc (Q9 S 60)) 94 (zl kP).toArray;rw[nG] at this;rw[Q];exact this
 have cZ:W1.heap.size=W.heap.size+1+1:=by rw[Q,nG,nG]
 have h1:=h.grow aE;have a0:=hL.grow aE;have c0:W1.cell? c=K4 (Y9 t):=by rw[(a0 _ hc).1.cell];rfl
 have bB:=UH h1 hK K5 n ⟨b7.1,b7.2⟩ K5 (by rw[H.dd];exact H.pl.loose hK) x H.nod;have n5:=h1.pP b5 JK;have n6:=h1.pP b6 K7;unfold zl kP at Q;rw[Q] at c0;have bC:=nI Q.symm;have a9:=nI a6;have cE:=nI aC;have bA:=nI b1;rw[<-aC];clear Q h hL H aC a6 b0 b9 b1
 go_enter func60,ntmps60
 go_wp2_with fail
 rw[bC.out];refine bB.mono ?_;rintro e f ⟨v',Ac,cc,Ak,ck,G,ci,rfl,X2,XG,h2,bY,b3,aH⟩;obtain⟨N,aA⟩:=Z9 (zx x Ac cc Ak ck G ci);have bR:N.size=4:=by rw[aA];rfl
 have cH:∀u∈N.toList,u.oneCell'=true:=by rw[aA];exact zw rfl rfl rfl rfl
 rw[<-aA];have aQ:=aH.blk b5 n5;have aT:=aH.blk b6 n6;have bP:=a0.pS h1 aH;obtain⟨W3,bS,bN,aW⟩:=Qp f 69 #[X3 false,X1 none 0 0,X1 none 0 0,X1 none 0 0];have U:nH f.heap.size f (W3.setRow f.heap.size N):=zf bN (zG _) _;have aD:=aW.setRow N;generalize bT:W3.setRow f.heap.size N=W4 at *;have h4:=h2.grow U;have X4:=X2.grow U;have a4:=bP.grow U;have aL:=aQ.below U aQ.lt;have aU:=aT.below U aT.lt;have d0:W4.cell? f.heap.size=some (X3 false):=by rw[aD.cell,aA];simp[zx,cP]
 have s1:W4.cell? ⟨W.heap.size,1,K3⟩=some (.func (.func s.fk) #[] s.qk):=by rw[aL.cell];exact cI
 have HC:=hs.k W4 x Ac cc Ak ck G ci a4 X4.is K5 K5 K5;rw[<-aA] at HC;have G4:ze (qi K p v) W W4:=((ze.below aE).trans aH).trans (ze.below U);have N4:zz K W v v':=b3.mono aE.size;have bD:=nI bS.symm;have bE:=nI bT;have cD:=nI aA;have cC:=nI bY;have cT:=hs.ek;have cU:=hs.en;clear bS bT aA h1 h2 a0 bP b5 b6 aQ aT X2 XG aH b3 bN U bB aE bY n5 n6 c0
 go_wp2_with (first
  |(rw[bD.out];refine vC zm aW bR cH ?_;rw[bE.out])
  |(go_at_call 95;refine(Sb _).mono ?_;rintro e wm ⟨⟨_,rfl⟩,rfl⟩)
  | (refine yO rfl 69 (.tmp 8) rfl f.heap.size rfl zm aD bR ?_))
 refine HC.mono ?_;rintro e w5 ⟨rfl,M⟩;have h5:=h4.grow M;have X5:=X4.grow M;have bQ:=a4.grow M;have bH:=aL.below M aL.lt;have bJ:=aU.below M aU.lt;have bL:=aD.below M aD.lt;have G5:ze (qi K p v) W w5:=G4.trans (ze.below M);have R0:wX W0 K p t k v st last under mk ms L W W.heap.size (W.heap.size+1) f.heap.size S N x Ac cc Ak ck G ci up P ks (kf x) cA done0 v' w5:=⟨bV,b4,h5,cC.out.m.more K5,X5,bQ,bH,bJ,bL,N4,G5⟩;clear HC h4 X4 a4 aL aU aD aW G4 N4 h5 X5 bQ bH bJ bL G5 M d0 s1 bV b4 bD bE bC
 go_wp2_with fail
 go_loopw [10] (λi wr=>∃j rest done E,i=Y1 Q4 j/\wX W0 K p t k v st last under mk ms L W W.heap.size (W.heap.size+1) f.heap.size S N x Ac cc Ak ck G ci up P ks j rest done E wr) (λi _=>match i with | .int _ m=>Em up ks.length m|_=>0)
 case atStart=>exact⟨_,cA,done0,v',rfl,R0⟩
 case round =>
  obtain⟨j,rest,done,E,rfl,R⟩:=hrel;clear R0;have d3:wr.cell? ⟨f.heap.size,3,K3⟩=some (X1 G x.kids.length ci):=by rw[R.b8.cell,cD.out];rfl
  have cW:=R.at_.low;cases rest with
  | nil =>
   have HO:=uu wr G ci x.kids.length j (by have:=R.at_.out;have:=bA.out;omega);have aJ:pick up P es=none:=by rw[a9.out];exact R.at_.dz R.no
   have cM:=R.at_.dn;have hT:=R.tr;have hq:=hT.pQ (qm wr (W.heap.size+1) (zl kP).toArray) R.b6 K7 (λm e=>by cases e) K5 K7;have bK:=R.b6;have aM:=R.b6.setRow (zl kP).toArray;have gR:=R.gb;have F:QF W0 K p t k v st last under mk ms W (1+ps.length) (pick up P es) (.returned (Q2 #[Q0 (zl kP).toArray,X3 false])) (wr.setRow (W.heap.size+1) (zl kP).toArray):=by rw[aJ];exact⟨kP,E,rfl,rfl,hq,R.km.more K5,R.nm,⟨gR.os,gR.tape,gR.output,by simp[gM];exact gR.size,λa ha hm=>(ng _ _ a _ K5).trans (gR.block a ha hm)⟩⟩
   unfold zl kP at F bK aM;clear R hq hT IH aP a7 gR aJ
   go_wp2_with (first
    |(go_at_call 97;refine HO.mono ?_;rintro e w6 ⟨rfl,rfl⟩)
    | (refine zt rfl 94 (.tmp 6) (.tmp 54) rfl (W.heap.size+1) rfl rfl ql bK rfl rfl (zw rfl rfl rfl rfl) ?_))
   exact nu (vJ rfl (yx (g:=W.heap.size+1) 6 rfl ql aM rfl) (ve 7 rfl)) rfl F
  | cons a rest =>
   obtain⟨i0,bX,cO⟩:=R.at_.at_;have cM:=R.at_.oT;have cL:=R.at_.mem;have HA:=Cf wr G ci x.kids R.nd.is.i j K5 i0 bX a.pg (a7 a i0 cO);have HI:=IH E wr a.pg a.nd a.es a.ps (aP a E wr cL R.tr (R.km.more K5)) R.bx;unfold QF at HI;rw[<-cE.out] at HI;have bI:=R.b5;clear IH aP a7 bX
   go_wp2_with (first
    |(go_at_call 97;refine HA.mono ?_;rintro e w6 ⟨rfl,rfl⟩)
    | (refine yO rfl 60 (.tmp 5) rfl W.heap.size rfl kG bI cK ?_))
   refine HI.mono ?_;rintro e w6 ⟨bM,v3,rfl,bW,h6,bZ,a8,Z⟩;have aR:=Z.blk R.b5 (R.tr.pP R.b5 JK);have aV:=Z.blk R.b6 (R.tr.pP R.b6 K7);have aX:=Z.blk R.b8 (R.tr.pP R.b8 K7);have X6:=R.nd.pS Z a8;have L6:=R.bx.pS R.tr Z;have N6:zz K W v v3:=R.nm.trans a8 R.gb.size;have G6:ze (qi K p v) W w6:=Z.fresh R.gb R.nm R.gb.size;obtain⟨C,aG⟩:=Z9 ((zl bM).toArray);have aF:C.size=4:=by rw[aG];rfl
   have aZ:∀u∈C.toList,u.oneCell'=true:=by rw[aG];exact zw rfl rfl rfl rfl
   rw[<-aG];obtain⟨W7,a5,bO,aK⟩:=Qp w6 94 (zl kP).toArray;have O:nH w6.heap.size w6 (W7.setRow w6.heap.size C):=zf bO (zG _) _;have cF:=aK.setRow C;generalize bU:W7.setRow w6.heap.size C=w8 at *;have h8:=h6.grow O;have aS:=aR.below O aR.lt;have aB:=aV.below O aV.lt;have aY:=aX.below O aX.lt;have X8:=X6.grow O;have L8:=L6.grow O;have I:ze (qi K p v) W w8:=G6.trans (ze.below O);have aN:vH K v v3 (1+(ZD done).length+(1+a.ps.length)):=R.km.trans bZ;have aI:=R.at_;have aO:=R.no;unfold zl kP at a5 aK;have bF:=nI a5.symm;have bG:=nI bU;have cB:=nI aG;have cN:W0.heap.size<=W.heap.size+1:=K5
   clear a5 bU aG R HI HA bI aR aV aX h6 bZ a8 Z G6 X6 L6 bO O d3;rcases hp:pick up P a.es with _|e1
   .have c3:w8.cell? ⟨W.heap.size,2,K3⟩=some (.func (.func s.fn) #[] #[]):=by rw[aS.cell];exact cJ
    have HN:=hs.n w8 j K5 (by have:=bA.out;omega);have R8:wX W0 K p t k v st last under mk ms L W W.heap.size (W.heap.size+1) f.heap.size S N x Ac cc Ak ck G ci up P ks (UK up j) rest (Gn up a done) v3 w8:=⟨aI.next,Lg aO hp,h8,aN.more K5,X8,L8,aS,aB,aY,N6,I⟩;have cQ:=aI.less;clear aI aO h8 X8 L8 aB aY I aN hp
    go_wp2_with (first
     | (rw[bF.out];refine vC ql aK aF aZ ?_;rw[bG.out]))
    refine HN.mono ?_;rintro e w9 ⟨rfl,rfl⟩
    go_wp2_with fail
    exact⟨⟨_,rest,_,v3,rfl,R8⟩,cQ⟩
   .have aJ:pick up P es=some e1:=by rw[a9.out];exact aI.some_ aO hp
    have hq:=h8.pQ (qm w8 (W.heap.size+1) C) aB K7 (λm e=>by cases e) cN K7;have aM:=aB.setRow C;have F:QF W0 K p t k v st last under mk ms W (1+ps.length) (pick up P es) (.returned (Q2 #[Q0 C,X3 true])) (w8.setRow (W.heap.size+1) C):=by rw[aJ];exact⟨bM,v3,by rw[cB.out];rfl,by rw[bW,hp],hq,aN.more K5,N6,⟨I.os,I.tape,I.output,by simp[gM];exact I.size,λa ha hm=>(ng _ _ a _ K5).trans (I.block a ha hm)⟩⟩
    unfold zl kP at aB;clear aI aO h8 X8 L8 aS aY I aN hp hq aJ bW
    go_wp2_with (first
     |(rw[bF.out];refine vC ql aK aF aZ ?_;rw[bG.out])
     |(refine yO rfl 94 (.tmp 13) rfl w6.heap.size rfl ql cF aF ?_)
     | (refine vC ql aB aF aZ ?_))
    exact nu (vJ rfl (yx (g:=W.heap.size+1) 6 rfl ql aM aF) (ve 7 rfl)) rfl F
theorem Mb (a:K.Ok)(hs:Xz L s up P cf kf)(hc:(c,54,#[Y9 t,X9 ky,X3 bb])∈L):∀(d:Nat) (v:yj) (W:World) (n:Int) (x:ym) (es:List qw) (ps:List Int),KO W0 K p t k v st last under mk ms used free D W d n x es ps->xW L W->nK Y3 60 #[Y9 c,Y1 Q4 n,Q0 s.val] W (QF W0 K p t k v st last under mk ms W (1+ps.length) (pick up P es))
 | 0,_,_,_,_,_,_,H,hL=>LM a hs hc H hL
 | d+1,_,_,_,_,_,_,H,hL=>Sd a hs hc H hL (Mb a hs hc d)
end
theorem RU (p f:Value)(w:World):CallsD Y3 58 #[p,f] .returning w λe g w'=>e=Y0 (Q2 #[])/\g=.returning/\w'=w:=by
 refine callsD_of_wpS func58 rfl λa cs hu => ?_
 apply wpS_seq;apply wpS_region;simp[wpOpsS,go_sem,recoverD,hu,ntmps58,Exit.thenS];apply wpS_seq;apply wpS_region;simp[wpOpsS,go_sem,Exit.thenS];refine wpS_cond (t:=false) (by simp[Act.eval,Array.replicate]) ?_;simp only[Bool.false_eq_true,if_false];refine wpS_of_wp (wp_skip ?_);cases a
 simp_all [bodyPostS,results,Tryz.results58]
section
variable {W0 W W':World}{K:xB}{p t c:Nat}{v v':yj}{st last:qj}{under:Bool}{mk:Value}{ms:List xo}{L:List Cq}{s:Ja}{up:Bool}{P:qw->Bool}{cf kf:ym->Int}{ky:ByteArray}{bb:Bool}{es:List qw}
def XU (t:Nat)(ky:ByteArray)(bb:Bool):Y7:=#[Y9 t,X9 ky,X3 bb]
structure jf (W0:World)(K:xB)(p t c:Nat)(v:yj)(st last:qj)(under:Bool)(mk:Value)(ms:List xo)(W:World)(r:Option qw)(w':World):Prop where
 tr:∃v',zy W0 K p t 0 v' st last under mk ms w'/\vH K v v' 200
 cu:za w' c 54 (XU t (keyOf r) r.isSome)
 kb:vA c W w'
theorem LL (h:zy W0 K p t 0 v st last under mk ms W)(M:K.Ok)(U:v.N<=700000)(g:xu K v.D st es)(Z:es.length<=61)(hs:Xz L s up P cf kf)(hc:(c,54,#[Y9 t,X9 ky,X3 bb])∈L)(O:xW L W){n:Int}(f:st.roots[0]?=some n)(hn:¬ n=0):nK Y3 60 #[Y9 c,Y1 Q4 n,Q0 s.val] W (QF W0 K p t 0 v st last under mk ms W 200 (pick up P es)):=by
 obtain⟨used,free,root,Q,h1,⟨rfl,_⟩|⟨d,x,ps,hu,I,hl,i⟩⟩:=g.has
 .rw[f] at h1;exact absurd (fo h1) hn
 .rw[f] at h1;obtain rfl:=fo h1;have hf:=i.ov;refine(Mb M hs hc d v W n x es ps ⟨h,rfl,Q,hu.mem_iff.2 K9,I,hl,i,λa ha=>hu.mem_iff.2 (by simp[ha]),g.so,by omega,by omega⟩ O).mono ?_;rintro e w' ⟨j,v',h2,A,C,E,G,H⟩;exact⟨j,v',h2,A,C,E.more K5,G,H⟩
theorem It (e:xu K v.D st es)(a:st.roots[0]?=some 0):es=[]:=by
 obtain⟨used,free,root,f,h1,⟨_,h2,_⟩|⟨d,x,ps,hu,g,hl,h⟩⟩:=e.has
 .exact h2
 .rw[a] at h1;obtain rfl:=fo h1;have:=f.pZ 0 (yH _ (hu.mem_iff.2 K9));omega
theorem xu.root (a:xu K v.D st es):∃n,st.roots[0]?=some n:=by
 obtain⟨_,_,root,_,h1,_⟩:=a.has;exact⟨root,h1⟩
theorem Vz (h:zy W0 K p t 0 v st last under mk ms W)(hK:K.Ok)(hN:v.N<=700000)(hT:xu K v.D st es)(cR:es.length<=61)(hs:Xz L s up P cf kf)(hc:(c,54,#[Y9 t,X9 ky,X3 bb])∈L)(hL:xW L W)(b2:W0.heap.size<=c):nK Y3 29 #[Y9 c,Q0 s.val] W λe w'=>e=Y0 (Q2 #[.bool (pick up P es).isSome,Y1 Q4 0])/\jf W0 K p t c v st last under mk ms W (pick up P es) w':=by
 have c5:=h.up;obtain⟨n,h0⟩:=hT.root;obtain⟨S,a8⟩:=Z9 s.val;have cP:S.size=3:=by rw[a8];rfl
 have cZ:c<W.heap.size:=hL.lt _ hc;obtain⟨W1,U⟩:=Z9 ((((W.alloc (Q9 S 60)).alloc (Q9 #[X3 false] 4)).alloc (Q9 #[Y1 Q4 0] 27)).alloc (Q9 #[X9 ⟨#[]⟩,X9 ⟨#[]⟩,Y1 Q4 0,Y1 Q4 0] 94));have bT:nH W.heap.size W W1:=by rw[U];exact(YK _ _ _ _).alloc (by simp[nG];omega) _
 have b3:za W1 W.heap.size 60 S:=by rw[U];exact(((za.new W _ _).alloc _).alloc _).alloc _
 have b4:za W1 (W.heap.size+1) 4 #[X3 false]:=by have:=((za.new (W.alloc (Q9 S 60)) 4 #[X3 false]).alloc (Q9 #[Y1 Q4 0] 27)).alloc (Q9 #[X9 ⟨#[]⟩,X9 ⟨#[]⟩,Y1 Q4 0,Y1 Q4 0] 94);rw[nG] at this;rw[U];exact this
 have b5:za W1 (W.heap.size+1+1) 27 #[Y1 Q4 0]:=by have:=(za.new ((W.alloc (Q9 S 60)).alloc (Q9 #[X3 false] 4)) 27 #[Y1 Q4 0]).alloc (Q9 #[X9 ⟨#[]⟩,X9 ⟨#[]⟩,Y1 Q4 0,Y1 Q4 0] 94);rw[nG,nG] at this;rw[U];exact this
 have b6:za W1 (W.heap.size+1+1+1) 94 #[X9 ⟨#[]⟩,X9 ⟨#[]⟩,Y1 Q4 0,Y1 Q4 0]:=by have:=za.new (((W.alloc (Q9 S 60)).alloc (Q9 #[X3 false] 4)).alloc (Q9 #[Y1 Q4 0] 27)) 94 #[X9 ⟨#[]⟩,X9 ⟨#[]⟩,Y1 Q4 0,Y1 Q4 0];rw[nG,nG,nG] at this;rw[U];exact this
 have c1:W1.heap.size=W.heap.size+1+1+1+1:=by rw[U,nG,nG,nG,nG]
 have e2:W1.setRow (W.heap.size+1+1+1) #[X9 ⟨#[]⟩,X9 ⟨#[]⟩,Y1 Q4 0,Y1 Q4 0]=W1:=setRow_self W1 _ _ _ _ b6;have k4:=b4.boxed;have f4:=b4.free 0;obtain⟨W2,aE⟩:=Z9 (W1.setCell (W.heap.size+1:Nat) (X3 false));have aX:nH W.heap.size W W2:=by rw[aE];exact bT.setCell (p:=⟨W.heap.size+1,0,K3⟩) K9 _
 have g2:ze (λj=>j=W.heap.size+1) W1 W2:=by rw[aE];exact ze.setCell _ _ _ rfl
 have a4:za W2 (W.heap.size+1) 4 #[X3 false]:=by rw[aE];exact b4.set 0 _
 have a2:=g2.blk b3 K5;have a5:=g2.blk b5 K5;have a6:=g2.blk b6 K5;have h2:=h.grow aX;have aZ:=hL.grow aX;have c0:W2.cell? c=K4 (Y9 t):=by rw[(aZ _ hc).1.cell];rfl
 have HR:=Ya h2 (i:=0) rfl h0;have HD:∀w,nH W2.heap.size W2 w->¬ n=0->_:=λw hB hn=>LL (h2.grow hB) hK hN hT cR hs hc (aZ.grow hB) h0 hn
 rw[<-a8] at HD ⊢;have b0:=λ(e:n=0)=>It hT (e▸h0)
 rw[aE] at c0;obtain⟨r,G⟩:=Z9 ((pick up P es).isSome);obtain⟨g,aA⟩:=Z9 (keyOf (pick up P es));rw[<-G];have bB:=nI G;have bA:=nI aA;have cE:=nI U.symm;have cF:=nI aE.symm;have E2:=nI e2;have a1:=nI b0;have c2:=g2.size;clear U aE e2 a8 h hL hT b0 G aA
 go_enter_defers func29,ntmps29
 go_wp2_with (first
  | (rw[cE.out];refine zt rfl 94 (.tmp 6) (.tmp 9) rfl (W.heap.size+1+1+1) rfl rfl ql b6 rfl rfl (zw rfl rfl rfl rfl) ?_;rw[E2.out]))
 rw[cF.out];refine HR.mono ?_;rintro e w3 ⟨rfl,A⟩;have cU:=A.size;have aY:nH W.heap.size W w3:=aX.trans (A.mono K5);have O:=h2.grow A;have aF:=a4.below A a4.lt;have a3:=a2.below A a2.lt;have aH:=a5.below A a5.lt;have aJ:=a6.below A a6.lt;have aK:=(aZ.grow A _ hc).1;have cQ:c≠W.heap.size+1/\c≠W.heap.size+1+1/\c≠W.heap.size+1+1+1:=⟨by omega,by omega,by omega⟩;have b1:W0.heap.size<=W.heap.size+1:=K5
 clear HR h2 aZ a4 a2 a5 a6 bT aX g2 k4 f4 b3 b4 b5 b6 c0;have G:=bB.out;have aA:=bA.out;rcases Decidable.em (n=0) with hn|hn
 case' inl =>
  obtain⟨v6,w6,C,e6,h6,b7,aQ,aS,aU,a7,aW,a9,b8⟩:∃(v6:yj) (w6:World) (C:Y7),w6=w3/\zy W0 K p t 0 v6 st last under mk ms w6/\vH K v v6 200/\za w6 (W.heap.size+1) 4 #[X3 r]/\za w6 (W.heap.size+1+1) 27 #[Y1 Q4 0]/\za w6 (W.heap.size+1+1+1) 94 C/\C[0]?=some (X9 g)/\za w6 c 54 #[Y9 t,X9 ky,X3 bb]/\yo W w6/\W2.heap.size<=w6.heap.size:=by
   have cT:pick up P es=none:=by rw[a1.out hn];exact Th
   rw[cT] at G aA;refine⟨v,w3,_,rfl,O,(vH.refl K v).more K5,by rw[G];exact aF,aH,aJ,by rw[aA];rfl,aK,yo.grow aY,cU⟩
  subst e6;clear HD O aF a3 aH aJ aK a1 G aA A aY
  go_wp2_with fail
 case' inr =>
  have aP:=HD w3 A hn;unfold QF at aP;rw[<-G,<-aA] at aP;clear HD a1 aA G;have bC:=a3
  go_wp2_with (first
   | (refine yO rfl 60 (.tmp 3) rfl W.heap.size rfl kG bC cP ?_))
  refine aP.mono ?_;rintro e w4 ⟨cK,v6,rfl,bZ,h4,b7,cS,aC⟩;have bD:=aC.blk aF (O.pP aF K7);have bG:=aC.blk aH (O.pP aH K7);have aT:=aC.blk aJ (O.pP aJ K7);have bN:=aC.blk aK (O.pP aK jC);have c3:=aC.size;have cA:yo W w4:=(yo.grow aY).trans (yo.pS O aC);obtain⟨C,aN⟩:=Z9 ((zl cK).toArray);have cO:C.size=4:=by rw[aN];rfl
  have cN:∀u∈C.toList,u.oneCell'=true:=by rw[aN];exact zw rfl rfl rfl rfl
  have a7:C[0]?=some (X9 g):=by rw[aN,<-bZ];rfl
  rw[<-aN];have h5:=h4.pQ (qm w4 (W.heap.size+1+1+1) C) aT K7 (λm e=>by cases e) K5 K7;have aG:=bD.pN (by omega:W.heap.size+1≠W.heap.size+1+1+1) C;have bH:=bG.pN (by omega:W.heap.size+1+1≠W.heap.size+1+1+1) C;have bL:=aT.setRow C;have bO:=bN.pN cQ.2.2 C;have c4:(w4.setRow (W.heap.size+1+1+1) C).heap.size=w4.heap.size:=by simp[gM]
  have cB:yo W (w4.setRow (W.heap.size+1+1+1) C):=cA.new (qm w4 (W.heap.size+1+1+1) C) K5;generalize b9:w4.setRow (W.heap.size+1+1+1) C=w5 at *;have cV:=aG.boxed;have cL:=aG.free 0;obtain⟨w6,a0⟩:=Z9 (w5.setCell (W.heap.size+1:Nat) (X3 r));have g6:ze (λj=>j=W.heap.size+1) w5 w6:=by rw[a0];exact ze.setCell _ _ _ rfl
  have h6:=h5.pQ g6 aG K9 (λm e=>by cases e) b1 K7;have aQ:za w6 (W.heap.size+1) 4 #[X3 r]:=by rw[a0];exact aG.set 0 _
  have aS:=g6.blk bH K5;have aU:=g6.blk bL K5;have aW:=g6.blk bO K5;have b8:W2.heap.size<=w6.heap.size:=by have:=g6.size;omega
  have a9:yo W w6:=cB.new g6 K5;have cG:=nI b9;have cH:=nI a0.symm;clear b9 a0 aN O h4 h5 aF a3 aH aJ aK bD bG bN aG bH bL bO aC cS cA cB g6 A aY aP bC bZ
  go_wp2_with (first
   | (refine vC ql aT cO cN ?_;rw[cG.out]))
  rw[cH.out];clear aT cV cL
 all_goals
  have aB:nH w6.heap.size w6 w6.drew:=(nF _ _).drew;have bS:=h6.grow aB;have aR:=aQ.below aB aQ.lt;have bK:=aS.below aB aS.lt;have aV:=aU.below aB aU.lt;have aM:=aW.below aB aW.lt;have k6:w6.drew.cell? (W.heap.size+1+1+1:Nat)=some (X9 g):=by rw[aV.cell];exact a7
  have k4:=aR.boxed;have E:w6.drew.cell? (W.heap.size+1+1+1:Nat)=some (X9 g)/\w6.drew.cell? (W.heap.size+1:Nat)=some (X3 r):=⟨k6,k4⟩;have cD:yo W w6.drew:=a9.trans (yo.grow aB);clear h6 aQ aS aU aW a7 a9 k6 k4 aB b8;refine Code.wp_mono (Q:=Tx _) (λe a w h=>Hj h) ?_;refine zb.st (λW':World=>W'.cell? (W.heap.size+1+1+1:Nat)=some (X9 g)/\W'.cell? (W.heap.size+1:Nat)=some (X3 r)) 99 ?_;generalize w6.drew=wd at *;refine zb.q0 0 (Y9 c) E ?_;refine zb.q0 1 (Y9 c) E ?_;refine zb.q0 2 (Y9 (W.heap.size+1+1+1:Nat)) E ?_;refine zb.q0 3 (X9 g) E ?_;refine zb.q0 4 (X3 r) E ?_;refine zb.q0 5 (Y9 c) E ?_;refine zb.q0 6 (Y9 (K4 ⟨c,1,K3⟩)) E ?_;simp only[Z8];have q1:wd.cell? ⟨c,1,K3⟩=some (X9 ky):=by rw[aM.cell];rfl
  have p1:=aM.free 1;obtain⟨X,hX⟩:=Z9 (wd.setCell ⟨c,1,K3⟩ (X9 g));have M:ze (λj=>j=c) wd X:=by rw[hX];exact ze.setCell _ _ _ rfl
  have aL:za X c 54 #[Y9 t,X9 g,X3 bb]:=by rw[hX];exact aM.set 1 _
  have aO:X.cell? (W.heap.size+1+1+1:Nat)=some (X9 g)/\X.cell? (W.heap.size+1:Nat)=some (X3 r):=⟨(nW (w:=wd) (M.block _ aV.lt (by show W.heap.size+1+1+1≠c;omega))).trans E.1,(nW (w:=wd) (M.block _ aR.lt (by show W.heap.size+1≠c;omega))).trans E.2⟩;refine zb.n 7 (zb.opS (w':=wd.setCell ⟨c,1,K3⟩ (X9 g)) rfl rfl K8 ⟨λ_=>by rw[<-hX];exact aO,?_⟩);simp only[zD,zC,zB,nJ];rw[<-hX];clear hX;refine zb.q0 8 (Y9 c) aO ?_;refine zb.q0 9 (Y9 (K4 ⟨c,2,K3⟩)) aO ?_;simp only[Z8];have q2:X.cell? ⟨c,2,K3⟩=some (X3 bb):=by rw[aL.cell];rfl
  have p2:=aL.free 2;obtain⟨Y,hY⟩:=Z9 (X.setCell ⟨c,2,K3⟩ (X3 r));have gY:ze (λj=>j=c) X Y:=by rw[hY];exact ze.setCell _ _ _ rfl
  have bQ:za Y c 54 (XU t g r):=by rw[hY];exact aL.set 2 _
  have bE:=M.blk aR K5;have bI:=M.blk bK K5;have bM:=M.blk aV K5;have aD:=gY.blk bE K5;have bJ:=gY.blk bI K5;have bU:Y.cell? (W.heap.size+1+1+1:Nat)=some (X9 g)/\Y.cell? (W.heap.size+1:Nat)=some (X3 r):=⟨(nW (w:=X) (gY.block _ bM.lt (by show W.heap.size+1+1+1≠c;omega))).trans aO.1,aD.boxed⟩;refine zb.n 10 (zb.opS (w':=X.setCell ⟨c,2,K3⟩ (X3 r)) rfl rfl K8 ⟨λ_=>by rw[<-hY];exact bU,zb.dn ?_⟩);simp only[zD,zC,zB,nJ];rw[<-hY];refine Hk ?_;have bW:=bS.pQ M aM K9 (λm e=>by cases e) b2 jC;have bX:=bW.pQ gY aL K9 (λm e=>by cases e) b2 jC;have cC:vA c W Y:=((vA.of cD).pS M).pS gY;have c6:=aD.boxed;have cX:=aD.free 0;obtain⟨Z,hZ⟩:=Z9 (Y.setCell (W.heap.size+1:Nat) (X3 r));have gZ:ze (λj=>j=W.heap.size+1) Y Z:=by rw[hZ];exact ze.setCell _ _ _ rfl
  have bF:za Z (W.heap.size+1) 4 #[X3 r]:=by rw[hZ];exact aD.set 0 _
  have aI:=gZ.blk bJ K5;have bR:=gZ.blk bQ K5;have cW:=aI.boxed;have cM:=aI.free 0;have bY:=bX.pQ gZ aD K9 (λm e=>by cases e) b1 K7;obtain⟨V,hV⟩:=Z9 (Z.setCell (W.heap.size+1+1:Nat) (Y1 Q4 0));have gV:ze (λj=>j=W.heap.size+1+1) Z V:=by rw[hV];exact ze.setCell _ _ _ rfl
  have cJ:za V (W.heap.size+1+1) 27 #[Y1 Q4 0]:=by rw[hV];exact aI.set 0 _
  have cI:=gV.blk bF K5;have bP:=gV.blk bR K5;have bV:=bY.pQ gV aI K7 (λm e=>by cases e) K5 K7;have cY:=gV.size;have F:jf W0 K p t c v st last under mk ms W (pick up P es) V:=by refine⟨⟨v6,bV,b7⟩,by rw[<-bB.out,<-bA.out];exact bP,(cC.new gZ K5).new gV K5⟩
  rw[hZ] at cW cM hV;have HV:=nI hV.symm;clear E aO bU hY hZ hV M gY gZ gV aM aL bQ bR bP aR bK aV bE bI bM aD bJ bF aI bS bW bX bY bV cD cC q1 p1 q2 p2;go_wp2;rw[HV.out];refine leaves_cons (f:=58) (args:=#[Y9 (W.heap.size+1+1:Nat),.func (.func 59) #[] #[Y9 (W.heap.size+1:Nat)]]) K9 (by simp[go_sem]) ?_;refine(RU _ _ _).mono ?_;rintro e u' wz ⟨rfl,rfl,rfl⟩;exact⟨_,vJ rfl (kZ (p:=⟨W.heap.size+1,0,K3⟩) 4 rfl (by simp[go_sem]) cI.boxed) (kZ (p:=⟨W.heap.size+1+1,0,K3⟩) 5 rfl (by simp[go_sem]) cJ.boxed),rfl,F⟩
end
section
variable {W0 W W':World}{K:xB}{p t c:Nat}{k:Int}{v v':yj}{st last:qj}{under:Bool}{mk:Value}{ms:List xo}{L:List Cq}{s:Ja}{up:Bool}{P:qw->Bool}{cf kf:ym->Int}{ky key:ByteArray}{bb:Bool}{es:List qw}
theorem Ge (h:zy W0 K p t k v st last under mk ms W):nK Y3 6 #[Y9 t] W λe w'=>e=Y0 (Q2 #[Y9 W.heap.size,Y1 Q4 0])/\za w' W.heap.size 54 (XU t ⟨#[]⟩ false)/\nH W.heap.size W w':=by
 have f:=Rg h;have a:=za.new W 54 (XU t ⟨#[]⟩ false);have hB:nH W.heap.size W (W.alloc (Q9 (XU t ⟨#[]⟩ false) 54)):=vo _ _;clear h;unfold XU at a hB ⊢
 go_enter func6,ntmps6
 go_wp2_with (go_at_call 20;refine f.mono ?_;rintro e g ⟨rfl,rfl⟩)
 exact nT (nj rfl _ _ _) rfl ⟨rfl,a,hB⟩
theorem YZ (hc:za W c 54 (XU t ky bb)):nK Y3 22 #[Y9 c] W λe w'=>e=Y0 (X3 false)/\W=w':=by
 have c0:W.cell? c=K4 (Y9 t):=by rw[hc.cell];rfl
 go_enter func22,ntmps22
 go_wp2;go_ret;exact⟨rfl,rfl⟩
theorem LO (hc:za W c 54 (XU t ky bb)):nK Y3 9 #[Y9 c] W λe w'=>e=Y0 (Q2 #[X9 ky,X3 bb])/\nH W.heap.size W w':=by
 have j:=YZ hc;have h:nH W.heap.size W W.drew:=(nF _ W).drew;have hd:=hc.below h hc.lt;have a:W.drew.cell? ⟨c,1,K3⟩=some (X9 ky)/\W.drew.cell? ⟨c,2,K3⟩=some (X3 bb):=⟨by rw[hd.cell];rfl,by rw[hd.cell];rfl⟩;clear hc hd
 go_enter func9,ntmps9
 go_wp2_with (go_at_call 22;refine j.mono ?_;rintro e A ⟨rfl,rfl⟩)
 refine zb.st (λW':World=>W'.cell? ⟨c,1,K3⟩=some (X9 ky)/\W'.cell? ⟨c,2,K3⟩=some (X3 bb)) 99 ?_;generalize W.drew=i at *;refine zb.q0 0 (Y9 c) a ?_;refine zb.q0 1 (Y9 c) a ?_;refine zb.q0 2 (Y9 (K4 ⟨c,1,K3⟩)) a ?_;refine zb.q0 3 (X9 ky) a ?_;refine zb.q0 4 (Y9 c) a ?_;refine zb.q0 5 (Y9 c) a ?_;refine zb.q0 6 (Y9 (K4 ⟨c,2,K3⟩)) a ?_;refine zb.q0 7 (X3 bb) a ?_;simp only[Z8];refine zb.n 8 (zb.opV (w':=i) (X9 ky) rfl rfl K8 ⟨λ_=>a,?_⟩);simp only[Z8];refine zb.n 9 (zb.opV (w':=i) (X3 bb) rfl rfl K8 ⟨λ_=>a,zb.dn ?_⟩);simp only[Z8];go_wp2;exact nT (nj rfl _ _ _) rfl ⟨rfl,h⟩
theorem UB (hc:za W c 54 (XU t ky bb)):nK Y3 28 #[Y9 c,X1 none 0 0] W λe w'=>e=Y0 (Y1 Q4 0)/\W=w':=by
 have a:=YZ hc;clear hc
 go_enter func28,ntmps28
 go_wp2_with (go_at_call 22;refine a.mono ?_;rintro e f ⟨rfl,rfl⟩)
 go_loopw [11] (λi wr=>i=Y1 Q4 0/\wr=W) (λ_ _=>0)
 case atStart=>exact⟨rfl,rfl⟩
 case round =>
  obtain⟨rfl,rfl⟩:=hrel;go_wp2;go_ret;exact⟨rfl,rfl⟩
theorem LN (hc:za W c 54 (XU t ky bb))(g:Nat)(f:W.cell? g=some (X9 key))(h:key.size<=81):nK Y3 28 #[Y9 c,X1 g 1 1] W λe w'=>e=Y0 (Y1 Q4 0)/\W=w':=by
 have a:=YZ hc;clear hc
 go_enter func28,ntmps28
 go_wp2_with (go_at_call 22;refine a.mono ?_;rintro e j ⟨rfl,rfl⟩)
 go_loopw [11] (λi wr=>(i=Y1 Q4 0\/i=Y1 Q4 1)/\wr=W) (λi _=>match i with | .int _ m=>(1-m).toNat|_=>0)
 case atStart=>exact⟨.inl rfl,rfl⟩
 case round =>
  obtain⟨rfl|rfl,rfl⟩:=hrel
  .go_wp2;refine⟨⟨?_,?_⟩,?_⟩<;>first|trivial|exact .inr rfl|rfl|decide
  .go_wp2;go_ret;exact⟨rfl,rfl⟩
theorem Xf (W:World)(key:ByteArray):nK Y3 27 #[X9 key] W λe w'=>e=Y0 (Q0 #[.func (.func 55) #[] #[Y9 W.heap.size],.func (.func 55) #[] #[Y9 W.heap.size],.func (.func 57) #[] #[]])/\za w' W.heap.size 9 #[X9 key]/\nH W.heap.size W w':=by
 obtain⟨H,h,C,b1,b2⟩:=Bz W 9 #[X9 key] 60 #[.nilFunc,.nilFunc,.nilFunc];obtain⟨S,a⟩:∃S:Y7,S=#[.func (.func 55) #[] #[Y9 W.heap.size],.func (.func 55) #[] #[Y9 W.heap.size],.func (.func 57) #[] #[]]:=⟨_,rfl⟩;have b3:=b2.setRow S;have A:=b1.pN (by omega:W.heap.size≠W.heap.size+1) S;have E:=zf C (Nat.le_succ W.heap.size) S;have f:S.size=3:=by rw[a];rfl
 have G:∀u∈S.toList,u.oneCell'=true:=by rw[a];intro u hu;simp at hu;rcases hu with rfl|rfl<;>rfl
 rw[<-a];have j:=nI h.symm;have i:=nI a;clear h a
 go_enter func27,ntmps27
 go_wp2_with (rw[j.out];refine zt rfl 60 (.tmp 2) (.tmp 7) rfl (W.heap.size+1) rfl (by rw[i.out];rfl) kG b2 rfl f G ?_)
 exact nu (yg rfl (yx (g:=W.heap.size+1) 2 rfl kG b3 f)) rfl ⟨rfl,A,E⟩
end
section
variable {W0 W W':World}{K:xB}{p t c:Nat}{v v':yj}{st last:qj}{under:Bool}{mk:Value}{ms:List xo}{L:List Cq}{s:Ja}{up:Bool}{P:qw->Bool}{cf kf:ym->Int}{ky key:ByteArray}{bb:Bool}{es:List qw}{r:Option qw}
theorem jf.py (hB:nH W.heap.size W W'){w:World}(h:jf W0 K p t c v st last under mk ms W' r w):jf W0 K p t c v st last under mk ms W r w :=
 ⟨h.tr,h.cu,zT hB.size h.kb.1,λb o hc a e=>h.kb.2 b o hc ((hB.block b (jI a)).trans a) e⟩
theorem Sc (W:World)(key:ByteArray):nK Y3 25 #[X9 key] W λe w'=>∃q1 q2,e=Y0 (Q0 #[.func (.func 54) #[] #[Y9 (K4 ⟨q2,0,K3⟩)],.func (.func 55) #[] #[Y9 (K4 ⟨q1,0,K3⟩)],.func (.func 32) #[] #[]])/\za w' q1 9 #[X9 key]/\za w' q2 60 #[.func (.func 55) #[] #[Y9 (K4 ⟨q1,0,K3⟩)],.func (.func 55) #[] #[Y9 (K4 ⟨q1,0,K3⟩)],.func (.func 57) #[] #[]]/\nH W.heap.size W w':=by
 obtain⟨f,aE,G,b2⟩:=Qp W 60 #[.nilFunc,.nilFunc,.nilFunc];have H:=Xf f key;have M:=nI aE.symm;clear aE
 go_enter func25,ntmps25
 go_wp2_with fail
 rw[M.out];refine H.mono ?_;rintro e a ⟨rfl,q2,j⟩;obtain⟨A,h⟩:∃A:Y7,A=#[.func (.func 55) #[] #[Y9 f.heap.size],.func (.func 55) #[] #[Y9 f.heap.size],.func (.func 57) #[] #[]]:=⟨_,rfl⟩;have aM:A.size=3:=by rw[h];rfl
 have aL:∀u∈A.toList,u.oneCell'=true:=by rw[h];intro u hu;simp at hu;rcases hu with rfl|rfl<;>rfl
 have aN:A[1]?=some (.func (.func 55) #[] #[Y9 f.heap.size]):=by rw[h];rfl
 rw[<-h];have i:=b2.below j b2.lt;have aQ:=G.size;have aS:=j.size;obtain⟨O,aF,aC,Z⟩:=Qp a 60 #[.nilFunc,.nilFunc,.nilFunc];have C:nH a.heap.size a (O.setRow a.heap.size A):=zf aC (zG _) A;have aA:=Z.setRow A;generalize aG:O.setRow a.heap.size A=Q at *;have U:=i.below C i.lt;have aH:=q2.below C q2.lt;have aT:Q.cell? ⟨a.heap.size,1,K3⟩=some (.func (.func 55) #[] #[Y9 f.heap.size]):=by rw[aA.cell];exact aN
 obtain⟨S,E⟩:∃S:Y7,S=#[.func (.func 54) #[] #[Y9 a.heap.size],.func (.func 55) #[] #[Y9 f.heap.size],.func (.func 32) #[] #[]]:=⟨_,rfl⟩;have aD:S.size=3:=by rw[E];rfl
 have aP:∀u∈S.toList,u.oneCell'=true:=by rw[E];intro u hu;simp at hu;rcases hu with rfl|rfl|rfl<;>rfl
 have aK:=U.setRow S;have aB:=aA.pN (by have:=i.lt;omega:a.heap.size≠W.heap.size) S;have aR:=aH.pN (by have:=b2.lt;omega:f.heap.size≠W.heap.size) S;have aO:nH W.heap.size W (Q.setRow W.heap.size S):=zf ((G.trans (j.mono aQ)).trans (C.mono K5)) (zG _) S;have aI:=nI aF.symm;have aJ:=nI aG;have I:=nI E;have HA:=nI h;clear aF aG E h H b2 i G j aC C q2 aH M
 go_wp2_with (first
  |(rw[aI.out];refine vC kG Z aM aL ?_;rw[aJ.out])
  | (refine zt rfl 60 (.tmp 2) (.tmp 9) rfl W.heap.size rfl (by rw[I.out];rfl) kG U rfl aD aP ?_))
 rw[HA.out] at aB;exact nu (yg rfl (yx (g:=W.heap.size) 2 rfl kG aK aD)) rfl ⟨_,_,by rw[I.out],aR,aB,aO⟩
def QA (W:World)(c t:Nat)(ky:ByteArray)(bb:Bool)(up:Bool)(P:qw->Bool)(e:Ending)(w':World):Prop :=
 ∃s L cf kf,e=Y0 (Q0 (Ja.val s))/\nH W.heap.size W w'/\Xz L s up P cf kf/\(c,54,XU t ky bb)∈L/\xW L w'
theorem XA {q:Nat}(hB:nH W.heap.size W W')(hc:za W' c 54 (XU t ky bb))(hq:za W' q 9 #[X9 key]):QA W c t ky bb true (λe => !ye e.1 key) (.returned (Q0 #[.func (.func 55) #[] #[Y9 q],.func (.func 55) #[] #[Y9 q],.func (.func 57) #[] #[]])) W' :=
 ⟨⟨55,#[Y9 q],55,#[Y9 q],57⟩,[(c,54,XU t ky bb),(q,9,#[X9 key])],_,_,rfl,hB,Lm (q:=q) K9,by simp,λx a=>by
  simp only[qN,gu,or_false] at a;rcases a with rfl|rfl
  .exact⟨hc,jC⟩
  .exact⟨hq,Uk⟩⟩
theorem DC {q1 q2:Nat}{c2 c3:Value}(hB:nH W.heap.size W W')(hc:za W' c 54 (XU t ky bb))(hq:za W' q1 9 #[X9 key])(f:za W' q2 60 #[.func (.func 55) #[] #[Y9 (K4 ⟨q1,0,K3⟩)],c2,c3]):QA W c t ky bb false (λe=>ye e.1 key) (.returned (Q0 #[.func (.func 54) #[] #[Y9 q2],.func (.func 55) #[] #[Y9 (K4 ⟨q1,0,K3⟩)],.func (.func 32) #[] #[]])) W' :=
 ⟨⟨54,#[Y9 q2],55,#[Y9 (K4 ⟨q1,0,K3⟩)],32⟩,[(c,54,XU t ky bb),(q1,9,#[X9 key]),(q2,60,#[.func (.func 55) #[] #[Y9 (K4 ⟨q1,0,K3⟩)],c2,c3])],_,_,rfl,hB,Sz (q1:=q1) (q2:=q2) (c2:=c2) (c3:=c3) K9 K9,by simp,λx a=>by
  simp only[qN,gu,or_false] at a;rcases a with rfl|rfl|rfl
  .exact⟨hc,jC⟩
  .exact⟨hq,Uk⟩
  .exact⟨f,JK⟩⟩
structure QZ (W0:World)(K:xB)(p t c:Nat)(v:yj)(st last:qj)(under:Bool)(mk:Value)(ms:List xo)(es:List qw)(ky:ByteArray)(bb:Bool)(W:World):Prop where
 tr:zy W0 K p t 0 v st last under mk ms W
 is:xu K v.D st es
 cu:za W c 54 (XU t ky bb)
 ge:W0.heap.size<=c
 le:es.length<=61
theorem QZ.grow (h:QZ W0 K p t c v st last under mk ms es ky bb W)(hB:nH W.heap.size W W'):QZ W0 K p t c v st last under mk ms es ky bb W':=⟨h.tr.grow hB,h.is,h.cu.below hB h.cu.lt,h.ge,h.le⟩
theorem Jh (h:QZ W0 K p t c v st last under mk ms es ky bb W)(a:K.Ok)(i:v.N<=700000){e:Ending}(j:QA W c t ky bb up P e W'):∃A,e=Y0 (Q0 A)/\nK Y3 29 #[Y9 c,Q0 A] W' λe w'=>e=Y0 (Q2 #[.bool (pick up P es).isSome,Y1 Q4 0])/\jf W0 K p t c v st last under mk ms W (pick up P es) w':=by
 obtain⟨s,L,cf,kf,rfl,hB,E,hc,f⟩:=j;refine⟨s.val,rfl,(Vz (h.tr.grow hB) a i h.is h.le E hc f h.ge).mono ?_⟩;rintro e w' ⟨C,g⟩;exact⟨C,g.py hB⟩
theorem Se (h:QZ W0 K p t c v st last under mk ms es ky bb W)(Q:K.Ok)(U:v.N<=700000)(Z:key.size<=81):nK Y3 21 #[Y9 c,X9 key] W λe w'=>e=Y0 (Q2 #[.bool (pick true (λe => !ye e.1 key) es).isSome,Y1 Q4 0])/\jf W0 K p t c v st last under mk ms W (pick true (λe => !ye e.1 key) es) w':=by
 obtain⟨O,H,C,b1⟩:=Qp W 9 #[X9 key];have h1:=h.grow C;have i:=LN h1.cu W.heap.size b1.boxed Z;have j:=Xf O key;obtain⟨r,g⟩:=Z9 (pick true (λe => !ye e.1 key) es);rw[<-g];have I:=nI g;have M:=nI H.symm;clear H g
 go_enter func21,ntmps21
 go_wp2_with (first
  | (go_at_call 28;rw[M.out];refine i.mono ?_;rintro e w2 ⟨rfl,rfl⟩))
 refine j.mono ?_;rintro e w2 ⟨rfl,q2,E⟩;obtain⟨A,a,f⟩:=Jh h1 Q U (XA E (h1.cu.below E h1.cu.lt) q2);rw[<-I.out] at f;injection a with a
 injection a with a
 rw[a];clear a j i h h1
 go_wp2_with fail
 refine f.mono ?_;rintro e w3 ⟨rfl,G⟩;have F:=G.py C;clear f G;go_wp2;exact nT (nj rfl _ _ _) rfl ⟨rfl,F⟩
theorem Sg (h:QZ W0 K p t c v st last under mk ms es ky bb W)(j:K.Ok)(C:v.N<=700000):nK Y3 12 #[Y9 c] W λe w'=>e=Y0 (Q2 #[.bool (pick false (λ_=>true) es).isSome,Y1 Q4 0])/\jf W0 K p t c v st last under mk ms W (pick false (λ_=>true) es) w':=by
 have f:=UB h.cu;have g:xW [(c,54,XU t ky bb)] W:=λx E=>by obtain rfl:=qL.1 E;exact⟨h.cu,jC⟩
 have a:=Vz h.tr j C h.is h.le (TA [(c,54,XU t ky bb)]) (qL.2 rfl) g h.ge;unfold Ja.val at a;obtain⟨r,i⟩:=Z9 (pick false (λ_=>true) es);rw[<-i] at a ⊢;clear h i g
 go_enter func12,ntmps12
 go_wp2_with (first
  | (go_at_call 28;refine f.mono ?_;rintro e G ⟨rfl,rfl⟩))
 refine a.mono ?_;rintro e H ⟨rfl,A⟩;clear a f;go_wp2;exact nT (nj rfl _ _ _) rfl ⟨rfl,A⟩
end
section
variable {W0 W W':World}{K:xB}{p t c:Nat}{v v':yj}{st last:qj}{under:Bool}{mk:Value}{ms:List xo}{es:List qw}
theorem RV {e:qw}(h:QZ W0 K p t c v st last under mk ms es e.1 true W)(g:K.Ok)(i:v.N<=700000)(j:e∈es)(A:e.1.size<=81):nK Y3 34 #[Y9 c] W λx w'=>x=.returned (Q2 #[X9 e.2,Y1 Q4 0])/\∃v',zy W0 K p t 0 v' st last under mk ms w'/\vH K v v' 63/\yo W w':=by
 have f:=YZ h.cu;have a:=BL h.tr g i h.is h.le e j A;have c0:W.cell? c=K4 (Y9 t):=by rw[h.cu.cell];rfl
 have c1:W.cell? ⟨c,1,K3⟩=some (X9 e.1):=by rw[h.cu.cell];rfl
 have c2:W.cell? ⟨c,2,K3⟩=some (X3 true):=by rw[h.cu.cell];rfl
 clear h
 go_enter func34,ntmps34
 go_wp2_with (first
  | (go_at_call 22;refine f.mono ?_;rintro G C ⟨rfl,rfl⟩))
 refine a.mono ?_;rintro H E ⟨rfl,F⟩;clear a f;go_wp2;exact nT (nj rfl _ _ _) rfl ⟨rfl,F⟩
end
section
variable {W0 W W':World}{K:xB}{p t c:Nat}{v v':yj}{st last:qj}{under:Bool}{mk:Value}{ms:List xo}{up:Bool}{P:qw->Bool}{ky key:ByteArray}{bb:Bool}{es:List qw}{r:Option qw}
theorem UA (h:QZ W0 K p t c v st last under mk ms es ky true W)(G:K.Ok)(I:v.N<=700000)(F:Nat)(q:Value)(M:∀args w,(gm F args).run Y3 w=.ok (.enter F args) w)(i:nK Y3 F #[q] W (QA W c t ky true up P)):nK Y3 23 #[Y9 (K4 ⟨c,0,K3⟩),.func (.func F) #[] #[q]] W λe w'=>e=Y0 (Q2 #[.bool (pick up P es).isSome,Y1 Q4 0])/\jf W0 K p t c v st last under mk ms W (pick up P es) w':=by
 have f:=UB h.cu;have k2:W.cell? ⟨c,2,K3⟩=some (X3 true):=by rw[h.cu.cell];rfl
 have a:=λ(e:Ending) (w:World) (hs:QA W c t ky true up P e w)=>Jh h G I hs
 obtain⟨r,C⟩:=Z9 (pick up P es);rw[<-C] at a ⊢;clear h C
 go_enter func23,ntmps23
 go_wp2_with (first
  | (go_at_call 28;refine f.mono ?_;rintro e E ⟨rfl,rfl⟩))
 refine i.mono ?_;intro e E j;obtain⟨A,rfl,g⟩:=a e E j;clear a i f j k2
 go_wp2_with fail
 refine g.mono ?_;rintro e O ⟨rfl,H⟩;clear g;go_wp2;exact nT (nj rfl _ _ _) rfl ⟨rfl,H⟩
theorem RQ {b:Nat}(C:za W b 26 #[Y9 c])(hc:za W c 54 (XU t ky bb))(hk:ky.size<=100000):nK Y3 26 #[Y9 b] W (QA W c t ky bb true (λe => !ye e.1 (kT ky))):=by
 obtain⟨h,j,f,b2⟩:=Qp W 60 #[.nilFunc,.nilFunc,.nilFunc];have c1:=hc.below f hc.lt;have k0:=(C.below f C.lt).boxed;have k1:h.cell? ⟨c,1,K3⟩=some (X9 ky):=by rw[c1.cell];rfl
 have E:=Xf h (kT ky);have aA:ky++⟨#[0]⟩=kT ky:=rfl;have aB:¬ gP<ky.size+(⟨#[0]⟩:ByteArray).size:=by have:(⟨#[0]⟩:ByteArray).size=1:=rfl;unfold gP;omega
 rw[j] at k0 k1;have M:=nI j.symm;clear j
 go_enter func26,ntmps26
 go_wp2_with fail
 rw[M.out];refine E.mono ?_;rintro e w2 ⟨rfl,q2,i⟩;have H:=b2.below i b2.lt;obtain⟨A,a⟩:∃A:Y7,A=#[.func (.func 55) #[] #[Y9 h.heap.size],.func (.func 55) #[] #[Y9 h.heap.size],.func (.func 57) #[] #[]]:=⟨_,rfl⟩;have I:A.size=3:=by rw[a];rfl
 have Q:∀u∈A.toList,u.oneCell'=true:=by rw[a];intro u hu;simp at hu;rcases hu with rfl|rfl<;>rfl
 rw[<-a];have O:=H.setRow A;have Z:=f.size;have U:nH W.heap.size W (w2.setRow W.heap.size A):=zf (f.trans (i.mono Z)) (zG _) A;have G:=XA (W:=W) U ((c1.below i c1.lt).pN (by have:=hc.lt;omega) A) (q2.pN (by have:=b2.lt;omega) A);rw[<-a] at G;clear a E q2 b2 k0 k1 f i hc C
 go_wp2_with (first
  | (refine vC kG H I Q ?_))
 exact nu (yg rfl (yx (g:=W.heap.size) 1 rfl kG O I)) rfl G
theorem RO {b:Nat}(C:za W b 26 #[Y9 c])(hc:za W c 54 (XU t ky bb)):nK Y3 24 #[Y9 b] W (QA W c t ky bb false (λe=>ye e.1 ky)):=by
 obtain⟨H,j,f,b2⟩:=Qp W 60 #[.nilFunc,.nilFunc,.nilFunc];have c1:=hc.below f hc.lt;have k0:=(C.below f C.lt).boxed;have k1:H.cell? ⟨c,1,K3⟩=some (X9 ky):=by rw[c1.cell];rfl
 have E:=Sc H ky;rw[j] at k0 k1;have Q:=nI j.symm;clear j
 go_enter func24,ntmps24
 go_wp2_with fail
 rw[Q.out];refine E.mono ?_;rintro e w2 ⟨I,M,rfl,q1,q2,i⟩;have h:=b2.below i b2.lt;obtain⟨A,a⟩:∃A:Y7,A=#[.func (.func 54) #[] #[Y9 M],.func (.func 55) #[] #[Y9 I],.func (.func 32) #[] #[]]:=⟨_,rfl⟩;have O:A.size=3:=by rw[a];rfl
 have Z:∀u∈A.toList,u.oneCell'=true:=by rw[a];intro u hu;simp at hu;rcases hu with rfl|rfl|rfl<;>rfl
 rw[<-a];have U:=h.setRow A;have aB:=f.size;have n1:I≠W.heap.size:=λe=>by rw[e] at q1;exact zh q1 h K7 rfl
 have n2:M≠W.heap.size:=λe=>by rw[e] at q2;have:=q2.symm.trans h;simp at this
 have aA:nH W.heap.size W (w2.setRow W.heap.size A):=zf (f.trans (i.mono aB)) (zG _) A;have G:=DC (W:=W) aA ((c1.below i c1.lt).pN (by have:=hc.lt;omega) A) (q1.pN n1 A) (q2.pN n2 A);rw[<-a] at G;clear a E q1 q2 b2 k0 k1 f i hc C
 go_wp2_with (first
  | (refine vC kG h O Z ?_))
 exact nu (yg rfl (yx (g:=W.heap.size) 1 rfl kG U O)) rfl G
theorem UC (h:QZ W0 K p t c v st last under mk ms es ky true W)(C:K.Ok)(E:v.N<=700000)(G:ky.size<=100000):nK Y3 11 #[Y9 c] W λe w'=>e=Y0 (Q2 #[.bool (pick true (λe => !ye e.1 (kT ky)) es).isSome,Y1 Q4 0])/\jf W0 K p t c v st last under mk ms W (pick true (λe => !ye e.1 (kT ky)) es) w':=by
 obtain⟨H,i,f,b1⟩:=Qp W 26 #[Y9 c];have h1:=h.grow f;have a:=UA h1 C E 26 (Y9 W.heap.size) (zb.eo func26) (RQ b1 h1.cu G);obtain⟨r,j⟩:=Z9 (pick true (λe => !ye e.1 (kT ky)) es);rw[<-j] at a ⊢;have A:=nI i.symm;clear i h h1 j
 go_enter func11,ntmps11
 go_wp2_with fail
 rw[A.out];refine a.mono ?_;rintro e I ⟨rfl,g⟩;have F:=g.py f;clear a g b1;go_wp2;exact nT (nj rfl _ _ _) rfl ⟨rfl,F⟩
theorem Sf (h:QZ W0 K p t c v st last under mk ms es ky true W)(C:K.Ok)(E:v.N<=700000):nK Y3 10 #[Y9 c] W λe w'=>e=Y0 (Q2 #[.bool (pick false (λe=>ye e.1 ky) es).isSome,Y1 Q4 0])/\jf W0 K p t c v st last under mk ms W (pick false (λe=>ye e.1 ky) es) w':=by
 obtain⟨G,i,f,b1⟩:=Qp W 26 #[Y9 c];have h1:=h.grow f;have a:=UA h1 C E 24 (Y9 W.heap.size) (zb.eo func24) (RO b1 h1.cu);obtain⟨r,j⟩:=Z9 (pick false (λe=>ye e.1 ky) es);rw[<-j] at a ⊢;have A:=nI i.symm;clear i h h1 j
 go_enter func10,ntmps10
 go_wp2_with fail
 rw[A.out];refine a.mono ?_;rintro e H ⟨rfl,g⟩;have F:=g.py f;clear a g b1;go_wp2;exact nT (nj rfl _ _ _) rfl ⟨rfl,F⟩
end
def xO (e:qw):Y8:=[X9 e.1,X9 e.2]
def yP (es:List qw):Y8:=(es.map xO).flatten
theorem Xu (a b:List qw):yP (a++b)=yP a++yP b:=by
 unfold yP;rw[qX,List.flatten_append]
theorem vj (es:List qw):∀v∈yP es,v.oneCell'=true:=λv a=>by
 obtain⟨l,hl,a⟩:=List.mem_flatten.1 a;obtain⟨e,_,rfl⟩:=qR.1 hl;unfold xO at a;simp only[qN,gu,or_false] at a;rcases a with rfl|rfl<;>rfl
theorem Pb:∀(cs:List qw) (k:Nat) (h:k<cs.length) (j:Nat) (v:Value),(xO cs[k])[j]?=some v->(yP cs)[k*2+j]?=some v
 | c::cs,0,_,j,v,a=>by have e:yP (c::cs)=xO c++yP cs:=rfl;have f:=(qM.1 a).1;have a:(xO c)[j]?=some v:=a;rw[e,Nat.zero_mul,qA,List.getElem?_append_left (show j<(xO c).length from f)];exact a
 | c::cs,k+1,h,j,v,a=>by have e:yP (c::cs)=xO c++yP cs:=rfl;have hl:(xO c).length=2:=rfl;rw[e,qU (by rw[hl];omega),hl,show (k+1)*2+j-2=k*2+j from by omega];exact Pb cs k (by simpa using h) j v a
theorem Vk {w:World}{B g o n c:Nat}{cs:List qw}(h:yl w B 2 (K4 ⟨g,o,K3⟩) n c (yP cs))(hn:n=cs.length)(j:Nat)(a:j<cs.length):w.rangeAt g (o+j*2) (xO cs[j]):=λi v A=>by
 obtain⟨C,o',e,_,f⟩:=h.pO K5;injection e with e
 injection e with e1 e2
 subst e1 e2;rw[Nat.add_assoc];exact f _ _ (Pb cs j a i v A)
theorem DI:ZQ 22 36 2 32 (Q0 #[X9 nX,X9 nX]):=⟨underlying22,by kernel_rfl,by kernel_rfl,by decide⟩
theorem Rr:yw Y3 36 2:=⟨⟨_,underlying36,rfl⟩,by kernel_rfl⟩
theorem Jf {ρ:nO->Value}{w:World}{o:Oper}{x:nO}(m:qw)(a:o.op=.buildSlice 22 1 #[(0,x)])(h1:ρ x=Q0 (xO m).toArray):(nQ ρ o).run Y3 w=.ok (.value (X1 w.heap.size 1 1)) (w.alloc (Q9 (xO m).toArray 36)):=by
 unfold xO at *;simp[nQ,a,h1,go_sem,nM]
def ZK (l:List qw)(ky:ByteArray):List qw:=l.filter λe => !(e.1.toList==ky.toList)
theorem CP (l:List qw)(ky:ByteArray)(k:Nat)(h:k<l.length):ZK (l.take (k+1)) ky=ZK (l.take k) ky++(if (l[k].1.toList==ky.toList)=true then [] else [l[k]]):=by
 unfold ZK;rw[zU h,lF]
 by_cases h:l[k].1.toList=ky.toList<;>simp[h]
theorem Ew (l:List qw)(ky:ByteArray):(ZK l ky).length<=l.length:=fq _ _
theorem Rw (w:World)(l:List qw)(A:Y5)(c B:Nat)(C:yl w B 2 A l.length c (yP l))(aG:B<=w.heap.size)(hl:l.length<=60)(ky:ByteArray):nK Y3 53 #[X1 A l.length c,X9 ky] w λe w'=>∃v,e=Y0 v/\w'.ownsRow w.heap.size 36 2 v (ZK l ky).length (yP (ZK l ky))/\nH w.heap.size w w':=by
 have aJ:=C.le;have aK:=C.max;have h0:w.ownsRow w.heap.size 36 2 (X1 none 0 0) 0 []:=gU w w.heap.size _ _
 go_enter func53,ntmps53
 go_wp2_with fail
 go_loopw [5,6] (λv i wr=>∃(k:Nat),k<=l.length/\i=Y1 Q4 k/\wr.ownsRow w.heap.size 36 2 v (ZK (l.take k) ky).length (yP (ZK (l.take k) ky))/\nH w.heap.size w wr) (λ_ i _=>l.length-(intOf i).toNat)
 case atStart=>exact⟨0,by omega,rfl,h0,nF _ _⟩
 case round =>
  obtain⟨k,hk,rfl,E,hB⟩:=hrel
  by_cases I:k<l.length
  .obtain⟨g,o,rfl,hg,_⟩:=C.pO K5;have aD:g<w.heap.size:=K5
   have Q:=Vk C rfl k I;have U:wr.rangeAt g (o+k*2) (xO l[k]):=λj v H=>(hB.cell (p:=⟨g,_,K3⟩) aD).trans (Q j v H)
   have d0:wr.cell? ⟨g,o+k*2,K3⟩=some (X9 l[k].1):=U 0 _ rfl;have M:=CP l ky k I;have aH:=Ew (l.take k) ky;have aI:(l.take k).length<=k:=List.length_take_le _ _;generalize l[k]=x at *;generalize ZK (l.take k) ky=D at *;have h:=nI M;clear M Q;have aL:IntKind.i64.wrap ((k:Int)+1)=(k:Int)+1:=xX _;have aB:=hB.size;cases hs:x.1.toList==ky.toList with
   | true =>
    rw[hs,if_pos rfl,qW] at h;go_wp2;exact⟨⟨k+1,by omega,by simp,by rw[h.out];exact E,hB⟩,by simp[intOf];omega⟩
   | false =>
    rw[hs,if_neg K9] at h;have nb:=za.new wr 36 (xO x).toArray;have f:nH wr.heap.size wr (wr.alloc (Q9 (xO x).toArray 36)):=vo _ _;obtain⟨a,G⟩:=Z9 (wr.alloc (Q9 (xO x).toArray 36));rw[<-G] at nb f
    have aE:yl a a.heap.size 2 (K4 ⟨wr.heap.size,0,K3⟩) 1 1 (xO x):=⟨zG _,by decide,(λe=>by cases e),rfl,vj [x],λ_=>⟨wr.heap.size,0,rfl,nb.lt,λj u H=>by
     rw[qA,nb.cell]
     simpa using H⟩⟩
    have O:a.ownsRow w.heap.size 36 2 _ _ _:=qn E f;have Z:=nI G.symm;clear G
    go_wp2_with (first
     |(refine zp rfl (yQ Rr U rfl rfl rfl) ?_)
     |(refine zp rfl (Jf x rfl rfl) ?_;rw[Z.out])
     | (at_builtin;refine xg rfl DI _ _ rfl w.heap.size _ _ _ rfl O _ _ 1 1 _ rfl aE (by unfold gP;omega) K5 (by have:=f.size;omega) ?_;intro v5 w5 aF aC))
    have aA:nH w.heap.size w w5:=((hB.trans (f.mono aB))).grown aC (by have:=f.size;omega) (λr hr=>zj O r hr);refine⟨⟨k+1,by omega,by simp,?_,aA⟩,by simp[intOf];omega⟩;rw[h.out,zH,Xu];exact aF
  .obtain rfl:k=l.length:=K5
   rw[List.take_length] at E;go_wp2;go_ret;exact⟨_,rfl,E,hB⟩
def jw (l:List qw)(lo hi:ByteArray):List qw:=l.filter λe => !ye e.1 lo&&ye e.1 hi
theorem Mh (l:List qw)(lo hi:ByteArray)(k:Nat)(h:k<l.length):jw (l.take (k+1)) lo hi=jw (l.take k) lo hi++(if (!ye l[k].1 lo&&ye l[k].1 hi)=true then [l[k]] else []):=by
 unfold jw;rw[zU h,lF]
 by_cases hc:(!ye l[k].1 lo&&ye l[k].1 hi)=true
 .rw[if_pos hc,eG,if_pos hc,List.filter_nil]
 .rw[if_neg hc,eG,if_neg hc,List.filter_nil]
theorem Ee (l:List qw)(lo hi:ByteArray):(jw l lo hi).length<=l.length:=fq _ _
theorem Ru (w:World)(l:List qw)(A:Y5)(c B:Nat)(E:yl w B 2 A l.length c (yP l))(aH:B<=w.heap.size)(hl:l.length<=60)(lo hi:ByteArray):nK Y3 14 #[X1 A l.length c,X9 lo,X9 hi] w λe w'=>∃v,e=Y0 v/\w'.ownsRow w.heap.size 36 2 v (jw l lo hi).length (yP (jw l lo hi))/\nH w.heap.size w w':=by
 have aK:=E.le;have aL:=E.max;have h0:w.ownsRow w.heap.size 36 2 (X1 none 0 0) 0 []:=gU w w.heap.size _ _
 go_enter func14,ntmps14
 go_wp2_with fail
 go_loopw [7,8] (λv i wr=>∃(k:Nat),k<=l.length/\i=Y1 Q4 k/\wr.ownsRow w.heap.size 36 2 v (jw (l.take k) lo hi).length (yP (jw (l.take k) lo hi))/\nH w.heap.size w wr) (λ_ i _=>l.length-(intOf i).toNat)
 case atStart=>exact⟨0,by omega,rfl,h0,nF _ _⟩
 case round =>
  obtain⟨k,hk,rfl,C,hB⟩:=hrel
  by_cases I:k<l.length
  .obtain⟨g,o,rfl,hg,_⟩:=E.pO K5;have aD:g<w.heap.size:=K5
   have Q:=Vk E rfl k I;have U:wr.rangeAt g (o+k*2) (xO l[k]):=λj v H=>(hB.cell (p:=⟨g,_,K3⟩) aD).trans (Q j v H)
   have d0:wr.cell? ⟨g,o+k*2,K3⟩=some (X9 l[k].1):=U 0 _ rfl;have M:=Mh l lo hi k I;have aI:=Ee (l.take k) lo hi;have aJ:(l.take k).length<=k:=List.length_take_le _ _;generalize l[k]=x at *;generalize jw (l.take k) lo hi=D at *;have a:=nI M;clear M Q;have aM:IntKind.i64.wrap ((k:Int)+1)=(k:Int)+1:=xX _;have aB:=hB.size;cases hs:ye x.1 lo with
   | true =>
    have aE:gH x.1.toList lo.toList=true:=hs;rw[hs,if_neg K9,qW] at a;go_wp2;exact⟨⟨k+1,by omega,by simp,by rw[a.out];exact C,hB⟩,by simp[intOf];omega⟩
   | false =>
    have aE:gH x.1.toList lo.toList=false:=hs;cases hh:ye x.1 hi with
    | false =>
     have hh':gH x.1.toList hi.toList=false:=hh;rw[hs,hh,if_neg K9,qW] at a;go_wp2;exact⟨⟨k+1,by omega,by simp,by rw[a.out];exact C,hB⟩,by simp[intOf];omega⟩
    | true =>
     have hh':gH x.1.toList hi.toList=true:=hh;rw[hs,hh,if_pos J0] at a;have nb:=za.new wr 36 (xO x).toArray;have h:nH wr.heap.size wr (wr.alloc (Q9 (xO x).toArray 36)):=vo _ _;obtain⟨f,G⟩:=Z9 (wr.alloc (Q9 (xO x).toArray 36));rw[<-G] at nb h
     have aF:yl f f.heap.size 2 (K4 ⟨wr.heap.size,0,K3⟩) 1 1 (xO x):=⟨zG _,by decide,(λe=>by cases e),rfl,vj [x],λ_=>⟨wr.heap.size,0,rfl,nb.lt,λj u H=>by
      rw[qA,nb.cell]
      simpa using H⟩⟩
     have O:f.ownsRow w.heap.size 36 2 _ _ _:=qn C h;have Z:=nI G.symm;clear G
     go_wp2_with (first
      |(refine zp rfl (yQ Rr U rfl rfl rfl) ?_)
      |(refine zp rfl (Jf x rfl rfl) ?_;rw[Z.out])
      | (at_builtin;refine xg rfl DI _ _ rfl w.heap.size _ _ _ rfl O _ _ 1 1 _ rfl aF (by unfold gP;omega) K5 (by have:=h.size;omega) ?_;intro v5 w5 aG aC))
     have aA:nH w.heap.size w w5:=((hB.trans (h.mono aB))).grown aC (by have:=h.size;omega) (λr hr=>zj O r hr);refine⟨⟨k+1,by omega,by simp,?_,aA⟩,by simp[intOf];omega⟩;rw[a.out,zH,Xu];exact aG
  .obtain rfl:k=l.length:=K5
   rw[List.take_length] at C;go_wp2;go_ret;exact⟨_,rfl,C,hB⟩
def Yi (es:List qw)(lo:ByteArray):Nat:=qz lo (es.map (·.1))
section
variable {es:List qw}{lo hi:ByteArray}
theorem Ag:Yi es lo<=es.length:=by
 have:=YG lo (es.map (·.1));simpa[Yi] using this
theorem PU (h:zu es){i:Nat}(hi:i<es.length)(hl:i<Yi es lo):ye es[i].1 lo=true:=by
 have a:es[i]∈es.filter (λx=>ye x.1 lo):=by rw[(vN h lo).1];exact List.mem_take_iff_getElem.2 ⟨i,by unfold Yi at hl;omega,rfl⟩
 exact(yD.1 a).2
theorem PV (h:zu es){i:Nat}(hi:i<es.length)(hl:Yi es lo<=i):ye es[i].1 lo=false:=by
 have e:Yi es lo+(i-Yi es lo)=i:=K5
 have a:es[i]∈es.drop (Yi es lo):=List.mem_drop_iff_getElem.2 ⟨i-Yi es lo,by omega,by simp only[e]⟩;exact(vN h lo).2 _ a
theorem NP (h:zu es):pick true (λe => !ye e.1 lo) es=es[Yi es lo]? :=
 Mn _ (λi hi hl=>by rw[PU h hi hl];rfl) λi hi hl=>by rw[PV h hi hl];rfl
theorem Iu (h:zu es):jw (es.take (Yi es lo)) lo hi=[]:=by
 unfold jw;rw[List.filter_eq_nil_iff];intro e a;obtain⟨i,hi,rfl⟩:=List.mem_take_iff_getElem.1 a;rw[PU h K5 K5];simp
theorem TK (m:Nat):jw (es.take m) lo hi <+: jw es lo hi:=(List.take_prefix m es).filter _
theorem TN (h:zu es)(m:Nat)(f:∀hl:m<es.length,ye es[m].1 hi=false):jw (es.take m) lo hi=jw es lo hi:=by
 unfold jw
 conv=>rhs;rw[<-qK m es]
 have hn:(es.drop m).filter (λe => !ye e.1 lo&&ye e.1 hi)=[]:=List.filter_eq_nil_iff.2 λe a=>by
  obtain⟨i,g,rfl⟩:=List.mem_drop_iff_getElem.1 a;have h1:=f K5;have h2:=h.le (show m<=m+i by omega) K5;cases hc:ye es[m+i].1 hi with
  | false=>simp
  | true =>
   rw[OW h2 hc] at h1;cases h1
 rw[lF,hn,qW]
theorem uF (h:zu es){m:Nat}(a:m<es.length)(hl:Yi es lo<=m)(hh:ye es[m].1 hi=true):jw (es.take (m+1)) lo hi=jw (es.take m) lo hi++[es[m]]:=by
 rw[Mh _ _ _ _ a,PV h a hl,hh];rfl
end
end
section
open Go Go.RowKit Go.Shelf xq
attribute [local go_sem] Oper.semAt_some
def xC (n:Nat)(X Y:World):Prop:=X.heap.size<=Y.heap.size/\∀(b:Nat) (o:Obj),b<n->X.heap[b]?=some o->wZ o->Y.heap[b]?=some o
theorem xC.mono {n m:Nat}{X Y:World}(h:xC m X Y)(hn:n<=m):xC n X Y:=⟨h.1,λb o a=>h.2 b o K5⟩
theorem xC.put {n l:Nat}(X:World)(o:Obj)(hl:n<=l):xC n X (X.putObj l o):=⟨by simp[World.putObj],λb o' e a _=>(nP K5).trans a⟩
theorem YQ {n:Nat}{X Y:World}(h:yo X Y):xC n X Y:=⟨h.1,λb o _ e a=>h.2 b o e a⟩
theorem xC.but {n c:Nat}{X Y:World}(h:vA c X Y)(hc:n<=c):xC n X Y:=⟨h.1,λb o f e a=>h.2 b o K5 e a⟩
theorem xC.blk {n b:Nat}{X Y:World}{T:nS}{cs:Y7}(h:xC n X Y)(e:za X b T cs)(hn:b<n)(a:QO T):za Y b T cs:=h.2 b _ hn e (Fv a)
def Cl {α : Type}(n:Nat)(J:List α -> World->Prop):Prop:=∀s X Y,J s X->xC n X Y->J s Y
def sU {α : Type}(F:Fence)(n:Nat)(P:gF)(g:Nat)(lb:Y7)(encs : α -> Y7)(Tr:World->Prop)(q:Nat)(es:List α)(w:World):Prop :=
 ∀(l:Nat) (J Jx:List α -> World->Prop) (W:World),nH w.heap.size w W->w.heap.size<=l->Cl W.heap.size J->Cl W.heap.size Jx->(∀s X,J s X->∃i,za X q 3 #[Y1 Q4 i]) ->
  (∀pre x X,J pre X->pre++[x] <+: es->YieldAt F (n-1) P l (encs x) X λe X' =>
   (e=Y0 (X3 true)/\ze (λk=>k=q) X X'/\J (pre++[x]) X')\/(e=Y0 (X3 false)/\(∃Z,ze (λk=>k=q) X Z/\Z.grownBy X' (some l)/\∃o:Obj,Z.heap[l]?=some o/\o.isCells=false)/\Jx (pre++[x]) X')) ->
  J [] W ->
  CallsIn F n P g (#[.func (.yield l) #[] #[]]++lb) W λe W'=>(∃v,e=Y0 v)/\Tr W'/\(J es W'\/∃pre,pre <+: es/\Jx pre W')
def sA {α : Type}(q:Nat)(I:List α -> World->Prop)(Ix:ff->List α -> World->Prop)(xs:List α)(W:World):Exit->Act->World->Prop
 | .normal,_,W'=>ze (λk=>k=q) W W'/\I xs W'
 | .ret,_,W'=>ze (λk=>k=q) W W'/\Ix .ret xs W'
 | .exit id,_,W'=>ze (λk=>k=q) W W'/\Ix (.exit id) xs W'
 | .goto t,_,W'=>ze (λk=>k=q) W W'/\Ix (.goto t) xs W'
 | .panic _,_,_=>False
 | .outgrown,_,_=>False
section
variable {F:Fence}{n:Nat}{P:gF}{w:World}
theorem XJ {α : Type}{g:nO}{ps:Array Tmp}{assign body:ff}{Q:Exit->Act->World->Prop}{a:Act}
  (aT:F.round=none) (h1:1<=n) {gf:Nat} {lb:Y7} (C:a.eval g=.func (.func gf) #[] lb) (aJ:F.fn gf) (eg:∀args w,(gm gf args).run P w=.ok (.enter gf args) w)
  {encs : α -> Y7} {Tr:World->Prop} {q:Nat} {es:List α} (aU:sU F (n-1) P gf lb encs Tr q es w)
  (aG:∀X Z row,Tr X->X.grownBy Z row->(∀r,row=some r->w.heap.size<=r/\∃o:Obj,X.heap[r]?=some o/\o.isCells=false)->Tr Z) (aS:∀x,(encs x).size=ps.size)
  (I:List α -> World->Prop) (U:ff->List α -> World->Prop) (hI:Cl w.heap.size I) (aC:∀c,Cl w.heap.size (U c)) (aF:∀s X,I s X->∃i,za X q 3 #[Y1 Q4 i])
  (h0:I [] w) (a₁ : α -> Act)
  (aL:∀(l:Nat) (x : α) (W:World) (K:Act->World->Prop),K (a₁ x) W ->
   assign.wpIn (F.inRound l) (n-1-1) P (Exit.then K (λ_ _ _=>False)) {tmps:=(ps.zip (encs x)).foldl (λt (p,v)=>t.setIfInBounds p v) a.tmps,defers:=[]} W)
  (aM:∀(l:Nat) (h:List α) (x : α) (W:World),I h W->h++[x] <+: es->body.wpIn (F.inRound l) (n-1-1) P (sA q I U (h++[x]) W) (a₁ x) W)
  (aN:∀(D:Nat) (W:World),w.heap.size<=D->I es W->Tr W->W.heap[D]?=some (.deferred (some []))->Q .normal {a with defers:={target:=.collected D,args:=#[]}::a.defers} W)
  (aV:∀(D:Nat) (c:ff) (h:List α) (W:World),w.heap.size<=D->h <+: es->U c h W->Tr W->W.heap[D]?=some (.deferred (some []))->c.wpIn F n P Q {a with defers:={target:=.collected D,args:=#[]}::a.defers} W) :
  (fz g ps assign body).wpIn F n P Q a w:=by
 refine wpIn_rangeFunc λfn aO => ?_
 rw[aT];obtain⟨f,H⟩:∃f:LoopState->Option ff->Loop,f=λst pe => {state:=st,pending:=pe,fn,tmps:=a.tmps,params:=ps,assign,body,defers:=w.heap.size}:=⟨_,rfl⟩
 obtain⟨V,hV⟩:∃V,(w.alloc (.deferred (some []))).alloc (.loop (f .ready none))=V:=⟨_,rfl⟩;have vL:V.heap[w.heap.size+1]?=some (.loop (f .ready none)):=by
  subst hV;have:=mB (w.alloc (.deferred (some []))) (.loop (f .ready none))
  rwa [nG] at this
 have vD:V.heap[w.heap.size]?=some (.deferred (some [])):=by subst hV;exact(Below.heap_alloc _ _ _ K9).trans (mB w _)
 have aD:nH w.heap.size w V:=by subst hV;exact((nF _ w).alloc (zG _) _).alloc K9 _
 have vI:I [] V:=hI _ _ _ h0 ⟨aD.size,λb o hb E _=>(aD.block b hb).trans E⟩;have vS:V.heap.size=w.heap.size+2:=by subst hV;simp
 obtain⟨i0,aI⟩:=aF _ _ h0;have aW:q<w.heap.size:=aI.lt;clear aI i0;refine⟨w.heap.size+1,[{target:=.collected w.heap.size,args:=#[]}],V,{target:=.fn (.func gf) lb,args:=#[.func (.yield (w.heap.size+1)) #[] #[]]},V,gf,#[.func (.yield (w.heap.size+1)) #[] #[]]++lb,V,?_,?_,?_,?_,λ_=>h1,?_⟩
 .rw[<-hV,H];exact run_enterLoop_outer _ _ _ _ _
 .simp only[resolve,C];simp[go_sem]
 .intro f' aH;simp[Target.leads] at aH;subst aH;exact aJ
 .simp[invoke,go_sem,eg]
 have aB:∀{A B:World} {k:Nat} {o:Obj},A.heap[k]?=some o->xC V.heap.size A B->k<V.heap.size->o.isCells=false->(∀es c,o≠.map es c)->B.heap[k]?=some o:=λE C hl h1 h2=>C.2 _ _ hl E (.inr ⟨h1,h2⟩)
 refine(aU (w.heap.size+1)
  (λh W=>I h W/\W.heap[w.heap.size+1]?=some (.loop (f .ready none))/\W.heap[w.heap.size]?=some (.deferred (some [])))
  (λh W=>∃c,U c h W/\W.heap[w.heap.size+1]?=some (.loop (f .done (some c)))/\W.heap[w.heap.size]?=some (.deferred (some [])))
  V aD K5
  (λs A B hs C=>⟨hI s A B hs.1 (C.mono K5),aB hs.2.1 C K5 rfl (λ_ _ e=>by cases e),aB hs.2.2 C K5 rfl (λ_ _ e=>by cases e)⟩)
  (λs A B hs C=>by
   obtain⟨c,h1,h2,h3⟩:=hs
   exact⟨c,aC c s A B h1 (C.mono K5),aB h2 C K5 rfl (λ_ _ e=>by cases e),aB h3 C K5 rfl (λ_ _ e=>by cases e)⟩)
  (λs X hs=>aF s X hs.1)
  ?round ⟨vI,vL,vD⟩).mono ?behind
 case round =>
  rintro h x W ⟨hi,hl,E⟩ aR;have aQ:w.heap.size+1<W.heap.size:=(zI.1 hl).1;have hy:=run_yield (P:=P) (args:=encs x) hl (by rw[H];exact aS x);rw[H] at hy;refine⟨fn,_,assign,body,hy,roundIn_of_wpIn aO (aL _ x W _ ⟨_,run_beginRound hl (by rw[H]),?_⟩)⟩;clear hy;have bL:(W.putObj (w.heap.size+1) (.loop {f .ready none with state:=.busy})).heap[w.heap.size+1]?=some (.loop {f .ready none with state:=.busy}):=gn aQ;have bD:(W.putObj (w.heap.size+1) (.loop {f .ready none with state:=.busy})).heap[w.heap.size]?=some (.deferred (some [])):=(nP K5).trans E;have bS:(W.putObj (w.heap.size+1) (.loop {f .ready none with state:=.busy})).heap.size=W.heap.size:=by simp[World.putObj]
  refine wpIn_mono (aM _ h x _ (hI _ _ _ hi (xC.put W _ K5)) aR) ?_
  -- the round's end
  have fin:∀(j:Option ff) (Z:World),ze (λk=>k=q) (W.putObj (w.heap.size+1) (.loop {f .ready none with state:=.busy})) Z ->
    (Instr.endRound (w.heap.size+1) j).run P Z=.ok (X3 j.isNone) (Z.putObj (w.heap.size+1) (.loop (f (if j.isNone then .ready else .done) j))) /\
    Z.heap[w.heap.size+1]?=some (.loop {f .ready none with state:=.busy}) /\
    (Z.putObj (w.heap.size+1) (.loop (f (if j.isNone then .ready else .done) j))).heap[w.heap.size+1]?=some (.loop (f (if j.isNone then .ready else .done) j)) /\
    (Z.putObj (w.heap.size+1) (.loop (f (if j.isNone then .ready else .done) j))).heap[w.heap.size]?=some (.deferred (some [])):=λj Z aA=>by
   have uL:=(aA.block _ K5 K5).trans bL;have:=run_endRound (P:=P) j uL;rw[H] at this ⊢;exact⟨this,by rw[H] at uL;exact uL,gn (zI.1 uL).1,(nP K5).trans ((aA.block _ K5 K5).trans bD)⟩
  have aE:∀(Z:World),ze (λk=>k=q) (W.putObj (w.heap.size+1) (.loop {f .ready none with state:=.busy})) Z->ze (λk=>k=q) W (Z.putObj (w.heap.size+1) (.loop (f .ready none))):=λZ hG=>by
   refine⟨hG.os,hG.tape,hG.output,by have:=hG.size;simp[World.putObj] at this ⊢;omega,λk E hm => ?_⟩
   by_cases e:k=w.heap.size+1
   .subst e;rw[hl];exact gn (by have:=hG.size;omega)
   .rw[nP e];exact(hG.block k K5 hm).trans (nP e)
  have out:∀(c:ff) (Z:World),ze (λk=>k=q) (W.putObj (w.heap.size+1) (.loop {f .ready none with state:=.busy})) Z->U c (h++[x]) Z ->
    (∃Z',ze (λk=>k=q) W Z'/\Z'.grownBy (Z.putObj (w.heap.size+1) (.loop (f .done (some c)))) (some (w.heap.size+1))/\∃o:Obj,Z'.heap[w.heap.size+1]?=some o/\o.isCells=false) /\
    (∃c',U c' (h++[x]) (Z.putObj (w.heap.size+1) (.loop (f .done (some c))))/\(Z.putObj (w.heap.size+1) (.loop (f .done (some c)))).heap[w.heap.size+1]?=some (.loop (f .done (some c')))/\(Z.putObj (w.heap.size+1) (.loop (f .done (some c)))).heap[w.heap.size]?=some (.deferred (some []))):=λc Z aA aP=>by
   obtain⟨_,h3,h4,h5⟩:=fin (some c) Z aA;refine⟨⟨_,aE Z aA,⟨rfl,rfl,rfl,by simp[World.putObj],λk E hm => ?_⟩,_,gn (zI.1 h3).1,rfl⟩,c,aC c _ _ _ aP (xC.put Z _ K5),h4,h5⟩;have e:k≠w.heap.size+1:=λe=>hm (by rw[e])
   rw[nP e,nP e]
  rintro e a3 Z hp;cases e with
  | normal =>
   obtain⟨G,M⟩:=hp;obtain⟨O,h3,h4,h5⟩:=fin none Z G;exact⟨_,_,O,.inl ⟨rfl,aE Z G,hI _ _ _ M (xC.put Z _ K5),h4,h5⟩⟩
  | ret =>
   obtain⟨G,M⟩:=hp;exact⟨_,_,(fin (some .ret) Z G).1,.inr ⟨rfl,out .ret Z G M⟩⟩
  | exit id =>
   obtain⟨G,M⟩:=hp;exact⟨_,_,(fin (some (.exit id)) Z G).1,.inr ⟨rfl,out (.exit id) Z G M⟩⟩
  | goto t =>
   obtain⟨G,M⟩:=hp;exact⟨_,_,(fin (some (.goto t)) Z G).1,.inr ⟨rfl,out (.goto t) Z G M⟩⟩
  | panic ch=>exact hp.elim
  | outgrown=>exact hp.elim
 case behind =>
  rintro e Z ⟨⟨v,rfl⟩,ht,(⟨hi,hl,E⟩|⟨h,aK,c,hi,hl,E⟩)⟩
  .have O:=fM (P:=P) hl (by rw[H];simp);rw[H] at O;exact⟨none,_,O,aN _ _ (zG _) (hI _ _ _ hi (xC.put Z _ K5)) (aG _ _ _ ht (grownBy_putObj' Z _ _) (λr e=>by cases e;exact⟨by omega,_,hl,rfl⟩)) ((nP K5).trans E)⟩
  .have O:=fM (P:=P) hl (by rw[H];simp);rw[H] at O;exact⟨some c,_,O,aV _ c h _ (zG _) aK ((aC c) _ _ _ hi (xC.put Z _ K5)) (aG _ _ _ ht (grownBy_putObj' Z _ _) (λr e=>by cases e;exact⟨by omega,_,hl,rfl⟩)) ((nP K5).trans E)⟩
end
end
section
open Go Go.RowKit xq Go.Shelf
attribute [local go_sem] Oper.semAt_some
theorem IZ (w:World):nK Y3 6 #[Y9 none] w λe w'=>e=Y0 (Q2 #[Y9 none,Y1 Q4 1])/\w=w':=by
 have a:=FL (T:=none) (w:=w) (.inl rfl)
 go_enter func6,ntmps6
 go_wp2_with (go_at_call 20;refine a.mono ?_;rintro e f ⟨rfl,rfl⟩)
 exact nT (nj rfl _ _ _) rfl ⟨rfl,rfl⟩
structure jP (b:Nat)(T:Y5)(lo hi:ByteArray)(W:World):Prop where
 b1:za W b 23 #[Y9 T]
 b2:za W (b+1) 9 #[X9 lo]
 b3:za W (b+1+1) 9 #[X9 hi]
theorem jP.grow {b:Nat}{T:Y5}{lo hi:ByteArray}{W W':World}(h:jP b T lo hi W)(hB:nH W.heap.size W W'):jP b T lo hi W':=⟨h.b1.below hB h.b1.lt,h.b2.below hB h.b2.lt,h.b3.below hB h.b3.lt⟩
def Du (b:Nat):Y7:=#[Y9 b,Y9 (b+1:Nat),Y9 (b+1+1:Nat)]
theorem KX (W:World)(T:Y5)(lo hi:ByteArray):nK Y3 15 #[Y9 T,X9 lo,X9 hi] W λe w'=>e=Y0 (.func (.func 33) #[] (Du W.heap.size))/\jP W.heap.size T lo hi w'/\nH W.heap.size W w':=by
 obtain⟨W1,a⟩:=Z9 (((W.alloc (Q9 #[Y9 T] 23)).alloc (Q9 #[X9 lo] 9)).alloc (Q9 #[X9 hi] 9));have g:nH W.heap.size W W1:=by rw[a];exact(QU _ _ _).alloc (by simp[nG];omega) _
 have h:jP W.heap.size T lo hi W1:=by have b2:=(za.new (W.alloc (Q9 #[Y9 T] 23)) 9 #[X9 lo]).alloc (Q9 #[X9 hi] 9);have b3:=za.new ((W.alloc (Q9 #[Y9 T] 23)).alloc (Q9 #[X9 lo] 9)) 9 #[X9 hi];rw[nG] at b2;rw[nG,nG] at b3;rw[a];exact⟨((za.new W _ _).alloc _).alloc _,b2,b3⟩
 unfold Du;have f:=nI a.symm;clear a
 go_enter func15,ntmps15
 go_wp2;rw[f.out];exact nT (results_tmp rfl _ _ _) rfl ⟨rfl,h,g⟩
theorem RP {F:Fence}{n:Nat}{P:gF}{w:World}{g:nO}{ps:Array Tmp}{body:ff}{Q:Exit->Act->World->Prop}{a:Act}
  (aA:F.round=none) (h1:1<=n) {gf:Nat} {lb:Y7} (O:a.eval g=.func (.func gf) #[] lb) (G:F.fn gf) (E:∀args w,(gm gf args).run P w=.ok (.enter gf args) w)
  {f:Unit->Y7} (aB:wV F (n-1) P gf lb f (λ_=>False) (λ_ _ _=>False) (λys=>ys=[]) (λ_=>False) w) (C:∀x,(f x).size=ps.size)
  (M:∀(D:Nat) (V:World),w.heap.size<=D->nH w.heap.size w V->V.heap[D]?=some (.deferred (some []))->Q .normal {a with defers:={target:=.collected D,args:=#[]}::a.defers} V) :
  (fz g ps .skip body).wpIn F n P Q a w:=by
 refine VP aA h1 O G E aB (nF _ _) C
  (λe V=>nH w.heap.size w V) (λ_ _ _=>False)
  (λe X Y row h U Z=>Cc (B:=w.heap.size) (zG _) h.size h U Z) (λc e X Y row h _ _=>h) (λe x s X Y row h _ _=>h) (nF _ _)
  (λx => {tmps:=(ps.zip (f x)).foldl (λt (p,v)=>t.setIfInBounds p v) a.tmps,defers:=[]}) ?_ ?_ ?_ ?_
 .intro l1 x V K i
  gi_wp2
  simpa[C x] using i
 .intro l1 e x V A H;exact H.elim
 .intro D xs V j I A i;exact M D V j A i
 .intro D c e V j I h;exact h.elim
theorem Iv (n:Nat)(hn:6<=n){w:World}{b:Nat}{lo hi:ByteArray}(a:jP b none lo hi w):wV nv n Y3 33 (Du b) (λ_:Unit=>#[X9 ⟨#[]⟩,X9 ⟨#[]⟩]) (λ_=>False) (λ_ _ _=>False) (λh=>h=[]) (λ_=>False) w:=by
 intro l J i W g j _ _ f;have h1:1<=n:=K5
 have A:=(a.b1.below g a.b1.lt).boxed;unfold Du;refine gy func33 rfl trivial ?_ rfl;simp only[ntmps33,zR,zK,zY,yB,yC,qC,qD,qO,qG,zQ,zW];refine jc ?_
 gi_wp2_with (refine⟨trivial,?_⟩;gi_at_call 6;refine(callsIn_wide.2 (IZ _)).mono ?_;rintro e C ⟨rfl,rfl⟩)
 simp only[lv];refine nT (results_none rfl _ _ _) rfl ?_;exact⟨⟨_,rfl⟩,.inl ⟨[],rfl,f⟩⟩
section
variable {W0 W W':World}{K:xB}{p t b q B l:Nat}{v v':yj}{st last:qj}{under:Bool}{mk:Value}{ms:List xo}{es:List qw}{lo hi:ByteArray}
def Gu (e:qw):Y7:=#[X9 e.1,X9 e.2]
def Um (W0:World)(K:xB)(p t:Nat)(v:yj)(st last:qj)(under:Bool)(mk:Value)(ms:List xo)(n:Nat)(X:World):Prop:=∃v',zy W0 K p t 0 v' st last under mk ms X/\vH K v v' n
structure RK (W0:World)(K:xB)(p t b c:Nat)(v:yj)(st last:qj)(under:Bool)(mk:Value)(ms:List xo)(es:List qw)(lo hi:ByteArray)(n m N:Nat)(J:List qw->World->Prop)(X:World):Prop where
 m1:m<=es.length
 m2:Yi es lo<=m
 cu:∃v',QZ W0 K p t c v' st last under mk ms es (keyOf es[m]?) (es[m]?).isSome X/\vH K v v' N
 bx:jP b (K4 ⟨t,0,K3⟩) lo hi X
 c1:n<=c
 js:J (jw (es.take m) lo hi) X
theorem AO {m:Nat}(h:¬ m<es.length):(es[m]?).isSome=false:=by simp;omega
theorem RK.tr {c n m N:Nat}{J:List qw->World->Prop}(h:RK W0 K p t b c v st last under mk ms es lo hi n m N J W){a:Nat}(e:N<=a):Um W0 K p t v st last under mk ms a W:=by
 obtain⟨v',h1,h2⟩:=h.cu;exact⟨v',h1.tr,h2.more e⟩
theorem jP.oq {n:Nat}{T:Y5}{X Y:World}(h:jP b T lo hi X)(a:xC n X Y)(hn:b+1+1<n):jP b T lo hi Y:=⟨a.blk h.b1 K5 K7,a.blk h.b2 K5 K7,a.blk h.b3 hn K7⟩
theorem uG (n:Nat)(hn:9<=n)(h:zy W0 K p t 0 v st last under mk ms W)(hK:K.Ok)(hN:v.N<=600000)(hT:xu K v.D st es)(bZ:es.length<=60)(bP:∀x∈es,x.1.size<=81)(hb:jP b (K4 ⟨t,0,K3⟩) lo hi W)
  (hq:W0.heap.size<=q) (hB:W0.heap.size<=B) (bI:K.r<B) (bR:∀x∈ms,x.m<B) (hl:B<=l)
  (J Jx:List qw->World->Prop) (C:Cl W.heap.size J) (bY:Cl W.heap.size Jx) (bG:∀s X,J s X->∃i,za X q 3 #[Y1 Q4 i])
  (hY:∀I x X,J I X->I++[x] <+: jw es lo hi->YieldAt nv (n-1) Y3 l (Gu x) X λe X' =>
   (e=Y0 (X3 true)/\ze (λk=>k=q) X X'/\J (I++[x]) X')\/(e=Y0 (X3 false)/\(∃Z,ze (λk=>k=q) X Z/\Z.grownBy X' (some l)/\∃o:Obj,Z.heap[l]?=some o/\o.isCells=false)/\Jx (I++[x]) X'))
  (h0:J [] W) :
  CallsIn nv n Y3 33 #[.func (.yield l) #[] #[],Y9 (K4 ⟨b,0,K3⟩),Y9 (b+1:Nat),Y9 (b+1+1:Nat)] W λe W'=>(∃v,e=Y0 v)/\Um W0 K p t v st last under mk ms 20000 W'/\(J (jw es lo hi) W'\/∃I,I <+: jw es lo hi/\Jx I W'):=by
 have bX:1<=n:=K5
 have aA:=hT.so;have k1:=hb.b1.boxed;have HN:=Ge h;have bV:=h.up;have a6:=hb.b3.lt;refine gy func33 rfl trivial ?_ rfl;simp only[ntmps33,zR,zK,zY,yB,yC,qC,qD,qO,qG,zQ,zW];refine jc ?_
 gi_wp2_with (refine⟨trivial,?_⟩;gi_at_call 6;refine(callsIn_wide.2 HN).mono ?_;rintro e w1 ⟨rfl,aR,aB⟩;have k2:=(hb.grow aB).b2.boxed)
 obtain⟨c,hc⟩:=Z9 W.heap.size;rw[<-hc] at aR ⊢;have j:QZ W0 K p t c v st last under mk ms es ⟨#[]⟩ false w1:=⟨h.grow aB,hT,aR,by omega,by omega⟩;have a4:=hb.grow aB;have J1:=C _ _ _ h0 (YQ (yo.grow aB));have HL:=nI hc;clear HN h hb h0 aR hT k1 aB bV hc;refine⟨trivial,(callsIn_wide.2 (Xf w1 lo)).mono ?_⟩;rintro e w2 ⟨rfl,q2,aM⟩;obtain⟨A,O,HG⟩:=Jh j hK K5 (XA aM (j.cu.below aM j.cu.lt) q2);rw[NP aA] at HG;injection O with O
 injection O with O
 rw[O];clear O q2 k2
 gi_wp2_with fail
 refine⟨trivial,(callsIn_wide.2 HG).mono ?_⟩;rintro e w3 ⟨rfl,hM⟩;have H:RK W0 K p t b c v st last under mk ms es lo hi c (Yi es lo) 300 J w3:=by obtain⟨⟨v3,bT,a9⟩,bK,bN⟩:=hM;have aZ:xC c w1 w3:=xC.but bN (zG _);exact⟨Ag,zG _,⟨v3,⟨bT,by rw[a9.dd];exact j.is,bK,j.ge,j.le⟩,a9.more K5⟩,a4.oq aZ (by rw[HL.out];exact a6),zG _,by rw[Iu aA];exact C _ _ _ J1 (by rw[<-HL.out];exact aZ)⟩
 clear HG hM j a4 J1 aM
 gi_wp2_with fail
 refine wpIn_label ?_
 gi_wp2_with fail
 obtain⟨M,a2⟩:=AH (λd X=>∃m,d=es.length-m/\RK W0 K p t b c v st last under mk ms es lo hi c m (300+300*m) J X)
 gi_loopw [6,7] (λev iv wr=>∃m:Nat,ev=Y1 Q4 0/\iv=.bool (es[m]?).isSome/\RK W0 K p t b c v st last under mk ms es lo hi c m (300+300*m) J wr) (λ_ _ wr=>M wr)
 case atStart=>exact⟨_,rfl,rfl,H.m1,H.m2,(by obtain⟨v9,h8,h9⟩:=H.cu;exact⟨v9,h8,h9.more K5⟩),H.bx,H.c1,H.js⟩
 case round =>
  obtain⟨m1,rfl,rfl,aO⟩:=hrel;obtain⟨⟨m,a3,hR⟩,-⟩:=a2 wr ⟨_,m1,rfl,aO⟩;have bB:(es[m1]?).isSome=(es[m]?).isSome:=by
   obtain⟨_,q1,_⟩:=aO.cu;obtain⟨_,q2,_⟩:=hR.cu;have q:=q1.cu.symm.trans q2.cu;injection q with q
   injection q with q
   have q3:=congrArg (λa:Y7=>a[2]?) q;change some (Value.bool _)=some (Value.bool _) at q3;injection q3 with q3
   injection q3
  rw[bB];clear bB aO m1 H;have bJ:=nI a3;clear a3;obtain⟨b0,bQ,⟨v4,f,aD⟩,aQ,_,aI⟩:=hR;have b5:=aD.nn
  by_cases aF:m<es.length
  .obtain⟨x,G⟩:=Z9 (es[m]);have aV:es[m]?=some x:=by rw[G];exact zM aF
   have bE:x∈es:=by rw[G];exact qJ _
   have bW:=bP x bE;have aW:=nI (show pick true (λe => !ye e.1 (kT x.1)) es=es[m+1]? by rw[G];exact Mm aA m aF);have aL:=nI (λhh:ye x.1 hi=false=>TN (lo:=lo) aA m (λ_=>by rw[<-G];exact hh));have aK:=nI (λhh:ye x.1 hi=true=>(by rw[G];exact uF aA aF bQ (by rw[<-G];exact hh):jw (es.take (m+1)) lo hi=jw (es.take m) lo hi++[x]));rw[aV] at f;replace f:QZ W0 K p t c v4 st last under mk ms es x.1 true wr:=f;have e1:(es[m]?).isSome=true:=by rw[aV];rfl
   rw[e1];clear G aV e1;have kc:wr.cell? ⟨c,1,K3⟩=some (X9 x.1):=by rw[f.cu.cell];rfl
   have kh:=aQ.b3.boxed;cases hh:ye x.1 hi with
   | false =>
    have hh':gH x.1.toList hi.toList=false:=hh;have he:=aL.out hh;clear hh aL aK aW
    gi_wp2_with fail
    refine wpIn_wide.2 ?_
    go_quiet (fail)
    gi_wp2
    simp only[lv];go_end0;exact⟨⟨_,rfl⟩,⟨v4,f.tr.grow (eP (nF _ _) _),aD.more K5⟩,.inl (by rw[<-he];exact C _ _ _ aI (YQ (yo.grow (eP (nF _ _) _))))⟩
   | true =>
    have hh':gH x.1.toList hi.toList=true:=hh;have ha:=nI (aK.out hh);clear hh aL aK
    gi_wp2_with fail
    refine wpIn_wide.2 ?_
    go_quiet (fail)
    gi_wp2_with fail
    generalize bD:World.drewN wr _=wd;have aG:nH wr.heap.size wr wd:=by rw[<-bD];exact eP (nF _ _) _
    have aC:=f.grow aG;have aJ:=aQ.grow aG;have aY:=C _ _ _ aI (YQ (yo.grow aG));clear bD f aQ aI aG kc kh;refine⟨trivial,(callsIn_wide.2 (RV aC hK K5 bE bW)).mono ?_⟩;rintro e w5 ⟨rfl,v5,aU,aS,U⟩;have aE:=U.blk aC.cu jC;have g:jP b (K4 ⟨t,0,K3⟩) lo hi w5:=⟨U.blk aJ.b1 K7,U.blk aJ.b2 K7,U.blk aJ.b3 K7⟩;have aH:=C _ _ _ aY (YQ U);have bA:jw (es.take m) lo hi++[x] <+: jw es lo hi:=by rw[<-ha.out];exact TK _
    obtain⟨iq,E⟩:=bG _ _ aH;have kc:w5.cell? ⟨c,1,K3⟩=some (X9 x.1):=by rw[aE.cell];rfl
    obtain⟨fn,tmps,assign,body,hy,aP⟩:=hY _ x w5 aH bA;unfold Gu at hy;have HA:=nI (show jw (es.take m) lo hi++[x]=jw (es.take (m+1)) lo hi from ha.out.symm);have aX:xu K v5.D st es:=by rw[aS.dd];exact aC.is
    have a7:=aC.ge;have aT:=aD.trans aS;clear ha aC aJ aY U aD aS
    gi_wp2_with fail
    refine aP.mono ?_;rintro e w6 (⟨rfl,Q,aN⟩|⟨rfl,⟨Z,bF,bM,bS⟩,bH⟩)
    .have bC:=aU.pQ Q E K9 (λm e=>by cases e) hq K7;have a5:jP b (K4 ⟨t,0,K3⟩) lo hi w6:=⟨Q.blk g.b1 (zh g.b1 E K7),Q.blk g.b2 (zh g.b2 E K7),Q.blk g.b3 (zh g.b3 E K7)⟩;rw[HA.out] at aN;have C6:QZ W0 K p t c v5 st last under mk ms es x.1 true w6:=⟨bC,aX,Q.blk aE (zh aE E K7),a7,by omega⟩;have b6:=aT.nn;have HX:=UC C6 hK K5 K5;rw[aW.out] at HX;clear hy aP E aU g aE aH Q kc bC
     gi_wp2_with fail
     refine⟨trivial,(callsIn_wide.2 HX).mono ?_⟩;rintro e w7 ⟨rfl,a1⟩;have F:RK W0 K p t b c v st last under mk ms es lo hi c (m+1) (300+300*(m+1)) J w7:=by obtain⟨⟨v7,bU,a8⟩,bL,bO⟩:=a1;have a0:xC c w6 w7:=xC.but bO (zG _);exact⟨by omega,by omega,⟨v7,⟨bU,by rw[a8.dd];exact aX,bL,a7,by omega⟩,(aT.trans a8).more K5⟩,a5.oq a0 (by rw[HL.out];exact a6),zG _,C _ _ _ aN (by rw[<-HL.out];exact a0)⟩
     have b4:=(a2 w7 ⟨_,m+1,rfl,F⟩).2 _ ⟨m+1,rfl,F⟩;clear HX a1 C6 a5 aN
     gi_wp2
     go_roundw
     case rel=>exact⟨m+1,rfl,rfl,F⟩
     case measure=>rw[bJ.out];omega
    .clear hy aP g aE aH kc
     gi_wp2
     simp only[lv];go_end0;exact⟨⟨_,rfl⟩,⟨v5,(aU.pQ bF E K9 (λm e=>by cases e) hq K7).oU hB bI bR bM (λr e=>by cases e;exact⟨hl,bS⟩),aT.more K5⟩,.inr ⟨_,bA,bH⟩⟩
  .have e1:(es[m]?).isSome=false:=AO aF;rw[e1] at f ⊢;have he:=TN (lo:=lo) (hi:=hi) aA m (λh=>absurd h aF)
   gi_wp2_with fail
   refine wpIn_wide.2 ?_
   go_quiet (fail)
   gi_wp2
   simp only[lv];go_end0;exact⟨⟨_,rfl⟩,⟨v4,f.tr.grow (eP (nF _ _) _),aD.more K5⟩,.inl (by rw[<-he];exact C _ _ _ aI (YQ (yo.grow (eP (nF _ _) _))))⟩
theorem TO (n:Nat)(hn:9<=n)(h:zy W0 K p t 0 v st last under mk ms W)(A:K.Ok)(C:v.N<=600000)(E:xu K v.D st es)(M:es.length<=60)(I:∀x∈es,x.1.size<=81)(H:jP b (K4 ⟨t,0,K3⟩) lo hi W)(hq:W0.heap.size<=q):sU nv n Y3 33 (Du b) Gu (Um W0 K p t v st last under mk ms 20000) q (jw es lo hi) W:=λl J e X a hl g j i G f =>
 uG n hn (h.grow a) A C E M I (H.grow a) hq h.up h.du h.mlt hl J e g j i G f
theorem Um.oU {n:Nat}(i:W0.heap.size<=W.heap.size)(a:K.r<W.heap.size)(f:∀x∈ms,x.m<W.heap.size)(X Z:World)(row:Option Nat)(h:Um W0 K p t v st last under mk ms n X)(e:X.grownBy Z row)(g:∀r,row=some r->W.heap.size<=r/\∃o:Obj,X.heap[r]?=some o/\o.isCells=false):Um W0 K p t v st last under mk ms n Z:=by
 obtain⟨v',h1,h2⟩:=h;exact⟨v',h1.oU i a f e g,h2⟩
end
end
section
open Go Go.RowKit xq
def uj (A:Y5)(c i sz:Nat):Y5:=A.map λa=>⟨a.block,if c=i then 0 else i*sz,K3⟩
section
variable {S T:nS}{sz by_:Nat}{z:Value}{ρ:nO->Value}{w:World}{o:Oper}{x y u:nO}
theorem tg (a:ZQ S T sz by_ z)(e:o.op=.slice S x (some y) none none)(h1:ρ x=X1 none 0 0)(h2:ρ y=Y1 Q4 0):(nQ ρ o).run Y3 w=.ok (.value (X1 none 0 0)) w:=by
 have ht:=Fc a;have hs:=YI a;simp[nQ,e,h1,h2,go_sem,run_sliceAt_slice _ _ _ _ _ _ ht,nM,run_slice_l (ht:=ht),a.oB,hs,sliced]
theorem tf {A:Y5}{B n c i:Nat}{cs:Y8}(h:∀a,A=some a->a=⟨a.block,0,K3⟩)(f:yl w B sz A n c cs)(e:ZQ S T sz by_ z)(g:o.op=.slice S x (some y) none none)(h1:ρ x=X1 A n c)(h2:ρ y=Y1 Q4 (i:Int))(hi:i<=n)(W:World):(nQ ρ o).run Y3 W=.ok (.value (.slice (uj A c i sz) (n-i) (c-i))) W:=by
 rcases A with _|a
 .have hc:=f.nil rfl;have j:=f.le;subst hc;obtain rfl:n=0:=K5
  obtain rfl:i=0:=K5
  exact tg e g h1 h2
 .rw[h a rfl] at h1 ⊢;exact Cy e g h1 h2 hi
theorem ua {A:Y5}{B n c i:Nat}{cs:Y8}(h:∀a,A=some a->a=⟨a.block,0,K3⟩)(f:yl w B sz A n c cs)(hi:i<=n):yl w B sz (uj A c i sz) (n-i) (c-i) (cs.drop (i*sz)):=by
 rcases A with _|a
 .have hc:=f.nil rfl;have C:=f.le;subst hc;obtain rfl:n=0:=K5
  obtain rfl:i=0:=K5
  have hl:=f.len;rw[Nat.zero_mul] at hl ⊢;rw[List.drop_zero];exact f
 .obtain⟨g,j⟩:∃g,a=⟨g,0,none⟩:=⟨_,h a rfl⟩;subst j
  by_cases hc:c=i
  .have C:=f.le;obtain rfl:n=i:=K5
   subst hc;refine⟨by omega,by omega,(λe=>by cases e),?_,λv E=>f.one v (qV E),λG=>by omega⟩;rw[qF,f.len,<-Nat.sub_mul]
  .have:=f.drop i hi;rw[qA] at this;unfold uj;rw[Option.map_some,if_neg hc];exact this
end
theorem Ox (cs:List qw)(k:Nat):(yP cs).take (k*2)=yP (cs.take k):=by
 induction cs generalizing k with
 | nil=>simp[yP]
 | cons c cs ih =>
  cases k with
  | zero=>simp[yP]
  | succ k =>
   have e:yP (c::cs)=xO c++yP cs:=rfl;have a:yP ((c::cs).take (k+1))=xO c++yP (cs.take k):=rfl;rw[e,a,<-ih k,show (k+1)*2=(xO c).length+k*2 from by show _=2+_;omega,List.take_length_add_append]
theorem Oy (cs:List qw)(k:Nat):(yP cs).drop (k*2)=yP (cs.drop k):=by
 induction cs generalizing k with
 | nil=>simp[yP]
 | cons c cs ih =>
  cases k with
  | zero=>simp[yP]
  | succ k =>
   have e:yP (c::cs)=xO c++yP cs:=rfl;have a:yP ((c::cs).drop (k+1))=yP (cs.drop k):=rfl;rw[e,a,<-ih k,show (k+1)*2=(xO c).length+k*2 from by show _=2+_;omega,List.drop_length_add_append]
theorem Nb {w:World}{base:Nat}{T:nS}{sz n:Nat}{A:Y5}{c:Nat}{cs:Y8}(h:w.ownsRow base T sz (X1 A n c) n cs):∀a,A=some a->a=⟨a.block,0,none⟩:=λa e=>by
 subst e;rcases h.2 with⟨h',_⟩|⟨g',cap',cur,h',_⟩
 .cases h'
 .injection h' with h'
  injection h' with h'
  rw[h']
theorem Bj {l:List qw}(h:zu l)(e:qw):putE l e=(ZK l e.1).take (qz e.1 ((ZK l e.1).map (·.1)))++e::(ZK l e.1).drop (qz e.1 ((ZK l e.1).map (·.1))):=by
 have hn:∀x∈ZK l e.1,x.1≠e.1:=λx j f=>by have:=(yD.1 j).2;rw[f] at this;simp at this
 have hs:zu (ZK l e.1):=h.filter _;rw[<-Ta hs e hn];unfold putE ZK;rw[List.filter_filter,List.filter_filter];have g:∀x:qw,ye x.1 e.1=(ye x.1 e.1&&!(x.1.toList==e.1.toList)):=λx=>by
  cases a:x.1.toList==e.1.toList with
  | false=>simp
  | true =>
   have:x.1=e.1:=JE (by simpa using a);rw[this,xL];rfl
 have i:∀x:qw,ye e.1 x.1=(ye e.1 x.1&&!(x.1.toList==e.1.toList)):=λx=>by
  cases a:x.1.toList==e.1.toList with
  | false=>simp
  | true =>
   have:x.1=e.1:=JE (by simpa using a);rw[this,xL];rfl
 congr 1
 .exact List.filter_congr λx _=>g x
 .congr 1;exact List.filter_congr λx _=>i x
theorem Rv (w:World)(l:List qw)(A:Y5)(c B:Nat)(aX:yl w B 2 A l.length c (yP l))(aU:B<=w.heap.size)(hl:l.length<=60)(a2:zu l)(e:qw):nK Y3 19 #[X1 A l.length c,Q0 (xO e).toArray] w λx w'=>∃v,x=.returned v/\w'.ownsRow w.heap.size 36 2 v (putE l e).length (yP (putE l e))/\nH w.heap.size w w':=by
 have aL:=Bj a2 e;have bK:=Ew l e.1;obtain⟨W1,aV,M,b1⟩:=Qp w 36 (xO e).toArray;have HD:=Rw W1 l A c B (aX.below (M.mono aU)) (zT aU M.size) hl e.1;obtain⟨at_,aF⟩:=Z9 (qz e.1 ((ZK l e.1).map (·.1)));rw[<-aF] at aL;generalize ZK l e.1=d at *;generalize putE l e=pl at *;have a7:=nI aL;have aP:=nI aF;have a8:=nI aV.symm;have a1:=M.size;have bO:=b1.lt;clear aV aL aF aX a2
 go_enter func19,ntmps19
 have bE:(xO e).toArray.size=2:=rfl
 go_wp2_with fail
 rw[a8.out];refine HD.mono ?_;rintro x w2 ⟨v2,rfl,own2,O⟩;obtain⟨A2,c2,rfl,C⟩:=qq own2 (vj d);have aO:=nI (Nb own2);have bN:=C.le;have bF:=O.size;have bG:w.heap.size<=w2.heap.size:=zT a1 bF;have b2:=b1.below O b1.lt;have bB:nH w.heap.size w w2:=M.trans (O.mono a1);clear HD own2 O b1
 go_wp2_with fail
 go_loopw [6] (λi wr=>∃(k:Nat),k<=d.length/\i=Y1 Q4 k/\(∀j,(h:j<(d.map (·.1)).length)->j<k->ye (d.map (·.1))[j] e.1=true)/\nH w2.heap.size w2 wr) (λi _=>d.length-(intOf i).toNat)
 case atStart=>exact⟨0,by omega,rfl,λj _ h=>by omega,nF _ _⟩
 case round =>
  obtain⟨k,hk,rfl,f,E⟩:=hrel;have br:=b2.below E b2.lt;have e0:wr.cell? w.heap.size=some (X9 e.1):=by rw[br.cell];rfl
  have bP:(d.map (·.1)).length=d.length:=qH _;have bQ:(k:Int)<=(d.length:Int):=K5
  by_cases aJ:k<d.length
  case' pos =>
   obtain⟨g,o,rfl,hg,_⟩:=C.pO K5;have d0:wr.cell? ⟨g,o+k*2,K3⟩=some (X9 d[k].1):=(E.cell (p:=⟨g,_,K3⟩) hg).trans (Vk C rfl k aJ 0 _ rfl);have U:(d.map (·.1))[k]'(by omega)=d[k].1:=List.getElem_map _;have aK:ye d[k].1 e.1=true->∀j,(h:j<(d.map (·.1)).length)->j<k+1->ye (d.map (·.1))[j] e.1=true:=λh1 j hj bM=>by
    by_cases ej:j=k
    .subst ej;rw[U];exact h1
    .exact f j hj K5
   have aG:ye d[k].1 e.1=false->at_=k:=λh1=>aP.out.trans (kp e.1 _ k K5 f (λ_=>by rw[U];exact h1))
   generalize d[k].1=s at *;have bH:IntKind.i64.wrap ((k:Int)+1)=(k:Int)+1:=xX _;have i1:(0:Int)<=(k:Int):=K5
   have i2:(k:Int)<(d.length:Int):=K5
   by_cases hs:ye s e.1=true
   case' pos =>
    have a0:gH s.toList e.1.toList=true:=hs;have I:=nI (aK hs);clear aK aG f U;go_wp2
    go_quiet (fail)
    go_wp2;exact⟨⟨k+1,by omega,by simp,I.out,eP E _⟩,by simp[intOf];omega⟩
   case' neg =>
    have a0:gH s.toList e.1.toList=false:=by simpa[ye] using hs
    have I:=nI (aG (by simpa using hs));clear aK aG f U hs;go_wp2
    go_quiet (fail)
    clear a0 aJ d0 i1 i2 bH hg;generalize (some (⟨g,o,none⟩:nN))=A2 at *
  case' neg =>
   have I:=nI (aP.out.trans (kp e.1 _ k K5 f (λh=>by omega)));have i2:¬ (k:Int)<(d.length:Int):=K5
   clear f;go_wp2
   go_quiet (fail)
   clear aJ i2
  all_goals
   have Z:((wr.drewN nq).alloc (Q9 #[] 36)).ownsRow wr.heap.size 36 2 (X1 wr.heap.size 0 0) 0 []:=World.ownsRow_lit (wr.drewN nq) #[] 0 (zG _) K7 rfl;have aY:k<=c2:=K5
   have bI:w2.heap.size<=wr.heap.size:=E.size;have aT:nH w2.heap.size w2 (wr.drewN nq):=eP E nq;have aC:nH w2.heap.size w2 ((wr.drewN nq).alloc (Q9 #[] 36)):=aT.trans ((vo (wr.drewN nq) (Q9 #[] 36)).mono bI);have aB:wr.heap.size<=((wr.drewN nq).alloc (Q9 #[] 36)).heap.size:=(vo (wr.drewN nq) (Q9 #[] 36)).size;obtain⟨W3,aE⟩:=Z9 ((wr.drewN nq).alloc (Q9 #[] 36));rw[<-aE] at Z aC aB;have a4:=(C.below aC).take k c2 hk aY (zG _);have a9:=nI aE.symm;clear aE aT br e0
   go_wp2_with (first
    |(refine zp rfl (Xc DI rfl rfl rfl aY) ?_)
    | (at_builtin;rw[a9.out];refine xg rfl DI _ _ rfl wr.heap.size _ 0 [] rfl Z _ _ k c2 _ rfl a4 (by unfold gP;omega) K5 aB ?_;intro v5 w5 aA aH))
   have bD:nH w2.heap.size w2 w5:=aC.trans (zo aH K5 (λr H=>by have:=zj Z r H;omega));have bJ:wr.heap.size<=w5.heap.size:=zT aB aH.size;have aS:nH w2.heap.size w2 w5.drew:=bD.drew;have b5:za w5.drew w.heap.size 36 (xO e).toArray:=b2.below aS b2.lt;have aA:w5.drew.ownsRow wr.heap.size 36 2 v5 (0+k) _:=aA.drew;have bL:w5.drew.heap.size=w5.heap.size:=rfl;clear a4 Z aH;refine zb.st (λW:World=>za W w.heap.size 36 (xO e).toArray) 99 ?_;generalize w5.drew=a at *;refine zb.q0 0 (v5) b5 ?_;simp only[zD,zB,nJ,zA,zF,zE];refine zb.t0 1 (Q0 (xO e).toArray) rfl b5 (λW G=>by exact Qb Rr G bE rfl rfl) ?_;refine zb.q0 4 (X1 A2 d.length c2) b5 ?_;refine zb.q0 5 (Y1 Q4 (k:Int)) b5 ?_;simp only[Z8];refine zb.t0 6 (.slice (uj A2 c2 k 2) (d.length-k) (c2-k)) rfl b5 (λW G=>by exact tf aO.out C DI rfl rfl rfl hk W) ?_;simp only[Z8];have aR:nH w2.heap.size w2 (a.alloc (Q9 (xO e).toArray 36)):=aS.trans ((vo a _).mono K5);have a5:=XN a 36 2 (xO e) rfl (vj [e]);have aM:(a.alloc (Q9 (xO e).toArray 36)).ownsRow wr.heap.size 36 2 v5 (0+k) _:=aA.alloc _;have b6:=b5.alloc (Q9 (xO e).toArray 36);have aQ:wr.heap.size<=(a.alloc (Q9 (xO e).toArray 36)).heap.size:=by rw[nG];omega
   refine zb.n 2 ?_;refine zb.opV (w':=a.alloc (Q9 (xO e).toArray 36)) (X1 a.heap.size 1 1) rfl rfl (Jf e rfl rfl) ⟨λ_=>b6,?_⟩;simp only[Z8];generalize a.alloc (Q9 (xO e).toArray 36)=W6 at *;refine zb.n 3 ?_;refine Jt rfl rfl DI (.tmp 33) (.tmp 35) rfl wr.heap.size v5 (0+k) _ rfl aM _ _ 1 1 (xO e) rfl a5 (by unfold gP;omega) K5 aQ ?_;intro v7 w7 aN aI;have Q:nH w2.heap.size w2 w7:=aR.trans (zo aI K5 (λr H=>by have:=zj aM r H;omega));have b7:za w7 w.heap.size 36 (xO e).toArray:=b2.below Q b2.lt;have bA:wr.heap.size<=w7.heap.size:=zT aQ aI.size;have a3:=(ua (i:=k) aO.out C hk).below Q;refine⟨λ_=>b7,?_⟩;simp only[Z8];refine zb.n 7 ?_;refine Jt rfl rfl DI (.tmp 36) (.tmp 39) rfl wr.heap.size v7 (0+k+1) _ rfl aN _ _ (d.length-k) (c2-k) _ rfl a3 (by unfold gP;omega) K5 bA ?_;intro v8 w8 a6 aW;have aD:nH w2.heap.size w2 w8:=Q.trans (zo aW K5 (λr H=>by have:=zj aN r H;omega));have b8:za w8 w.heap.size 36 (xO e).toArray:=b2.below aD b2.lt;refine⟨λ_=>b8,?_⟩;simp only[Z8];refine zb.n 8 ?_;refine zb.opV (w':=w8) v8 rfl rfl K8 ⟨λ_=>b8,?_⟩;simp only[Z8];refine zb.dn ?_;have F:w8.ownsRow w.heap.size 36 2 v8 pl.length (yP pl):=by
    refine yR (b:=wr.heap.size) ?_ K5;have aZ:pl=d.take k++e::d.drop k:=by rw[a7.out,I.out]
    have e1:pl.length=0+k+1+(d.length-k):=by rw[aZ,zH,zK,qB,qF];omega
    have e2:yP pl=[]++(yP d).take (k*2)++xO e++(yP d).drop (k*2):=by rw[aZ,Xu,Ox,Oy,zQ,qQ];rfl
    rw[e1,e2];exact a6
   have bC:nH w.heap.size w w8:=bB.trans (aD.mono bG);clear a6 aN aM aA a3 a5 aI aW b8 b7 b6 b5 aD Q aR;go_wp2;go_ret;exact⟨_,rfl,F,bC⟩
theorem Yc (e:Int)(w:World):nK Y3 7 #[Y1 Q4 e] w λx w'=>x=.returned (Y1 Q4 e)/\w=w':=by
 go_enter func7,ntmps7
 go_wp2;go_ret;exact⟨rfl,rfl⟩
structure pG (w:World)(K:xB)(p:Nat)(v:yj)(w':World):Prop where
 ok:K.Ok
 is:qx w K p v vv vv true (X1 none 0 0) w'
 nn:v.N<=3
 ii:v.i<=2
 sz:v.S.sz=1
 dd:v.D=λ_=>none
 yy:v.Y K 0=jh vv
theorem MT (w:World)(pg room:Int)(P:Nat)(E:yz 400 pg=true)(hP:(P:Int)=pg)(aE:P<=900)(H:2<=room/\room<=2000)(aI:(P:Int)<=room):nK Y3 16 #[Y1 Q4 pg,Y1 Q4 room] w λe w'=>∃K p v,e=Y0 (Q2 #[Y9 (K4 ⟨p,0,K3⟩),X3 true])/\(K.P=P/\K.pg=pg/\K.fr=400/\K.room=room)/\pG w K p v w':=by
 have G:=(vQ 400 pg).1 E;obtain⟨many,aQ⟩:∃many:Nat,many=3602+8*P:=⟨_,rfl⟩;have C:(many:Int)=2+9*400+8*pg:=K5
 have aG:many<=40000:=K5
 have aP:1<=many:=K5
 have aL:∀W,nK Y3 36 #[Q0 #[Y1 Q4 400,Y1 Q4 pg]] W λe w'=>e=Y0 (Y1 Q4 (many:Int))/\nH W.heap.size W w':=λW=>by rw[C];exact VW 400 pg W G.1 G.2
 obtain⟨W1,aF,g,b6⟩:=Qp w 74 #[Y1 Q4 400,Y1 Q4 pg];have aM:=nI aF.symm;have M:=nI C;have O:=nI E;have Q:=nI hP;clear aF aQ C E hP G
 go_enter func16,ntmps16
 go_wp2_with fail
 rw[aM.out];refine(aL _).mono ?_;rintro e w2 ⟨rfl,i⟩
 go_wp2_with fail
 refine(Nh _ many aP aG).mono ?_;rintro e w3 ⟨d,rfl,aN,aB,aA⟩;have A:=i.trans (aA.mono i.size);have Z:=g.trans (A.mono g.size);have U:=b6.below A b6.lt;have aO:=zT (g.trans (i.mono g.size)).size aN;have I:=Oo w3 d many 400 pg Z aO aB O.out M.out K5
 go_wp2_with (refine zp rfl (Qa JF U rfl rfl rfl) ?_)
 refine I.mono ?_;rintro e w4 ⟨f,l,rfl,aC,aS,aT⟩;clear I
 go_wp2_with fail
 refine(NN (P:=P) (room:=room) aC O.out M.out aG Q.out aE H aI).mono ?_;rintro e w5 (⟨_,p,a,r,v0,rfl,aH,n0,i0,s0,d0,y0⟩|⟨h,_⟩)
 rotate_left
 .exact absurd H h
 obtain⟨K,j⟩:∃K:xB,K=⟨d,f,l,a,r,many,P,400,pg,room⟩:=⟨_,rfl⟩;rw[<-j] at aH y0;have hK:K.Ok:=by rw[j];exact⟨Q.out,aE,H,aI⟩
 have aD:K.P=P/\K.pg=pg/\K.fr=400/\K.room=room:=by rw[j];exact⟨rfl,rfl,rfl,rfl⟩
 have aK:=nI aD;have aJ:=nI d0;clear j aD d0 aC aB g A aA i Z b6 U
 go_wp2_with (first
  |(go_at_call 7;refine(Yc _ _).mono ?_;rintro e wn ⟨rfl,rfl⟩)
  | (go_at_call 39;refine(FE aH).mono ?_;rintro e w6 ⟨rfl,aR,_⟩))
 exact nT (nj rfl _ _ _) rfl ⟨K,p,v0,rfl,aK.out,hK,aR,n0,i0,s0,aJ.out,y0⟩
def rY (e:qw):Bool:=decide (e.1.size<=81)&&decide (e.2.size<=400)
def xw (es:List qw)(e:qw):List qw:=if rY e=true then putE es e else es
def kW (l:List qw):List qw:=(l.take 60).foldl xw []
theorem Lf (l:List qw)(k:Nat)(h:k<l.length):(l.take (k+1)).foldl xw []=xw ((l.take k).foldl xw []) l[k]:=by
 rw[zU h,List.foldl_append];rfl
theorem Gm:∀(l es:List qw),(l.foldl xw es).length<=es.length+l.length
 | [],es=>by simp
 | a::l,es=>by
  have:=Gm l (xw es a);have h2:(xw es a).length<=es.length+1:=by
   unfold xw;split
   .exact ZZ _ _
   .omega
  simp only[List.foldl_cons,zK];omega
theorem Gl:∀(l es:List qw),zu es->zu (l.foldl xw es)
 | [],_,h=>h
 | a::l,es,h=>Gl l _ (by
  unfold xw;split
  .exact h.dG _
  .exact h)
theorem AE (l:List qw):zu (kW l):=Gl _ _ fx
theorem PA (l:List qw):(kW l).length<=60:=by
 have:=Gm (l.take 60) [];unfold kW;simp at this;omega
theorem Im (l:List qw)(k:Nat):((l.take k).foldl xw []).length<=k:=by
 have:=Gm (l.take k) [];simp at this;omega
theorem Nc {W W':World}{base n:Nat}{v:Value}{cs:Y8}(h:W.ownsRow base 36 2 v n cs)(i:EW W W'):W'.ownsRow base 36 2 v n cs:=by
 refine⟨h.1,?_⟩;rcases h.2 with h|⟨g,a,cur,h1,h2,e,f⟩
 .exact .inl h
 .exact .inr ⟨g,a,cur,h1,h2,i.2 g 36 cur e K7,f⟩
structure KM (w:World)(K:xB)(p t N:Nat)(es:List qw)(V:Value)(W:World):Prop where
 tr:∃v st mk,zy w K p t 0 v st vv true mk [] W/\xu K v.D st es/\v.N<=N
 own:W.ownsRow w.heap.size 36 2 V es.length (yP es)
theorem rq {K:xB}(f:450<=K.pg){D:Int->Option Y4}(a:D=λ_=>none):xu K D vv []:=by
 subst a;refine⟨⟨[],[],0,⟨by simp,by simp,rfl,(λp b e=>by cases e),by simp,rfl,rfl,?_⟩,rfl,.inl ⟨rfl,rfl,rfl⟩⟩,fx⟩;show (1:Int)<=K.pg
 omega
theorem Ho (w:World)(l:List qw)(A:Y5)(c:Nat)(aF:yl w w.heap.size 2 A l.length c (yP l)):nK Y3 5 #[X1 A l.length c] w λe w'=>∃K p t V,e=Y0 (Q2 #[Y9 (K4 ⟨t,0,K3⟩),V,X3 true])/\K.Ok/\450<=K.pg/\KM w K p t 60000 (kW l) V w':=by
 have aK:yz 400 500=true:=K7
 go_enter func5,ntmps5
 go_wp2_with fail
 refine(MT w 500 520 500 aK rfl K7 K7 K7).mono ?_;rintro e w1 ⟨K,p,v0,rfl,⟨aV,a4,_,aW⟩,G⟩;have O:=G.ok;have aJ:=G.is;have m0:=G.nn;have aD:xu K v0.D vv []:=rq K5 G.dd;clear G aK aW aV
 go_wp2_with fail
 refine(Sl aJ (vg.nil _ _ _ _) K7 0 0 rfl).mono ?_;rintro e w2 ⟨t,rfl,h2,_⟩;replace h2:zy w K p t 0 v0 vv vv true (X1 none 0 0) [] w2:=h2;have M2:KM w K p t 10 [] (X1 none 0 0) w2:=⟨⟨v0,vv,_,h2,aD,by omega⟩,gU _ _ _ _⟩;clear aJ aD h2
 go_wp2_with (first
  | (go_at_call 7;refine(Yc _ _).mono ?_;rintro e wn ⟨rfl,rfl⟩))
 go_loopw [9,10] (λV i wr=>∃(k:Nat),k<=l.length/\k<=60/\i=Y1 Q4 k/\KM w K p t (10+800*k) ((l.take k).foldl xw []) V wr) (λ_ i _=>l.length-(intOf i).toNat)
 case atStart=>exact⟨0,by omega,by omega,rfl,M2⟩
 case round =>
  obtain⟨k,hk,a8,rfl,hM⟩:=hrel;obtain⟨⟨v,st,mk,h,C,hN⟩,E⟩:=hM;have a0:nH w.heap.size w wr:=h.pa.ca.cs.fh.up;have a7:(0:Int)<=(k:Int):=K5
  have a9:IntKind.i64.wrap ((k:Int)+1)=(k:Int)+1:=xX _
  by_cases aH:k<l.length
  .have i2:(k:Int)<(l.length:Int):=K5
   by_cases a3:k<60
   .have i3:(k:Int)<60:=K5
    obtain⟨g,o,rfl,hg,_⟩:=aF.pO K5;have U:=Vk aF rfl k aH;have Z:wr.rangeAt g (o+k*2) (xO l[k]):=λj v Q=>(a0.cell (p:=⟨g,_,K3⟩) hg).trans (U j v Q)
    have aI:=Lf l k aH;have a6:=Im l k;have aY:zu ((l.take k).foldl xw []):=Gl _ _ fx;generalize l[k]=x at *;generalize (l.take k).foldl xw []=es at *;obtain⟨ky,u⟩:=x;have d0:wr.cell? ⟨g,o+k*2,K3⟩=some (X9 ky):=Z 0 _ rfl;have d1:wr.cell? ⟨g,o+k*2+1,K3⟩=some (X9 u):=Z 1 _ rfl;have I:=nI aI;have aS:=nI U;clear aI U
    by_cases aG:ky.size<=81
    .have aX:¬ (81:Int)<(ky.size:Int):=K5
     by_cases aM:u.size<=400
     .have aZ:¬ (400:Int)<(u.size:Int):=K5
      go_wp2_with fail
      have aE:=h.grow (nF _ wr).drew;have HP:=BK aE O K5 K7 K5 C K5 ky u aG aM;have a:wr.drew.cell? ⟨g,o+k*2,K3⟩=some (X9 ky)/\wr.drew.cell? ⟨g,o+k*2+1,K3⟩=some (X9 u):=⟨d0,d1⟩;have aR:=E.drew;refine zb.st (λW:World=>W.cell? ⟨g,o+k*2,K3⟩=some (X9 ky)/\W.cell? ⟨g,o+k*2+1,K3⟩=some (X9 u)) 99 ?_;clear h E aE;generalize wr.drew=wd at *;refine zb.q0 0 (Y9 (K4 ⟨t,0,K3⟩)) a ?_;refine zb.q0 1 (X1 (K4 ⟨g,o,K3⟩) l.length c) a ?_;refine zb.q0 2 (Y1 Q4 (k:Int)) a ?_;refine zb.q0 3 (Y9 (K4 ⟨g,o+k*2,K3⟩)) a ?_;refine zb.q0 4 (Y9 (K4 ⟨g,o+k*2,K3⟩)) a ?_;refine zb.q0 5 (X9 ky) a ?_;refine zb.q0 6 (X1 (K4 ⟨g,o,K3⟩) l.length c) a ?_;refine zb.q0 7 (Y1 Q4 (k:Int)) a ?_;refine zb.q0 8 (Y9 (K4 ⟨g,o+k*2,K3⟩)) a ?_;refine zb.q0 9 (Y9 (K4 ⟨g,o+k*2+1,K3⟩)) a ?_;refine zb.q0 10 (X9 u) a ?_;simp only[Z8];refine zb.n 11 ?_;refine zb.oC 18 #[.tmp 53,.tmp 58,.tmp 63] #[23,9,9] #[Y9 (K4 ⟨t,0,K3⟩),X9 ky,X9 u] (HP.mono ?_) (zb.eo func18);rintro e w5 ⟨rfl,v5,a2,a1,M,aB,a5,aC⟩;have aN:nH w.heap.size w w5:=M.pa.ca.cs.fh.up;have aA:w5.rangeAt g (o+k*2) (xO (ky,u)):=λj v Q=>(aN.cell (p:=⟨g,_,K3⟩) hg).trans (aS.out j v Q)
      have H:w5.cell? ⟨g,o+k*2,K3⟩=some (X9 ky)/\w5.cell? ⟨g,o+k*2+1,K3⟩=some (X9 u):=⟨aA 0 _ rfl,aA 1 _ rfl⟩;have aP:=Nc aR aC;refine⟨_,rfl,λ_=>H,?_⟩;simp only[Z8];refine zb.n 12 ?_;refine zb.oC 7 #[.tmp 64] #[27] #[Y1 Q4 0] ((Yc _ _).mono ?_) (zb.eo func7);rintro e w6 ⟨rfl,rfl⟩;refine⟨_,rfl,λ_=>H,?_⟩;simp only[Z8];refine zb.n 13 ?_;refine zb.opV (w':=w5) (X3 false) rfl rfl K8 ⟨λ_=>H,?_⟩;simp only[Z8];refine zb.dn ?_;obtain⟨A5,c5,rfl,aO⟩:=qq aP (vj es);have HQ:=Rv w5 es A5 c5 _ aO (zG _) K5 aY (ky,u);have aL:xw es (ky,u)=putE es (ky,u):=by unfold xw rY;rw[if_pos (by simp[aG,aM])]
      have aT:=nI aL;have s5:=aN.size;clear aL HP a H d0 d1 Z C aO aP aR aC
      go_wp2_with (first
       | (refine zp rfl (yQ Rr aA rfl rfl rfl) ?_))
      refine HQ.mono ?_;rintro e w7 ⟨V7,rfl,aQ,aU⟩;have F:KM w K p t (10+800*(k+1)) ((l.take (k+1)).foldl xw []) V7 w7:=by rw[I.out,aT.out];exact⟨⟨v5,a2,a1,M.grow aU,aB,by omega⟩,yR aQ s5⟩
      clear HQ M aB aQ
      go_wp2_with fail
      exact⟨⟨k+1,by omega,by omega,by simp,F⟩,by simp[intOf];omega⟩
     .have aZ:(400:Int)<(u.size:Int):=K5
      go_wp2;have F:KM w K p t (10+800*(k+1)) ((l.take (k+1)).foldl xw []) u9 wr:=by rw[I.out,show xw es (ky,u)=es from if_neg (by unfold rY;simp;omega)];exact⟨⟨v,st,mk,h,C,by omega⟩,E⟩
      exact⟨⟨k+1,by omega,by omega,by simp,F⟩,by simp[intOf];omega⟩
    .have aX:(81:Int)<(ky.size:Int):=K5
     go_wp2;have F:KM w K p t (10+800*(k+1)) ((l.take (k+1)).foldl xw []) u9 wr:=by rw[I.out,show xw es (ky,u)=es from if_neg (by unfold rY;simp;omega)];exact⟨⟨v,st,mk,h,C,by omega⟩,E⟩
     exact⟨⟨k+1,by omega,by omega,by simp,F⟩,by simp[intOf];omega⟩
   .have i3:¬ (k:Int)<60:=K5
    go_wp2;refine nT (Ys rfl (ve 2 rfl) (ve 3 rfl) (ve 4 rfl)) rfl ⟨K,p,t,u9,rfl,O,by omega,⟨v,st,mk,h,?_,by omega⟩,?_⟩
    .rw[show kW l=(l.take k).foldl xw [] from by unfold kW;rw[show k=60 from by omega]];exact C
    .rw[show kW l=(l.take k).foldl xw [] from by unfold kW;rw[show k=60 from by omega]];exact E
  .have i2:¬ (k:Int)<(l.length:Int):=K5
   go_wp2;refine nT (Ys rfl (ve 2 rfl) (ve 3 rfl) (ve 4 rfl)) rfl ⟨K,p,t,u9,rfl,O,by omega,⟨v,st,mk,h,?_,by omega⟩,?_⟩
   .rw[show kW l=(l.take k).foldl xw [] from by unfold kW;rw[qE (show l.length<=60 by omega),qE (show l.length<=k by omega)]];exact C
   .rw[show kW l=(l.take k).foldl xw [] from by unfold kW;rw[qE (show l.length<=60 by omega),qE (show l.length<=k by omega)]];exact E
theorem Bl {Q:qw->Prop}{l:List qw}{e:qw}(hl:∀x∈l,Q x)(f:Q e):∀x∈putE l e,Q x:=λx a=>by
 unfold putE at a;rcases zZ.1 a with a|a
 .exact hl x (yD.1 a).1
 .rcases qN.1 a with rfl|a
  .exact f
  .exact hl x (yD.1 a).1
theorem Mf:∀(l es:List qw),(∀x∈es,x.1.size<=81/\x.2.size<=400)->∀x∈l.foldl xw es,x.1.size<=81/\x.2.size<=400
 | [],_,h=>h
 | a::l,es,h=>Mf l _ (by
  unfold xw;split
  .rename_i ho
   unfold rY at ho;simp at ho;exact Bl (Q:=λx=>x.1.size<=81/\x.2.size<=400) h ho
  .exact h)
theorem Mq (l:List qw):∀x∈kW l,x.1.size<=81/\x.2.size<=400:=Mf _ _ (λx a=>by cases a)
structure YS (w:World)(K:xB)(p t c:Nat)(es:List qw)(V:Value)(r:Option qw)(N:Nat)(W:World):Prop where
 cur:∃v st mk,QZ w K p t c v st vv true mk [] es (keyOf r) r.isSome W/\v.N<=N
 own:W.ownsRow w.heap.size 36 2 V es.length (yP es)
 ok:K.Ok
 so:zu es
 ks:∀x∈es,x.1.size<=81/\x.2.size<=400
section
variable {w W W':World}{K:xB}{p t c N:Nat}{es:List qw}{V:Value}{r r':Option qw}
theorem YS.grow (h:YS w K p t c es V r N W)(hB:nH W.heap.size W W'):YS w K p t c es V r N W':=by
 obtain⟨⟨v,st,mk,hc,hn⟩,f,a,hs,e⟩:=h;exact⟨⟨v,st,mk,hc.grow hB,hn⟩,qn f hB,a,hs,e⟩
theorem Tt {base n:Nat}{cs:Y8}{T:nS}{f:Y7}(h:W.ownsRow base 36 2 V n cs)(hc:za W c T f)(C:T≠36)(A:vA c W W'):W'.ownsRow base 36 2 V n cs:=by
 refine⟨h.1,?_⟩;rcases h.2 with h|⟨g,i,cur,h1,h2,a,j⟩
 .exact .inl h
 .exact .inr ⟨g,i,cur,h1,h2,A.blk a (λe=>by subst e;exact zh a hc (λe=>C e.symm) rfl) K7,j⟩
theorem Xy {v:yj}{st:qj}{mk:Value}{ky:ByteArray}{bb:Bool}(hc:QZ w K p t c v st vv true mk [] es ky bb W)(C:v.N<=N)(j:W.ownsRow w.heap.size 36 2 V es.length (yP es))(g:K.Ok)(hs:zu es)(i:∀x∈es,x.1.size<=81/\x.2.size<=400)
  (e:jf w K p t c v st vv true mk [] W r' W'):YS w K p t c es V r' (N+200) W':=by
 obtain⟨⟨v',A,a⟩,f,h⟩:=e;exact⟨⟨v',st,mk,⟨A,by rw[a.dd];exact hc.is,f,hc.ge,hc.le⟩,by have:=a.nn;omega⟩,Tt j hc.cu K7 h,g,hs,i⟩
theorem SC {l:List qw}(a:K.Ok)(h:KM w K p t 60000 (kW l) V W):nK Y3 6 #[Y9 t] W λe w'=>∃c,e=Y0 (Q2 #[Y9 (K4 ⟨c,0,K3⟩),Y1 Q4 0])/\YS w K p t c (kW l) V none 60000 w':=by
 obtain⟨⟨v,st,mk,ht,hi,hn⟩,f⟩:=h;refine(Ge ht).mono ?_;rintro e w' ⟨rfl,hc,hB⟩;exact⟨_,rfl,⟨v,st,mk,⟨ht.grow hB,hi,hc,ht.up,by have:=PA l;omega⟩,hn⟩,qn f hB,a,AE l,Mq l⟩
theorem sH (h:YS w K p t c es V r N W)(A:N<=700000):nK Y3 12 #[Y9 c] W λe w'=>e=Y0 (Q2 #[.bool (if es.length=0 then none else es[es.length-1]?).isSome,Y1 Q4 0])/\YS w K p t c es V (if es.length=0 then none else es[es.length-1]?) (N+200) w':=by
 obtain⟨⟨v,st,mk,hc,hn⟩,j,a,hs,i⟩:=h;have H:=Sg hc a K5;rw[NT] at H;refine H.mono ?_;rintro e w' ⟨g,f⟩;exact⟨g,Xy hc hn j a hs i f⟩
theorem tN {key:ByteArray}(h:YS w K p t c es V r N W)(C:N<=700000)(i:key.size<=81):nK Y3 21 #[Y9 c,X9 key] W λe w'=>e=Y0 (Q2 #[.bool (pick true (λe => !ye e.1 key) es).isSome,Y1 Q4 0])/\YS w K p t c es V (pick true (λe => !ye e.1 key) es) (N+200) w':=by
 obtain⟨⟨v,st,mk,hc,hn⟩,A,a,hs,j⟩:=h;refine(Se hc a K5 i).mono ?_;rintro e w' ⟨g,f⟩;exact⟨g,Xy hc hn A a hs j f⟩
theorem sG {n:Nat}(h:YS w K p t c es V (es[n]?) N W)(E:N<=700000)(hn:n<es.length):nK Y3 11 #[Y9 c] W λe w'=>e=Y0 (Q2 #[.bool (es[n+1]?).isSome,Y1 Q4 0])/\YS w K p t c es V (es[n+1]?) (N+200) w':=by
 obtain⟨⟨v,st,mk,hc,A⟩,j,a,hs,f⟩:=h;have C:=(f es[n] (qJ _)).1;rw[zM hn] at hc;have H:=UC hc a K5 (by show es[n].1.size<=100000;omega);have e:keyOf (some es[n])=es[n].1:=rfl;rw[e,Mm hs n hn] at H;refine H.mono ?_;rintro e w' ⟨i,g⟩;exact⟨i,Xy hc A j a hs f g⟩
theorem tO {n:Nat}(h:YS w K p t c es V (es[n]?) N W)(C:N<=700000)(hn:n<es.length):nK Y3 10 #[Y9 c] W λe w'=>e=Y0 (Q2 #[.bool (if n=0 then none else es[n-1]?).isSome,Y1 Q4 0])/\YS w K p t c es V (if n=0 then none else es[n-1]?) (N+200) w':=by
 obtain⟨⟨v,st,mk,hc,A⟩,j,a,hs,i⟩:=h;rw[zM hn] at hc;have H:=Sf hc a K5;have e:keyOf (some es[n])=es[n].1:=rfl;rw[e,NQ hs n hn] at H;refine H.mono ?_;rintro e w' ⟨g,f⟩;exact⟨g,Xy hc A j a hs i f⟩
theorem sI (h:YS w K p t c es V r N W):nK Y3 9 #[.pointer (K4 ⟨c,0,K3⟩)] W λe w'=>e=Y0 (.tuple #[.string (keyOf r),.bool r.isSome])/\YS w K p t c es V r N w':=by
 have a:=h;obtain⟨⟨v,st,mk,hc,A⟩,j,g,hs,i⟩:=h;refine(LO hc.cu).mono ?_;rintro e w' ⟨f,hB⟩;exact⟨f,a.grow hB⟩
end
def DH:List qw:=[(⟨#[97]⟩,⟨#[49]⟩),(⟨#[99]⟩,⟨#[50]⟩)]
theorem AB:kW DH=DH:=by
 unfold kW DH xw rY putE;decide +kernel
theorem ru:pick true (λe => !ye e.1 ⟨#[98]⟩) DH=DH[1]?:=by decide +kernel
theorem tq:pick true (λe => !ye e.1 ⟨#[100]⟩) DH=none:=by decide +kernel
theorem SP {ρ:nO->Value}{w:World}{o:Oper}{x y:nO}(m n:qw)(a:o.op=.buildSlice 22 2 #[(0,x),(1,y)])(h1:ρ x=Q0 (xO m).toArray)(h2:ρ y=Q0 (xO n).toArray):(nQ ρ o).run Y3 w=.ok (.value (X1 w.heap.size 2 2)) (w.alloc (Q9 (yP [m,n]).toArray 36)):=by
 unfold xO yP at *;simp[nQ,a,h1,h2,go_sem,nM]
 try unfold xO
 try simp
theorem JQ (w:World):nK Y3 13 #[] w λe w'=>e=Y0 (X3 true)/\nH w.heap.size w w':=by
 obtain⟨f,aB,aA,b1⟩:=Qp w 36 (yP DH).toArray
 have aC:yl f f.heap.size 2 (K4 ⟨w.heap.size,0,K3⟩) 2 2 (yP DH):=⟨zG _,by decide,(λe=>by cases e),rfl,vj _,λ_=>⟨w.heap.size,0,rfl,b1.lt,λj u hj=>by
  rw[qA,b1.cell]
  simpa using hj⟩⟩
 have C:=Ho f DH (K4 ⟨w.heap.size,0,K3⟩) 2 aC;have aF:=aA.size;rw[AB] at C;have aD:=nI aB.symm;clear aB aC b1
 go_enter func13,ntmps13
 go_wp2_with (first
  | (refine zp rfl (SP (⟨#[97]⟩,⟨#[49]⟩) (⟨#[99]⟩,⟨#[50]⟩) rfl rfl rfl) ?_;rw[show w.alloc (Q9 (yP [(⟨#[97]⟩,⟨#[49]⟩),(⟨#[99]⟩,⟨#[50]⟩)]).toArray 36)=f from aD.out]))
 refine C.mono ?_;rintro e w2 ⟨K,p,t,V,rfl,hK,aG,h2⟩;have E:=SC (l:=DH) hK (by rw[AB];exact h2);rw[AB] at E;clear h2 C
 go_wp2_with (first
  |(go_at_call 7;refine(Yc _ _).mono ?_;rintro e wn ⟨rfl,rfl⟩)
  | (go_at_call 6;refine E.mono ?_;rintro e w3 ⟨c,rfl,O⟩;clear E;have a:=tN (key:=⟨#[98]⟩) O K5 K7;rw[ru] at a;rw[show (DH[1]?).isSome=true from rfl] at a))
 refine a.mono ?_;rintro e w4 ⟨rfl,Q⟩;clear a O;have h:=sI Q;rw[show keyOf (DH[1]?)=⟨#[99]⟩ from rfl] at h
 go_wp2_with fail
 refine h.mono ?_;rintro e w5 ⟨rfl,U⟩;clear h Q;have I:=sG (n:=1) U K5 K7;rw[show (DH[1+1]?).isSome=false from rfl] at I
 go_wp2_with fail
 refine I.mono ?_;rintro e w6 ⟨rfl,Z⟩;clear I U;have A:=sH Z K5;rw[show (if DH.length=0 then none else DH[DH.length-1]?)=DH[1]? from rfl,show (DH[1]?).isSome=true from rfl] at A
 go_wp2_with fail
 refine A.mono ?_;rintro e w7 ⟨rfl,h7⟩;clear A Z;have G:=tO (n:=1) h7 K5 K7;rw[show (if 1=0 then none else DH[1-1]?)=DH[0]? from rfl,show (DH[0]?).isSome=true from rfl] at G
 go_wp2_with fail
 refine G.mono ?_;rintro e w8 ⟨rfl,h8⟩;clear G h7;have i:=sI h8;rw[show keyOf (DH[0]?)=⟨#[97]⟩ from rfl] at i
 go_wp2_with fail
 refine i.mono ?_;rintro e w9 ⟨rfl,h9⟩;clear i h8;have H:=tO (n:=0) h9 K5 K7;rw[show (if 0=0 then none else DH[0-1]?)=none from rfl] at H
 go_wp2_with fail
 refine H.mono ?_;rintro e aH ⟨rfl,M⟩;clear H h9;have g:=tN (key:=⟨#[100]⟩) M K5 K7;rw[tq] at g
 go_wp2_with fail
 refine g.mono ?_;rintro e w11 ⟨rfl,aE⟩;clear g M;obtain⟨⟨v,st,mk,hc,_⟩,_⟩:=aE;have hB:nH w.heap.size w w11:=aA.trans (hc.tr.pa.ca.cs.fh.up.mono aF);clear hc;go_wp2;exact nT (results_tmp rfl _ _ _) rfl ⟨rfl,hB⟩
end
end Go.Proofs.YtohmkffoojdahaaGreat
