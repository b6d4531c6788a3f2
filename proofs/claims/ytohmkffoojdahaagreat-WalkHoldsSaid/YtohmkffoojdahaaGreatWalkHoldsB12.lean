/- Texts that the proof of WalkHolds leans on, part 12. -/
import Derived.Test.YtohmkffoojdahaaGreatWalkHoldsB11
open List renaming replicate->zP
open Nat renaming reduceAdd->yJ,reduceSub->yK
set_option linter.unusedVariables false
set_option linter.unusedSimpArgs false
set_option maxRecDepth 100000
set_option maxHeartbeats 8000000

open ByteArray renaming empty->oR
open Go renaming Calls->pr,Addr->px,Operand->py,execOp->oB,TypeId->oD,Oper->oM,wpListIn->nH
open Go.Act renaming put->pj
open Go.Ending renaming returned->mc
open Go.Oper renaming about->mg
open Go.RowKit renaming Below->ph
open Go.Value renaming int->mG
open Go.World renaming setRow->oe
open List renaming perm_iff_count->nJ,count_append->nU,count_cons->gN
open Nat renaming lt_irrefl->nN
open Go.Proofs.Tryz renaming prog->Y3
open Go.Proofs.Tryz
namespace Go.Proofs.YtohmkffoojdahaaGreat
section
open Go Go.RowKit vA
theorem MR (w:World)(x:yo)(Ac:Y5)(cc:Nat)(Ak:Y5)(ck:Nat)(Ai:Y5)(ci:Nat)(h:XH w w.heap.size x Ac cc Ak ck Ai ci)(hl:x.cells.length<=1000)(j:x.keys.length<=1000)(q:x.kids.length<=1001)(i:yj x)(r:512<(qb x).length):pr Y3 84 #[.agg (zu x Ac cc Ak ck Ai ci)] w λe w'=>e=Y0 (.bool false)/\ph w.heap.size w w':=by
 have f:=za.new w 69 (zu x Ac cc Ak ck Ai ci);have hB:ph w.heap.size w (w.alloc (.cells (zu x Ac cc Ak ck Ai ci) 69)):=(pf _ w).alloc (zG _) _;have c:=Tn _ x Ac cc Ak ck Ai ci (h.grow hB) hl j q i;generalize qb x=lb at *;unfold zu at *
 go_enter func84,ntmps84
 go_wp2_with (first
  | (refine xA zj f ?_)
  | (go_at_call 136;refine c.mono ?_;rintro e s ⟨rfl,g⟩))
 go_ret;refine⟨?_,hB.trans (g.mono hB.size)⟩;have e:decide ((lb.length:Int)<=512)=false:=decide_eq_false (by omega);show mc (.bool (decide ((lb.length:Int)<=512)))=_
 rw[e]
section
variable {W0 W W':World}{K:xH}{p t:Nat}{k:Int}{v v':yz}{st last st' last':qm}{mk mk':Value}{ms:List vK}{x y:yo}{Ac Ak Ai Bc Bk Bi:Y5}{cc ck ci bc bk bi:Nat}{used free:List Int}
theorem SA (w:World)(x:yo)(Ac:Y5)(cc:Nat)(Ak:Y5)(ck:Nat)(Ai:Y5)(ci:Nat)(h:XH w w.heap.size x Ac cc Ak ck Ai ci)(hl:x.cells.length<=1000)(f:x.keys.length<=1000)(g:x.kids.length<=1001)(e:yj x)(hs:512<(qb x).length):pr Y3 137 #[.agg (zu x Ac cc Ak ck Ai ci)] w (Yc w x):=by
 have c:=XX e hs;cases hf:x.leaf with
 | true=>exact Pd w x Ac cc Ak ck Ai ci h hl f g e hf hs (by unfold vQ at c;rwa [hf,if_pos rfl] at c)
 | false=>exact SB w x Ac cc Ak ck Ai ci h hl f g e hf hs (by unfold vQ at c;rwa [hf,if_neg (by simp)] at c)
def jb (x:yo)(i:Nat)(s:ByteArray)(q:Int):yo:=⟨false,[],x.keys.take i++s::x.keys.drop i,x.kids.take (i+1)++q::x.kids.drop (i+1)⟩
structure uh (K:xH)(v v':yz)(st':qm)(used free':List Int)(m q:Int)(y:yo)(j:Nat):Prop where
 half:kn (qh y) (xj y) j
 nq:q∉used
 pl:xh K v'.D st' (q::used) free'
 nn:v'.N<=v.N+6
 dd:v'.D=λa=>if a=q then some (vE (yT y j)) else if a=m then some (vE (xG y j)) else v.D a
theorem JF (h:qe W0 K p t k v st last true mk ms W)(hK:K.Ok)(I:v.N<=690000)(hp:xh K v.D st used free)(hr:(used.length:Int)+1<K.pg)(hx:yf W K p v x Ac cc Ak ck Ai ci)(hy:yf W K p v y Bc bc Bk bk Bi bi)(i:Nat)(m:Int)(hm:x.kids[i]?=some m)(hu:m∈used)
  (fF:x.keys.length<=1000) (fG:x.kids.length<=1001) (hi:i<=x.keys.length) (hl:y.cells.length<=1000) (aO:y.keys.length<=1000) (c9:y.kids.length<=1001) (hR:yj y) (hs:512<(qb y).length)
  (eP:∀j,kn (qh y) (xj y) j->(qb (xG y j)).length<=512/\(qb (yT y j)).length<=512/\0<j/\j<=xj y) :
  pr Y3 85 #[.agg #[.pointer (some ⟨t,0,none⟩)],.agg (zu x Ac cc Ak ck Ai ci),.int .i64 (i:Int),.agg (zu y Bc bc Bk bk Bi bi)] W λe w'=>∃j q v' st' bV Ck nk Ci ni,uh K v v' st' used bV m q y j/\st'.roots=st.roots /\
   e=Y0 (.agg (zu (jb x i (yn y j) q) none 0 Ck nk Ci ni))/\yf w' K p v' (jb x i (yn y j) q) none 0 Ck nk Ci ni/\qe W0 K p t k v' st' last true mk ms w'/\qa K W v v'/\ze (qp K p v) W w'/\YG W.heap.size (jb x i (yn y j) q) none Ck Ci:=by
 have fE:=h.up;have eX:=hK.hP;obtain⟨W1,b0,aK,b4,b5,b7,b8,e7⟩:=Ba W #[.pointer (some ⟨t,0,none⟩)] (zu x Ac cc Ak ck Ai ci) (zu y Bc bc Bk bk Bi bi) #[.bool false,.slice none 0 0,.slice none 0 0,.slice none 0 0];have h1:=h.grow aK;have cB:=hx.grow aK;have cF:=hy.grow aK;have HF:=MR W1 y Bc bc Bk bk Bi bi cF.is hl aO c9 hR hs;have bB:∀w2,ph W1.heap.size W1 w2->_:=λw2 aB=>SA w2 y Bc bc Bk bk Bi bi (cF.grow aB).is hl aO c9 hR hs
 have eU:=h1.rD b4 (by decide);have eV:=h1.rD b5 (by decide);have eW:=h1.rD b8 (by decide);obtain⟨g,o,eA,hg,hc,e5⟩:=cB.sU hm;have eY:(i:Int)<(x.kids.length:Int):=by omega
 have eZ:(0:Int)<=(i:Int):=by omega
 obtain⟨X,a5⟩:=Z9 (zu x Ac cc Ak ck Ai ci);obtain⟨Y,b2⟩:=Z9 (zu y Bc bc Bk bk Bi bi);have c5:Y.size=4:=by rw[b2];rfl
 have c2:X[2]?=some (.slice Ak x.keys.length ck):=by rw[a5];rfl
 have a0:X[3]?=some (.slice Ai x.kids.length ci):=by rw[a5];rfl
 simp only[<-a5,<-b2] at HF bB b5 b7 b0 ⊢;have d9:=pk b0.symm;clear b0 hx hy a5 b2
 go_enter func85,ntmps85
 go_wp2_with (first
  | (rw[d9.out];refine yV rfl 69 (.tmp 7) rfl (W.heap.size+1+1) rfl zj b7 c5 ?_))
 refine HF.mono ?_;rintro e w2 ⟨rfl,aB⟩;have cQ:=b7.below aB b7.lt;have h2:=h1.grow aB;have bA:=bB w2 aB;unfold Yc at bA;clear HF bB b7
 go_wp2_with (first
  | (refine yV rfl 69 (.tmp 7) rfl (W.heap.size+1+1) rfl zj cQ c5 ?_))
 refine bA.mono ?_;rintro e G ⟨j,Lc,lc,Lk,lk,Li,li,Rc,rc,Rk,rk,Ri,ri,bX,dB,rfl,nL,nR,bW,fL,fR⟩;obtain⟨eF,eG,eQ,c7⟩:=eP j bX;have NL:=yf.new h2 nL fL;have NR:=yf.new h2 nR fR
 have eK:yj (xG y j):=LS hR eQ (by
  have:=Ql hR;unfold xj vQ xM at *
  cases hx:y.leaf<;>simp[hx] at dB c7 ⊢<;>omega)
 have eL:yj (yT y j):=SN hR c7 dB;obtain⟨l1,l2,l3⟩:(xG y j).cells.length<=1000/\(xG y j).keys.length<=1000/\(xG y j).kids.length<=1001:=by unfold xG;split<;>simp<;>omega
 obtain⟨r1,r2,r3⟩:(yT y j).cells.length<=1000/\(yT y j).keys.length<=1000/\(yT y j).kids.length<=1001:=by unfold yT;split<;>simp<;>omega
 obtain⟨L,aY⟩:=Z9 (zu (xG y j) Lc lc Lk lk Li li);obtain⟨R,aZ⟩:=Z9 (zu (yT y j) Rc rc Rk rk Ri ri);have cX:L.size=4:=by rw[aY];rfl
 have cZ:R.size=4:=by rw[aZ];rfl
 have eI:∀u∈L.toList,u.oneCell'=true:=by rw[aY];exact zy rfl rfl rfl rfl
 have eJ:∀u∈R.toList,u.oneCell'=true:=by rw[aZ];exact zy rfl rfl rfl rfl
 obtain⟨W4,c1,cW,bT,bQ⟩:=Bp G 69 #[.bool false,.slice none 0 0,.slice none 0 0,.slice none 0 0] 69 #[.bool false,.slice none 0 0,.slice none 0 0,.slice none 0 0];have cT:=bT.setRow L;have cS:=bQ.rB (k:=G.heap.size) (by omega) L;have aW:=cT.rB (k:=G.heap.size+1) (by omega) R;have aV:=cS.setRow R;have aL:ph G.heap.size G ((W4.setRow G.heap.size L).setRow (G.heap.size+1) R):=zf (zf cW (zG _) L) (Nat.le_succ _) R;obtain⟨W5,b1⟩:=Z9 ((W4.setRow G.heap.size L).setRow (G.heap.size+1) R);rw[<-b1] at aW aV aL;have eH:=bW.trans (aL.mono bW.size);have aD:=aB.trans (eH.mono aB.size);have h5:=h1.grow aD;have cI:=NL.grow aL;have cK:=NR.grow aL;have d2:=cB.grow aD;have bF:=b4.below aD b4.lt;have cP:=b5.below aD b5.lt;have cR:=b8.below aD b8.lt;have d7:=h5.rD aW (by decide);have d6:=h5.rD aV (by decide);have HM:=YR h5 hK (by omega) hp hr;have eD:=bF.boxed;have s3:=aB.size;have s4:=bW.size;have cG:=pk aY;have cH:=pk aZ;have eB:=pk c1.symm;have eC:=pk b1.symm;clear c1 b1 aY aZ bA cW cT cS NL NR nL nR fL fR cQ h2 cB cF b4 b5 b8 h hc;simp only[<-cG.out,<-cH.out]
 go_wp2_with (first
  | (rw[eB.out];refine vW zj bT cX eI ?_)
  | (refine vW (g:=(G.heap.size+1)) zj (bQ.rB (k:=G.heap.size) (by omega) L) cZ eJ ?_;rw[eC.out])
  | (go_at_call 51;refine(jx _).mono ?_;rintro e fI ⟨⟨_,rfl⟩,rfl⟩)
  | (go_at_call 49;refine HM.mono ?_;rintro e w6 ⟨q,v6,a8,free6,rfl,h6,aM,aJ,eR,eS,aP,S⟩))
 have eM:=aJ.loose hK;have dA:=aJ.rP m (by simp[hu]);have d0:=aJ.rP q (by simp);have fH:=aJ.sz;have bG:=S.blk bF eU;have bH:=S.blk cP eV;have bK:=S.blk cR eW;have bU:=S.blk aW d7;have bR:=S.blk aV d6;have cJ:=cI.rH S aP;have cL:=cK.rH S aP;have cC:=d2.rH S aP;have H:ph w6.heap.size w6 w6.drew:=(pf _ _).drew;have aC:=h6.grow H;have bC:=jA aC hK (by have:=aM.nn;omega) m ⟨dA.1,dA.2⟩ (by omega) eM (xG y j) Lc lc Lk lk Li li (cJ.grow H).is l1 l2 l3 eK eF;have c6:w6.drew.cell? ⟨g,o+i,none⟩=some (.int .i64 m):=by
  obtain⟨g',o',e',_,b3,_⟩:=(cC.grow H).sU hm;rw[eA] at e';injection e' with e'
  injection e' with c V
  subst c V;exact b3
 have aR:=bG.below H bG.lt;have aT:=bH.below H bH.lt;have bL:=bK.below H bK.lt;have aX:=bU.below H bU.lt;have bS:=bR.below H bR.lt;have cM:=cL.grow H;have d3:=cC.grow H;have n4:=aC.rD aR (by decide);have n5:=aC.rD aT (by decide);have n8:=aC.rD bL (by decide);have n9:=aC.rD aX (by decide);have d5:=aC.rD bS (by decide);have r:za w6.drew W.heap.size 92 #[.pointer (some ⟨t,0,none⟩)]/\w6.drew.cell? ⟨W.heap.size+1,3,none⟩=some (.slice (some ⟨g,o,none⟩) x.kids.length ci)/\w6.drew.cell? ⟨g,o+i,none⟩=some (.int .i64 m)/\za w6.drew G.heap.size 69 L:=⟨aR,by rw[aT.cell,<-eA];exact a0,c6,aX⟩;have e9:=S.size;have e8:=aL.size;have d8:=pk bX;simp only[<-cG.out] at bC;clear HM bF cP cR bT bQ aW aV cI cK d2 cJ cL cC bG bH bK bU bR h6 eD d7 d6 c6 bX
 go_wp2_with fail
 refine zb.st (λW':World=>za W' W.heap.size 92 #[.pointer (some ⟨t,0,none⟩)]/\W'.cell? ⟨W.heap.size+1,3,none⟩=some (.slice (some ⟨g,o,none⟩) x.kids.length ci)/\W'.cell? ⟨g,o+i,none⟩=some (.int .i64 m)/\za W' G.heap.size 69 L) 99 ?_;generalize eT:w6.drew=wd at *;refine zb.t0 0 (.agg #[.pointer (some ⟨t,0,none⟩)]) rfl r (λW ⟨f,c,V,e3⟩=>by exact QT XS f rfl rfl rfl) ?_;refine zb.q0 1 (.pointer (some ⟨W.heap.size+1,3,none⟩)) r ?_;refine zb.q0 2 (.slice (some ⟨g,o,none⟩) x.kids.length ci) r ?_;refine zb.q0 3 (.int .i64 (i:Int)) r ?_;refine zb.q0 4 (.pointer (some ⟨g,o+i,none⟩)) r ?_;refine zb.q0 5 (.int .i64 m) r ?_;simp only[Z8];refine zb.t0 6 (.agg L) rfl r (λW ⟨f,c,V,e3⟩=>by exact QU zj e3 cX rfl rfl) ?_;simp only[Z8];refine zb.n 7 ?_;refine zb.oC 50 #[.tmp 36,.tmp 41,.tmp 42] #[92,3,69] #[.agg #[.pointer (some ⟨t,0,none⟩)],.int .i64 m,.agg L] (bC.mono ?_) (zb.eo func50);rintro e w7 ⟨v7,⟨z,rfl⟩,h7,aN,a7,aA⟩;have aS:=aA.blk aR n4;have aU:=aA.blk aT n5;have bM:=aA.blk bL n8;have cV:=aA.blk aX n9;have cU:=aA.blk bS d5;have cD:=d3.rH aA a7;have cN:=cM.rH aA a7;have c0:za w7 W.heap.size 92 #[.pointer (some ⟨t,0,none⟩)]/\w7.cell? ⟨W.heap.size+1,3,none⟩=some (.slice (some ⟨g,o,none⟩) x.kids.length ci)/\w7.cell? ⟨g,o+i,none⟩=some (.int .i64 m)/\za w7 G.heap.size 69 L:=by
  refine⟨aS,by rw[aU.cell,<-eA];exact a0,?_,cV⟩;obtain⟨g',o',e',_,b3,_⟩:=cD.sU hm;rw[eA] at e';injection e' with e'
  injection e' with c V
  subst c V;exact b3
 refine⟨_,rfl,λ_=>c0,zb.dn ?_⟩;simp only[Z8];have b9:xh K v7.D a8 (q::used) free6:=by rw[aN.dd];exact aJ.put (by simp[hu]) _
 have eO:=b9.loose hK;have bD:=jA h7 hK (by have:=aM.nn;have:=aN.nn;omega) q ⟨d0.1,d0.2⟩ (by omega) eO (yT y j) Rc rc Rk rk Ri ri cN.is r1 r2 r3 eL eG;have m4:=h7.rD aS (by decide);have m5:=h7.rD aU (by decide);have m8:=h7.rD bM (by decide);have eE:=aS.boxed;simp only[<-cH.out] at bD;clear bC r c0 aR aT bL aX bS cM d3 n4 n5 n8 n9 d5 cV
 go_wp2_with (first
  | (refine yV rfl 69 (.tmp 10) rfl (G.heap.size+1) rfl zj cU cZ ?_)
  | (go_at_call 50;refine bD.mono ?_;rintro e w8 ⟨v8,⟨z,rfl⟩,h8,a6,b6,aI⟩))
 have bI:=aI.blk aU m5;have bN:=aI.blk bM m8;have d4:=cD.rH aI b6;have dC:xh K v8.D a8 (q::used) free6:=by rw[a6.dd];exact b9.put (by simp) _
 have fD:=H.size;have fA:=aA.size;have fB:=aI.size;have aG:ph W.heap.size W W5:=aK.trans (aD.mono aK.size);have bY:qa K W v v6:=aP.mono aG.size;have bZ:qa K W v v7:=bY.trans a7 (by have:=aG.size;omega);have cY:qa K W v v8:=bZ.trans b6 (by have:=aG.size;omega);have g6:ze (qp K p v) W wd:=((ze.below aG).trans S).trans (ze.below H);have g7:ze (qp K p v) W w7:=aA.fresh g6 bY (by have:=aG.size;omega);have g8:ze (qp K p v) W w8:=aI.fresh g7 bZ (by have:=aG.size;omega);have aH:ph w8.heap.size w8 w8.drew:=(pf _ _).drew;have g9:ze (qp K p v) W w8.drew:=g8.trans (ze.below aH);have h9:=h8.grow aH;have cE:=d4.grow aH;have bJ:=bI.below aH bI.lt;have bO:=bN.below aH bN.lt;have fC:W.heap.size+1+1+1+1<=w8.drew.heap.size:=by show _<=w8.heap.size;have:=aD.size;omega
 have cO:uh K v v8 a8 used free6 m q y j:=⟨d8.out,eR,dC,by have:=aM.nn;have:=aN.nn;have:=a6.nn;omega,by
  rw[a6.dd,aN.dd,aM.dd]
  funext a
  by_cases e:a=q
  ·simp[e]
  ·simp[e]⟩
 have e6:IntKind.i64.wrap ((i:Int)+1)=(i:Int)+1:=xd _;generalize d1:w8.drew=wf at *;have E:∀w',ph wf.heap.size wf w'->w'.cell? ⟨W.heap.size+1,2,none⟩=some (.slice Ak x.keys.length ck)/\w'.cell? ⟨W.heap.size+1,3,none⟩=some (.slice Ai x.kids.length ci):=λw' hB=>by have:=bJ.below hB bJ.lt;exact⟨by rw[this.cell];exact c2,by rw[this.cell];exact a0⟩
 have bE:∀w' g2,ph wf.heap.size wf w'->za w' g2 9 #[.string (yn y j)]->_:=λw' g2 hB hb=>Mp w' Ak ck x.keys (cE.grow hB).is.k (by omega) i hi g2 (yn y j) hb
 have aQ:∀w' g2,ph wf.heap.size wf w'->za w' g2 3 #[.int .i64 q]->_:=λw' g2 hB hb=>Mq w' Ai ci x.kids (cE.grow hB).is.i (by omega) (i+1) (by omega) g2 q hb
 have ei:((i+1:Nat):Int)=(i:Int)+1:=by omega
 rw[ei] at aQ;have a9:∀wD A3 c3 A4 c4,ph wf.heap.size wf wD->wD.ownsRow wf.heap.size 9 1 (.slice A3 (x.keys.length+1) c3) (x.keys.length+1) (XJ (x.keys.take i++yn y j::x.keys.drop i))->wD.ownsRow wf.heap.size 3 1 (.slice A4 (x.kids.length+1) c4) (x.kids.length+1) (Xr (x.kids.take (i+1)++q::x.kids.drop (i+1)))->∀N,N=#[.bool false,.slice none 0 0,.slice A3 (x.keys.length+1) c3,.slice A4 (x.kids.length+1) c4] ->
   za wD (W.heap.size+1+1+1) 69 #[.bool false,.slice none 0 0,.slice none 0 0,.slice none 0 0]/\za (wD.setRow (W.heap.size+1+1+1) N) (W.heap.size+1+1+1) 69 N/\N.size=4/\(∀u∈N.toList,u.oneCell'=true) /\
   ∃j q v' st' bV Ck nk Ci ni,uh K v v' st' used bV m q y j/\st'.roots=st.roots/\mc (.agg N)=.returned (.agg (zu (jb x i (yn y j) q) none 0 Ck nk Ci ni))/\yf (wD.setRow (W.heap.size+1+1+1) N) K p v' (jb x i (yn y j) q) none 0 Ck nk Ci ni/\qe W0 K p t k v' st' last true mk ms (wD.setRow (W.heap.size+1+1+1) N)/\qa K W v v'/\ze (qp K p v) W (wD.setRow (W.heap.size+1+1+1) N)/\YG W.heap.size (jb x i (yn y j) q) none Ck Ci:=by
  intro wD A3 c3 A4 c4 hB ok A N I;have bP:=bO.below hB bO.lt;have c8:(jb x i (yn y j) q).keys.length=x.keys.length+1:=by unfold jb;simp;omega
  have aO:(jb x i (yn y j) q).kids.length=x.kids.length+1:=by unfold jb;simp;omega
  have eN:N=zu (jb x i (yn y j) q) none 0 A3 c3 A4 c4:=by rw[I];unfold zu;rw[c8,aO];rfl
  obtain⟨_,_,e3,ik⟩:=qn ok (jZ _);obtain⟨_,_,e4,ii⟩:=qn A (YW _);injection e3 with e31 _ e33
  injection e4 with e41 _ e43
  subst e31 e33 e41 e43;have gb:=qj wD (W.heap.size+1+1+1) N;have nk:kz (λk=>k=W.heap.size+1+1+1) (x.keys.length+1) A3:=λ_ g o e hm=>by have:=zh ok g (by rw[e];rfl);omega
  have ni:kz (λk=>k=W.heap.size+1+1+1) (x.kids.length+1) A4:=λ_ g o e hm=>by have:=zh A g (by rw[e];rfl);omega
  have hD:=h9.grow hB;refine⟨bP,bP.setRow N,by rw[I];rfl,by rw[I];exact zy rfl rfl rfl rfl,j,q,v8,a8,free6,A3,c3,A4,c4,cO,eS,by rw[eN],yf.new h9 ⟨?_,?_,?_⟩ ?_,hD.rF gb bP (by decide) (λm e=>by cases e) (by omega) (by decide),cY,?_,?_⟩
  ·exact yp.mt _ _ _
  ·rw[c8];exact ik.rG nk gb
  ·rw[aO];exact ii.rG ni gb
  ·rintro g o (e|e|e)
   ·cases e
   ·exact zh ok g (by rw[e];rfl)
   ·exact zh A g (by rw[e];rfl)
  ·have gd:=g9.trans (ze.below hB);exact⟨gd.os,gd.tape,gd.output,by simp[oe];exact gd.size,λa ha hm=>(oL _ _ a _ (by omega)).trans (gd.block a ha hm)⟩
  ·rintro g o (e|e|e)
   ·cases e.2
   ·have:=zh ok g (by rw[e.2];rfl);omega
   ·have:=zh A g (by rw[e.2];rfl);omega
 have r:=E wf (pf _ _);clear bD c2 a0 h8 d4 bI bN dC b9 aJ h9 cE bJ bO h7 cD aS aU bM cN a6 aN aM b6 a7 aP aI aA S cO g6 g7 g8 g9 bY bZ cY eE cU aC h5 H aH eT
 go_wp2_with fail
 refine zb.st (λW':World=>W'.cell? ⟨W.heap.size+1,2,none⟩=some (.slice Ak x.keys.length ck)/\W'.cell? ⟨W.heap.size+1,3,none⟩=some (.slice Ai x.kids.length ci)) 99 ?_;rw[d1];clear d1;refine zb.q0 0 (.pointer (some ⟨W.heap.size+1,2,none⟩)) r ?_;refine zb.q0 1 (.slice Ak x.keys.length ck) r ?_;refine zb.q0 2 (.int .i64 (i:Int)) r ?_;refine zb.q0 3 (.string (yn y j)) r ?_;refine zb.q0 6 (.pointer (some ⟨W.heap.size+1,3,none⟩)) r ?_;refine zb.q0 7 (.slice Ai x.kids.length ci) r ?_;refine zb.q0 8 (.int .i64 (i:Int)) r ?_;refine zb.q0 9 (.int .i64 ((i:Int)+1)) r ?_;refine zb.q0 10 (.int .i64 q) r ?_;simp only[Z8];have B0:ph wf.heap.size wf wf:=pf _ _;refine zb.two 4 11 (by kernel_rfl) ?_ ?_
 ·obtain⟨u1,aE⟩:∃u,u=wf.alloc (.cells #[.string (yn y j)] 9):=⟨_,rfl⟩;have q1:za u1 wf.heap.size 9 #[.string (yn y j)]:=by rw[aE];exact za.new wf _ _
  have a1:ph wf.heap.size wf u1:=by rw[aE];exact jf _ _
  have M:ph wf.heap.size wf u1:=B0.trans (a1.mono B0.size);refine zb.opV (w':=u1) (.slice (some ⟨wf.heap.size,0,none⟩) 1 1) rfl rfl (by rw[aE];go_simp) ⟨λ_=>E _ M,?_⟩;simp only[Z8];refine zb.two 5 11 (by kernel_rfl) ?_ ?_
  ·refine zb.oC 138 #[.tmp 49,.tmp 50,.tmp 52] #[66,3,66] #[.slice Ak x.keys.length ck,.int .i64 (i:Int),.slice (some ⟨wf.heap.size,0,none⟩) 1 1] ((bE u1 wf.heap.size M q1).mono ?_) (zb.eo func138);rintro e u2 ⟨A3,c3,rfl,ok,a2⟩;have C:=M.trans (a2.mono M.size);have ok:=yS ok M.size;refine⟨_,rfl,λ_=>E _ C,?_⟩;simp only[Z8];refine zb.n 11 ?_;obtain⟨u3,cA⟩:∃u,u=u2.alloc (.cells #[.int .i64 q] 3):=⟨_,rfl⟩;have q3:za u3 u2.heap.size 3 #[.int .i64 q]:=by rw[cA];exact za.new u2 _ _
   have a3:ph u2.heap.size u2 u3:=by rw[cA];exact jf _ _
   have s:ph wf.heap.size wf u3:=C.trans (a3.mono C.size);refine zb.opV (w':=u3) (.slice (some ⟨u2.heap.size,0,none⟩) 1 1) rfl rfl (by rw[cA];go_simp) ⟨λ_=>E _ s,?_⟩;simp only[Z8];have ok:=qw ok a3;refine zb.n 12 ?_;refine zb.oC 139 #[.tmp 55,.tmp 57,.tmp 59] #[67,3,67] #[.slice Ai x.kids.length ci,.int .i64 ((i:Int)+1),.slice (some ⟨u2.heap.size,0,none⟩) 1 1] ((aQ u3 u2.heap.size s q3).mono ?_) (zb.eo func139);rintro e u4 ⟨A4,c4,rfl,A,a4⟩;have O:=s.trans (a4.mono s.size);have A:=yS A s.size;have ok:=qw ok a4;refine⟨_,rfl,λ_=>E _ O,?_⟩;simp only[Z8];obtain⟨N,I⟩:=Z9 ((#[.bool false,.slice none 0 0,.slice A3 (x.keys.length+1) c3,.slice A4 (x.kids.length+1) c4]:Y7));obtain⟨f1,f2,f3,f4,f5⟩:=a9 u4 A3 c3 A4 c4 O ok A N I;have U:=E u4 O;refine zb.t0 13 (.agg N) rfl U (λW ⟨f,c⟩=>by (rw[I];go_simp)) ?_;simp only[Z8];refine zb.n 14 ?_;refine zb.opS rfl rfl (vm 69 (.tmp 8) (.tmp 61) rfl (W.heap.size+1+1+1) rfl rfl zj f1 rfl f3 f4) ⟨λ_ => ?_,zb.dn ?_⟩
   ·exact⟨(oG (w:=u4) (oL _ _ _ _ (by show W.heap.size+1≠_;omega))).trans U.1,(oG (w:=u4) (oL _ _ _ _ (by show W.heap.size+1≠_;omega))).trans U.2⟩
   simp only[zD,zC,zB,pj];go_wp2;exact oQ (yi rfl (xF (g:=W.heap.size+1+1+1) 8 rfl zj f2 f3)) rfl f5
  ·obtain⟨u2,aF⟩:∃u,u=u1.alloc (.cells #[.int .i64 q] 3):=⟨_,rfl⟩;have q2:za u2 u1.heap.size 3 #[.int .i64 q]:=by rw[aF];exact za.new u1 _ _
   have a2:ph u1.heap.size u1 u2:=by rw[aF];exact jf _ _
   have C:ph wf.heap.size wf u2:=M.trans (a2.mono M.size);refine zb.opV (w':=u2) (.slice (some ⟨u1.heap.size,0,none⟩) 1 1) rfl rfl (by rw[aF];go_simp) ⟨λ_=>E _ C,?_⟩;simp only[Z8];have q1:=q1.below a2 q1.lt;refine zb.n 5 ?_;refine zb.oC 138 #[.tmp 49,.tmp 50,.tmp 52] #[66,3,66] #[.slice Ak x.keys.length ck,.int .i64 (i:Int),.slice (some ⟨wf.heap.size,0,none⟩) 1 1] ((bE u2 wf.heap.size C q1).mono ?_) (zb.eo func138);rintro e u3 ⟨A3,c3,rfl,ok,a3⟩;have s:=C.trans (a3.mono C.size);have ok:=yS ok C.size;refine⟨_,rfl,λ_=>E _ s,?_⟩;simp only[Z8];have q2:=q2.below a3 q2.lt;refine zb.n 12 ?_;refine zb.oC 139 #[.tmp 55,.tmp 57,.tmp 59] #[67,3,67] #[.slice Ai x.kids.length ci,.int .i64 ((i:Int)+1),.slice (some ⟨u1.heap.size,0,none⟩) 1 1] ((aQ u3 u1.heap.size s q2).mono ?_) (zb.eo func139);rintro e u4 ⟨A4,c4,rfl,A,a4⟩;have O:=s.trans (a4.mono s.size);have A:=yS A s.size;have ok:=qw ok a4;refine⟨_,rfl,λ_=>E _ O,?_⟩;simp only[Z8];obtain⟨N,I⟩:=Z9 ((#[.bool false,.slice none 0 0,.slice A3 (x.keys.length+1) c3,.slice A4 (x.kids.length+1) c4]:Y7));obtain⟨f1,f2,f3,f4,f5⟩:=a9 u4 A3 c3 A4 c4 O ok A N I;have U:=E u4 O;refine zb.t0 13 (.agg N) rfl U (λW ⟨f,c⟩=>by (rw[I];go_simp)) ?_;simp only[Z8];refine zb.n 14 ?_;refine zb.opS rfl rfl (vm 69 (.tmp 8) (.tmp 61) rfl (W.heap.size+1+1+1) rfl rfl zj f1 rfl f3 f4) ⟨λ_ => ?_,zb.dn ?_⟩
   ·exact⟨(oG (w:=u4) (oL _ _ _ _ (by show W.heap.size+1≠_;omega))).trans U.1,(oG (w:=u4) (oL _ _ _ _ (by show W.heap.size+1≠_;omega))).trans U.2⟩
   simp only[zD,zC,zB,pj];go_wp2;exact oQ (yi rfl (xF (g:=W.heap.size+1+1+1) 8 rfl zj f2 f3)) rfl f5
 ·obtain⟨u1,aE⟩:∃u,u=wf.alloc (.cells #[.int .i64 q] 3):=⟨_,rfl⟩;have q1:za u1 wf.heap.size 3 #[.int .i64 q]:=by rw[aE];exact za.new wf _ _
  have a1:ph wf.heap.size wf u1:=by rw[aE];exact jf _ _
  have M:ph wf.heap.size wf u1:=B0.trans (a1.mono B0.size);refine zb.opV (w':=u1) (.slice (some ⟨wf.heap.size,0,none⟩) 1 1) rfl rfl (by rw[aE];go_simp) ⟨λ_=>E _ M,?_⟩;simp only[Z8];refine zb.n 4 ?_;obtain⟨u2,aF⟩:∃u,u=u1.alloc (.cells #[.string (yn y j)] 9):=⟨_,rfl⟩;have q2:za u2 u1.heap.size 9 #[.string (yn y j)]:=by rw[aF];exact za.new u1 _ _
  have a2:ph u1.heap.size u1 u2:=by rw[aF];exact jf _ _
  have C:ph wf.heap.size wf u2:=M.trans (a2.mono M.size);refine zb.opV (w':=u2) (.slice (some ⟨u1.heap.size,0,none⟩) 1 1) rfl rfl (by rw[aF];go_simp) ⟨λ_=>E _ C,?_⟩;simp only[Z8];have q1:=q1.below a2 q1.lt;refine zb.n 5 ?_;refine zb.oC 138 #[.tmp 49,.tmp 50,.tmp 52] #[66,3,66] #[.slice Ak x.keys.length ck,.int .i64 (i:Int),.slice (some ⟨u1.heap.size,0,none⟩) 1 1] ((bE u2 u1.heap.size C q2).mono ?_) (zb.eo func138);rintro e u3 ⟨A3,c3,rfl,ok,a3⟩;have s:=C.trans (a3.mono C.size);have ok:=yS ok C.size;refine⟨_,rfl,λ_=>E _ s,?_⟩;simp only[Z8];have q1:=q1.below a3 q1.lt;refine zb.n 12 ?_;refine zb.oC 139 #[.tmp 55,.tmp 57,.tmp 59] #[67,3,67] #[.slice Ai x.kids.length ci,.int .i64 ((i:Int)+1),.slice (some ⟨wf.heap.size,0,none⟩) 1 1] ((aQ u3 wf.heap.size s q1).mono ?_) (zb.eo func139);rintro e u4 ⟨A4,c4,rfl,A,a4⟩;have O:=s.trans (a4.mono s.size);have A:=yS A s.size;have ok:=qw ok a4;refine⟨_,rfl,λ_=>E _ O,?_⟩;simp only[Z8];obtain⟨N,I⟩:=Z9 ((#[.bool false,.slice none 0 0,.slice A3 (x.keys.length+1) c3,.slice A4 (x.kids.length+1) c4]:Y7));obtain⟨f1,f2,f3,f4,f5⟩:=a9 u4 A3 c3 A4 c4 O ok A N I;have U:=E u4 O;refine zb.t0 13 (.agg N) rfl U (λW ⟨f,c⟩=>by (rw[I];go_simp)) ?_;simp only[Z8];refine zb.n 14 ?_;refine zb.opS rfl rfl (vm 69 (.tmp 8) (.tmp 61) rfl (W.heap.size+1+1+1) rfl rfl zj f1 rfl f3 f4) ⟨λ_ => ?_,zb.dn ?_⟩
  ·exact⟨(oG (w:=u4) (oL _ _ _ _ (by show W.heap.size+1≠_;omega))).trans U.1,(oG (w:=u4) (oL _ _ _ _ (by show W.heap.size+1≠_;omega))).trans U.2⟩
  simp only[zD,zC,zB,pj];go_wp2;exact oQ (yi rfl (xF (g:=W.heap.size+1+1+1) 8 rfl zj f2 f3)) rfl f5
end
theorem Dx {s:ByteArray}{m q:Int}(hs:s.size<=81)(h:1<=m/\m<=2000)(hq:1<=q/\q<=2000):yj ⟨false,[],[s],[m,q]⟩/\(qb ⟨false,[],[s],[m,q]⟩).length<=512:=by
 refine⟨⟨λj f => ?_,λj f => ?_,λx r => ?_,(λe=>by cases e),λ_=>⟨rfl,Nat.one_pos,rfl,λi c => ?_⟩⟩,?_⟩
 ·simp[qi] at f
 ·simp[qi] at f
 ·have:x=s:=by simpa[qi] using r
  rw[this];unfold yq;simp[hs]
 ·unfold xW;rcases qM.1 c with rfl|c
  ·simp[h]
  ·obtain rfl:i=q:=by simpa using c
   simp[hq]
 ·have h1:=Gr [] [m] 0 s q rfl (zG _) (by simp) hs (by omega);have e:(qb ⟨false,[],[],[m]⟩).length=2+(jQ m.toNat).length+0:=Jl [] m [] rfl (by simp);have:=Uj (n:=m.toNat) (by omega);have g:(⟨false,[],([]:List ByteArray).take 0++s::([]:List ByteArray).drop 0,[m].take (0+1)++q::[m].drop (0+1)⟩:yo)=⟨false,[],[s],[m,q]⟩:=rfl;rw[g] at h1;omega
section
variable {W0 W W':World}{K:xH}{p t:Nat}{v v':yz}{st last st' last':qm}{mk mk':Value}{ms:List vK}{y:yo}{Bc Bk Bi:Y5}{bc bk bi:Nat}{used free:List Int}
structure rA (K:xH)(v v':yz)(st st':qm)(used free':List Int)(m q ab:Int)(y:yo)(j:Nat):Prop where
 half:kn (qh y) (xj y) j
 nq:q∉used
 na:ab∉q::used
 pl:xh K v'.D st' (ab::q::used) free'
 nn:v'.N<=v.N+10
 dd:v'.D=λa=>if a=ab then some (vE ⟨false,[],[yn y j],[m,q]⟩) else if a=q then some (vE (yT y j)) else if a=m then some (vE (xG y j)) else v.D a
 rt:st'.roots=st.roots.set 0 ab
theorem xh.roots (h:xh K v.D st used free)(l:List Int):xh K v.D {st with roots:=l} used free:=⟨h.nd,h.rP,h.sD,h.sup,h.at_,h.ch,h.mn,h.sz⟩
theorem My (h:qe W0 K p t 0 v st last true mk ms W)(G:K.Ok)(hN:v.N<=680000)(hp:xh K v.D st used free)(hr:(used.length:Int)+2<K.pg)(hy:yf W K p v y Bc bc Bk bk Bi bi)(m:Int)(hu:m∈used)
  (hl:y.cells.length<=1000) (bB:y.keys.length<=1000) (bC:y.kids.length<=1001) (hR:yj y) (hs:512<(qb y).length) (b1:∀j,(yn y j).size<=81)
  (bS:∀j,kn (qh y) (xj y) j->(qb (xG y j)).length<=512/\(qb (yT y j)).length<=512/\0<j/\j<=xj y) :
  pr Y3 47 #[.agg #[.pointer (some ⟨t,0,none⟩)],.int .i64 m,.agg (zu y Bc bc Bk bk Bi bi)] W λe w'=>∃j q ab v' st' bQ,(∃z,e=Y0 z)/\rA K v v' st st' used bQ m q ab y j/\qe W0 K p t 0 v' st' last true mk ms w'/\qa K W v v'/\ze (qp K p v) W w':=by
 have b6:=G.hP;have b7:=G.P2;have b9:=hp.sz;have bW:=hp.rP m (List.mem_append_left _ hu);obtain⟨Y,aH⟩:=Z9 (zu y Bc bc Bk bk Bi bi);have a9:Y.size=4:=by rw[aH];rfl
 obtain⟨W1,a5,aD,b3,b5⟩:=Bp W 92 #[.pointer (some ⟨t,0,none⟩)] 69 Y;have h1:=h.grow aD;have aY:=hy.grow aD;have HF:=MR W1 y Bc bc Bk bk Bi bi aY.is hl bB bC hR hs;rw[<-aH] at HF ⊢;have bI:=pk a5.symm;have bM:=pk aH;clear a5 h hy aH
 go_enter func47,ntmps47
 go_wp2_with (first
  | (rw[bI.out];refine yV rfl 69 (.tmp 5) rfl (W.heap.size+1) rfl zj b5 a9 ?_))
 refine HF.mono ?_;rintro e V ⟨rfl,L⟩;obtain⟨W3,a6,a2,aM⟩:=YK V 3 #[.int .i64 m];have aE:=L.trans (a2.mono L.size);have h2:=h1.grow L;have h3:=h1.grow aE
 have nx:yf W3 K p v ⟨false,[],[],[m]⟩ none 0 none 0 (some ⟨V.heap.size,0,none⟩) 1:=yf.new h2 ⟨yp.mt _ _ _,yp.mt _ _ _,⟨zG _,by decide,(λe=>by cases e),rfl,(by intro u hu;rw[show Xr [m]=[.int .i64 m] from rfl,qK] at hu;subst hu;rfl),λ_=>⟨V.heap.size,0,rfl,aM.lt,λj u hj=>by rw[qC,aM.cell];simpa[Xr] using hj⟩⟩⟩ (by
  rintro g o (e|e|e)
  ·cases e
  ·cases e
  ·injection e with e
   injection e with e
   omega)
 have HS:=JF h3 G (by omega) hp (by omega) nx (aY.grow aE) 0 m rfl hu (by simp) (by simp) (zG _) hl bB bC hR hs bS;rw[<-bM.out,show ((0:Nat):Int)=0 from rfl] at HS;rw[show zu ⟨false,[],[],[m]⟩ none 0 none 0 (some ⟨V.heap.size,0,none⟩) 1=#[.bool false,.slice none 0 0,.slice none 0 0,.slice (some ⟨V.heap.size,0,none⟩) 1 1] from rfl] at HS;have aO:=b3.below aE b3.lt;have aQ:=b5.below L b5.lt;have bN:=(b3.below L b3.lt).boxed;have b2:=h3.rD aO (by decide);have bZ:=aD.size;have O:ph W.heap.size W W3:=aD.trans (aE.mono bZ);have bJ:=pk a6.symm;clear a6 HF h1 h2 aY nx
 go_wp2_with (first
  | (rw[bJ.out];refine yV rfl 69 (.tmp 5) rfl (W.heap.size+1) rfl zj (aQ.below a2 aQ.lt) a9 ?_))
 refine HS.mono ?_;rintro e I ⟨j,q,v4,cB,b4,Ck,nk,Ci,ni,s,bX,rfl,bA,h4,bD,aF,_⟩;obtain⟨T,U⟩:=Z9 (zu (jb ⟨false,[],[],[m]⟩ 0 (yn y j) q) none 0 Ck nk Ci ni);have a4:T.size=4:=by rw[U];rfl
 have bR:∀u∈T.toList,u.oneCell'=true:=by rw[U];exact zy rfl rfl rfl rfl
 rw[<-U];have aN:=aF.blk aO b2;obtain⟨W5,a7,a3,aR⟩:=YK I 69 #[.bool false,.slice none 0 0,.slice none 0 0,.slice none 0 0];have M:ph I.heap.size I (W5.setRow I.heap.size T):=zf a3 (zG _) _;have aS:=aR.setRow T;generalize a8:W5.setRow I.heap.size T=w6 at *;have h6:=h4.grow M;have Z6:=bA.grow M;have aA:=aN.below M aN.lt;have bO:=aA.boxed;have HM:=YR h6 G (by have:=s.nn;omega) s.pl (by simp;omega);have b8:=aF.size;have b0:=M.size;have N4:qa K W v v4:=bD.mono O.size;have g4:ze (qp K p v) W w6:=((ze.below O).trans aF).trans (ze.below M);have bK:=pk a7.symm;have bL:=pk a8;have bH:=pk U;have n3:=h6.rD aA (by decide);have n6:=h6.rD aS (by decide);clear a7 a8 U HS h4 bA aN aM aO aF bD a3 h3 aQ bN b3 b5
 go_wp2_with (first
  | (rw[bK.out];refine vW zj aR a4 bR ?_;rw[bL.out]))
 refine HM.mono ?_;rintro e w7 ⟨ab,v7,aK,free7,rfl,h7,aI,H,bT,bY,aX,S⟩;have aB:=S.blk aA n3;have a1:=S.blk aS n6;have Z7:=Z6.rH S aX;have bP:=aB.boxed;have bV:=H.rP q (by simp);have aW:=H.rP ab (by simp);have cA:=H.sz;obtain⟨TR,TL⟩:=Dx (b1 j) ⟨bW.1,by omega⟩ (q:=q) ⟨bV.1,by omega⟩;have C:jb ⟨false,[],[],[m]⟩ 0 (yn y j) q=⟨false,[],[yn y j],[m,q]⟩:=rfl;have aL:=jA h7 G (by have:=s.nn;have:=aI.nn;omega) ab ⟨aW.1,aW.2⟩ (by omega) (H.loose G) _ _ _ _ _ _ _ Z7.is (by simp[C]) (by simp[C]) (by simp[C]) (by rw[C];exact TR) (by rw[C];exact TL);rw[<-bH.out] at aL;have N7:qa K W v v7:=N4.trans (aX.mono b0) (by have:=O.size;omega);have g7:ze (qp K p v) W w7:=S.fresh g4 N4 (by have:=O.size;omega);clear HM aR aS aA bO h6 Z6 S n3 n6
 go_wp2_with (first
  | (refine yV rfl 69 (.tmp 6) rfl I.heap.size rfl zj a1 a4 ?_))
 refine aL.mono ?_;rintro e A ⟨v8,⟨u8,rfl⟩,h8,aJ,bE,aU⟩;have aP:=aU.blk aB (h7.rD aB (by decide));have bF:xh K v8.D aK (ab::q::used) free7:=by rw[aJ.dd];exact H.put (by simp) _
 have aT:ph A.heap.size A A.drew:=(pf _ _).drew;have E:=h8.grow aT;have aZ:=ZK E.pa ab ⟨by omega,aW.2⟩;have aC:=aP.below aT aP.lt;have c:A.drew.cell? ⟨W.heap.size,0,none⟩=some (.pointer (some ⟨t,0,none⟩))/\A.drew.cell? ⟨t,0,none⟩=some (.pointer (some ⟨p,0,none⟩))/\A.drew.cell? ⟨t,1,none⟩=some (.int .i64 0):=⟨aC.boxed,E.tp,E.tk⟩;have bU:=E.rD aC (by decide);have N8:qa K W v v8:=N7.trans bE (by have:=O.size;have:=g7.size;omega);have g8:ze (qp K p v) W A.drew:=(aU.fresh g7 N7 (by have:=g7.size;omega)).trans (ze.below aT)
 have CK:rA K v v8 st {aK with roots:=aK.roots.set 0 ab} used free7 m q ab y j:=⟨s.half,s.nq,bT,bF.roots _,by have:=s.nn;have:=aI.nn;have:=aJ.nn;omega,by
  rw[aJ.dd,aI.dd,s.dd,C]
  funext a
  by_cases e:a=ab
  ·simp[e]
  ·simp[e],by show aK.roots.set 0 ab=_;rw[bY,bX]⟩
 clear aL h7 h8 aB aP a1 Z7 bP aU bE aJ aI aX H bF s
 go_wp2_with fail
 refine zb.st (λW':World=>W'.cell? ⟨W.heap.size,0,none⟩=some (.pointer (some ⟨t,0,none⟩))/\W'.cell? ⟨t,0,none⟩=some (.pointer (some ⟨p,0,none⟩))/\W'.cell? ⟨t,1,none⟩=some (.int .i64 0)) 99 ?_;generalize A.drew=wd at *;refine zb.q0 0 (.pointer (some ⟨W.heap.size,0,none⟩)) c ?_;refine zb.q0 1 (.pointer (some ⟨t,0,none⟩)) c ?_;refine zb.q0 2 (.pointer (some ⟨t,0,none⟩)) c ?_;refine zb.q0 3 (.pointer (some ⟨t,0,none⟩)) c ?_;refine zb.q0 4 (.pointer (some ⟨p,0,none⟩)) c ?_;refine zb.q0 5 (.pointer (some ⟨W.heap.size,0,none⟩)) c ?_;refine zb.q0 6 (.pointer (some ⟨t,0,none⟩)) c ?_;refine zb.q0 7 (.pointer (some ⟨t,0,none⟩)) c ?_;refine zb.q0 8 (.pointer (some ⟨t,1,none⟩)) c ?_;refine zb.q0 9 (.int .i64 0) c ?_;refine zb.q0 10 (.int .i64 (ab)) c ?_;simp only[Z8];refine zb.n 11 ?_;refine zb.oC 52 #[.tmp 30,.tmp 35,.tmp 36] #[45,3,3] #[.pointer (some ⟨p,0,none⟩),.int .i64 0,.int .i64 (ab)] (aZ.mono ?_) (zb.eo func52);rintro e w9 ⟨rfl,bG,aG⟩;have h9:=E.rH bG (MO aG) (λk hk => .inl hk);have a0:=aG.blk aC (λe=>bU (.inl e));have aV:w9.cell? ⟨W.heap.size,0,none⟩=some (.pointer (some ⟨t,0,none⟩))/\w9.cell? ⟨t,0,none⟩=some (.pointer (some ⟨p,0,none⟩))/\w9.cell? ⟨t,1,none⟩=some (.int .i64 0):=⟨a0.boxed,h9.tp,h9.tk⟩;refine⟨_,rfl,λ_=>aV,?_⟩;simp only[Z8];refine zb.n 12 ?_;refine zb.oC 51 #[.tmp 37] #[27] #[.int .i64 0] ((jx _).mono ?_) (zb.eo func51);rintro e wm ⟨⟨um,rfl⟩,rfl⟩;refine⟨_,rfl,λ_=>aV,zb.dn ?_⟩;simp only[Z8];have g9:ze (qp K p v) W w9:=(MO aG:ze (qp K p v8) wd w9).fresh g8 N8 (by have:=g8.size;omega);have R9:=CK;clear aV c a0 aC CK aZ E bG aG;go_wp2;go_end0;exact⟨j,q,ab,v8,_,free7,⟨_,rfl⟩,R9,h9,N8,g9⟩
end
section
variable {W0 W W':World}{K:xH}{p t:Nat}{k:Int}{v v':yz}{st last st' last':qm}{mk mk':Value}{ms:List vK}
theorem Eb (h:qe W0 K p t k v st last true mk ms W)(hK:K.Ok)(hN:v.N<=800000)(n:Int)(hn:1<=n/\n<st.size)(hP:n<(K.P:Int))(hT:¬ jK K v.D)(x:yo)(hx:XE K v n x)(aF:x.leaf=true)(c:xK)(i:Nat)(bM:yu true (qi x) c.key=i)(bN:je true (qi x) c.key=false)(hi:i<=x.cells.length)(bX:x.cells.length<=1000):pr Y3 48 #[.agg #[.pointer (some ⟨t,0,none⟩)],.int .i64 n,.agg (zm c).toArray] W λe w'=>∃v' Ac cc Ak ck Ai ci,e=Y0 (.agg (zu ⟨true,QC x.cells i c,[],[]⟩ Ac cc Ak ck Ai ci))/\yf w' K p v' ⟨true,QC x.cells i c,[],[]⟩ Ac cc Ak ck Ai ci/\qe W0 K p t k v' st last true mk ms w'/\Xo K v v'/\qa K W v v'/\ze (qp K p v) W w'/\YG W.heap.size ⟨true,QC x.cells i c,[],[]⟩ Ac Ak Ai:=by
 have b4:=h.up;obtain⟨aQ,a4,_⟩:=hx.fits.1.leaf aF;obtain⟨W1,s⟩:=Z9 (((W.alloc (.cells #[.pointer (some ⟨t,0,none⟩)] 92)).alloc (.cells (zm c).toArray 94)).alloc (.cells #[.bool false,.slice none 0 0,.slice none 0 0,.slice none 0 0] 69));have aM:ph W.heap.size W W1:=by rw[s];exact Za _ _ _ _
 have b3:za W1 W.heap.size 92 #[.pointer (some ⟨t,0,none⟩)]:=by rw[s];exact((za.new W _ _).alloc _).alloc _
 have b5:za W1 (W.heap.size+1) 94 (zm c).toArray:=by have:=(za.new (W.alloc (.cells #[.pointer (some ⟨t,0,none⟩)] 92)) 94 (zm c).toArray).alloc (.cells #[.bool false,.slice none 0 0,.slice none 0 0,.slice none 0 0] 69);rw[pq] at this;rw[s];exact this
 have b6:za W1 (W.heap.size+1+1) 69 #[.bool false,.slice none 0 0,.slice none 0 0,.slice none 0 0]:=by have:=za.new ((W.alloc (.cells #[.pointer (some ⟨t,0,none⟩)] 92)).alloc (.cells (zm c).toArray 94)) 69 #[.bool false,.slice none 0 0,.slice none 0 0,.slice none 0 0];rw[pq,pq] at this;rw[s];exact this
 have bZ:W1.heap.size=W.heap.size+1+1+1:=by rw[s,pq,pq,pq]
 have h1:=h.grow aM;have aR:=Fu h1 hK hN n hn hP hT x hx;have aY:=b3.boxed;rw[s] at aY;have bB:=pk s.symm;have bR:=h1.rD b5 (by decide);have bS:=h1.rD b6 (by decide);clear s h
 go_enter func48,ntmps48
 go_wp2_with fail
 rw[bB.out];refine aR.mono ?_;rintro e f ⟨v',Ac,cc,Ak,ck,Ai,ci,rfl,n2,h2,bO,a5,U⟩;obtain⟨N,I⟩:=Z9 (zu x Ac cc Ak ck Ai ci);have aO:N.size=4:=by rw[I];rfl
 have bJ:∀u∈N.toList,u.oneCell'=true:=by rw[I];exact zy rfl rfl rfl rfl
 rw[<-I];have aH:=U.blk b5 bR;have aI:=U.blk b6 bS;have b0:W.heap.size+3<=f.heap.size:=by have:=U.size;omega
 obtain⟨W3,a1,a0,aW⟩:=YK f 69 #[.bool false,.slice none 0 0,.slice none 0 0,.slice none 0 0];have G:ph f.heap.size f (W3.setRow f.heap.size N):=zf a0 (zG _) _;have aB:=aW.setRow N;generalize a2:W3.setRow f.heap.size N=W4 at *;have h4:=h2.grow G;have n4:=n2.grow G;have aA:=aH.below G aH.lt;have aJ:=aI.below G aI.lt;have M:=Xc W4 x Ac cc Ak ck Ai ci n4 (by omega) (by rw[aQ];decide) c.key;unfold JA at M;rw[aF,bM,bN] at M;have bH:W4.cell? ⟨W.heap.size+1,0,none⟩=some (.string c.key):=by rw[aA.cell];rfl
 rw[<-I] at M;have O:=pk I;have bC:=pk a1.symm;have bD:=pk a2;have a9:=h2.rZ;clear I a1 a2 h1 h2 n2 b3 b5 b6 aY aH aI hn aR a0
 go_wp2_with (first
  | (rw[bC.out];refine vW zj aW aO bJ ?_;rw[bD.out])
  | (refine yV rfl 69 (.tmp 7) rfl f.heap.size rfl zj aB aO ?_))
 refine M.mono ?_;rintro e w5 ⟨rfl,A⟩;have h5:=h4.grow A;have L:=n4.grow A;have aU:=aA.below A aA.lt;have aK:=aJ.below A aJ.lt;have C:=aB.below A aB.lt;have d0:w5.cell? ⟨f.heap.size,0,none⟩=some (.bool true):=by rw[C.cell,O.out];simp[zu,aF]
 have d1:w5.cell? ⟨f.heap.size,1,none⟩=some (.slice Ac x.cells.length cc):=by rw[C.cell,O.out];rfl
 obtain⟨W6,a3,S,aX⟩:=YK w5 94 (zm c).toArray;have aT:=Fq W6 Ac cc x.cells ((L.grow S).c) (by omega) i hi w5.heap.size c aX;have aS:=pk a3.symm;clear a3 M bH
 go_wp2_with (first
  | (refine xA qt aU ?_)
  | (refine zr rfl (Ve c rfl rfl) ?_))
 rw[aS.out];refine aT.mono ?_;rintro e w7 ⟨r,c3,rfl,aG,aN⟩;obtain⟨bT,bU,e3,a7⟩:=qn aG (Ya _);injection e3 with e31 _ e33
 subst e31 e33;have H:ph w5.heap.size w5 w7:=S.trans (aN.mono S.size);have h7:=h5.grow H;have aV:=aK.below H aK.lt;have aC:=C.below H C.lt;have b1:=S.size;have bY:=C.lt;have b2:=aN.size;have aE:=zh aG;have bV:w7.cell? ⟨f.heap.size,1,none⟩=some (.slice Ac x.cells.length cc):=by rw[aC.cell,O.out];rfl
 have bW:=aC.free 1;obtain⟨W8,aD⟩:=Z9 (w7.setCell ⟨f.heap.size,1,none⟩ (.slice r (x.cells.length+1) c3));obtain⟨N8,V⟩:=Z9 (zu ⟨true,QC x.cells i c,[],[]⟩ r c3 Ak ck Ai ci);have aZ:N.setIfInBounds 1 (.slice r (x.cells.length+1) c3)=N8:=by rw[V,O.out];unfold zu;simp[aF,aQ,a4,XU _ _ _ hi]
 have bG:za W8 f.heap.size 69 N8:=by rw[aD,<-aZ];exact aC.set 1 _
 have q:ze (λj=>j=f.heap.size) w7 W8:=by rw[aD];exact ze.setCell _ _ _ rfl
 have aL:=q.blk aV (by omega);have h8:=h7.rF q aC (by rw[aO];decide) (λm e=>by rw[O.out] at e;cases e) (by omega) (by decide);have bP:=q.size;have h9:=h8.rF (qj W8 (W.heap.size+1+1) N8) aL (by decide) (λm e=>by cases e) (by omega) (by decide);have bF:=aL.setRow N8;have aP:N8.size=4:=by rw[V];rfl
 have bL:∀u∈N8.toList,u.oneCell'=true:=by rw[V];exact zy rfl rfl rfl rfl
 have L:=L.grow H;have a6:=XU x.cells i c hi;have n9:XH (W8.setRow (W.heap.size+1+1) N8) (W8.setRow (W.heap.size+1+1) N8).heap.size ⟨true,QC x.cells i c,[],[]⟩ r c3 Ak ck Ai ci:=by
  have bQ:w7.heap.size<=(W8.setRow (W.heap.size+1+1) N8).heap.size:=by simp[oe];exact bP
  refine⟨?_,?_,?_⟩
  ·show yp _ _ 4 r (QC x.cells i c).length c3 (vV (QC x.cells i c))
   rw[a6];refine a7.rK bQ (λg o e => ?_);have hg:=aE g (by rw[e];rfl);exact(oL W8 _ g N8 (by omega)).trans (q.block g (by have:=kJ aG g (by rw[e];rfl);exact this) (by omega))
  ·have:=L.k;rw[aQ] at this;exact⟨this.le,this.max,this.nil,rfl,(λu hu=>by cases hu),λz=>absurd z (nN 0)⟩
  ·have:=L.i;rw[a4] at this;exact⟨this.le,this.max,this.nil,rfl,(λu hu=>by cases hu),λz=>absurd z (nN 0)⟩
 have N9:yf (W8.setRow (W.heap.size+1+1) N8) K p v' ⟨true,QC x.cells i c,[],[]⟩ r c3 Ak ck Ai ci:=⟨n9,λ_ g o e hm=>by have:=a9 g hm;have:=aE g (by rw[e];rfl);omega,λz=>absurd z (nN 0),λz=>absurd z (nN 0)⟩;have a8:YG W.heap.size ⟨true,QC x.cells i c,[],[]⟩ r Ak Ai:=by
  rintro g o (e|e|e)
  ·have:=aE g (by rw[e.2];rfl);omega
  ·exact absurd e.1 (nN 0)
  ·exact absurd e.1 (nN 0)
 have bI:ze (qp K p v) W (W8.setRow (W.heap.size+1+1) N8):=by have E:ze (qp K p v) W w7:=((((ze.below aM).trans U).trans (ze.below G)).trans (ze.below A)).trans (ze.below H);exact⟨q.os.trans E.os,q.tape.trans E.tape,q.output.trans E.output,by simp[oe];exact zT E.size q.size,λj hj hm=>((oL _ _ j _ (by omega)).trans (q.block j (by have:=E.size;omega) (by omega))).trans (E.block j hj hm)⟩
 have bK:qa K W v v':=a5.mono aM.size;have bA:=pk V;have bE:=pk aD.symm;clear V aD aZ q h7 h8 h5 h4 n4 L a7 aG aE aV aK aJ aA aU C aB d0 d1 aX aT H aN S A G U a5 aS a6
 go_wp2_with (first
  | (rw[bE.out];refine yV rfl 69 (.tmp 7) rfl f.heap.size rfl zj bG aP ?_)
  | (refine vW zj aL aP bL ?_))
 exact oQ (yi rfl (xF (g:=W.heap.size+1+1) 6 rfl zj bF aP)) rfl ⟨v',r,c3,Ak,ck,Ai,ci,by rw[bA.out],N9,h9,bO,bK,bI,a8⟩
end
section
variable {W0 W W':World}{K:xH}{p t:Nat}{k:Int}{v v':yz}{st last st' last':qm}{mk mk':Value}{ms:List vK}
def Yo (W0:World)(K:xH)(p t:Nat)(k:Int)(last:qm)(mk:Value)(ms:List vK)(b:Nat)(v:yz)(W:World)(Q:yo->yz->qm->Prop)(e:Ending)(w':World):Prop :=
 ∃z v' st' Ac cc Ak ck Ai ci,e=Y0 (.agg (zu z Ac cc Ak ck Ai ci))/\Q z v' st'/\yf w' K p v' z Ac cc Ak ck Ai ci/\YG b z Ac Ak Ai/\qe W0 K p t k v' st' last true mk ms w'/\qa K W v v'/\ze (qp K p v) W w'
theorem PS (h:qe W0 K p t k v st last true mk ms W)(hK:K.Ok)(hN:v.N<=800000)(n:Int)(hn:1<=n/\n<st.size)(hP:n<(K.P:Int))(hT:¬ jK K v.D)(x:yo)(hx:XE K v n x)(bL:x.leaf=false)(c:xK)(i:Nat)(b0:yu false (qi x) c.key=i)(m:Int)(hm:x.kids[i]?=some m)(b8:x.cells.length<=1000)(cC:x.keys.length<=1000)
  (R Q:yo->yz->qm->Prop)
  (a7:∀W1 v1,qe W0 K p t k v1 st last true mk ms W1->Xo K v v1->pr Y3 48 #[.agg #[.pointer (some ⟨t,0,none⟩)],.int .i64 m,.agg (zm c).toArray] W1 (Yo W0 K p t k last mk ms W1.heap.size v1 W1 R))
  (a8:∀W1 v1 bR y b Ac cc Ak ck Ai ci Bc bc Bk bk Bi bi,R y v1 bR->qe W0 K p t k v1 bR last true mk ms W1->yf W1 K p v1 x Ac cc Ak ck Ai ci->YG b x Ac Ak Ai->b<=W1.heap.size->yf W1 K p v1 y Bc bc Bk bk Bi bi->pr Y3 85 #[.agg #[.pointer (some ⟨t,0,none⟩)],.agg (zu x Ac cc Ak ck Ai ci),.int .i64 (i:Int),.agg (zu y Bc bc Bk bk Bi bi)] W1 (Yo W0 K p t k last mk ms b v1 W1 Q)) :
  pr Y3 48 #[.agg #[.pointer (some ⟨t,0,none⟩)],.int .i64 n,.agg (zm c).toArray] W (Yo W0 K p t k last mk ms W.heap.size v W Q):=by
 have cH:=h.up;obtain⟨W1,H⟩:=Z9 (((W.alloc (.cells #[.pointer (some ⟨t,0,none⟩)] 92)).alloc (.cells (zm c).toArray 94)).alloc (.cells #[.bool false,.slice none 0 0,.slice none 0 0,.slice none 0 0] 69));have aW:ph W.heap.size W W1:=by rw[H];exact Za _ _ _ _
 have b3:za W1 W.heap.size 92 #[.pointer (some ⟨t,0,none⟩)]:=by rw[H];exact((za.new W _ _).alloc _).alloc _
 have b5:za W1 (W.heap.size+1) 94 (zm c).toArray:=by have:=(za.new (W.alloc (.cells #[.pointer (some ⟨t,0,none⟩)] 92)) 94 (zm c).toArray).alloc (.cells #[.bool false,.slice none 0 0,.slice none 0 0,.slice none 0 0] 69);rw[pq] at this;rw[H];exact this
 have b6:za W1 (W.heap.size+1+1) 69 #[.bool false,.slice none 0 0,.slice none 0 0,.slice none 0 0]:=by have:=za.new ((W.alloc (.cells #[.pointer (some ⟨t,0,none⟩)] 92)).alloc (.cells (zm c).toArray 94)) 69 #[.bool false,.slice none 0 0,.slice none 0 0,.slice none 0 0];rw[pq,pq] at this;rw[H];exact this
 have cD:W1.heap.size=W.heap.size+1+1+1:=by rw[H,pq,pq,pq]
 have h1:=h.grow aW;have a6:=QW h1 hK hN n hn hP hT x hx;have bC:=b3.boxed;rw[H] at bC;have bS:=pk H.symm;have bO:=h1.rD b3 (by decide);have bP:=h1.rD b5 (by decide);have bQ:=h1.rD b6 (by decide);clear H h
 go_enter func48,ntmps48
 go_wp2_with fail
 rw[bS.out];refine a6.mono ?_;rintro e f ⟨v',Ac,cc,Ak,ck,Ai,ci,rfl,n2,h2,bK,bM,V,wx,bN,bX,b2,a0⟩;have X2:yf f K p v' x Ac cc Ak ck Ai ci:=yf.own bN n2 a0;have XG:YG W1.heap.size x Ac Ak Ai:=(Kr.ge (show Kr wx.heap.size Ac Ak Ai from a0.rows)).less b2;obtain⟨N,aA⟩:=Z9 (zu x Ac cc Ak ck Ai ci);have aZ:N.size=4:=by rw[aA];rfl
 have bY:∀u∈N.toList,u.oneCell'=true:=by rw[aA];exact zy rfl rfl rfl rfl
 rw[<-aA];have aP:=V.blk b3 bO;have aC:=V.blk b5 bP;have aQ:=V.blk b6 bQ;have cE:W.heap.size+3<=f.heap.size:=by have:=V.size;omega
 obtain⟨W3,bH,bD,aU⟩:=YK f 69 #[.bool false,.slice none 0 0,.slice none 0 0,.slice none 0 0];have U:ph f.heap.size f (W3.setRow f.heap.size N):=zf bD (zG _) _;have aL:=aU.setRow N;generalize bI:W3.setRow f.heap.size N=W4 at *;have HF:=Xc W4 x Ac cc Ak ck Ai ci (X2.grow U).is (by omega) (by omega) c.key;unfold JA at HF;rw[bL,b0] at HF;have bA:=aC.below U aC.lt;have bW:W4.cell? ⟨W.heap.size+1,0,none⟩=some (.string c.key):=by rw[bA.cell];rfl
 rw[<-aA] at HF;have aO:=pk aA;have bT:=pk bH.symm;have bU:=pk bI;clear aA bH bI n2 b3 b5 b6 bC hn a6 bD
 go_wp2_with (first
  | (rw[bT.out];refine vW zj aU aZ bY ?_;rw[bU.out])
  | (refine yV rfl 69 (.tmp 7) rfl f.heap.size rfl zj aL aZ ?_))
 refine HF.mono ?_;rintro e w5 ⟨rfl,aN⟩;have aX:ph w5.heap.size w5 w5.drew:=(pf _ _).drew;have I:ph f.heap.size f w5.drew:=(U.trans (aN.mono U.size)).trans (aX.mono (by have:=aN.size;have:=U.size;omega));have O:=h2.grow I;have X5:=X2.grow I;have aH:=aP.below I aP.lt;have aJ:=aC.below I aC.lt;have aR:=aQ.below I aQ.lt;have aM:=aL.below aN aL.lt;have aD:=aM.below aX aM.lt;have d0:w5.cell? ⟨f.heap.size,0,none⟩=some (.bool false):=by rw[aM.cell,aO.out];simp[zu,bL]
 obtain⟨g,o,eA,hg,hc,hi⟩:=X5.sU hm;have aY:N[3]?=some (.slice (some ⟨g,o,none⟩) x.kids.length ci):=by rw[aO.out,eA];rfl
 have cA:(i:Int)<(x.kids.length:Int):=by omega
 have cB:(0:Int)<=(i:Int):=by omega
 have s:za w5.drew W.heap.size 92 #[.pointer (some ⟨t,0,none⟩)]/\za w5.drew f.heap.size 69 N/\w5.drew.cell? ⟨f.heap.size,3,none⟩=some (.slice (some ⟨g,o,none⟩) x.kids.length ci)/\w5.drew.cell? ⟨g,o+i,none⟩=some (.int .i64 m)/\za w5.drew (W.heap.size+1) 94 (zm c).toArray:=⟨aH,aD,by rw[aD.cell];exact aY,hc,aJ⟩;have a1:=a7 w5.drew v' O bK;unfold Yo at a1;have p3:=O.rD aH (by decide);have p5:=O.rD aJ (by decide);have p6:=O.rD aR (by decide);have p7:=O.rD aD (by decide);have cF:=I.size;have g5:ze (qp K p v) W w5.drew:=((ze.below aW).trans V).trans (ze.below I);have N5:qa K W v v':=bM.mono aW.size;have b1:(zm c).toArray.size=4:=rfl;clear aN aX HF aP aC aQ bA aU aL aM hc bW h2 bN bX a0 X2 a7 h1 V bM bK bO bP bQ U
 go_wp2_with fail
 refine zb.st (λW':World=>za W' W.heap.size 92 #[.pointer (some ⟨t,0,none⟩)]/\za W' f.heap.size 69 N/\W'.cell? ⟨f.heap.size,3,none⟩=some (.slice (some ⟨g,o,none⟩) x.kids.length ci)/\W'.cell? ⟨g,o+i,none⟩=some (.int .i64 m)/\za W' (W.heap.size+1) 94 (zm c).toArray) 99 ?_;generalize w5.drew=wd at *;refine zb.t0 0 (.agg #[.pointer (some ⟨t,0,none⟩)]) rfl s (λW ⟨r,j,q,E,A⟩=>by exact QT XS r rfl rfl rfl) ?_;simp only[zD,zB,pj,zA,zF,zE];refine zb.t0 1 (.agg N) rfl s (λW ⟨r,j,q,E,A⟩=>by exact QU zj j aZ rfl rfl) ?_;refine zb.q0 2 (.int .i64 (i:Int)) s ?_;simp only[Z8];refine zb.t0 3 (.agg #[.pointer (some ⟨t,0,none⟩)]) rfl s (λW ⟨r,j,q,E,A⟩=>by exact QT XS r rfl rfl rfl) ?_;refine zb.q0 4 (.pointer (some ⟨f.heap.size,3,none⟩)) s ?_;refine zb.q0 5 (.slice (some ⟨g,o,none⟩) x.kids.length ci) s ?_;refine zb.q0 6 (.int .i64 (i:Int)) s ?_;refine zb.q0 7 (.pointer (some ⟨g,o+i,none⟩)) s ?_;refine zb.q0 8 (.int .i64 m) s ?_;simp only[Z8];refine zb.t0 9 (.agg (zm c).toArray) rfl s (λW ⟨r,j,q,E,A⟩=>by exact QU qt A b1 rfl rfl) ?_;simp only[Z8];refine zb.n 10 ?_;refine zb.oC 48 #[.tmp 26,.tmp 31,.tmp 32] #[92,3,94] #[.agg #[.pointer (some ⟨t,0,none⟩)],.int .i64 m,.agg (zm c).toArray] (a1.mono ?_) (zb.eo func48);rintro e w6 ⟨y,v6,b4,Bc,bc,Bk,bk,Bi,bi,rfl,bF,Y6,_,S,a4,G⟩;have aI:=G.blk aH p3;have aK:=G.blk aJ p5;have aS:=G.blk aR p6;have aE:=G.blk aD p7;have X6:=X5.rH G a4;have cG:=G.size;have bG:za w6 W.heap.size 92 #[.pointer (some ⟨t,0,none⟩)]/\za w6 f.heap.size 69 N/\w6.cell? ⟨f.heap.size,3,none⟩=some (.slice (some ⟨g,o,none⟩) x.kids.length ci)/\w6.cell? ⟨g,o+i,none⟩=some (.int .i64 m)/\za w6 (W.heap.size+1) 94 (zm c).toArray:=by
  refine⟨aI,aE,by rw[aE.cell];exact aY,?_,aK⟩;obtain⟨g',o',C,_,a3,_⟩:=X6.sU hm;rw[eA] at C;injection C with C
  injection C with j q
  subst j q;exact a3
 have aG:=a8 w6 v6 b4 y W1.heap.size Ac cc Ak ck Ai ci Bc bc Bk bk Bi bi bF S X6 XG (by omega) Y6;unfold Yo at aG;rw[<-aO.out] at aG;refine⟨_,rfl,λ_=>bG,?_⟩;simp only[Z8];refine zb.n 11 ?_;refine zb.oC 85 #[.tmp 23,.tmp 24,.tmp 25,.tmp 33] #[92,69,3,69] #[.agg #[.pointer (some ⟨t,0,none⟩)],.agg N,.int .i64 (i:Int),.agg (zu y Bc bc Bk bk Bi bi)] (aG.mono ?_) (zb.eo func85);rintro e w7 ⟨z,v7,b7,Zc,zc,Zk,zk,Zi,zi,rfl,bE,Z7,ZG,h7,a5,L⟩;have a9:=L.blk aI (S.rD aI (by decide));have bB:=L.blk aK (S.rD aK (by decide));have aT:=L.blk aS (S.rD aS (by decide));have aV:=L.blk aE (S.rD aE (by decide));have X7:=X6.rH L a5;have a2:za w7 W.heap.size 92 #[.pointer (some ⟨t,0,none⟩)]/\za w7 f.heap.size 69 N/\w7.cell? ⟨f.heap.size,3,none⟩=some (.slice (some ⟨g,o,none⟩) x.kids.length ci)/\w7.cell? ⟨g,o+i,none⟩=some (.int .i64 m)/\za w7 (W.heap.size+1) 94 (zm c).toArray:=by
  refine⟨a9,aV,by rw[aV.cell];exact aY,?_,bB⟩;obtain⟨g',o',C,_,a3,_⟩:=X7.sU hm;rw[eA] at C;injection C with C
  injection C with j q
  subst j q;exact a3
 refine⟨_,rfl,λ_=>a2,?_⟩;simp only[Z8];obtain⟨Z,aF⟩:=Z9 (zu z Zc zc Zk zk Zi zi);have bJ:Z.size=4:=by rw[aF];rfl
 have bZ:∀u∈Z.toList,u.oneCell'=true:=by rw[aF];exact zy rfl rfl rfl rfl
 have N6:qa K W v v6:=N5.trans a4 (by omega);have N7:qa K W v v7:=N6.trans a5 (by omega);have g6:ze (qp K p v) W w6:=G.fresh g5 N5 (by omega);have M:ze (qp K p v) W w7:=L.fresh g6 N6 (by omega);have F:Yo W0 K p t k last mk ms W.heap.size v W Q (.returned (.agg Z)) (w7.setRow (W.heap.size+1+1) Z) :=
  ⟨z,v7,b7,Zc,zc,Zk,zk,Zi,zi,by rw[aF],bE,Z7.pG ZG (by omega) Z,ZG.less (by omega),h7.rF (qj w7 (W.heap.size+1+1) Z) aT (by decide) (λm e=>by cases e) (by omega) (by decide),N7,⟨M.os,M.tape,M.output,by simp[oe];exact M.size,λa ha hm=>(oL _ _ a _ (by omega)).trans (M.block a ha hm)⟩⟩
 have bV:=aT.setRow Z;rw[<-aF];have aB:=a2;have b9:=XG g o (.inr (.inr ⟨by omega,eA⟩));clear s bG a2 aG a1 a8 X5 X6 X7 O S h7 aH aJ aR aD aI aK aS aE a9 bB aV Z7 ZG XG Y6 g5 g6 M N5 N6 N7 G L a4 a5 aF bE bF;refine zb.n 12 ?_;refine zb.opS rfl rfl (vm 69 (.tmp 6) (.tmp 34) rfl (W.heap.size+1+1) rfl rfl zj aT rfl bJ bZ) ⟨λ_ => ?_,zb.dn ?_⟩
 ·exact⟨aB.1.rB (by omega) Z,aB.2.1.rB (by omega) Z,(oG (w:=w7) (oL _ _ _ _ (by show f.heap.size≠_;omega))).trans aB.2.2.1,(oG (w:=w7) (oL _ _ _ _ (by show g≠_;omega))).trans aB.2.2.2.1,aB.2.2.2.2.rB (by omega) Z⟩
 simp only[zD,zC,zB,pj];go_wp2;exact oQ (yi rfl (xF (g:=W.heap.size+1+1) 6 rfl zj bV bJ)) rfl F
end
def tR (K:xH)(D:Int->Option Y4)(b:Nat)(roots:List Int)(rest:List Int)(n:Int)(d:Nat)(es:List yN)(z:yo)(v':yz)(st':qm):Prop :=
 ∃used' free' ps',xh K v'.D st' used' free'/\used'.Perm (n::(ps'++rest))/\ye v'.D d z es ps'/\(qb z).length<=656/\(∀a∈rest,v'.D a=D a)/\v'.N<=b/\st'.roots=roots
def FJ (W0:World)(K:xH)(p t:Nat)(k:Int)(last:qm)(mk:Value)(ms:List vK)(d:Nat)(cond:yo->yN->Prop):Prop :=
 ∀(v:yz) (st:qm) (W:World) (used free:List Int) (n:Int) (x:yo) (es:List yN) (ps pc rest:List Int) (c:xK) (e:yN),qe W0 K p t k v st last true mk ms W->xh K v.D st used free->used.Perm (n::(ps++(pc++rest)))->v.D n=some (vE x)->(qb x).length<=512->ye v.D d x es ps->qg es->xw v.D c e pc ->
  v.N+12*(d+1)<=600000->es.length<=60->rest.length+3*es.length+5<=440->cond x e ->
  pr Y3 48 #[.agg #[.pointer (some ⟨t,0,none⟩)],.int .i64 n,.agg (zm c).toArray] W (Yo W0 K p t k last mk ms W.heap.size v W (tR K v.D (v.N+12*(d+1)) st.roots rest n d (putE es e)))
theorem XE.of {K:xH}{v:yz}{n:Int}{x:yo}(g:0<=n)(c:v.D n=some (vE x))(f:yj x)(hl:(qb x).length<=512):XE K v n x:=by
 have e:v.view K n.toNat=vE x:=by rw[ju,show ((n.toNat:Nat):Int)=n by omega,c];rfl
 exact⟨by rw[c];rfl,by rw[e];exact⟨f,hl,rfl⟩,by rw[e];exact SR f hl⟩
section
variable {W0:World}{K:xH}{p t:Nat}{k:Int}{last:qm}{mk:Value}{ms:List vK}
theorem MJ {x:yo}(h1:x.leaf=true)(h2:x.keys=[])(c:x.kids=[]):x=⟨true,x.cells,[],[]⟩:=by
 obtain⟨leaf,cells,keys,kids⟩:=x;simp only at h1 h2 c;subst h1 h2 c;rfl
theorem Lj {x:yo}(h1:x.leaf=false)(h2:x.cells=[]):x=⟨false,[],x.keys,x.kids⟩:=by
 obtain⟨leaf,cells,keys,kids⟩:=x;simp only at h1 h2;subst h1 h2;rfl
theorem AR (j:K.Ok):FJ W0 K p t k last mk ms 0 (λx e=>je true (qi x) e.1=false):=by
 intro v st W used free n x es ps V rest c e h g hu G hl i hs hc hN he hr r;have N:n∈used:=hu.mem_iff.2 (by simp);have u:=g.rP n (List.mem_append_left _ N);have aB:=g.sz;have aA:=j.hP;obtain⟨q,U,q1,C,O⟩:=Co i hs hc r;have hm:=i.many;have S:=i;obtain⟨s,M,L,_,_⟩:=S;refine(Eb h j (by omega) n ⟨u.1,u.2⟩ (by omega) (g.loose j) x (XE.of (by omega) G (i.right hs) hl) s c _ (by rw[hc.key]) (by rw[hc.key];exact r) q (by omega)).mono ?_;rintro e' w' ⟨v',Ac,cc,Ak,ck,Ai,ci,rfl,A,E,f,I,H,z⟩;refine⟨_,v',st,Ac,cc,Ak,ck,Ai,ci,rfl,⟨used,free,U++(V++q1),by rw[f.dd];exact g,?_,by rw[f.dd];exact O,?_,λa _=>by rw[f.dd],by have:=f.nn;omega,rfl⟩,A,z,E,I,H⟩
 ·refine hu.trans ?_;rw[C,nJ];intro a;simp only[gN,nU];omega
 ·have:=LZ x.cells _ c q (by omega) hc.laid;rw[<-MJ s M L] at this;omega
theorem On (ks:List YJ)(d:Nat)(h:∀k∈ks,k.ps.length+2<=3*k.es.length/\d<k.es.length):(Xk ks).length+ks.length<=3*(KZ ks).length:=(KY d h).1
theorem Od (u:K.Ok)(bA:450<=K.pg)(aQ:FJ W0 K p t k last mk ms 0 (λx e=>je true (qi x) e.1=true)):∀d,FJ W0 K p t k last mk ms d (λ_ _=>True)
 | 0=>λv st W used free n x es ps pc rest c e h I hu hD hl V hs hc hN he hr _=>by
  cases i:je true (qi x) e.1 with
  | false=>exact AR u v st W used free n x es ps pc rest c e h I hu hD hl V hs hc hN he hr i
  | true=>exact aQ v st W used free n x es ps pc rest c e h I hu hD hl V hs hc hN he hr i
 | d+1=>λv st W used free n x es ps pc rest c e h I hu hD hl V hs hc hN he hr _=>by
  have IH:=Od u bA aQ d;have bL:n∈used:=hu.mem_iff.2 (by simp);have a4:=I.rP n (List.mem_append_left _ bL);have b4:=I.sz;have bT:=u.hP;have bU:=u.P2;have hm:=V.many;have aS:=V.right hs;have bQ:=V;obtain⟨ks,r,aF⟩:=bQ;have aU:∀j∈ks,j.ps.length+2<=3*j.es.length/\d<j.es.length:=λj g=>(aF j g).1.sV
  obtain⟨O,f,S,s⟩:=Iu r (λj g=>(aF j g).1.ne) e;have aY:=r.len;have bW:=r.pos;have aZ:f∈ks:=by rw[s.eq];simp
  obtain⟨kN,kD,kl⟩:=aF f aZ;have aK:=r.sZ;rw[s.eq] at aK aY;rw[YV,kO] at aK;have a6:qg f.es:=qg.sU (r.sZ▸hs) f aZ;have bX:=On O d λj g=>aU j (by rw[s.eq];simp[g])
  have bY:=On S d λj g=>aU j (by rw[s.eq];simp[g])
  have bF:=congrArg List.length aK;simp only[zH,zL] at bF aY;have a0:=r.sw;rw[s.eq,ku,jU] at a0;have bE:yu false (qi x) c.key=vv e.1 x.keys:=by unfold yu qi;rw[r.leaf,hc.key];simp
  have aM:x.kids[vv e.1 x.keys]?=some f.pg:=by rw[r.kids,s.eq,<-s.len];unfold Gs;simp
  have b2:=s.put;have b1:=ZJ f.es e;obtain⟨rk,L⟩:=Z9 (n::(Xk O++(Xk S++rest)));have b3:rk.length=1+(Xk O).length+(Xk S).length+rest.length:=by rw[L];simp;omega
  have bP:used.Perm (f.pg::(f.ps++(pc++rk))):=by refine hu.trans ?_;rw[a0,L,nJ];intro a;simp only[gN,nU];omega
  have aE:∀j,j∈O∨j∈S->∀D':Int->Option Y4,(∀a∈rk,D' a=v.D a)->ye D' d j.nd j.es j.ps/\D' j.pg=some (vE j.nd)/\(qb j.nd).length<=512:=λj g D' aR=>by
   have bH:j∈ks:=by rw[s.eq];simp;rcases g with g|g<;>simp[g]
   obtain⟨a1,a2,a3⟩:=aF j bH;have aW:∀a,a=j.pg∨a∈j.ps->a∈rk:=λa ha=>by
    rw[L];rcases g with g|g
    ·obtain⟨m1,m2⟩:=Uo g;rcases ha with rfl|ha
     ·simp[m1]
     ·simp[m2 a ha]
    ·obtain⟨m1,m2⟩:=Uo g;rcases ha with rfl|ha
     ·simp[m1]
     ·simp[m2 a ha]
   exact⟨a1.rE λa ha=>aR a (aW a (.inr ha)),(aR _ (aW _ (.inl rfl))).trans a2,a3⟩
  refine PS h u (by omega) n ⟨a4.1,a4.2⟩ (by omega) (I.loose u) x (XE.of (by omega) hD aS hl) r.leaf c _ bE f.pg aM (by omega) (by omega)
   (tR K v.D (v.N+1+12*(d+1)) st.roots rk f.pg d (putE f.es e)) _ (λW1 v1 h1 aD => ?_) (λW1 v1 bR y b Ac cc Ak ck Ai ci Bc bc Bk bk Bi bi bB h1 hX bD i hY => ?_)
  ·have aA:=aD.dd;have aN:=aD.nn;refine(IH v1 st W1 used free f.pg f.nd f.es f.ps pc rk c e h1 (by rw[aA];exact I) bP (by rw[aA];exact kD) kl (by rw[aA];exact kN) a6 (by rw[aA];exact hc) (by omega) (by omega) (by omega) trivial).mono ?_;rintro e' w' ⟨z,v',st',Zc,zc,Zk,zk,Zi,zi,r1,⟨u',f',E,q1,q2,C,q4,M,q6,q7⟩,r3⟩;exact⟨z,v',st',Zc,zc,Zk,zk,Zi,zi,r1,⟨u',f',E,q1,q2,C,q4,λa ha=>by rw[<-aA];exact M a ha,by omega,q7⟩,r3⟩
  ·obtain⟨u',f',E,q1,q2,C,q4,M,q6,q7⟩:=bB;have bJ:=q1.nd;have bK:(f.pg::(E++rk)).Nodup:=q2.nodup_iff.1 (List.nodup_append.1 bJ).1;obtain⟨aN,b0⟩:=List.nodup_cons.1 bK;have aP:∀a∈E,a≠f.pg:=λa ha e1=>aN (e1▸List.mem_append_left _ ha)
   have aB:∀a∈rk,a≠f.pg:=λa ha e1=>aN (e1▸List.mem_append_right _ ha)
   have aL:f.pg∈u':=q2.mem_iff.2 (by simp);have a5:=q1.rP f.pg (List.mem_append_left _ aL);have b5:=q1.sz;have aH:=a6.sW e;have aJ:=C.right aH;have bZ:=C.many;have bV:=C.sV;have b6:u'.length=1+E.length+rk.length:=by rw[q2.length_eq];simp;omega
   by_cases aV:(qb y).length<=512
   ·refine(Mr h1 u (by omega) (q1.loose u) hX hY _ f.pg aM ⟨a5.1,a5.2⟩ (by omega) (by omega) (by omega) (by omega) aJ aV).mono ?_;rintro e' w' ⟨v3,rfl,bC,h3,aT,aO,aI⟩;have H:=aT.dd;have A:∀a,a≠f.pg->v3.D a=v1.D a:=λa ha=>by rw[H];simp[ha]
    refine⟨x,v3,bR,Ac,cc,Ak,ck,Ai,ci,rfl,⟨u',f',Xk (O++⟨f.pg,y,putE f.es e,E⟩::S),by rw[H];exact q1.put aL _,?_,⟨_,s.one ⟨f.pg,y,putE f.es e,E⟩ rfl rfl,λj g => ?_⟩,by omega,λa ha => ?_,by have:=aT.nn;omega,q7⟩,bC,bD,h3,aO,aI⟩
    ·refine q2.trans ?_;rw[ku,jU,L,nJ];intro a;simp only[gN,nU];omega
    ·rcases qA.1 g with g|g
     ·exact aE j (.inl g) _ λa ha=>(A a (aB a ha)).trans (M a ha)
     ·rcases qM.1 g with rfl|g
      ·exact⟨C.rE λa ha=>A a (aP a ha),by rw[H];simp,aV⟩
      ·exact aE j (.inr g) _ λa ha=>(A a (aB a ha)).trans (M a ha)
    ·have U:a∈rk:=by rw[L];simp[ha]
     exact(A a (aB a U)).trans (M a U)
   ·have aG:512<(qb y).length:=by omega
    refine(JF h1 u (by omega) q1 (by omega) hX hY _ f.pg aM aL (by omega) (by omega) (Kh _ _) (by omega) (by omega) (by omega) aJ aG (λj g=>C.ry aH g aG q4)).mono ?_;rintro e' w' ⟨j,q,v3,bS,a8,Ck,nk,Ci,ni,G,bO,rfl,hZ,h3,aO,aI,a9⟩;obtain⟨f1,f2,j0,jl⟩:=C.ry aH G.half aG q4;obtain⟨ea,eb,pa,pb,ee,pe,hA,hB,bI,bG,a7⟩:=C.split aH j0 jl (XX aJ aG);have H:=G.dd;have bN:=G.nq
    have aC:∀a,a=f.pg∨a∈E∨a∈rk->a≠q:=λa ha e1=>bN (e1▸q2.mem_iff.2 (by
     rcases ha with ha|ha|ha<;>simp[ha]))
    have A:∀a,a≠f.pg->a≠q->v3.D a=v1.D a:=λa ha i=>by rw[H];simp[ha,i]
    have bM:=G.pl.rP q (by simp);have b7:=G.pl.sz;refine⟨jb x (vv e.1 x.keys) (yn y j) q,v3,bS,none,0,Ck,nk,Ci,ni,rfl,⟨q::u',a8,Xk (O++⟨f.pg,xG y j,ea,pa⟩::⟨q,yT y j,eb,pb⟩::S),G.pl,?_,⟨_,s.two ⟨f.pg,xG y j,ea,pa⟩ ⟨q,yT y j,eb,pb⟩ (yn y j) rfl ⟨bM.1,by show q<=2000;omega⟩ ee.symm bI bG hB.ne a7,λa ha => ?_⟩,?_,λa ha => ?_,by have:=G.nn;omega,bO.trans q7⟩,hZ,a9.less i,h3,aO,aI⟩
    ·refine(List.Perm.cons q q2).trans ?_;rw[ku,jU,jU,L,pe,nJ];intro a;simp only[gN,nU];omega
    ·have aX:∀a∈rk,v3.D a=v.D a:=λa ha=>(A a (aB a ha) (aC a (.inr (.inr ha)))).trans (M a ha)
     rcases qA.1 ha with ha|ha
     ·exact aE a (.inl ha) _ aX
     ·rcases qM.1 ha with rfl|ha
      ·refine⟨hA.rE λb i=>A b (aP b (by rw[pe];simp[i])) (aC b (.inr (.inl (by rw[pe];simp[i])))),?_,f1⟩;rw[H];simp[aC f.pg (.inl rfl)]
      ·rcases qM.1 ha with rfl|ha
       ·refine⟨hB.rE λb i=>A b (aP b (by rw[pe];simp[i])) (aC b (.inr (.inl (by rw[pe];simp[i])))),?_,f2⟩;rw[H];simp
       ·exact aE a (.inr ha) _ aX
    ·have aD:x.kids.length=x.keys.length+1:=(aS.inner r.leaf).2.2.1;have:=Gr x.keys x.kids (vv e.1 x.keys) (yn y j) q aD (Kh _ _) (by omega) a7 (by omega);rw[<-Lj r.leaf r.cells] at this;unfold jb;omega
    ·have U:a∈rk:=by rw[L];simp[ha]
     exact(A a (aB a U) (aC a (.inr (.inr U)))).trans (M a U)
end
section
variable {W0 W W' wx:World}{K:xH}{p t:Nat}{k:Int}{v v':yz}{st st' last:qm}{under:Bool}{mk:Value}{ms:List vK}{b:Nat}{T:oD}{cs:Y7}
theorem qq.pH {A:Y5}{c:Nat}{l:Y4}(h:qq W W.heap.size A c l)(q:Kp W A)(r:za W b T cs)(f:T≠5)(i:ze (λj=>j=b) W W'):qq W' W'.heap.size A c l :=
 i.inB h (λg o e _ u=>by
  obtain⟨cs',s⟩:=q g o e
  exact zo r s f u.symm)
theorem ve.sR (h:ve W0 K v W)(i:ze (λj=>j=b) W W')(r:za W b T cs)(G:W0.heap.size<=b)(C:Qg T)(z:T≠5):ve W0 K v W':=by
 obtain⟨t1,I,t3,t4,t5,H,_⟩:=C;have hf:=h.cs.fh;have hc:=h.cs.ca;refine⟨⟨⟨hf.up.trans (i.toBelow hf.up.size (λj e=>by subst e;exact G)),i.blk hf.fb (λe=>zo r hf.fb H e.symm)⟩,?_,h.cs.nb,λq u hu hl g o e => ?_⟩,h.ok,h.ro,h.cn⟩
 ·obtain⟨es,c,s,E,hs⟩:=hc.mp;refine⟨i.blk hc.cb (λe=>zo r hc.cb t3 e.symm),⟨es,c,(i.block _ s.lt (λe=>s.rO r e)).trans s,E,hs⟩,λq u hu => ?_,hc.inj,hc.sf⟩;have f:=hc.rows q u hu;refine⟨i.blk f.blk (λe=>zo r f.blk t4 e.symm),f.key,?_,f.len,f.sH⟩;rcases f.len with hl|hl
  ·exact f.rV.pH (h.cs.ty q u hu hl) r z i
  ·have:=f.rV;rw[hl] at this ⊢;exact this.noB
 ·obtain⟨cs',A⟩:=h.cs.ty q u hu hl g o e;exact⟨cs',i.blk A (λe=>zo r A z e.symm)⟩
theorem qe.sR (q:qe W0 K p t k v st last under mk ms wx)(h:qe W0 K p t k v' st' last under mk ms W)(u:qa K wx v v')(f:ze (qp K p v) wx W)(c:ze (λj=>j=b) W W')(i:za W b T cs)(z:wx.heap.size<=b)(g:Qg T)(s:T≠5):qe W0 K p t k v' st' last under mk ms W' :=
 ⟨⟨h.pa.ca.sR c i (zT q.up z) g s,c.blk h.pa.pb (λe=>zo i h.pa.pb g.2.2.2.2.1 e.symm),h.pa.np,h.pa.hs,h.pa.hl⟩,
  q.mm.sj q.pa ⟨c.os.trans f.os,c.tape.trans f.tape,c.output.trans f.output,zT f.size c.size,λj r A=>(c.block j (zO r f.size) (λe=>by
   have e:j=b:=e
   omega)).trans (f.block j r A)⟩ u,
  c.blk h.tb (λe=>zo i h.tb g.2.2.2.2.2.2.1 e.symm)⟩
end
theorem Mo {u:ByteArray}(h:u.size<=508):(kU u).length=512:=by
 have h2:u.data.toList.length=u.size:=zW;unfold kU;simp only[zH,List.length_replicate,zL,zY,h2];omega
theorem PQ (u:ByteArray):xI ((kU u).take 4)=0:=by
 unfold kU;simp[xI]
theorem Nx {u:ByteArray}(j:Nat)(f:j<u.data.toList.length)(c:4+j<(kU u).length):(kU u)[4+j]=u.data.toList[j]:=by
 have e:([0,0,0,0]++u.data.toList++zP (508-u.size) 0)[4+j]?=some u.data.toList[j]:=by rw[qO,qU (by simp),List.getElem?_append_left (by simpa using f)];simp
 have:(kU u)[4+j]?=some u.data.toList[j]:=e;rw[zM c] at this;exact mL this
section
variable {W0 W W':World}{K:xH}{p t:Nat}{k:Int}{v v':yz}{st last st' last':qm}{under:Bool}{mk mk':Value}{ms:List vK}
theorem Fv (h:qe W0 K p t k v st last under mk ms W)(hK:K.Ok)(hN:v.N<=800000)(n:Int)(hn:1<=n/\n<st.size)(hP:n<(K.P:Int))(hT:¬ jK K v.D)(u ky:ByteArray)(hu:60<u.size/\u.size<=400)(V:v.D n=some (kU u))
  (F:Nat) (q:Value) (eg:∀args w,(callFunc F args).run Y3 w=.ok (.enter F args) w) (P:yz->World->Prop)
  (M:∀f v1 A,qe W0 K p t k v1 st last under mk ms f->Xo K v v1->W.heap.size<=f.heap.size->ze (qp K p v) W f->qa K W v v1->qq f f.heap.size A u.size u.data.toList->pr Y3 F #[.int .i64 n,.slice A u.size u.size,q] f λe w'=>(∃z,e=Y0 z)/\P v1 w') :
  pr Y3 142 #[.agg #[.pointer (some ⟨t,0,none⟩)],.agg (zm ⟨ky,oR,n,(u.size:Int)⟩).toArray,.func (.func F) #[] #[q]] W λe w'=>(∃z,e=Y0 z)/\∃v1,P v1 w':=by
 obtain⟨f,I,C,b3,b4⟩:=Bp W 92 #[.pointer (some ⟨t,0,none⟩)] 94 #[.string ky,.string oR,.int .i64 n,.int .i64 (u.size:Int)];have h1:=h.grow C;have E:=Vk h1 hK hN n hn hP hT (by rw[V];rfl);have aH:v.view K n.toNat=kU u:=by rw[ju,show ((n.toNat:Nat):Int)=n by omega,V];rfl
 rw[aH] at E;have c2:f.cell? ⟨W.heap.size+1,2,none⟩=some (.int .i64 n):=by rw[b4.cell];rfl
 have c3:f.cell? ⟨W.heap.size+1,3,none⟩=some (.int .i64 (u.size:Int)):=by rw[b4.cell];rfl
 have c0:=b3.boxed;have O:=c2;have S:=c3;rw[I] at O S;have aF:=pk I.symm;have aK:u.data.toList.length=u.size:=zW;clear I;unfold zm
 go_enter func142,ntmps142
 go_wp2;rw[aF.out];clear O S
 go_loopw [6,7] (λj i wr=>(j=.int .i64 (u.size:Int)/\i=.int .i64 n/\wr=f)∨(j=.int .i64 0/\i=.int .i64 0/\∃v1,P v1 wr)) (λj _ _=>match j with | .int _ m=>m.toNat|_=>0)
 case atStart=>exact .inl ⟨rfl,rfl,rfl⟩
 case round =>
  rcases hrel with⟨rfl,rfl,rfl⟩|⟨rfl,rfl,v1,hP1⟩
  ·have aN:¬ n=0:=by omega
   have aP:¬ u.size=0:=by omega
   go_wp2_with fail
   refine E.mono ?_;rintro e w2 ⟨v',A,c,rfl,s,aI,h2,aD,aE,H⟩;have G:=Qw w2 A c (kU u) s;rw[aI,VN (by omega),PQ] at G;have hcut:=s.max;have aJ:=s.le;obtain⟨g,o,rfl,hg,aB⟩:=s.rC (by omega)
   go_wp2_with fail
   refine G.mono ?_;rintro e w3 ⟨rfl,r⟩;have U:=h2.grow r;have aC:qq w3 w3.heap.size (some ⟨g,o+4,none⟩) u.size u.data.toList:=by refine⟨by omega,by omega,(λe=>by cases e),λ_=>⟨g,o+4,rfl,zO hg r.size,λj hj => ?_⟩⟩;have:=aB (4+j) (by omega);rw[Nx j hj (by omega)] at this;rw[r.cell (p:=⟨g,o+4+j,none⟩) hg,<-this,Nat.add_assoc]
   have aA:ze (qp K p v) W w3:=((ze.below C).trans H).trans (ze.below r);have L:=M w3 v' (some ⟨g,o+4,none⟩) U aD (by have:=C.size;have:=H.size;have:=r.size;omega) aA (aE.mono C.size) aC;have aL:(if (508:Int)<(u.size:Int) then (508:Int) else (u.size:Int))=(u.size:Int):=by rw[if_neg (by omega)]
   have aQ:IntKind.i64.wrap (4+(u.size:Int))=4+(u.size:Int):=xd _;have aO:(4+min (u.size:Int) 508).toNat-4=u.size:=by omega
   have aM:min (u.size:Int) 508=(u.size:Int):=by omega
   clear E G h2 U aD aE H aA s aC aB M h1 h
   go_wp2_with fail
   refine L.mono ?_;rintro e w4 ⟨⟨z,rfl⟩,aG⟩;clear L
   go_wp2_with fail
   refine⟨.inr ⟨rfl,rfl,v',aG⟩,?_⟩;show (0:Int).toNat<((u.size:Int)).toNat
   omega
  ·go_wp2
   first
    | (go_end0;exact⟨⟨_,rfl⟩,v1,hP1⟩)
    | (refine oE (dS rfl _ _ _) rfl ?_;exact⟨⟨_,rfl⟩,v1,hP1⟩)
end
theorem Mw (w:World)(g:Nat)(n:Int)(s:Value)(h:za w g 67 #[.slice none 0 0]):pr Y3 143 #[.int .i64 n,s,.pointer (some ⟨g,0,none⟩)] w λe w'=>(∃z,e=Y0 z)/\∃A c,za w' g 67 #[.slice A 1 c]/\yp w' w'.heap.size 1 A 1 c [.int .i64 n]/\(∀r o,A=some ⟨r,o,none⟩->w.heap.size<=r)/\ze (λk=>k=g) w w':=by
 obtain⟨i,H,q,E⟩:=YK w 3 #[.int .i64 n];have c0:=h.boxed;have I:=h.below q h.lt
 have S:yp i i.heap.size 1 (some ⟨w.heap.size,0,none⟩) 1 1 [.int .i64 n]:=⟨zG _,by decide,(λe=>by cases e),rfl,(by intro u hu;rw[qK] at hu;subst hu;rfl),λ_=>⟨w.heap.size,0,rfl,E.lt,λj u U=>by
  rw[qC,E.cell]
  simpa using U⟩⟩
 have aA:=World.ownsRow_nil i w.heap.size 3 1;have aC:=h.lt;have N:=pk H.symm;clear H
 go_enter func143,ntmps143
 go_wp2_with (first
  | (at_builtin;rw[N.out];refine xy rfl Ro _ _ rfl w.heap.size _ 0 [] rfl aA _ _ 1 1 [.int .i64 n] rfl S (by decide) (by decide) q.size ?_;intro v5 w5 L f
     obtain⟨A,c,O,aB⟩:=qn L (by intro u hu;rw[zQ,qK] at hu;subst hu;rfl);have G:=zh L;subst O;have C:za w5 g 67 #[.slice none 0 0]:=(f.block _ I.lt (λe=>by cases e)).trans I;have f5:=C.free 0
     have c5:=C.boxed))
 go_end0;refine⟨⟨_,rfl⟩,A,c,C.set 0 _,?_,λr o e=>G r (by rw[e];rfl),?_⟩
 ·exact aB.rG (M:=λk=>k=g) (λ_ r o e hm=>by have:=G r (by rw[e];rfl);omega) (ze.setCell _ _ _ rfl)
 ·have h1:ze (λk=>k=g) w w5:=(ze.below q).trans ⟨f.os,f.tape,f.output,f.size,λk V _=>f.block k V (λe=>by cases e)⟩;exact h1.trans (ze.setCell _ _ _ rfl)
section
variable {W0 W W':World}{K:xH}{p t:Nat}{k:Int}{v v':yz}{st last st' last':qm}{mk mk':Value}{ms:List vK}
theorem Ec (h:qe W0 K p t k v st last true mk ms W)(hK:K.Ok)(hN:v.N<=790000)(n:Int)(hn:1<=n/\n<st.size)(hP:n<(K.P:Int))(hT:¬ jK K v.D)(aM:0<=st.many/\st.many<=1000)(u q:ByteArray)(hu:60<u.size/\u.size<=400)(hD:v.D n=some (kU u)):pr Y3 87 #[.agg #[.pointer (some ⟨t,0,none⟩)],.agg (zm ⟨q,oR,n,(u.size:Int)⟩).toArray] W λe w'=>∃v',(∃z,e=Y0 z)/\qe W0 K p t k v' {st with first:=n,many:=st.many+1} last true mk ms w'/\v'.N<=v.N+4/\v'.D=(λj=>if j=n then some (kM st.first) else v.D j)/\qa K W v v'/\ze (qp K p v) W w':=by
 have aW:=h.up;obtain⟨W1,f⟩:=Z9 (((W.alloc (.cells #[.pointer (some ⟨t,0,none⟩)] 92)).alloc (.cells (zm ⟨q,oR,n,(u.size:Int)⟩).toArray 94)).alloc (.cells #[.slice none 0 0] 67));have I:ph W.heap.size W W1:=by rw[f];exact Za _ _ _ _
 have G:za W1 W.heap.size 92 #[.pointer (some ⟨t,0,none⟩)]:=by rw[f];exact((za.new W _ _).alloc _).alloc _
 have b3:za W1 (W.heap.size+1) 94 (zm ⟨q,oR,n,(u.size:Int)⟩).toArray:=by have:=(za.new (W.alloc (.cells #[.pointer (some ⟨t,0,none⟩)] 92)) 94 (zm ⟨q,oR,n,(u.size:Int)⟩).toArray).alloc (.cells #[.slice none 0 0] 67);rw[pq] at this;rw[f];exact this
 have b4:za W1 (W.heap.size+1+1) 67 #[.slice none 0 0]:=by have:=za.new ((W.alloc (.cells #[.pointer (some ⟨t,0,none⟩)] 92)).alloc (.cells (zm ⟨q,oR,n,(u.size:Int)⟩).toArray 94)) 67 #[.slice none 0 0];rw[pq,pq] at this;rw[f];exact this
 have aU:W1.heap.size=W.heap.size+1+1+1:=by rw[f,pq,pq,pq]
 have h1:=h.grow I;have aP:=h1.rD G (by decide);have aE:=h1.rD b4 (by decide);have V:=Fv h1 hK (by omega) n hn hP hT u q hu hD 143 (.pointer (some ⟨W.heap.size+1+1,0,none⟩)) (zb.eo func143)
  (λv1 w'=>qe W0 K p t k v1 st last true mk ms w'/\Xo K v v1/\qa K W1 v v1/\ze (λj=>qp K p v j∨j=W.heap.size+1+1) W1 w'/\∃A c,za w' (W.heap.size+1+1) 67 #[.slice A 1 c]/\yp w' w'.heap.size 1 A 1 c [.int .i64 n])
  (λW2 v1 A h2 aL aV L aN _=>(Mw W2 (W.heap.size+1+1) n (.slice A u.size u.size) (L.blk b4 aE)).mono λe w' ⟨hz,A',c',aJ,aK,aT,aA⟩ =>
   ⟨hz,h2.rF aA (L.blk b4 aE) (by decide) (λm e=>by cases e) (by omega) (by decide),aL,aN,(L.more (λj C _ => .inl C)).trans (aA.more (λj C _ => .inr C)),A',c',aJ,aK⟩)
 have aF:=pk f.symm;clear f h h1;unfold zm at *
 go_enter func87,ntmps87
 go_wp2_with (first
  | (rw[aF.out];refine xA qt b3 ?_))
 refine V.mono ?_;rintro e w4 ⟨⟨z,rfl⟩,v1,s,E,aO,aB,A,c,aH,aD⟩;obtain⟨r,o,rfl,hr,aC⟩:=aD.rC (by omega);have aC:w4.cell? ⟨r,o,none⟩=some (.int .i64 n):=by have:=aC 0 _ rfl;simpa using this
 have aS:=aH.boxed
 have aG:=aB.blk G (λe=>by
  rcases e with e|e
  ·exact aP e
  ·omega)
 have aR:=aG.boxed;have aQ:=s.tp;have U:=Sl s.pa hK (by have:=E.nn;omega) n hn hP aM;have N4:qa K W v v1:=aO.mono I.size;have H:ze (qp K p v) W w4:=by have a:=(ze.below I (Mu:=λj=>qp K p v j∨j=W.heap.size+1+1)).trans aB;exact⟨a.os,a.tape,a.output,a.size,λj C hm=>a.block j C (λe=>e.elim hm (λe=>by omega))⟩
 clear V G b3 b4
 go_wp2_with fail
 go_loopw [13] (λi wr=>(i=.int .i64 0/\wr=w4)∨(i=.int .i64 1/\∃v',qe W0 K p t k v' {st with first:=n,many:=st.many+1} last true mk ms wr/\v'.N<=v.N+4/\v'.D=(λj=>if j=n then some (kM st.first) else v.D j)/\qa K W v v'/\ze (qp K p v) W wr)) (λi _=>match i with | .int _ m=>(1-m).toNat|_=>0)
 case atStart=>exact .inl ⟨rfl,rfl⟩
 case round =>
  rcases hrel with⟨rfl,rfl⟩|⟨rfl,v',hv'⟩
  ·go_wp2_with fail
   refine U.mono ?_;rintro e w5 ⟨x,v',rfl,S,hF,O,M⟩;obtain⟨rfl,aI⟩:x=0/\v'.D=λj=>if j=n then some (kM st.first) else v1.D j:=by
    rcases hF.dd with g|⟨_,g,_⟩
    ·exact g
    ·exact absurd (s.pa.ca.tight g) (by rw[E.dd];exact hT)
   rw[if_pos rfl] at S;have g:=s.rH S M O;have F5:qe W0 K p t k v' {st with first:=n,many:=st.many+1} last true mk ms w5/\v'.N<=v.N+4/\v'.D=(λj=>if j=n then some (kM st.first) else v.D j)/\qa K W v v'/\ze (qp K p v) W w5 :=
    ⟨g,by have:=hF.nn;have:=E.nn;omega,by rw[aI,E.dd],N4.trans O H.size,M.fresh H N4 H.size⟩
   clear U S hF O M g s aD
   go_wp2_with (first
    | (go_at_call 51;refine(jx _).mono ?_;rintro e w3 ⟨⟨_,rfl⟩,rfl⟩))
   refine⟨.inr ⟨rfl,v',F5⟩,?_⟩;show (1-(1:Int)).toNat<(1-(0:Int)).toNat
   omega
  ·go_wp2
   first
    | (go_end0;exact⟨v',⟨_,rfl⟩,hv'⟩)
    | (refine oE (dS rfl _ _ _) rfl ?_;exact⟨v',⟨_,rfl⟩,hv'⟩)
end
section
variable {W0 W W':World}{K:xH}{p t:Nat}{k:Int}{v v':yz}{st last st' last':qm}{mk mk':Value}{ms:List vK}{used free rest po:List Int}
structure wt (K:xH)(v:yz)(st:qm)(rest:List Int)(v':yz)(st':qm)(free':List Int):Prop where
 pl:xh K v'.D st' rest free'
 nn:v'.N<=v.N+5
 dd:∀a∈rest,v'.D a=v.D a
 rt:st'.roots=st.roots
 sz:st'.size=st.size
theorem Ed (h:qe W0 K p t k v st last true mk ms W)(g:K.Ok)(E:v.N<=790000)(f:xh K v.D st used free){c:xK}{e:yN}(hc:xw v.D c e po)(hu:used.Perm (po++rest)):pr Y3 87 #[.agg #[.pointer (some ⟨t,0,none⟩)],.agg (zm c).toArray] W λr w'=>(∃z,r=.returned z)/\∃v' st' A,wt K v st rest v' st' A/\v'.N<=v.N+4/\qe W0 K p t k v' st' last true mk ms w'/\qa K W v v'/\ze (qp K p v) W w':=by
 have i:=f.perm hu.symm;obtain⟨s,u,pg,sz⟩:=c;rcases hc.val with⟨h1,h2,h3,h4,h5⟩|⟨h1,h2,h3,h4,h5,h6,h7,h8⟩
 ·simp only at h1 h2 h3;subst h2 h3 h5;refine(PT W (.pointer (some ⟨t,0,none⟩)) s u).mono ?_;rintro r w' ⟨j,hB⟩;exact⟨j,v,st,free,⟨i,by omega,λa _=>rfl,rfl,rfl⟩,by omega,h.grow hB,λk G => .inl G,ze.below hB⟩
 ·simp only at h1 h2 h3 h6 h7 h8;subst h1 h2 h3;have q:=i.rP pg (by simp);have U:=f.sz;have L:=g.hP;have M:=g.P2;have S:=f.mn;have O:=f.sD;refine(Ec h g E pg ⟨q.1,q.2⟩ (by omega) (f.loose g) ⟨by omega,by omega⟩ e.2 s ⟨h4,h5⟩ h8).mono ?_;rintro r w' ⟨v',j,ht,hn,hd,I,C⟩;refine⟨j,v',{st with first:=pg,many:=st.many+1},pg::free,⟨?_,by omega,λa ha => ?_,rfl,rfl⟩,hn,ht,I,C⟩
  ·rw[hd];exact i.pL
  ·have H:=(List.nodup_append.1 i.nd).1;have:a≠pg:=λe=>(List.nodup_cons.1 H).1 (e▸ha)
   rw[hd];simp[this]
end
theorem Ph {P:Program}{w:World}{g off k:Nat}{T t:oD}{cs cs':Y7}(e:yx P T k)(f:za w g t cs)(j:cs'.size=k)(hf:off+k<=cs.size)(h1:∀v∈cs'.toList,v.oneCell'=true):(storeVar T ⟨g,off,none⟩ (.agg cs')).run P w=.ok () (w.setRow g (cs.toList.take off++cs'.toList++cs.toList.drop (off+k)).toArray):=by
 have h:=run_storeCells_at (P:=P) g off t cs'.toList 0 cs w f (by simp;omega) h1;simp only[Nat.add_zero] at h;have c:=e.size;have hl:cs'.toList.length=k:=by simpa using j
 rw[hl] at h;cases hq:P.info? T with
 | none=>simp[hq] at c
 | some i =>
  have q:cs'.size=i.size:=by simp[hq] at c;omega
  simp[storeVar,sizeOf,typeInfo,hq,Value.cells,q,h]
section
variable {P:Program}{w:World}{ops:Array oM}{rest:List oM}{o:oM}{a:Act}{Q:Exit->Act->World->Prop}
theorem St {K:Act->World->Prop}(T:oD)(x y:py)(i:o.op=.store T x y)(g off:Nat){t:oD}{cs cs':Y7}(j:a.eval x=.pointer (some ⟨g,off,none⟩))(q:a.eval y=.agg cs'){k:Nat}(c:yx P T k)(e:za w g t cs)(f:cs'.size=k)(hf:off+k<=cs.size)(h1:∀v∈cs'.toList,v.oneCell'=true)
  (h:K (a.put o.dst undef) (w.setRow g (cs.toList.take off++cs'.toList++cs.toList.drop (off+k)).toArray)):o.wp P a w K Q:=by
 unfold Oper.wp oB;simp only[i,j,q,Instr.storeAt,Instr.sureAddr,oY,oU,oO,Ph c e f hf h1];exact h
theorem ET (i:o.guard=none)(T:oD)(x y:py)(q:o.op=.store T x y)(g off:Nat){t:oD}{cs cs':Y7}(r:a.eval x=.pointer (some ⟨g,off,none⟩))(s:a.eval y=.agg cs'){k:Nat}(e:yx P T k)(f:za w g t cs)(j:cs'.size=k)(hf:off+k<=cs.size)(h1:∀v∈cs'.toList,v.oneCell'=true)
  (h:wpList P ops Q rest (a.put o.dst undef) (w.setRow g (cs.toList.take off++cs'.toList++cs.toList.drop (off+k)).toArray)):wpList P ops Q (o::rest) a w :=
 wpList_plain i λ_ c=>St T x y q g off r s e f j hf h1 (c _ _ h)
end
def Xi (l:List xK)(i:Nat)(c:xK):List xK:=l.take i++c::l.drop (i+1)
theorem XQ (l:List xK)(i:Nat)(c:xK)(e:i<l.length):(Xi l i c).length=l.length:=by
 unfold Xi;rw[zH,zL,zZ,qD];omega
theorem NO (l:List xK)(i:Nat)(c:xK):vV (Xi l i c)=(vV l).take (i*4)++(zm c++(vV l).drop ((i+1)*4)):=by
 rw[VS,VT];unfold Xi;rw[EA];rfl
section
variable {W0 W W':World}{K:xH}{p t:Nat}{k:Int}{v v':yz}{st last st' last':qm}{mk mk':Value}{ms:List vK}
theorem Ea (h:qe W0 K p t k v st last true mk ms W)(hK:K.Ok)(hN:v.N<=780000)(n:Int)(hn:1<=n/\n<st.size)(hP:n<(K.P:Int))(hT:¬ jK K v.D)(x:yo)(hx:XE K v n x)(aM:x.leaf=true)(c:xK)(i:Nat)(b4:yu true (qi x) c.key=i)(cE:je true (qi x) c.key=true)(hi:i<x.cells.length)(cO:x.cells.length<=1000)(R:yz->qm->Prop)
  (a7:∀W1 v1,qe W0 K p t k v1 st last true mk ms W1->Xo K v v1->pr Y3 87 #[.agg #[.pointer (some ⟨t,0,none⟩)],.agg (zm x.cells[i]).toArray] W1 λr w'=>(∃z,r=.returned z)/\∃v' st',R v' st'/\qe W0 K p t k v' st' last true mk ms w'/\qa K W1 v1 v'/\ze (qp K p v1) W1 w') :
  pr Y3 48 #[.agg #[.pointer (some ⟨t,0,none⟩)],.int .i64 n,.agg (zm c).toArray] W (Yo W0 K p t k last mk ms W.heap.size v W λz v' st'=>z=⟨true,Xi x.cells i c,[],[]⟩/\R v' st'):=by
 have cV:=h.up;obtain⟨a4,bR,_⟩:=hx.fits.1.leaf aM;obtain⟨W1,I⟩:=Z9 (((W.alloc (.cells #[.pointer (some ⟨t,0,none⟩)] 92)).alloc (.cells (zm c).toArray 94)).alloc (.cells #[.bool false,.slice none 0 0,.slice none 0 0,.slice none 0 0] 69));have aJ:ph W.heap.size W W1:=by rw[I];exact Za _ _ _ _
 have b3:za W1 W.heap.size 92 #[.pointer (some ⟨t,0,none⟩)]:=by rw[I];exact((za.new W _ _).alloc _).alloc _
 have b5:za W1 (W.heap.size+1) 94 (zm c).toArray:=by have:=(za.new (W.alloc (.cells #[.pointer (some ⟨t,0,none⟩)] 92)) 94 (zm c).toArray).alloc (.cells #[.bool false,.slice none 0 0,.slice none 0 0,.slice none 0 0] 69);rw[pq] at this;rw[I];exact this
 have b6:za W1 (W.heap.size+1+1) 69 #[.bool false,.slice none 0 0,.slice none 0 0,.slice none 0 0]:=by have:=za.new ((W.alloc (.cells #[.pointer (some ⟨t,0,none⟩)] 92)).alloc (.cells (zm c).toArray 94)) 69 #[.bool false,.slice none 0 0,.slice none 0 0,.slice none 0 0];rw[pq,pq] at this;rw[I];exact this
 have cR:W1.heap.size=W.heap.size+1+1+1:=by rw[I,pq,pq,pq]
 have h1:=h.grow aJ;have a9:=QW h1 hK (by omega) n hn hP hT x hx;have bF:=b3.boxed;rw[I] at bF;have bW:=pk I.symm;have cJ:=h1.rD b3 (by decide);have cK:=h1.rD b5 (by decide);have cL:=h1.rD b6 (by decide);clear I h
 go_enter func48,ntmps48
 go_wp2_with fail
 rw[bW.out];refine a9.mono ?_;rintro e f ⟨v',Ac,cc,Ak,ck,Ai,ci,rfl,n2,h2,cF,bS,U,wx,a6,aW,cU,aL⟩;obtain⟨N,V⟩:=Z9 (zu x Ac cc Ak ck Ai ci);have aD:N.size=4:=by rw[V];rfl
 have aX:∀u∈N.toList,u.oneCell'=true:=by rw[V];exact zy rfl rfl rfl rfl
 rw[<-V];have aQ:=U.blk b3 cJ;have aA:=U.blk b5 cK;have aS:=U.blk b6 cL;have cS:W.heap.size+3<=f.heap.size:=by have:=U.size;omega
 obtain⟨W3,bL,bI,aV⟩:=YK f 69 #[.bool false,.slice none 0 0,.slice none 0 0,.slice none 0 0];have aB:ph f.heap.size f (W3.setRow f.heap.size N):=zf bI (zG _) _;have aG:=aV.setRow N;generalize bM:W3.setRow f.heap.size N=W4 at *;have n4:=n2.grow aB;have bC:=aA.below aB aA.lt;have cH:=aB.size;have HF:=Xc W4 x Ac cc Ak ck Ai ci n4 (by omega) (by rw[a4];decide) c.key;unfold JA at HF;rw[aM,b4,cE] at HF;have b2:W4.cell? ⟨W.heap.size+1,0,none⟩=some (.string c.key):=by rw[bC.cell];rfl
 rw[<-V] at HF;have aE:=pk V;have bX:=pk bL.symm;have bY:=pk bM;clear V bL bM h1 n2 b3 b5 b6 bF hn a9 bI
 go_wp2_with (first
  | (rw[bX.out];refine vW zj aV aD aX ?_;rw[bY.out])
  | (refine yV rfl 69 (.tmp 7) rfl f.heap.size rfl zj aG aD ?_))
 refine HF.mono ?_;rintro e w5 ⟨rfl,aC⟩;have aK:ph w5.heap.size w5 w5.drew:=(pf _ _).drew;have G:ph f.heap.size f w5.drew:=(aB.trans (aC.mono cH)).trans (aK.mono (by have:=aC.size;omega));have n5:=(n4.grow aC).grow aK;have aF:=aQ.below G aQ.lt;have aR:=aA.below G aA.lt;have aU:=aS.below G aS.lt;have aH:=aG.below aC aG.lt;have aI:=aH.below aK aH.lt;have d0:w5.cell? ⟨f.heap.size,0,none⟩=some (.bool true):=by rw[aH.cell,aE.out];simp[zu,aM]
 have oc:=ql aL.c (w':=w5.drew) (λr hr=>G.block r (kJ aL.c r hr));obtain⟨g,L,cur,eA,cB,a3,cC,a5,bO,bP⟩:∃g L,∃cur:Y7,Value.slice Ac x.cells.length cc=.slice (some ⟨g,0,none⟩) x.cells.length L/\wx.heap.size<=g/\za w5.drew g 94 cur/\x.cells.length<=L/\L<=maxLen/\cur.size=L*4/\vV x.cells=cur.toList.take (x.cells.length*4):=by
  rcases oc.2 with⟨_,E⟩|⟨g,L,cur,e,hb,hg,hle,a5,hsz,htk⟩
  ·omega
  ·exact⟨g,L,cur,e,hb,hg,hle,a5,hsz,htk.symm⟩
 injection eA with eA1 _ eA3
 subst eA1 eA3;have hr:=VU n5.c rfl i hi;rw[qC] at hr;have cP:(i:Int)<(x.cells.length:Int):=by omega
 have cQ:(0:Int)<=(i:Int):=by omega
 have bG:w5.drew.cell? ⟨f.heap.size,1,none⟩=some (.slice (some ⟨g,0,none⟩) x.cells.length cc):=by rw[aI.cell,aE.out];rfl
 have S:=h2.grow G;have a8:=a7 w5.drew v' S cF;have cD:=a3.lt;have aO:¬ qp K p v' g:=λq=>by have:=a6.rZ g q;omega
 have n3:=S.rD aF (by decide);have bT:=S.rD aR (by decide);have n6:=S.rD aU (by decide);have n7:=S.rD aI (by decide);have b7:=aW.size;have cT:=G.size;have bJ:ph wx.heap.size wx w5.drew:=aW.trans (G.mono b7);have g5:ze (qp K p v) W w5.drew:=((ze.below aJ).trans U).trans (ze.below G);have N5:qa K W v v':=bS.mono aJ.size;generalize b9:x.cells[i]=cx at *;have H:za w5.drew W.heap.size 92 #[.pointer (some ⟨t,0,none⟩)]/\w5.drew.cell? ⟨f.heap.size,1,none⟩=some (.slice (some ⟨g,0,none⟩) x.cells.length cc)/\w5.drew.rangeAt g (i*4) (zm cx):=⟨aF,bG,hr⟩;clear b9 a7 aC aK HF aQ aA aS bC aV aG aH b2 h2 aW oc hr n4 U bS aB aJ
 go_wp2_with fail
 refine zb.st (λW':World=>za W' W.heap.size 92 #[.pointer (some ⟨t,0,none⟩)]/\W'.cell? ⟨f.heap.size,1,none⟩=some (.slice (some ⟨g,0,none⟩) x.cells.length cc)/\W'.rangeAt g (i*4) (zm cx)) 99 ?_;generalize w5.drew=wd at *;refine zb.t0 0 (.agg #[.pointer (some ⟨t,0,none⟩)]) rfl H (λW ⟨O,s,A⟩=>by exact QT XS O rfl rfl rfl) ?_;refine zb.q0 1 (.pointer (some ⟨f.heap.size,1,none⟩)) H ?_;refine zb.q0 2 (.slice (some ⟨g,0,none⟩) x.cells.length cc) H ?_;refine zb.q0 3 (.int .i64 (i:Int)) H ?_;refine zb.q0 4 (.pointer (some ⟨g,i*4,none⟩)) H ?_;simp only[Z8];refine zb.t0 5 (.agg (zm cx).toArray) rfl H (λW ⟨O,s,A⟩=>by exact yX qt A rfl rfl rfl) ?_;simp only[Z8];refine zb.n 6 ?_;refine zb.oC 87 #[.tmp 36,.tmp 41] #[92,94] #[.agg #[.pointer (some ⟨t,0,none⟩)],.agg (zm cx).toArray] (a8.mono ?_) (zb.eo func87);rintro e w6 ⟨⟨z,rfl⟩,v6,cM,bK,h6,aN,C⟩;have bB:=C.blk aF n3;have bZ:=C.blk aR bT;have bD:=C.blk aU n6;have bE:=C.blk aI n7;have a1:=C.blk a3 aO;have aZ:za w6 W.heap.size 92 #[.pointer (some ⟨t,0,none⟩)]/\w6.cell? ⟨f.heap.size,1,none⟩=some (.slice (some ⟨g,0,none⟩) x.cells.length cc)/\w6.rangeAt g (i*4) (zm cx):=⟨bB,by rw[bE.cell,aE.out];rfl,λj y hj=>(oG (w:=wd) (C.block g cD aO)).trans (H.2.2 j y hj)⟩;refine⟨_,rfl,λ_=>aZ,zb.dn ?_⟩;simp only[Z8];obtain⟨cur',a0⟩:∃cur',cur'=(cur.toList.take (i*4)++(zm c).toArray.toList++cur.toList.drop (i*4+4)).toArray:=⟨_,rfl⟩;have h7:=qe.sR a6 h6 (aN.mono (by omega)) ((ze.below bJ).trans C) (qj w6 g cur') a1 cB (by decide) (by decide);have bQ:za (w6.setRow g cur') g 94 cur':=a1.setRow cur';have cA:f.heap.size≠g:=λe=>by have:=kJ aL.c g rfl;omega
 have aT:=bD.rB (by omega:W.heap.size+1+1≠g) cur';have b1:=bE.rB cA cur';have M:ze (qp K p v) W w6:=C.fresh g5 N5 (by omega);have g7:ze (qp K p v) W (w6.setRow g cur'):=⟨M.os,M.tape,M.output,by simp[oe];exact M.size,λa ha q=>(oL _ _ a _ (by omega)).trans (M.block a ha q)⟩;have N6:qa K W v v6:=N5.trans aN (by omega);have bN:cur'.toList.take (x.cells.length*4)=vV (Xi x.cells i c):=by
  have cG:cur.toList.length=cc*4:=by rw[zW];exact bO
  rw[NO,bP,a0,db,List.drop_take];have s:min (i*4) (x.cells.length*4)=i*4:=by omega
  have A:((zm c).toArray.toList).length=4:=rfl;rw[s];simp only[qO,List.take_append,zZ,cG,db,A];have f1:min (x.cells.length*4) (i*4)=i*4:=by omega
  have f2:min (i*4) (cc*4)=i*4:=by omega
  rw[f1,f2];congr 2
  ·exact qB (by rw[A];omega)
  ·congr 1
   ·omega
   ·congr 1;omega
 obtain⟨N8,aY⟩:=Z9 (zu ⟨true,Xi x.cells i c,[],[]⟩ (some ⟨g,0,none⟩) cc Ak ck Ai ci);have bH:N=N8:=by rw[aY,aE.out];unfold zu;simp[aM,a4,bR,XQ _ _ _ hi]
 have bA:=pk bK;have aP:=pk aO;have h8:=h7.rF (qj (w6.setRow g cur') (W.heap.size+1+1) N) aT (by decide) (λm e=>by cases e) (by omega) (by decide);have b0:=aT.setRow N;have a2:za ((w6.setRow g cur').setRow (W.heap.size+1+1) N) g 94 cur':=bQ.rB (by omega) N;have cI:((w6.setRow g cur').setRow (W.heap.size+1+1) N).heap.size=w6.heap.size:=by simp[oe]
 have g8:ze (qp K p v) W ((w6.setRow g cur').setRow (W.heap.size+1+1) N):=⟨g7.os,g7.tape,g7.output,by rw[cI];exact M.size,λa ha q=>(oL _ _ a _ (by omega)).trans (g7.block a ha q)⟩;have b8:i*4+4<=cur.size:=by omega
 have n8:XH ((w6.setRow g cur').setRow (W.heap.size+1+1) N) ((w6.setRow g cur').setRow (W.heap.size+1+1) N).heap.size ⟨true,Xi x.cells i c,[],[]⟩ (some ⟨g,0,none⟩) cc Ak ck Ai ci:=by
  refine⟨?_,?_,?_⟩
  ·show yp _ _ 4 _ (Xi x.cells i c).length cc (vV (Xi x.cells i c))
   rw[XQ _ _ _ hi];refine⟨cC,a5,(λe=>by cases e),?_,Ya _,λ_=>⟨g,0,rfl,a2.lt,λj y hj => ?_⟩⟩
   ·rw[Hn,XQ _ _ _ hi]
   ·rw[qC,a2.cell];rw[<-bN,yH] at hj;split at hj
    ·simpa using hj
    ·cases hj
  ·have:=n5.k;rw[a4] at this;exact⟨this.le,this.max,this.nil,rfl,(λu hu=>by cases hu),λE=>absurd E (nN 0)⟩
  ·have:=n5.i;rw[bR] at this;exact⟨this.le,this.max,this.nil,rfl,(λu hu=>by cases hu),λE=>absurd E (nN 0)⟩
 have F:Yo W0 K p t k last mk ms W.heap.size v W (λz v' st'=>z=⟨true,Xi x.cells i c,[],[]⟩/\R v' st') (.returned (.agg N)) ((w6.setRow g cur').setRow (W.heap.size+1+1) N):=by
  refine⟨_,v6,cM,some ⟨g,0,none⟩,cc,Ak,ck,Ai,ci,by rw[bH,aY],⟨rfl,bA.out⟩,⟨n8,?_,λE=>absurd E (nN 0),λE=>absurd E (nN 0)⟩,?_,h8,N6,g8⟩
  ·intro _ g' o' e q;injection e with e
   injection e with s
   subst s;rcases q with q|q
   ·exact aP.out (.inl q)
   ·rcases aN g q with q|q
    ·exact aP.out (.inr q)
    ·omega
  ·rintro g' o' (e|e|e)
   ·obtain⟨_,e⟩:=e;injection e with e
    injection e with s
    omega
   ·exact absurd e.1 (nN 0)
   ·exact absurd e.1 (nN 0)
 have cN:=aZ.2.1;have bU:=pk a0.symm;have bV:=pk aX;clear H aZ aF aR aU aI a3 bO bP n5 a8 bN n8 h6 h7 h8 M g7 g8 C aN N6 N5 g5 bH aY aP aO bK bA a6 aL aX a0 bG bQ a2 bB bD S n3 bT n6 n7 bJ
 go_wp2_with (first
  | (refine ET rfl 94 (.tmp 47) (.tmp 46) rfl g (i*4) rfl rfl qt a1 rfl b8 (zy rfl rfl rfl rfl) ?_;rw[bU.out])
  | (refine vW zj aT aD bV.out ?_)
  | (refine xA qt bZ ?_)
  | (refine yV rfl 69 (.tmp 7) rfl f.heap.size rfl zj b1 aD ?_))
 exact oQ (yi rfl (xF (g:=W.heap.size+1+1) 6 rfl zj b0 aD)) rfl F
theorem AQ (i:K.Ok):FJ W0 K p t k last mk ms 0 (λx e=>je true (qi x) e.1=true):=by
 intro v st W used free n x es ps u rest c e h q hu hD hl s hs hc hN he hr I;have aH:n∈used:=hu.mem_iff.2 (by simp);have M:=q.rP n (List.mem_append_left _ aH);have aQ:=q.sz;have aL:=i.hP;obtain⟨H,e0,G,po,q1,aM,U,aD,aN,aI⟩:=Cn s hs I;have hm:=s.many;have aK:=s;obtain⟨L,aF,aE,_,_⟩:=aK;obtain⟨g,E⟩:=Z9 (n::(G++(q1++(u++rest))));have aJ:used.Perm (po++g):=by refine hu.trans ?_;rw[U,E,nJ];intro a;simp only[gN,nU];omega
 have aC:yu true (qi x) c.key=yu true (qi x) e.1:=by rw[hc.key]
 refine(Ea h i (by omega) n ⟨M.1,M.2⟩ (by omega) (q.loose i) x (XE.of (by omega) hD (s.right hs) hl) L c _ aC (by rw[hc.key];exact I) H (by omega) (λv' st'=>∃f,wt K v st g v' st' f/\v'.N<=v.N+5) (λW1 v1 h1 j => ?_)).mono ?_
 ·have A:=j.dd;refine(Ed h1 i (by have:=j.nn;omega) (by rw[A];exact q) (by rw[A];exact aD) aJ).mono ?_;rintro r w' ⟨hz,v',st',f,hF,aO,ht,aG,hG⟩;exact⟨hz,v',st',⟨f,⟨hF.pl,by have:=j.nn;omega,λa ha=>by rw[<-A];exact hF.dd a ha,hF.rt,hF.sz⟩,by have:=j.nn;omega⟩,ht,aG,hG⟩
 ·rintro e' w' ⟨z,v',st',Ac,cc,Ak,ck,Ai,ci,rfl,⟨rfl,f,hF,aP⟩,S,O,V,aB,aA⟩;have C:∀a,a∈G∨a∈q1∨a∈u∨a∈rest->v'.D a=v.D a:=λa ha=>hF.dd a (by rw[E];simp;right;exact ha)
  refine⟨_,v',st',Ac,cc,Ak,ck,Ai,ci,rfl,⟨g,f,G++(u++q1),hF.pl,?_,aI v'.D c u (λa ha=>C a (by rcases qA.1 ha with ha|ha<;>simp[ha])) (hc.rE λa ha=>C a (by simp[ha])),?_,λa ha=>C a (by simp[ha]),by omega,hF.rt⟩,S,O,V,aB,aA⟩
  ·rw[E,nJ];intro a;simp only[gN,nU];omega
  ·have:=LY x.cells _ c H (by omega) hc.laid;rw[<-MJ L aF aE] at this;unfold Xi;omega
end
structure jM (K:xH)(D:Int->Option Y4)(st:qm)(es:List yN):Prop where
 has:∃used free root,xh K D st used free/\st.roots[0]?=some root/\((root=0/\es=[]/\used=[])∨∃d x ps,used.Perm (root::ps)/\D root=some (vE x)/\(qb x).length<=512/\ye D d x es ps)
 so:qg es
theorem Sr {x:yo}(h:yj x)(j:Nat):(yn x j).size<=81:=by
 by_cases c:j<(qi x).length
 ·have:=h.short (yn x j) (by rw[Yy c];exact qI _);unfold yq at this;simpa using this
 ·unfold yn;rw[qT,List.getElem?_eq_none (by omega)];decide
section
variable {W0 W W':World}{K:xH}{p t:Nat}{v v':yz}{st last st' last':qm}{mk mk':Value}{ms:List vK}{used free ps:List Int}{d:Nat}{y:yo}{es:List yN}{Bc Bk Bi:Y5}{bc bk bi:Nat}
theorem PU (h:qe W0 K p t 0 v st last true mk ms W)(r:K.Ok)(aO:450<=K.pg)(hN:v.N<=600000)(i:xh K v.D st used free)(m:Int)(hu:used.Perm (m::ps))(h0:st.roots[0]?=some m)(f:ye v.D d y es ps)(hs:qg es)(aR:es.length<=61)(hl:(qb y).length<=656)(G:yf W K p v y Bc bc Bk bk Bi bi):pr Y3 47 #[.agg #[.pointer (some ⟨t,0,none⟩)],.int .i64 m,.agg (zu y Bc bc Bk bk Bi bi)] W λe w'=>∃v' st',(∃z,e=Y0 z)/\jM K v'.D st' es/\v'.N<=v.N+10/\qe W0 K p t 0 v' st' last true mk ms w'/\qa K W v v'/\ze (qp K p v) W w':=by
 have u:m∈used:=hu.mem_iff.2 (by simp);have E:=i.rP m (List.mem_append_left _ u);have aU:=i.sz;have aN:=r.hP;have aP:=r.P2;have aS:=f.many;have aQ:=f.sV;have aV:used.length=1+ps.length:=by rw[hu.length_eq];simp;omega
 have A:=f.right hs;have aM:=hu.nodup_iff.1 (List.nodup_append.1 i.nd).1;obtain⟨aL,aT⟩:=List.nodup_cons.1 aM;have aC:∀a∈ps,a≠m:=λa ha e=>aL (e▸ha)
 by_cases aA:(qb y).length<=512
 ·refine(Fw h r (by omega) m ⟨E.1,E.2⟩ (by omega) (i.loose r) y Bc bc Bk bk Bi bi G.is (by omega) (by omega) (by omega) A aA).mono ?_;rintro e w' ⟨v',O,H,hW,hn,I⟩;have hd:=hW.dd;exact⟨v',st,O,⟨⟨used,free,m,by rw[hd];exact i.put u _,h0,.inr ⟨d,y,ps,hu,by rw[hd];simp,aA,f.rE λa ha=>by rw[hd];simp[aC a ha]⟩⟩,hs⟩,by have:=hW.nn;omega,H,hn,I⟩
 ·have C:512<(qb y).length:=by omega
  refine(My h r (by omega) i (by omega) G m u (by omega) (by omega) (by omega) A C (Sr A) (λj hj=>f.ry hs hj C hl)).mono ?_;rintro e w' ⟨j,q,ab,v',st',aG,O,c,H,hn,I⟩;obtain⟨f1,f2,j0,jl⟩:=f.ry hs c.half C hl;obtain⟨U,V,pa,pb,ee,S,hA,hB,aI,aH,aF⟩:=f.split hs j0 jl (XX A C);have hd:=c.dd;have aE:=c.nq;have L:ab≠q/\ab∉used:=by have:=c.na;simpa using this
  have aK:m≠q:=λe=>aE (e▸u)
  have aJ:m≠ab:=λe=>L.2 (e▸u)
  have aB:∀a∈ps,a∈used:=λa ha=>hu.mem_iff.2 (by simp[ha])
  have g:∀a∈ps,v'.D a=v.D a:=λa ha=>by
   have e1:a≠ab:=λe=>L.2 (e▸aB a ha)
   have e2:a≠q:=λe=>aE (e▸aB a ha)
   rw[hd];simp[e1,e2,aC a ha]
  have aD:=c.pl.rP q (by simp);have aW:=c.pl.sz;obtain⟨TR,TL⟩:=Dx aF ⟨E.1,by omega⟩ (q:=q) ⟨aD.1,by omega⟩;refine⟨v',st',O,⟨⟨ab::q::used,aG,ab,c.pl,?_,.inr ⟨d+1,⟨false,[],[yn y j],[m,q]⟩,Xk [⟨m,xG y j,U,pa⟩,⟨q,yT y j,V,pb⟩],?_,by rw[hd];simp,TL,[⟨m,xG y j,U,pa⟩,⟨q,yT y j,V,pb⟩],⟨rfl,rfl,rfl,by rw[ee];simp[KZ],rfl,⟨aI,λy G=>aH y (by simpa using G),trivial⟩,Nat.one_pos,λs hs=>by rw[qK.1 hs];exact aF,λk g => ?_⟩,λk M => ?_⟩⟩,hs⟩,c.nn,H,hn,I⟩
  ·rw[c.rt];have:0<st.roots.length:=(qQ.1 h0).1;rw[List.getElem?_set_self this]
  ·refine List.Perm.cons ab ?_;refine(List.Perm.cons q hu).trans ?_;rw[jU,jU,S,show Xk []=[] from rfl,nJ];intro a;simp only[gN,nU,List.count_nil];omega
  ·rcases qM.1 g with rfl|g
   ·exact⟨E.1,by show m<=2000;omega⟩
   ·obtain rfl:=qK.1 g;exact⟨aD.1,by show q<=2000;omega⟩
  ·rcases qM.1 M with rfl|M
   ·exact⟨hA.rE λa ha=>g a (by rw[S];simp[ha]),by rw[hd];simp[aK,aJ],f1⟩
   ·obtain rfl:=qK.1 M;exact⟨hB.rE λa ha=>g a (by rw[S];simp[ha]),by rw[hd];simp[L.1.symm],f2⟩
end
end
section
open Go Go.RowKit vA Go.Shelf
attribute [local go_sem] Oper.semAt_some
section
set_option maxRecDepth 100000
variable {F:Fence}{n:Nat}{w:World}{ops:Array oM}{rest:List oM}{o:oM}{a:Act}{Q:Exit->Act->World->Prop}
theorem EW (j:o.guard=none){x:py}{l:Y4}(hl:l.length<=1000000)(e:o.op=.convert 9 129 x)(h1:a.eval x=.string (Jz l))
  (h:∀c w',qq w' w'.heap.size (some ⟨w.heap.size,0,none⟩) c l->ph w.heap.size w w'->nH F n Y3 ops Q rest (a.put o.dst (.slice (some ⟨w.heap.size,0,none⟩) l.length c)) w'):nH F n Y3 ops Q (o::rest) a w:=by
 obtain⟨c,w',q,h2,f⟩:=uA (ρ:=a.eval) hl e h1;refine gm j λr g => ?_
 unfold Oper.wpIn;refine⟨by simp[mg,e],?_⟩;rw[nu F _ _ (by rw[e];intro c i;cases i),q];exact g _ _ (h c w' h2 f)
theorem PD (u:o.guard=none)(x y:py)(f:o.op=Op.makeSlice 129 x y)(base:Nat)(j i:IntKind)(m:Nat)(E:a.eval x=.int j (m:Int))(G:a.eval y=.int i (m:Int))(hn:m<=140737488355328)(r:base<=w.heap.size)
  (h:∀w',yZ w' base (.slice (some ⟨w.heap.size,0,none⟩) m m) (zP m 0)->w.grownBy w' none->nH F n Y3 ops Q rest (a.put o.dst (.slice (some ⟨w.heap.size,0,none⟩) m m)) w'):nH F n Y3 ops Q (o::rest) a w:=by
 obtain⟨M,A,H,I,L⟩:=info_parts Yj;obtain⟨w',C,g,z⟩:=run_make_full (P:=Y3) w base _ _ M (.int .u8 0) 1 underlying129 A H I j i m (by rw[L];omega) (by unfold maxLen;omega) r;refine gm u λN q => ?_
 unfold Oper.wpIn;refine⟨by simp[mg,f],?_⟩;rw[nu F _ _ (by rw[f];intro c s;cases s)];simp[oB,f,E,G,C,Result.andThen];refine q _ _ (h w' ?_ z);have e:(madeCells (mG .u8 0).cells (m*1)).toList=(zP m (0:UInt8)).map b8:=by rw[yL,show (mG .u8 0).cells=#[.int .u8 0] from rfl,toList_madeCells_one];simp[b8]
 rw[e] at g;unfold yZ;simpa using g
theorem GC (u:o.guard=none)(d s:py)(f:o.op=.call {callee:=.builtin .copy,args:=#[d,s],argTypes:=#[129,129]})
  (g off:Nat) (l src:Y4) (A:Y5) (c B e dCap:Nat) (hd:a.eval d=.slice (some ⟨g,off,none⟩) e dCap) (hs:a.eval s=.slice A src.length c)
  {T:oD} (j:za w g T (l.map b8).toArray) (z:qq w B A c src) (r:off+e<=l.length)
  (h:nH F n Y3 ops Q rest (a.put o.dst (.int .i64 ((min src.length e:Nat):Int))) (w.setRow g ((yv l off e src).map b8).toArray)):nH F n Y3 ops Q (o::rest) a w:=by
 have C:=MV (dCap:=dCap) o.type j z r;refine gm u λE i => ?_
 unfold Oper.wpIn;refine⟨by simp[mg,f,resolve,Target.leads,oU],?_⟩;rw[nu F _ _ (by rw[f];intro c q;cases q)];unfold oB;simp only[f,resolve,invoke,builtin,oY,oU,oO,zI,zJ,zN,hd,hs,C];exact i _ _ h
end
section
variable {W0 W W' X Z:World}{K:xH}{p t:Nat}{k:Int}{v v':yz}{st last st' last':qm}{under:Bool}{mk mk':Value}{ms:List vK}{used free:List Int}{B:Nat}{row:Option Nat}
theorem qe.rlt (h:qe W0 K p t k v st last under mk ms W):K.r<W.heap.size:=by
 obtain⟨es,c,e,_⟩:=h.pa.ca.cs.ca.mp;exact e.lt
theorem qe.mlt (h:qe W0 K p t k v st last under mk ms W):∀x∈ms,x.m<W.heap.size:=λx c=>(h.mm.maps x c).1.lt
theorem qe.pD (h:qe W0 K p t k v st last under mk ms X)(hB:W0.heap.size<=B)(hK:K.r<B)(hm:∀x∈ms,x.m<B)(i:X.grownBy Z row)(z:∀r,row=some r->B<=r/\∃o:Obj,X.heap[r]?=some o/\o.isCells=false):qe W0 K p t k v st last under mk ms Z:=by
 have hc:∀r,row=some r->∃o:Obj,X.heap[r]?=some o/\o.isCells=false:=λr e=>(z r e).2
 have E:∀r,row=some r->B<=r:=λr e=>(z r e).1
 have G:∀{A:Y5} {c:Nat} {l:Y4},qq X X.heap.size A c l->qq Z Z.heap.size A c l:=λh=>qq.rL (B:=B) _ _ _ () X Z row h i z
 refine⟨⟨⟨⟨⟨h.pa.ca.cs.fh.up.trans (zl i h.up (λr e=>zT hB (E r e))),h.pa.ca.cs.fh.fb.kept i hc⟩,?ca,h.pa.ca.cs.nb,λq u hu hl=>Kp.rL (B:=B) _ () X Z row (h.pa.ca.cs.ty q u hu hl) i z⟩,h.pa.ca.ok,h.pa.ca.ro,h.pa.ca.cn⟩,h.pa.pb.kept i hc,h.pa.np,h.pa.hs,h.pa.hl⟩,⟨?row,λx H => ?maps⟩,h.tb.kept i hc⟩
 case ca =>
  have j:=h.pa.ca.cs.ca;obtain⟨es,c,aD,he,hs⟩:=j.mp;refine⟨j.cb.kept i hc,⟨es,c,aD.rh (B:=B) hK i E,he,hs⟩,λq u hu => ?_,j.inj,j.sf⟩;have s:=j.rows q u hu;exact⟨s.blk.kept i hc,s.key,G s.rV,s.len,s.sH⟩
 case row =>
  obtain⟨A,c,e,h1,h2,C,hA⟩:=h.mm.row.has;refine⟨⟨A,c,e,h1,h2,C,λa M => ?_⟩,h.mm.row.sy⟩;obtain⟨g,cur,L,aA,aB,aC⟩:=hA a M;exact⟨g,cur,L,aA,aB.kept i hc,aC⟩
 case maps =>
  obtain⟨h1,h2,C⟩:=h.mm.maps x H;obtain⟨es,I,f,V,h5,h6,h7⟩:=h1.has;refine⟨⟨es,I,f,V.rh (B:=B) (hm x H) i E,h5,h6,λq => ?_⟩,h2,C⟩;rcases h7 q with hn|⟨A,c,y,N,O,S,U⟩
  ·exact .inl hn
  ·exact .inr ⟨A,c,y,N,O,S,G U⟩
theorem ua {w W':World}{A:Y5}{len c:Nat}(h:(w.alloc (.cells #[.slice A len c] 129)).alloc (.cells #[.int .i64 508] 3)=W'):ph w.heap.size w W'/\W'.cell? ⟨w.heap.size,0,none⟩=some (.slice A len c)/\W'.cell? ⟨w.heap.size+1,0,none⟩=some (.int .i64 508)/\W'.heap.size=w.heap.size+2:=by
 subst h;refine⟨VX _ _ _,((za.new w 129 #[.slice A len c]).alloc _).boxed,?_,by simp[pq]⟩;have:=(za.new (w.alloc (.cells #[.slice A len c] 129)) 3 #[.int .i64 508]).boxed
 rwa [pq] at this
theorem ze.pD {Mu:Nat->Prop}(h:ze Mu W X)(c:X.grownBy Z row)(i:∀r,row=some r->W.heap.size<=r):ze Mu W Z :=
 ⟨c.os.trans h.os,c.tape.trans h.tape,c.output.trans h.output,zT h.size c.size,λj f g=>(c.block j (zO f h.size) (λe=>by have:=i j e.symm;omega)).trans (h.block j f g)⟩
theorem Nc {Mu U:Nat->Prop}(h:ze Mu W X)(f:∀k,Mu k->U k):yg U W X:=⟨h.size,λk o c hn=>(h.block k (zK.1 c).1 (λe=>hn (f k e))).trans c⟩
theorem Nr {n x:Int}{y:Y4}(hF:ta K v v' n y x)(h:qe W0 K p t k v st last under mk ms W)(e:¬ jK K v.D):x=0/\v'.D=λj=>if j=n then some y else v.D j:=by
 rcases hF.dd with c|⟨_,c,_⟩
 ·exact c
 ·exact absurd (h.pa.ca.tight c) e
theorem PR (u:ByteArray)(hu:u.size<=508):yv (yv (zP 512 0) 0 512 (zx 4 0)) 4 508 u.data.toList=kU u:=by
 have h2:u.data.toList.length=u.size:=zW;have c:yv (zP 512 (0:UInt8)) 0 512 (zx 4 0)=[0,0,0,0]++zP 508 0:=by decide +kernel
 rw[c];unfold yv kU;rw[qB (by omega:u.data.toList.length<=508)];have e:([0,0,0,0]++zP 508 (0:UInt8)).take 4=[0,0,0,0]:=by decide +kernel
 rw[e,show min u.data.toList.length 508=u.size by omega,List.drop_append,List.drop_of_length_le (by simp),List.drop_replicate];simp only[zQ,zL,zY];rw[show 508-(4+u.size-(0+1+1+1+1))=508-u.size by omega]
structure tY (K:xH)(v:yz)(st:qm)(used:List Int)(e:yN)(c:xK)(pc:List Int)(v':yz)(st':qm)(free':List Int):Prop where
 is:xw v'.D c e pc
 pl:xh K v'.D st' (pc++used) free'
 dd:∀a∈used,v'.D a=v.D a
 nn:v'.N<=v.N+6
 rt:st'.roots=st.roots
structure tX (W0:World)(K:xH)(p t:Nat)(k:Int)(v:yz)(st last:qm)(mk:Value)(ms:List vK)(W:World)(q3 q6 q7:Nat)(ky u:ByteArray)(A:Y5)(V:World):Prop where
 at_:qe W0 K p t k v st last true mk ms V
 b3:za V q3 92 #[.pointer (some ⟨t,0,none⟩)]
 b6:za V q6 94 (zm Yp).toArray
 b7:za V q7 94 #[.string ky,.string ⟨#[]⟩,.int .i64 0,.int .i64 (u.size:Int)]
 row:qq V V.heap.size A u.size u.data.toList
 gb:ze (qp K p v) W V
structure tZ (W0:World)(K:xH)(p t:Nat)(k:Int)(v:yz)(st last:qm)(mk:Value)(ms:List vK)(W:World)(q6 q7:Nat)(used:List Int)(ky u:ByteArray)(V:World):Prop where
 has:∃n v' st' free',tY K v st used (ky,u) ⟨ky,oR,n,(u.size:Int)⟩ [n] v' st' free'/\qe W0 K p t k v' st' last true mk ms V/\za V q7 94 #[.string ky,.string ⟨#[]⟩,.int .i64 n,.int .i64 (u.size:Int)]/\qa K W v v'
 b6:za V q6 94 (zm Yp).toArray
 gb:ze (qp K p v) W V
def tx (W0:World)(K:xH)(p t:Nat)(k:Int)(v:yz)(st last:qm)(mk:Value)(ms:List vK)(W:World)(q3 q6 q7:Nat)(used:List Int)(ky u:ByteArray)(A:Y5)(s:List Unit)(U:Nat->Prop)(V:World):Prop :=
 (s=[]/\(∀j,U j↔qp K p v j∨j=q7)/\tX W0 K p t k v st last mk ms W q3 q6 q7 ky u A V)∨(s=[()]/\(∀j,¬ U j)/\tZ W0 K p t k v st last mk ms W q6 q7 used ky u V)
theorem DK (m:Nat)(hm:10<=m)(h:qe W0 K p t k v st last true mk ms W)(hK:K.Ok)(hN:v.N<=690000)(hp:xh K v.D st used free)(O:(used.length:Int)+1<K.pg)(i u:ByteArray)(cM:i.size<=81)(cU:60<u.size)(cV:u.size<=400):CallsIn Fence.wide m Y3 46 #[.agg #[.pointer (some ⟨t,0,none⟩)],.string i,.string u] W λe w'=>∃c pc v' st' b9,e=Y0 (.agg (zm c).toArray)/\tY K v st used (i,u) c pc v' st' b9/\qe W0 K p t k v' st' last true mk ms w'/\qa K W v v'/\ze (qp K p v) W w':=by
 have eD:=h.up;have cD:1<=m:=by omega
 have dB:=hK.hP;have dC:=hK.P2;have eC:¬ (u.size:Int)<=60:=by omega
 have bV:u.data.toList.length=u.size:=zW;obtain⟨W1,M⟩:=Z9 (((W.alloc (.cells #[.pointer (some ⟨t,0,none⟩)] 92)).alloc (.cells (zm Yp).toArray 94)).alloc (.cells (zm Yp).toArray 94));have bE:ph W.heap.size W W1:=by rw[M];exact Za _ _ _ _
 have b3:za W1 W.heap.size 92 #[.pointer (some ⟨t,0,none⟩)]:=by rw[M];exact((za.new W _ _).alloc _).alloc _
 have b6:za W1 (W.heap.size+1) 94 (zm Yp).toArray:=by have:=(za.new (W.alloc (.cells #[.pointer (some ⟨t,0,none⟩)] 92)) 94 (zm Yp).toArray).alloc (.cells (zm Yp).toArray 94);rw[pq] at this;rw[M];exact this
 have b7:za W1 (W.heap.size+1+1) 94 (zm Yp).toArray:=by have:=za.new ((W.alloc (.cells #[.pointer (some ⟨t,0,none⟩)] 92)).alloc (.cells (zm Yp).toArray 94)) 94 (zm Yp).toArray;rw[pq,pq] at this;rw[M];exact this
 have d7:W1.heap.size=W.heap.size+1+1+1:=by rw[M,pq,pq,pq]
 have aH:ph W.heap.size W (W1.setRow (W.heap.size+1+1) #[.string i,.string ⟨#[]⟩,.int .i64 0,.int .i64 (u.size:Int)]):=zf bE (by omega) _;have aE:=b7.setRow #[.string i,.string ⟨#[]⟩,.int .i64 0,.int .i64 (u.size:Int)];have aL:=b3.rB (by omega:W.heap.size≠W.heap.size+1+1) #[.string i,.string ⟨#[]⟩,.int .i64 0,.int .i64 (u.size:Int)];have aM:=b6.rB (by omega:W.heap.size+1≠W.heap.size+1+1) #[.string i,.string ⟨#[]⟩,.int .i64 0,.int .i64 (u.size:Int)];generalize bH:W1.setRow (W.heap.size+1+1) #[.string i,.string ⟨#[]⟩,.int .i64 0,.int .i64 (u.size:Int)]=C at *;have h2:=h.grow aH;have bY:=pk (show Value.string u=.string (Jz u.data.toList) by rw[<-Kz]);have a7:=pk M.symm;have a8:=pk bH;have d4:=aE.lt;clear M bH h b3 b6;refine callsIn_of_wp_marks func46 rfl trivial ?_ rfl;simp only[ntmps46,zR,zL,zY,yJ,yK,qG,qH,qS,qL,zQ,zX]
 gi_wp2_with (first
  | (refine QB rfl _ rfl (XN rfl) ?_;simp only[pq,pj,zA,zE,zF])
  | (rw[a7.out];refine jg rfl 94 (.tmp 7) (.tmp 21) rfl (W.heap.size+1+1) rfl rfl qt b7 rfl rfl (zy rfl rfl rfl rfl) ?_;rw[a8.out])
  | (refine EW rfl (l:=u.data.toList) (by omega) rfl bY.out ?_;rw[bV];intro c3 W3 aJ aO)
  | (refine⟨trivial,?_⟩;gi_at_call 81;refine(NT _ _ _ _ _).mono ?_;rintro e W5 ⟨rfl,bI⟩;obtain⟨aP,k1,k2,bU⟩:=ua bI;have d2:=aJ.le;have d5:=aJ.max)
  | (refine⟨trivial,?_⟩;gi_at_call 80;refine(Dm _ (by omega) W5 W3.heap.size (W3.heap.size+1) C.heap.size 0 c3 u.size (by omega) (by omega) (by omega) (by omega) (by omega) (by omega) k1 k2).mono ?_;rintro e S ⟨A6,c6,rfl,a0,G⟩)
  | (refine⟨trivial,?_⟩;gi_at_call 79;refine(Bd _ _ _ _ _).mono ?_;rintro e W7 ⟨rfl,aW⟩)
  | (refine⟨trivial,?_⟩;fail_if_success (refine callsIn_wide.2 ?_)))
 obtain⟨g6,o6,rfl,aY,bT⟩:=a0.rC (by omega);have bM:S.cell? ⟨g6,o6,none⟩=some (.slice (some ⟨C.heap.size,0,none⟩) u.size u.size):=by simpa using bT 0 _ rfl
 have I:ph S.heap.size S W7:=by rw[<-aW];exact jf _ _
 have kb:za W7 S.heap.size 142 #[.slice (some ⟨g6,o6,none⟩) 1 c6]:=by rw[<-aW];exact za.new _ _ _
 have cR:=aO.size;have d9:=G.size;have d3:=kb.lt;have L:ph C.heap.size C W7:=((aO.trans (aP.mono cR)).trans (G.mono (by omega))).trans (I.mono (by omega));have aR:ph W3.heap.size W3 W7:=(aP.trans (G.mono (by omega))).trans (I.mono (by omega));have h7:=h2.grow L;have bO:=h2.mlt;have cN:=h2.rZ;have d6:=h2.rlt;have cT:=aH.size;have d8:=L.size;have q3:=aL.below L aL.lt;have q6:=aM.below L aM.lt;have q7:=aE.below L aE.lt;have a1:qq W7 W7.heap.size (some ⟨C.heap.size,0,none⟩) u.size u.data.toList:=by have:=(aJ.below aR).more aR.size;exact⟨by omega,by omega,(λe=>by cases e),this.rC⟩
 have G7:ze (qp K p v) W W7:=ze.below (aH.trans (L.mono cT));have HS:=Tp (m-1) (by omega) S.heap.size g6 o6 c6 (.slice (some ⟨C.heap.size,0,none⟩) u.size u.size) rfl a0.le W7 (by omega) (by omega) kb.boxed ((I.cell (p:=⟨g6,o6,none⟩) aY).trans bM);clear aW bI L aR I G aP aO kb bM bT a0 aJ k1 k2 aL aM aE b7 h2 aH bE a7 a8;refine vz rfl cD (gf:=130) (lb:=#[.pointer (some ⟨S.heap.size,0,none⟩)]) rfl trivial (zb.eo func130)
  HS (pf _ _) (λ_=>rfl) (λj=>qp K p v j∨j=W.heap.size+1+1) trivial
  (tx W0 K p t k v st last mk ms W W.heap.size (W.heap.size+1) (W.heap.size+1+1) used i u (some ⟨C.heap.size,0,none⟩)) (λ_ _ _ _=>False) ?st (λ_ _ _ _ _ _ h _ _=>h) ?lts ?ownR
  (.inl ⟨rfl,λ_=>Iff.rfl,h7,q3,q6,q7,a1,G7⟩) ?act ?assign ?body ?done ?stop
 case st =>
  intro s U X0 Y row h A O;have hc:∀r,row=some r->∃o:Obj,X0.heap[r]?=some o/\o.isCells=false:=λr e=>(O r e).2
  have bL:∀r,row=some r->W.heap.size<=r:=λr e=>by have:=(O r e).1;omega
  have bP:∀x∈ms,x.m<W7.heap.size:=λx hx=>by have:=bO x hx;omega
  rcases h with⟨e,q,f⟩|⟨e,q,E⟩
  ·exact .inl ⟨e,q,f.at_.pD (B:=W7.heap.size) (by omega) (by omega) bP A O,f.b3.kept A hc,f.b6.kept A hc,f.b7.kept A hc,qq.rL (B:=W7.heap.size) _ _ _ () X0 Y row f.row A O,f.gb.pD A bL⟩
  ·obtain⟨n,v1,a6,aN,aU,aV,aX,a3⟩:=E.has;exact .inr ⟨e,q,⟨n,v1,a6,aN,aU,aV.pD (B:=W7.heap.size) (by omega) (by omega) bP A O,aX.kept A hc,a3⟩,E.b6.kept A hc,E.gb.pD A bL⟩
 case lts =>
  rintro s U X0 (⟨_,q,f⟩|⟨_,q,_⟩) j z
  ·rcases(q j).1 z with e|e
   ·exact f.at_.rZ j e
   ·rw[e];exact f.b7.lt
  ·exact absurd z (q j)
 case ownR=>exact λc0 x _ X0 Y row h _ _=>h
 case assign =>
  intro l1 x V K0 aT
  gi_wp2
  exact aT
 case body =>
  rintro l1 c0 x U V h rfl;obtain⟨q,f⟩:(∀j,U j↔qp K p v j∨j=W.heap.size+1+1)/\tX W0 K p t k v st last mk ms W W.heap.size (W.heap.size+1) (W.heap.size+1+1) i u (some ⟨C.heap.size,0,none⟩) V:=by
   rcases h with⟨_,q,f⟩|⟨e,_⟩
   ·exact⟨q,f⟩
   ·cases e
  have hV:=f.at_;have HM:=YR hV hK (by omega) hp O;have c3:=f.b3.boxed;have n3:=hV.rD f.b3 (by decide);have n6:=hV.rD f.b6 (by decide);have n7:=hV.rD f.b7 (by decide);have HF:∀W,pr Y3 82 #[.int .u32 0] W (yU W (zx 4 0)):=λW=>xt 0 W
  have d0:∀w:World,(convert 3 148 (.int .i64 0)).run Y3 w=.ok (.int .u32 0) w:=λw=>Qo 0 (by omega) w
  have dA:1<=m-1-1:=by omega
  have hG:=f.gb
  gi_wp2_with (first
   | (refine⟨trivial,?_⟩;gi_at_call 49;refine(gr l1 (callsIn_wide.2 HM)).mono ?_;rintro e w5 ⟨n,v5,c1,cA,rfl,h5,a2,aK,bS,cP,bR,aB⟩;have a9:=aB.blk f.b3 n3;have bA:=aB.blk f.b6 n6;have aF:=aB.blk f.b7 n7;have cQ:=aB.inB f.row (λg o e _ hm=>by injection e with e;injection e with e;have:=cN g hm;omega);have a4:=aK.rP n (by simp);have eB:=aK.sz;have bX:=pk bS;clear bS HM)
   | (refine PD rfl _ _ rfl w5.heap.size .i64 .i64 512 rfl rfl (by omega) (zG _) ?_;intro w6 cY aY;have G:ph w5.heap.size w5 w6:=zl aY (zG _) (λr e=>by cases e);have aC:za w6 w5.heap.size 5 ((zP 512 0).map b8).toArray:=(yZ.blk (l:=zP 512 0) (by simpa using cY)).1;have b4:=aF.below G aF.lt;have c5:w6.cell? ⟨W.heap.size+1+1,2,none⟩=some (.int .i64 0):=by rw[b4.cell];rfl)
   | (refine⟨trivial,?_⟩;gi_at_call 82;refine(gr l1 (callsIn_wide.2 (HF _))).mono ?_;rintro e w7 ⟨v7,rfl,cZ,I⟩;obtain⟨A7,c7,rfl,a1⟩:=cZ.inB;have bJ:=aC.below I aC.lt;have cE:=G.trans (I.mono G.size))
   | (refine GC rfl (.tmp 32) (.tmp 36) rfl w5.heap.size 0 (zP 512 0) (zx 4 0) A7 c7 _ 512 512 rfl rfl bJ a1 (by simp) ?_;have bK:=bJ.setRow ((yv (zP 512 0) 0 512 (zx 4 0)).map b8).toArray;have aQ:=zf cE (zG _) ((yv (zP 512 0) 0 512 (zx 4 0)).map b8).toArray;generalize w7.setRow w5.heap.size ((yv (zP 512 0) 0 512 (zx 4 0)).map b8).toArray=w8 at *)
   | (refine GC rfl (.tmp 39) (.tmp 40) rfl w5.heap.size 4 (yv (zP 512 0) 0 512 (zx 4 0)) u.data.toList (some ⟨C.heap.size,0,none⟩) u.size w8.heap.size 508 508 rfl (by rw[bV];rfl) bK ((cQ.below aQ).more aQ.size) (by decide +kernel) ?_;rw[PR u (by omega)];have cL:=bK.setRow ((kU u).map b8).toArray;have aA:=zf aQ (zG _) ((kU u).map b8).toArray;generalize w8.setRow w5.heap.size ((kU u).map b8).toArray=w9 at *;have h9:=h5.grow aA;have b0:=a9.below aA a9.lt;have c4:=b0.boxed;have c2:=h9.tp;have bC:=aF.below aA aF.lt;have bB:=bA.below aA bA.lt;have bW:=Mo (u:=u) (by omega);have bN:=cL.pA (by omega);rw[bW] at bN;have HW:=Yh h9.pa hK (by have:=a2.nn;omega) n ⟨a4.1,a4.2⟩ (by omega) (some ⟨w5.heap.size,0,none⟩) 512 (kU u) bW bN;have cX:=h9.rD bC (by decide);have cW:=h9.rD bB (by decide))
   | (refine⟨trivial,?_⟩;gi_at_call 83;refine(gr l1 (callsIn_wide.2 HW)).mono ?_;rintro e w10 ⟨xe,v10,rfl,cO,bF,bQ,aI⟩;obtain⟨rfl,aS⟩:=Nr bF h9 (aK.loose hK);have cB:=h9.rH cO (Jo aI) bQ;have aG:=aI.blk bC (λe=>cX (.inr e));have c9:=aG.free 2;have c8:w10.cell? ⟨W.heap.size+1+1,2,none⟩=some (.int .i64 0):=by rw[aG.cell];rfl)
   | (refine⟨trivial,?_⟩;gi_at_call 51;refine(gr l1 (callsIn_wide.2 (jx _))).mono ?_;rintro e eE ⟨⟨_,rfl⟩,rfl⟩)
   | (refine⟨trivial,?_⟩;fail_if_success (refine callsIn_wide.2 ?_)))
  have b1:=aI.blk bB (λe=>cW (.inr e));have bU:=aB.size;have cS:=aA.size;have H:ze (λj=>j=W.heap.size+1+1) w10 (w10.setCell ⟨W.heap.size+1+1,2,none⟩ (.int .i64 n)):=ze.setCell _ _ _ rfl;have cC:=cB.rF H aG (by simp) (λm e=>by cases e) (by omega) (by decide);have b5:=aG.set 2 (.int .i64 n);have b2:=H.blk b1 (by omega);have bZ:qa K V v v10:=bR.trans (bQ.mono cS) bU;have bD:ze (qp K p v) V w10:=(Jo aI).fresh (aB.trans (ze.below aA)) bR (by omega);have gW:=hG.trans bD;have cF:∀a∈used,v10.D a=v.D a:=λa ha=>by
   have:a≠n:=λe=>bX.out (e▸ha)
   rw[aS,a2.dd];simp[this]
  refine⟨λ_=>False,λj z=>z.elim,(Nc bD (λj z=>(q j).2 (.inl z))).trans (yg.setCell _ _ _ ((q _).2 (.inr rfl))),.inr ⟨rfl,λj z=>z,⟨n,v10,c1,cA,⟨⟨rfl,cM,.inr ⟨rfl,rfl,rfl,cU,cV,a4.1,by show n<=2000;omega,by rw[aS];simp⟩⟩,by rw[aS];exact aK.put (by simp) _,cF,by have:=a2.nn;have:=bF.nn;omega,cP⟩,cC,b5,bZ.mono hG.size⟩,b2,⟨H.os.trans gW.os,H.tape.trans gW.tape,H.output.trans gW.output,zT gW.size H.size,λj z hm=>(H.block j (by have:=gW.size;omega) (by omega)).trans (gW.block j z hm)⟩⟩⟩
 case done =>
  rintro D xs U V hD cG h aT;obtain⟨E⟩:Nonempty (tZ W0 K p t k v st last mk ms W (W.heap.size+1) (W.heap.size+1+1) used i u V):=by
   rcases h with⟨e,_⟩|⟨_,_,E⟩
   ·rw[cG] at e;cases e
   ·exact⟨E⟩
  obtain⟨n,v1,a6,aN,aU,aV,aX,a3⟩:=E.has;have aC:=E.b6;have aD:=E.gb;have d1:=aD.size;have gs:=qj V (W.heap.size+1) #[.string i,.string ⟨#[]⟩,.int .i64 n,.int .i64 (u.size:Int)];have cH:=aV.rF gs aC (by decide) (λm e=>by cases e) (by omega) (by decide);have cJ:=aC.setRow #[.string i,.string ⟨#[]⟩,.int .i64 n,.int .i64 (u.size:Int)]
  gi_wp2_with (first
   | (refine Qr rfl 94 (.tmp 7) rfl (QT qt aX rfl rfl rfl) ?_)
   | (refine jg rfl 94 (.tmp 6) (.tmp 53) rfl (W.heap.size+1) rfl rfl qt aC rfl rfl (zy rfl rfl rfl rfl) ?_))
  have eA:(V.setRow (W.heap.size+1) #[.string i,.string ⟨#[]⟩,.int .i64 n,.int .i64 (u.size:Int)]).heap.size=V.heap.size:=by simp[oe]
  have bG:(V.setRow (W.heap.size+1) #[.string i,.string ⟨#[]⟩,.int .i64 n,.int .i64 (u.size:Int)]).heap[D]?=some (.deferred (some [])):=(oL _ _ D _ (by omega)).trans aT;have g2:ze (qp K p v) W (V.setRow (W.heap.size+1) #[.string i,.string ⟨#[]⟩,.int .i64 n,.int .i64 (u.size:Int)]):=⟨aD.os,aD.tape,aD.output,by omega,λj z hm=>(oL _ _ j _ (by omega)).trans (aD.block j z hm)⟩;generalize V.setRow (W.heap.size+1) #[.string i,.string ⟨#[]⟩,.int .i64 n,.int .i64 (u.size:Int)]=Y at *;have aZ:=grownBy_putObj' Y D (.deferred none);have a5:∀r,some D=some r->W7.heap.size<=r/\∃o:Obj,Y.heap[r]?=some o/\o.isCells=false:=λr e=>by injection e with e;subst e;exact⟨hD,_,bG,rfl⟩
  have cI:=cH.pD (B:=W7.heap.size) (by omega) (by omega) (λx hx=>by have:=bO x hx;omega) aZ a5;have cK:=cJ.kept aZ (λr e=>(a5 r e).2);refine⟨by simp,.inl ⟨D,_,rfl,run_takeDeferred bG,?_⟩⟩;exact⟨_,yi rfl (xF (g:=W.heap.size+1) 6 rfl qt cK rfl),⟨i,oR,n,(u.size:Int)⟩,[n],v1,a6,aN,rfl,aU,cI,a3,g2.pD aZ (λr e=>by have:=(a5 r e).1;omega)⟩
 case stop=>exact λ_ _ _ _ _ _ _ h _=>h.elim
theorem Dy (h:qe W0 K p t k v st last true mk ms W)(s:K.Ok)(z:v.N<=690000)(q:xh K v.D st used free)(C:(used.length:Int)+1<K.pg)(f u:ByteArray)(j:f.size<=81)(hu:u.size<=400):pr Y3 46 #[.agg #[.pointer (some ⟨t,0,none⟩)],.string f,.string u] W λe w'=>∃c g v' st' i,e=Y0 (.agg (zm c).toArray)/\xw v'.D c (f,u) g/\xh K v'.D st' (g++used) i/\(∀a∈used,v'.D a=v.D a)/\v'.N<=v.N+6/\st'.roots=st.roots/\qe W0 K p t k v' st' last true mk ms w'/\qa K W v v'/\ze (qp K p v) W w':=by
 by_cases hs:u.size<=60
 ·refine(Fx W _ f u hs).mono ?_;rintro e w' ⟨rfl,hB⟩;exact⟨⟨f,u,0,0⟩,[],v,st,free,rfl,⟨rfl,j,.inl ⟨rfl,rfl,rfl,hs,rfl⟩⟩,q,λ_ _=>rfl,by omega,rfl,h.grow hB,λk A => .inl A,ze.below hB⟩
 ·refine(callsIn_wide.1 (DK 10 (zG _) h s z q C f u j (by omega) hu)).mono ?_;rintro e w' ⟨c,g,v',st',i,rfl,hP,ht,hn,r⟩;exact⟨c,g,v',st',i,rfl,hP.is,hP.pl,hP.dd,hP.nn,hP.rt,ht,hn,r⟩
end
end
section
open Go Go.RowKit vA
theorem FX {ρ:py->Value}{w:World}{o:oM}{x:py}{m:xK}{C:Y7}(c:C=(zm m).toArray)(e:o.op=.buildSlice 65 1 #[(0,x)])(h1:ρ x=.agg C):(oB ρ o).run Y3 w=.ok (.value (.slice (some ⟨w.heap.size,0,none⟩) 1 1)) (w.alloc (.cells C 94)):=by
 subst c;exact Ve m e h1
section
variable {W0 W W':World}{K:xH}{p t:Nat}{v v':yz}{st last st' last':qm}{mk mk':Value}{ms:List vK}
def wM (W0:World)(K:xH)(p t:Nat)(last:qm)(mk:Value)(ms:List vK)(v:yz)(W:World)(es:List yN)(e:Ending)(w':World):Prop :=
 ∃v' st',(∃z,e=Y0 z)/\qe W0 K p t 0 v' st' last true mk ms w'/\jM K v'.D st' es/\v'.N<=v.N+800/\qa K W v v'/\ze (qp K p v) W w'
theorem Ey (h:qe W0 K p t 0 v st last true mk ms W)(hK:K.Ok)(aQ:450<=K.pg)(hN:v.N<=500000){es:List yN}(hs:qg es)(bE:es.length<=60){used free ps:List Int}{n:Int}{d:Nat}{x:yo}(hp:xh K v.D st used free)(h0:st.roots[0]?=some n)(hu:used.Perm (n::ps))(hD:v.D n=some (vE x))(hl:(qb x).length<=512)(hx:ye v.D d x es ps)
  (j u:ByteArray) (bC:j.size<=81) (bH:u.size<=400) {q1 q2:Nat} (b1:za W q1 9 #[.string j]) (b2:za W q2 9 #[.string u]) :
  pr Y3 44 #[.agg #[.pointer (some ⟨t,0,none⟩)],.pointer (some ⟨q1,0,none⟩),.pointer (some ⟨q2,0,none⟩)] W (wM W0 K p t last mk ms v W (putE es (j,u))):=by
 have bT:=hp.rP n (List.mem_append_left _ (hu.mem_iff.2 (by simp)));have bO:=hx.sV;have bW:used.length=1+ps.length:=by rw[hu.length_eq];simp;omega
 obtain⟨W1,aT,r,b3⟩:=YK W 92 #[.pointer (some ⟨t,0,none⟩)];have h1:=h.grow r;have HR:=Xz h1 (i:=0) rfl h0;have aB:=b1.below r b1.lt;have aC:=b2.below r b2.lt;have bG:=r.size;have a7:=pk aT.symm;clear aT h b1 b2
 go_enter func44,ntmps44
 go_wp2_with fail
 rw[a7.out];refine HR.mono ?_;rintro e w2 ⟨rfl,s⟩;have S:=b3.below s b3.lt;have aL:=aB.below s aB.lt;have aM:=aC.below s aC.lt;have h2:=h1.grow s;have c3:=S.boxed;have c1:=aL.boxed;have c2:=aM.boxed;have bI:=h2.rD S (by decide);have aG:ph W.heap.size W w2:=r.trans (s.mono bG);clear HR h1 b3 aB aC
 go_wp2_with fail
 refine(Dy h2 hK (by omega) hp (by omega) j u bC bH).mono ?_;rintro e f ⟨c,pc,v3,a5,bA,rfl,aW,a1,aI,bP,a3,h3,aY,aH⟩;have E:=aH.blk S bI;obtain⟨C,L⟩:=Z9 ((zm c).toArray);have aP:C.size=4:=by rw[L];rfl
 have bB:∀u∈C.toList,u.oneCell'=true:=by rw[L];exact zy rfl rfl rfl rfl
 rw[<-L];obtain⟨W4,aU,aO,aN⟩:=YK f 94 #[.string ⟨#[]⟩,.string ⟨#[]⟩,.int .i64 0,.int .i64 0];have H:ph f.heap.size f (W4.setRow f.heap.size C):=zf aO (zG _) _;have aE:=aN.setRow C;generalize aV:W4.setRow f.heap.size C=w5 at *;have I:ph w5.heap.size w5 w5.drew:=(pf _ _).drew;have U:=(h3.grow H).grow I;have aD:=(E.below H E.lt).below I (E.below H E.lt).lt;have aF:=aE.below I aE.lt;have g5:ze (qp K p v) W w5.drew:=(((ze.below aG).trans aH).trans (ze.below H)).trans (ze.below I);have N5:qa K W v v3:=aY.mono aG.size;have aX:∀a∈ps,v3.D a=v.D a:=λa ha=>aI a (hu.mem_iff.2 (by simp[ha]))
 have O:=Od hK aQ (AQ hK) d v3 a5 w5.drew (pc++used) bA n x es ps pc [] c (j,u) U a1 (by
  rw[yE,nJ];intro a;have:=List.perm_iff_count.1 hu a;simp only[gN,nU] at this ⊢
  omega) ((aI n (hu.mem_iff.2 (by simp))).trans hD) hl (hx.rE aX) hs aW (by omega) bE (by simp;omega) trivial
 unfold Yo at O;rw[<-L] at O;have g:za w5.drew W.heap.size 92 #[.pointer (some ⟨t,0,none⟩)]/\za w5.drew f.heap.size 94 C:=⟨aD,aF⟩;have bJ:=U.rD aD (by decide);have bK:=U.rD aF (by decide);have a6:=pk (a3▸h0:a5.roots[0]?=some n);have a8:=pk aU.symm;have a9:=pk aV;clear aU aV h2 h3 S E aL aM c1 c2 c3 r s aO H hx I aH aY hp hD aI aX aW a1 h0 a3 hu L aG
 go_wp2_with (first
  | (rw[a8.out];refine vW qt aN aP bB ?_;rw[a9.out]))
 refine zb.st (λW':World=>za W' W.heap.size 92 #[.pointer (some ⟨t,0,none⟩)]/\za W' f.heap.size 94 C) 99 ?_;generalize w5.drew=wd at *;refine zb.t0 0 (.agg #[.pointer (some ⟨t,0,none⟩)]) rfl g (λW ⟨q,G⟩=>by exact QT XS q rfl rfl rfl) ?_;refine zb.q0 1 (.int .i64 n) g ?_;simp only[Z8];refine zb.t0 2 (.agg #[.pointer (some ⟨t,0,none⟩)]) rfl g (λW ⟨q,G⟩=>by exact QT XS q rfl rfl rfl) ?_;refine zb.q0 3 (.int .i64 n) g ?_;simp only[Z8];refine zb.t0 4 (.agg C) rfl g (λW ⟨q,G⟩=>by exact QU qt G aP rfl rfl) ?_;simp only[Z8];refine zb.n 5 ?_;refine zb.oC 48 #[.tmp 17,.tmp 18,.tmp 19] #[92,3,94] #[.agg #[.pointer (some ⟨t,0,none⟩)],.int .i64 n,.agg C] (O.mono ?_) (zb.eo func48);rintro e w6 ⟨z,v6,bX,Ac,cc,Ak,ck,Ai,ci,rfl,⟨bY,bN,bL,a2,aJ,a4,bD,_,bQ,bF⟩,Z6,_,V,aZ,M⟩;have A:za w6 W.heap.size 92 #[.pointer (some ⟨t,0,none⟩)]/\za w6 f.heap.size 94 C:=⟨M.blk g.1 bJ,M.blk g.2 bK⟩;have bS:=ZJ es (j,u);have aK:=PU V hK aQ (by omega) a2 n (ps:=bL) (by rw[yE] at aJ;exact aJ) (by rw[bF];exact a6.out) a4 (hs.sW _) (by omega) bD Z6;refine⟨_,rfl,λ_=>A,?_⟩;simp only[Z8];refine zb.n 6 ?_;refine zb.oC 47 #[.tmp 15,.tmp 16,.tmp 20] #[92,3,69] #[.agg #[.pointer (some ⟨t,0,none⟩)],.int .i64 n,.agg (zu z Ac cc Ak ck Ai ci)] (aK.mono ?_) (zb.eo func47);rintro e w7 ⟨v7,bM,⟨uz,rfl⟩,aS,bR,h7,a0,aA⟩;have aR:za w7 W.heap.size 92 #[.pointer (some ⟨t,0,none⟩)]/\za w7 f.heap.size 94 C:=⟨aA.blk A.1 (V.rD A.1 (by decide)),aA.blk A.2 (V.rD A.2 (by decide))⟩;refine⟨_,rfl,λ_=>aR,zb.dn ?_⟩;simp only[Z8];have bU:=M.size;have bV:=g5.size;have N6:qa K W v v6:=N5.trans aZ (by omega);have F:wM W0 K p t last mk ms v W (putE es (j,u)) (.returned (.tuple #[])) w7:=⟨v7,bM,⟨_,rfl⟩,h7,aS,by omega,N6.trans a0 (by omega),aA.fresh (M.fresh g5 N5 (by omega)) N6 (by omega)⟩;clear g A aR O aK Z6 V aZ M a0 aA aD aE aF U g5 N5 N6 a2 aJ a4 aS h7;go_wp2;refine oE (dS rfl _ _ _) rfl ?_;exact F
theorem Ez (h:qe W0 K p t 0 v st last true mk ms W)(M:K.Ok)(cC:450<=K.pg)(hN:v.N<=500000){free:List Int}(hp:xh K v.D st [] free)(h0:st.roots[0]?=some 0)
  (s u:ByteArray) (bX:s.size<=81) (b7:u.size<=400) {q1 q2:Nat} (b1:za W q1 9 #[.string s]) (b2:za W q2 9 #[.string u]) :
  pr Y3 44 #[.agg #[.pointer (some ⟨t,0,none⟩)],.pointer (some ⟨q1,0,none⟩),.pointer (some ⟨q2,0,none⟩)] W (wM W0 K p t last mk ms v W (putE [] (s,u))):=by
 have cB:=M.hP;obtain⟨W1,bE,G,b3⟩:=YK W 92 #[.pointer (some ⟨t,0,none⟩)];have h1:=h.grow G;have HR:=Xz h1 (i:=0) rfl h0;have aJ:=b1.below G b1.lt;have aK:=b2.below G b2.lt;have b6:=G.size;have bP:=pk bE.symm;clear bE h b1 b2
 go_enter func44,ntmps44
 go_wp2_with fail
 rw[bP.out];refine HR.mono ?_;rintro e w2 ⟨rfl,A⟩;have U:=b3.below A b3.lt;have a6:=aJ.below A aJ.lt;have a7:=aK.below A aK.lt;have h2:=h1.grow A;have c3:=U.boxed;have c1:=a6.boxed;have c2:=a7.boxed;have cF:=A.size;have b8:=h2.rD U (by decide);have aR:ph W.heap.size W w2:=G.trans (A.mono b6);clear HR h1 b3 aJ aK
 go_wp2_with fail
 refine(Dy h2 M (by omega) hp (by simp;omega) s u bX b7).mono ?_;rintro e H ⟨c,pc,v3,b9,cA,rfl,aW,a1,_,cD,bM,h3,bI,aD⟩;rw[yE] at a1;have aL:=aD.blk U b8;have cG:=aD.size;obtain⟨C,L⟩:=Z9 ((zm c).toArray);have bB:C.size=4:=by rw[L];rfl
 have bW:∀u∈C.toList,u.oneCell'=true:=by rw[L];exact zy rfl rfl rfl rfl
 rw[<-L];obtain⟨W4,bF,bA,aO⟩:=YK H 94 #[.string ⟨#[]⟩,.string ⟨#[]⟩,.int .i64 0,.int .i64 0];have I:ph H.heap.size H (W4.setRow H.heap.size C):=zf bA (zG _) _;have aP:=aO.setRow C;generalize bG:W4.setRow H.heap.size C=w5 at *;have h5:=h3.grow I;have V:=aL.below I aL.lt;have bT:=V.boxed;have b5:=I.size;have g5:ze (qp K p v) W w5:=((ze.below aR).trans aD).trans (ze.below I);have N5:qa K W v v3:=bI.mono aR.size;have cE:=aW.sV;have HM:=YR h5 M (by omega) a1 (by omega);have b0:=pk (bM▸h0:b9.roots[0]?=some 0);have bQ:=pk bF.symm;have bR:=pk bG;have a4:=pk L;clear bF bG h2 h3 U aL a6 a7 c1 c2 c3 G A bA I aD bI hp h0 bM aR L
 go_wp2_with (first
  | (rw[bQ.out];refine vW qt aO bB bW ?_;rw[bR.out]))
 refine HM.mono ?_;rintro e S ⟨n,v6,aH,bV,rfl,h6,aG,O,a0,b4,bJ,aE⟩;have aA:=aE.blk V (h5.rD V (by decide));have a9:=aE.blk aP (h5.rD aP (by decide));have bU:=aA.boxed;obtain⟨W7,bH,aS,aQ⟩:=YK S 94 C;have nx:XH W7 W7.heap.size ⟨true,[c],[],[]⟩ (some ⟨S.heap.size,0,none⟩) 1 none 0 none 0:=⟨⟨zG _,by decide,(λe=>by cases e),rfl,zy rfl rfl rfl rfl,λ_=>⟨S.heap.size,0,rfl,aQ.lt,λj x hj=>by rw[qC,aQ.cell,a4.out];simpa[vV] using hj⟩⟩,yp.mt _ _ _,yp.mt _ _ _⟩;have h7:=h6.grow aS;have aM:=aA.below aS aA.lt;have bC:=aG.dd;have a2:=O.rP n (by simp);have cH:=O.sz;have aX:xw v6.D c (s,u) pc:=aW.rE λa ha=>by
  have:a≠n:=λe=>a0 (e▸ha)
  rw[bC];simp[this]
 have a3:ye v6.D 0 ⟨true,[c],[],[]⟩ [(s,u)] pc:=⟨rfl,rfl,rfl,by simp,pc,[],aX,rfl,by simp⟩;have bN:qg [(s,u)]:=List.pairwise_singleton _ _;have aY:(qb ⟨true,[c],[],[]⟩).length<=512:=by have:=aX.laid;rw[Qm _ (by simp)];simp;omega
 have aI:=jA h7 M (by have:=aG.nn;omega) n ⟨a2.1,a2.2⟩ (by omega) (O.loose M) ⟨true,[c],[],[]⟩ _ _ _ _ _ _ nx (by show 1<=1000;decide) (by show 0<=1000;decide) (by show 0<=1001;decide) (a3.right bN) aY;have eX:zu ⟨true,[c],[],[]⟩ (some ⟨S.heap.size,0,none⟩) 1 none 0 none 0=#[.bool true,.slice (some ⟨S.heap.size,0,none⟩) 1 1,.slice none 0 0,.slice none 0 0]:=rfl;rw[eX] at aI;have bS:=pk bH.symm;have N6:qa K W v v6:=N5.trans (bJ.mono b5) (by have:=g5.size;omega);have g7:ze (qp K p v) W W7:=(aE.fresh g5 N5 (by have:=g5.size;omega)).trans (ze.below aS);clear bH nx aQ HM h5 h6 V aA aP aO bT aE bJ g5 N5 eX
 go_wp2_with (first
  | (refine yV rfl 94 (.tmp 5) rfl H.heap.size rfl qt a9 bB ?_)
  | (refine zr rfl (FX a4.out rfl rfl) ?_))
 rw[bS.out];refine aI.mono ?_;rintro e z ⟨v8,⟨u8,rfl⟩,h8,aZ,bK,aU⟩;have aN:=aU.blk aM (h7.rD aM (by decide));have aT:ph z.heap.size z z.drew:=(pf _ _).drew;have E:=h8.grow aT;have a5:=ZK E.pa n ⟨by omega,a2.2⟩;have aB:=aN.below aT aN.lt;have f:z.drew.cell? ⟨W.heap.size,0,none⟩=some (.pointer (some ⟨t,0,none⟩))/\z.drew.cell? ⟨t,0,none⟩=some (.pointer (some ⟨p,0,none⟩))/\z.drew.cell? ⟨t,1,none⟩=some (.int .i64 0):=⟨aB.boxed,E.tp,E.tk⟩;have bZ:=E.rD aB (by decide);have N8:qa K W v v8:=N6.trans bK (by have:=g7.size;omega);have g8:ze (qp K p v) W z.drew:=(aU.fresh g7 N6 (by have:=g7.size;omega)).trans (ze.below aT);have aC:=aZ.dd;have bD:jM K v8.D {aH with roots:=aH.roots.set 0 n} (putE [] (s,u)):=by
  refine⟨⟨n::pc,bV,n,?_,?_,.inr ⟨0,⟨true,[c],[],[]⟩,pc,List.Perm.refl _,by rw[aC];simp,aY,a3.rE λa ha => ?_⟩⟩,bN⟩
  ·rw[aC];have hq:=O.put (n:=n) (by simp) (vE ⟨true,[c],[],[]⟩);exact⟨hq.nd,hq.rP,hq.sD,hq.sup,hq.at_,hq.ch,hq.mn,hq.sz⟩
  ·show (aH.roots.set 0 n)[0]?=_
   have:0<aH.roots.length:=by rw[b4];exact(qQ.1 b0.out).1
   rw[List.getElem?_set_self this]
  ·have:a≠n:=λe=>a0 (e▸ha)
   rw[aC];simp[this]
 have bO:=pk bD;have bY:v8.N<=v.N+800:=by have:=aG.nn;have:=aZ.nn;omega
 clear aI h7 h8 aM aN a9 aU bK aG aZ bC aC a1 O bD aW aX a3 a0 g7 N6 aY bU
 go_wp2_with fail
 refine zb.st (λW':World=>W'.cell? ⟨W.heap.size,0,none⟩=some (.pointer (some ⟨t,0,none⟩))/\W'.cell? ⟨t,0,none⟩=some (.pointer (some ⟨p,0,none⟩))/\W'.cell? ⟨t,1,none⟩=some (.int .i64 0)) 99 ?_;generalize z.drew=wd at *;refine zb.q0 0 (.pointer (some ⟨W.heap.size,0,none⟩)) f ?_;refine zb.q0 1 (.pointer (some ⟨t,0,none⟩)) f ?_;refine zb.q0 2 (.pointer (some ⟨t,0,none⟩)) f ?_;refine zb.q0 3 (.pointer (some ⟨t,0,none⟩)) f ?_;refine zb.q0 4 (.pointer (some ⟨p,0,none⟩)) f ?_;refine zb.q0 5 (.pointer (some ⟨W.heap.size,0,none⟩)) f ?_;refine zb.q0 6 (.pointer (some ⟨t,0,none⟩)) f ?_;refine zb.q0 7 (.pointer (some ⟨t,0,none⟩)) f ?_;refine zb.q0 8 (.pointer (some ⟨t,1,none⟩)) f ?_;refine zb.q0 9 (.int .i64 0) f ?_;refine zb.q0 10 (.int .i64 n) f ?_;simp only[Z8];refine zb.n 11 ?_;refine zb.oC 52 #[.tmp 34,.tmp 39,.tmp 40] #[45,3,3] #[.pointer (some ⟨p,0,none⟩),.int .i64 0,.int .i64 n] (a5.mono ?_) (zb.eo func52);rintro e w9 ⟨rfl,bL,aF⟩;have h9:=E.rH bL (MO aF) (λk hk => .inl hk);have a8:=aF.blk aB (λe=>bZ (.inl e));have aV:w9.cell? ⟨W.heap.size,0,none⟩=some (.pointer (some ⟨t,0,none⟩))/\w9.cell? ⟨t,0,none⟩=some (.pointer (some ⟨p,0,none⟩))/\w9.cell? ⟨t,1,none⟩=some (.int .i64 0):=⟨a8.boxed,h9.tp,h9.tk⟩;refine⟨_,rfl,λ_=>aV,?_⟩;simp only[Z8];refine zb.n 12 ?_;refine zb.oC 51 #[.tmp 41] #[27] #[.int .i64 0] ((jx _).mono ?_) (zb.eo func51);rintro e wm ⟨⟨um,rfl⟩,rfl⟩;refine⟨_,rfl,λ_=>aV,zb.dn ?_⟩;simp only[Z8];have g9:ze (qp K p v) W w9:=(MO aF:ze (qp K p v8) wd w9).fresh g8 N8 (by have:=g8.size;omega);clear aV f a8 aB a5 E bL aF g8;go_wp2;go_end0;exact⟨v8,_,⟨_,rfl⟩,h9,bO.out,bY,N8,g9⟩
end
end
end Go.Proofs.YtohmkffoojdahaaGreat
