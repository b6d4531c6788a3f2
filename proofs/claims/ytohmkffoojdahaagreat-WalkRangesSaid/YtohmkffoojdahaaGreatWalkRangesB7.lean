/- Texts that the proof of WalkRanges leans on, part 7. -/
import Derived.Deep.Slices
import Derived.Deep.Grids
import Derived.Test.YtohmkffoojdahaaGreatWalkRangesB6
open List renaming replicate->zP
open Nat renaming reduceAdd->yB,reduceSub->yC
set_option linter.unusedVariables false
set_option linter.unusedSimpArgs false
set_option maxRecDepth 100000
set_option maxHeartbeats 8000000

open ByteArray renaming empty->nX
open Go renaming Calls->nK,Addr->nN,Operand->nO,TypeId->nS,CallsIn->mQ
open Go.Act renaming put->nJ
open Go.Fence renaming wide->nv
open Go.RowKit renaming Below->nH
open Go.World renaming setRow->gM,setCell->gT
open List renaming range->mi
open Go.Proofs.Tryz renaming prog->Y3
open Go.Proofs.Tryz
open Go.Value renaming int->Y1,pointer->Y9,slice->X1,bool->X3,string->X9,agg->Q0,tuple->Q2
open Go.IntKind renaming i64->Q4
open Go.Obj renaming cells->Q9
open Option renaming none->K3,some->K4
namespace Go.Proofs.YtohmkffoojdahaaGreat
section
open Go Go.RowKit xq
theorem Bx.sS {c w:World}{p:Nat}{a b:Y7}{s e:Value}(h:Bx c w p a b s e):nH (p+1) c w/\za w (p+1) 69 a/\za w (p+1+1) 69 b:=⟨h.h,h.a,h.b⟩
theorem Qb {P:Program}{w:World}{ρ:nO->Value}{o:Oper}{T t:nS}{k g:Nat}{cs:Y7}{x:nO}(a:yw P T k)(c:za w g t cs)(e:cs.size=k)(f:o.op=.load T x)(h:ρ x=Y9 g):(execOp ρ o).run P w=.ok (.value (Q0 cs)) w:=by
 have:=yQ (ρ:=ρ) (o:=o) a c.range (by simpa using e) f h;simpa using this
theorem PW {v0 v1 c v3:Value}(e:v0.oneCell'=true)(h1:v1.oneCell'=true)(h2:c.oneCell'=true)(f:v3.oneCell'=true):∀v∈(#[v0,v1,c,v3]:Y7).toList,v.oneCell'=true:=by
 intro v a;simp at a;rcases a with rfl|rfl|rfl|rfl<;>assumption
theorem Sv (w:World)(x:ym)(Ac:Y5)(cc:Nat)(Ak:Y5)(u:Nat)(Ai:Y5)(C:Nat)(h:XX w w.heap.size x Ac cc Ak u Ai C)(hl:x.cells.length<=1000)(bX:x.keys.length<=1000)(c6:x.kids.length<=1001)(hR:yh x)(hf:x.leaf=false)(hs:512<(qg x).length)(hn:3<=xK x):nK Y3 137 #[Q0 (zx x Ac cc Ak u Ai C)] w (Yp w x):=by
 have HL:∀W,nH w.heap.size w W->nK Y3 151 #[Q0 (zx x Ac cc Ak u Ai C)] W (yV W (qg x)):=λW j=>Yd W x Ac cc Ak u Ai C (h.grow j) hl bX c6 hR
 have bN:∀W,nH w.heap.size w W->nK Y3 208 #[Q0 (zx x Ac cc Ak u Ai C)] W (GV W (qo x)):=λW j=>Jy W x Ac cc Ak u Ai C (h.grow j) K5 K5 K5 hR
 have bI:=Qr hR;have bU:(qo x).flatten.length<=1000000:=by
  have:=ji (qo x) 200 (JG hR);have:(qo x).length<=1000:=by rw[bI];unfold xK;rw[hf];exact bX
  omega
 obtain⟨cV,c5,bV,cW⟩:=hR.inner hf;have bY:xj x=x.keys.length-2:=by unfold xj;rw[hf];rfl
 have bJ:xK x=x.keys.length:=by unfold xK;rw[hf];rfl
 have bZ:vU x<=xK x:=by unfold vU;rw[hf];exact hn
 have b6:∀k,(hk:k<x.keys.length)->yq x k=x.keys[k]:=λk hk=>by rw[XR (by rw[Jv,bJ];exact hk)];unfold qh;simp only[hf,Bool.false_eq_true,if_false]
 have HG:∀(k:Nat) (e:Ending) (w':World),(∃(A:Y5) (c:Nat) (A':Y5) (c':Nat) (B:Y5) (d:Nat) (B':Y5) (d':Nat),kz (qo x) (xj x) k/\e=Y0 (Q2 #[Q0 #[X3 false,X1 none 0 0,X1 A (x.keys.take k).length c,X1 A' (x.kids.take (k+1)).length c'],Q0 #[X3 false,X1 none 0 0,X1 B (x.keys.drop (k+1)).length d,X1 B' (x.kids.drop (k+1)).length d'],.string (yq x k),Y1 Q4 0])/\yl w' w'.heap.size 1 A (x.keys.take k).length c (Xa (x.keys.take k))/\yl w' w'.heap.size 1 A' (x.kids.take (k+1)).length c' (ZJ (x.kids.take (k+1)))/\yl w' w'.heap.size 1 B (x.keys.drop (k+1)).length d (Xa (x.keys.drop (k+1)))/\yl w' w'.heap.size 1 B' (x.kids.drop (k+1)).length d' (ZJ (x.kids.drop (k+1)))/\nH w.heap.size w w'/\(∀g o,A=some ⟨g,o,K3⟩->w.heap.size<=g)/\(∀g o,A'=some ⟨g,o,K3⟩->w.heap.size<=g)/\(∀g o,B=some ⟨g,o,K3⟩->w.heap.size<=g)/\(∀g o,B'=some ⟨g,o,K3⟩->w.heap.size<=g))->Yp w x e w':=by
  rintro k e w' ⟨A,c,A',c',B,d,B',d',h1,rfl,h2,h3,h4,h5,h6,n1,n2,n3,n4⟩;refine⟨k,none,0,A,c,A',c',none,0,B,d,B',d',h1,bZ,?_,?_,?_,h6,(λg o e=>e.elim (λe=>nomatch e) (λe=>e.elim (n1 g o) (n2 g o))),(λg o e=>e.elim (λe=>nomatch e) (λe=>e.elim (n3 g o) (n4 g o)))⟩
  .unfold xF yT zx;rw[hf];rfl
  .unfold xF;rw[hf];exact⟨yl.mt _ _ _,h2,h3⟩
  .unfold yT;rw[hf];exact⟨yl.mt _ _ _,h4,h5⟩
 have eC:(512:Int)<((qg x).length:Int):=K5
 rw[bJ] at bI hn;rw[bY] at HG;generalize qg x=lb at *;generalize qo x=ls at *;generalize yq x=pt at *;generalize Yp w x=GO at *;have aG:=h.k;have aY:=h.i;clear hl hR bZ cW;obtain⟨b1,hx,aE⟩:=wK w (zx x Ac cc Ak u Ai C);unfold zx at *;obtain⟨W1,aX⟩:=Z9 (uk w #[X3 x.leaf,X1 Ac x.cells.length cc,X1 Ak x.keys.length u,X1 Ai x.kids.length C]);rw[<-aX] at b1 hx aE;unfold uk at aX;have cT:=nI aX;clear aX;obtain⟨leaf,cells,keys,kids⟩:=x;simp only at *;subst hf cV;simp only[zY] at *;have eN:(3:Int)<=(ls.length:Int):=K5
 have eT:IntKind.i64.wrap ((ls.length:Int)-2)=((keys.length-2:Nat):Int):=by rw[xX _];omega
 obtain⟨gk,ok,rfl,cX,dE⟩:=aG.pO K5;obtain⟨I,L,rfl,d8,dC⟩:=aY.pO K5;have eL:=aG.le;have eE:=aY.le;have bP:=λW base A c vs (hL:Zx W base (X1 A ls.length c) ls vs)=>Vy W base A c ls vs hL bU K5 (keys.length-2) K5
 unfold VH at bP;have eA:3<=keys.length:=K5
 have aZ:kids.length=keys.length+1:=bV;have cQ:=nI b6;have cK:=nI HG;have cL:=nI aZ;clear bI bY bJ b6 HG hn bU bV aZ c5
 go_enter_defers func137,ntmps137
 go_wp2_with (first
  |(rw[<-cT.out];refine yp zm b1 ?_)
  |(go_at_call 151;refine(HL _ aE).mono ?_;rintro e w2 ⟨v,rfl,own,aJ⟩;obtain⟨A2,c2,rfl,cY⟩:=own.inB;have b7:=hx.pV aJ;have b2:=b1.below aJ b1.lt;have bC:=aE.trans (aJ.mono aE.size))
  |(refine yp zm b2 ?_)
  |(go_at_call 208;refine(bN _ bC).mono ?_;rintro e w3 ⟨A3,c3,vs,rfl,bT,aK⟩;have b8:=b7.pV aK;have b3:=b2.below aK b2.lt;have bQ:=bC.trans (aK.mono bC.size);have k0:w3.cell? w.heap.size=some (X3 false):=(by rw[b3.cell];rfl))
  |(go_at_call 152;refine(yt _ _ _).mono ?_;rintro e w7 ⟨rfl,h7⟩;obtain⟨v7,rfl⟩:=h7.1 rfl)
  |(go_at_call 152;refine(yt _ _ _).mono ?_;rintro e w7 ⟨rfl,h7⟩;obtain rfl:=h7.2 (decide_eq_false K5))
  |(go_at_call 209;refine(bP _ _ _ _ _ bT).mono ?_;rintro e E ⟨k,rfl,bS,aL⟩))
 have aZ:=cL.out;have d9:=bS.le;have hk:k<keys.length:=K5
 obtain⟨k1,bW⟩:=Z9 (k+1);have eS:IntKind.i64.wrap ((k:Int)+1)=(k1:Int):=by rw[xX _];omega
 have bK:=b8.pV aL;have b4:=b3.below aL b3.lt;have aI:=bQ.trans (aL.mono bQ.size);have kk:E.cell? ⟨w.heap.size,2,K3⟩=some (X1 (K4 ⟨gk,ok,K3⟩) keys.length u):=by rw[b4.cell];rfl
 have ki:E.cell? ⟨w.heap.size,3,K3⟩=some (X1 (K4 ⟨I,L,K3⟩) kids.length C):=by rw[b4.cell];rfl
 have dB:w.heap.size<E.heap.size:=b4.lt;have dA:=bK.e.lt;have bB:∀W,nH (w.heap.size+1) E W->W.cell? ⟨w.heap.size,2,K3⟩=some (X1 (K4 ⟨gk,ok,K3⟩) keys.length u):=λW j=>(j.cell (p:=⟨w.heap.size,2,K3⟩) (Nat.lt_succ_self _)).trans kk
 have bM:∀W,nH (w.heap.size+1) E W->W.cell? ⟨w.heap.size,3,K3⟩=some (X1 (K4 ⟨I,L,K3⟩) kids.length C):=λW j=>(j.cell (p:=⟨w.heap.size,3,K3⟩) (Nat.lt_succ_self _)).trans ki
 have cO:∀W,nH (w.heap.size+1) E W->W.cell? ⟨gk,ok+k,K3⟩=some (X9 keys[k]):=λW j=>(j.cell (p:=⟨gk,ok+k,K3⟩) (by show gk<_;omega)).trans ((aI.cell (p:=⟨gk,ok+k,K3⟩) cX).trans (Xh aG rfl k hk))
 have bH:∀W,nH (w.heap.size+1) E W->yl W W.heap.size 1 (K4 ⟨gk,ok,K3⟩) keys.length u (Xa keys):=λW j=>(aG.below (aI.trans (j.mono (lY _)))).more (by have:=j.size;omega)
 have bG:∀W,nH (w.heap.size+1) E W->yl W W.heap.size 1 (K4 ⟨I,L,K3⟩) kids.length C (ZJ kids):=λW j=>(aY.below (aI.trans (j.mono (lY _)))).more (by have:=j.size;omega)
 have a4:(keys.take k).length=k:=by rw[qB];omega
 have a6:(keys.drop k1).length=keys.length-k1:=qF;have a5:(kids.take k1).length=k1:=by rw[qB];omega
 have a7:(kids.drop k1).length=kids.length-k1:=qF;have cR:∀W,nH (w.heap.size+1) E W->nK Y3 210 #[X1 (K4 ⟨gk,ok,K3⟩) k u] W λe w'=>∃A c,e=Y0 (X1 A k c)/\w'.ownsRow W.heap.size 9 1 (X1 A k c) k (Xa (keys.take k))/\nH W.heap.size W w':=λW j=>by
  have hq:=(bH W j).take k u K5 K5 (zG _);rw[yJ] at hq
  try rw[yJ] at hq
  have:=kF W (K4 ⟨gk,ok,K3⟩) u (keys.take k) (by rw[a4];unfold Xa at hq ⊢;rw[fT];exact hq) K5;unfold GR at this;rw[a4] at this;exact this
 have cS:∀W,nH (w.heap.size+1) E W->nK Y3 210 #[X1 (K4 ⟨gk,ok+k1,K3⟩) (keys.length-k1) (u-k1)] W λe w'=>∃A c,e=Y0 (X1 A (keys.length-k1) c)/\w'.ownsRow W.heap.size 9 1 (X1 A (keys.length-k1) c) (keys.length-k1) (Xa (keys.drop k1))/\nH W.heap.size W w':=λW j=>by
  have hq:=(bH W j).drop k1 K5;rw[yJ] at hq
  try rw[yJ] at hq
  have:=kF W (K4 ⟨gk,ok+k1,K3⟩) (u-k1) (keys.drop k1) (by rw[a6];unfold Xa at hq ⊢;rw[fS];exact hq) K5;unfold GR at this;rw[a6] at this;exact this
 have cM:∀W,nH (w.heap.size+1) E W->nK Y3 211 #[X1 (K4 ⟨I,L,K3⟩) k1 C] W λe w'=>∃A c,e=Y0 (X1 A k1 c)/\w'.ownsRow W.heap.size 3 1 (X1 A k1 c) k1 (ZJ (kids.take k1))/\nH W.heap.size W w':=λW j=>by
  have hq:=(bG W j).take k1 C K5 K5 (zG _);rw[yJ] at hq
  try rw[yJ] at hq
  have:=Xq W (K4 ⟨I,L,K3⟩) C (kids.take k1) (by rw[a5];unfold ZJ at hq ⊢;rw[fT];exact hq) K5;unfold GS at this;rw[a5] at this;exact this
 have cN:∀W,nH (w.heap.size+1) E W->nK Y3 211 #[X1 (K4 ⟨I,L+k1,K3⟩) (kids.length-k1) (C-k1)] W λe w'=>∃A c,e=Y0 (X1 A (kids.length-k1) c)/\w'.ownsRow W.heap.size 3 1 (X1 A (kids.length-k1) c) (kids.length-k1) (ZJ (kids.drop k1))/\nH W.heap.size W w':=λW j=>by
  have hq:=(bG W j).drop k1 K5;rw[yJ] at hq
  try rw[yJ] at hq
  have:=Xq W (K4 ⟨I,L+k1,K3⟩) (C-k1) (kids.drop k1) (by rw[a7];unfold ZJ at hq ⊢;rw[fS];exact hq) K5;unfold GS at this;rw[a7] at this;exact this
 have bO:=cQ.out k hk;generalize keys[k]=key at *;have cP:=nI bO;have i1:(k:Int)<(keys.length:Int):=K5
 have i3:(k:Int)<=(u:Int):=K5
 have i4:(0:Int)<=(k:Int):=K5
 have i6:(0:Int)<=(k1:Int):=K5
 have i7:(k1:Int)<=(keys.length:Int):=K5
 have i8:(k1:Int)<=(kids.length:Int):=K5
 have i9:(k1:Int)<=(C:Int):=K5
 have eW:(k1:Int)<=(u:Int):=K5
 have eX:¬ u=k1:=K5
 have eZ:¬ C=k1:=K5
 have aH:=nI bW;have Z:nH (w.heap.size+1) E E.drew:=(nF _ E).drew;have dM:=bK.base.drew;have b5:w.heap.size+1+1+1+1<E.drew.heap.size:=dA;clear HL bN aE aJ aK aL b1 b2 b3 b4 kk ki aG aY dE dC bO hx b7 b8 bK bT own cY bW aZ bH bG;refine wp_region_noPanic ?_;refine zb.st (λW=>nH (w.heap.size+1) E W) 15 ?_;refine zb.q 0 (Y9 (K4 ⟨w.heap.size,2,K3⟩)) Z ?_;refine zb.t 1 (X1 (K4 ⟨gk,ok,K3⟩) keys.length u) rfl Z (λW j=>by have e:=bB W j;go_simp) ?_;refine zb.q 2 (Y1 Q4 (k:Int)) Z ?_;refine zb.q 3 (X1 (K4 ⟨gk,ok,K3⟩) k u) Z ?_;refine zb.q 5 (Y9 (K4 ⟨w.heap.size,3,K3⟩)) Z ?_;refine zb.t 6 (X1 (K4 ⟨I,L,K3⟩) kids.length C) rfl Z (λW j=>by have e:=bM W j;go_simp) ?_;refine zb.q 7 (Y1 Q4 (k:Int)) Z ?_;refine zb.q 8 (Y1 Q4 (k1:Int)) Z ?_;refine zb.q 9 (X1 (K4 ⟨I,L,K3⟩) k1 C) Z ?_;simp only[Z8];refine zb.n 4 ?_;refine zb.oC 210 #[.tmp 60] #[66] #[X1 (K4 ⟨gk,ok,K3⟩) k u] ((cR _ Z).mono ?_) (zb.eo func210);rintro e w5 ⟨M,U,rfl,F,bD⟩;have aF:nH (w.heap.size+1) E w5:=Z.trans (bD.mono dB);have b9:=dM.pV bD;have F:=yR F (b5);refine⟨_,rfl,λ_=>aF,?_⟩;simp only[Z8];refine zb.n 10 ?_;refine zb.oC 211 #[.tmp 66] #[67] #[X1 (K4 ⟨I,L,K3⟩) k1 C] ((cM _ aF).mono ?_) (zb.eo func211);rintro e w6 ⟨P,cB,rfl,G,bE⟩;have bR:nH (w.heap.size+1) E w6:=aF.trans (bE.mono (by have:=aF.size;omega));have bL:=b9.pV bE;have c7:w.heap.size+1+1+1+1<w5.heap.size:=zO b5 bD.size;have F:=qn F bE;have G:=yR G c7;refine⟨_,rfl,λ_=>bR,?_⟩;simp only[Z8];refine zb.n 11 ?_;refine zb.opS rfl rfl (vu (cs':=#[X3 false,X1 none 0 0,X1 none 0 0,X1 none 0 0]) 69 (.tmp 2) (.const (Q0 #[X3 false,X1 none 0 0,X1 none 0 0,X1 none 0 0])) rfl (w.heap.size+1) rfl rfl zm bL.a J0 J0 (JC)) ⟨λ_=>(bL.oS #[X3 false,X1 none 0 0,X1 none 0 0,X1 none 0 0]).h,?_⟩;have h1:=bL.oS #[X3 false,X1 none 0 0,X1 none 0 0,X1 none 0 0];obtain⟨V1,aN⟩:∃V,gM w6 (w.heap.size+1) #[X3 false,X1 none 0 0,X1 none 0 0,X1 none 0 0]=V:=⟨_,rfl⟩;have o1:∀r,w.heap.size+1+1+1+1<r->V1.heap[r]?=w6.heap[r]?:=λr q=>by rw[<-aN];exact ng _ _ r _ K5
 rw[aN] at h1;rw[aN];clear aN;simp only[zD,zC,zB,nJ];refine zb.n 12 ?_;refine zb.opV (Y9 (K4 ⟨w.heap.size+1,2,K3⟩)) rfl rfl K8 ⟨λ_=>h1.h,?_⟩;simp only[Z8];have cF:=h1.a.cell 2;have dQ:=h1.a.free 2;simp only[qP,qY,qZ] at cF;refine zb.n 13 ?_;refine zb.opS (w':=gT V1 ⟨w.heap.size+1,2,K3⟩ (X1 M k U)) rfl rfl K8 ⟨(λ_=>(h1.oJ 2 (X1 M k U)).h),?_⟩;have h2:=h1.oJ 2 (X1 M k U);obtain⟨V2,aP⟩:∃V,gT V1 ⟨w.heap.size+1,2,K3⟩ (X1 M k U)=V:=⟨_,rfl⟩;have o2:∀r,w.heap.size+1+1+1+1<r->V2.heap[r]?=w6.heap[r]?:=λr q=>by rw[<-aP];exact(nU _ _ _ r (by show r≠w.heap.size+1;omega)).trans (o1 r q)
 rw[aP] at h2;rw[aP]
 try simp only[zA,zF,zE] at h2
 clear aP cF dQ;simp only[zD,zC,zB,nJ];refine zb.n 14 ?_;refine zb.opV (Y9 (K4 ⟨w.heap.size+1,3,K3⟩)) rfl rfl K8 ⟨λ_=>h2.h,?_⟩;simp only[Z8];have cG:=h2.a.cell 3;have d4:=h2.a.free 3;simp only[qP,qY,qZ] at cG;refine zb.n 15 ?_;refine zb.opS (w':=gT V2 ⟨w.heap.size+1,3,K3⟩ (X1 P k1 cB)) rfl rfl K8 ⟨(λh=>absurd rfl h),?_⟩;have h3:=h2.oJ 3 (X1 P k1 cB);obtain⟨V3,aQ⟩:∃V,gT V2 ⟨w.heap.size+1,3,K3⟩ (X1 P k1 cB)=V:=⟨_,rfl⟩;have o3:∀r,w.heap.size+1+1+1+1<r->V3.heap[r]?=w6.heap[r]?:=λr q=>by rw[<-aQ];exact(nU _ _ _ r (by show r≠w.heap.size+1;omega)).trans (o2 r q)
 rw[aQ] at h3;rw[aQ]
 try simp only[zA,zF,zE] at h3
 clear aQ cG d4;simp only[zD,zC,zB,nJ];have F:=qp (w':=V3) F λr q=>o3 r (zj F r q)
 have G:=qp (w':=V3) G λr q=>o3 r (zj G r q)
 refine zb.dn ?_;refine el ?_
 go_wp2_with fail
 have K:=h3.drew;have c8:w.heap.size+1+1+1+1<V3.drew.heap.size:=K.e.lt;clear aF bR b9 h3 o3;refine wp_region_noPanic ?_;refine zb.st (λW=>nH (w.heap.size+1) E W) 16 ?_;refine zb.q 0 (Y9 (K4 ⟨w.heap.size,2,K3⟩)) K.h ?_;refine zb.t 1 (X1 (K4 ⟨gk,ok,K3⟩) keys.length u) rfl K.h (λW j=>by have e:=bB W j;go_simp) ?_;refine zb.q 2 (Y1 Q4 (k:Int)) K.h ?_;refine zb.q 3 (Y1 Q4 (k1:Int)) K.h ?_;refine zb.q 4 (X1 (K4 ⟨gk,ok+k1,K3⟩) (keys.length-k1) (u-k1)) K.h ?_;refine zb.q 6 (Y9 (K4 ⟨w.heap.size,3,K3⟩)) K.h ?_;refine zb.t 7 (X1 (K4 ⟨I,L,K3⟩) kids.length C) rfl K.h (λW j=>by have e:=bM W j;go_simp) ?_;refine zb.q 8 (Y1 Q4 (k:Int)) K.h ?_;refine zb.q 9 (Y1 Q4 (k1:Int)) K.h ?_;refine zb.q 10 (X1 (K4 ⟨I,L+k1,K3⟩) (kids.length-k1) (C-k1)) K.h ?_;simp only[Z8];refine zb.n 5 ?_;refine zb.oC 210 #[.tmp 74] #[66] #[X1 (K4 ⟨gk,ok+k1,K3⟩) (keys.length-k1) (u-k1)] ((cS _ K.h).mono ?_) (zb.eo func210);rintro e w7 ⟨N,X,rfl,O,bF⟩;have a8:=K.pV bF;have F:=qn (w:=V3.drew) F bF;have G:=qn (w:=V3.drew) G bF;have O:=yR O c8;have c9:w.heap.size+1+1+1+1<w7.heap.size:=a8.e.lt;refine⟨_,rfl,λ_=>a8.h,?_⟩;simp only[Z8];refine zb.n 11 ?_;refine zb.oC 211 #[.tmp 80] #[67] #[X1 (K4 ⟨I,L+k1,K3⟩) (kids.length-k1) (C-k1)] ((cN _ a8.h).mono ?_) (zb.eo func211);rintro e w8 ⟨Q,cD,rfl,aB,aM⟩;have a9:=a8.pV aM;have F:=qn F aM;have G:=qn G aM;have O:=qn O aM;have aB:=yR aB c9;refine⟨_,rfl,λ_=>a9.h,?_⟩;simp only[Z8];refine zb.n 12 ?_;refine zb.opS rfl rfl (vu (cs':=#[X3 false,X1 none 0 0,X1 none 0 0,X1 none 0 0]) 69 (.tmp 3) (.const (Q0 #[X3 false,X1 none 0 0,X1 none 0 0,X1 none 0 0])) rfl (w.heap.size+1+1) rfl rfl zm a9.b J0 J0 (JC)) ⟨λ_=>(a9.oR #[X3 false,X1 none 0 0,X1 none 0 0,X1 none 0 0]).h,?_⟩;have h4:=a9.oR #[X3 false,X1 none 0 0,X1 none 0 0,X1 none 0 0];obtain⟨V4,aR⟩:∃V,gM w8 (w.heap.size+1+1) #[X3 false,X1 none 0 0,X1 none 0 0,X1 none 0 0]=V:=⟨_,rfl⟩;have o4:∀r,w.heap.size+1+1+1+1<r->V4.heap[r]?=w8.heap[r]?:=λr q=>by rw[<-aR];exact ng _ _ r _ K5
 rw[aR] at h4;rw[aR];clear aR;simp only[zD,zC,zB,nJ];refine zb.n 13 ?_;refine zb.opV (Y9 (K4 ⟨w.heap.size+1+1,2,K3⟩)) rfl rfl K8 ⟨λ_=>h4.h,?_⟩;simp only[Z8];have cH:=h4.b.cell 2;have d5:=h4.b.free 2;simp only[qP,qY,qZ] at cH;refine zb.n 14 ?_;refine zb.opS (w':=gT V4 ⟨w.heap.size+1+1,2,K3⟩ (X1 N (keys.length-k1) X)) rfl rfl K8 ⟨(λ_=>(h4.oK 2 (X1 N (keys.length-k1) X)).h),?_⟩;have h5:=h4.oK 2 (X1 N (keys.length-k1) X);obtain⟨V5,aS⟩:∃V,gT V4 ⟨w.heap.size+1+1,2,K3⟩ (X1 N (keys.length-k1) X)=V:=⟨_,rfl⟩;have o5:∀r,w.heap.size+1+1+1+1<r->V5.heap[r]?=w8.heap[r]?:=λr q=>by rw[<-aS];exact(nU _ _ _ r (by show r≠w.heap.size+1+1;omega)).trans (o4 r q)
 rw[aS] at h5;rw[aS]
 try simp only[zA,zF,zE] at h5
 clear aS cH d5;simp only[zD,zC,zB,nJ];refine zb.n 15 ?_;refine zb.opV (Y9 (K4 ⟨w.heap.size+1+1,3,K3⟩)) rfl rfl K8 ⟨λ_=>h5.h,?_⟩;simp only[Z8];have cI:=h5.b.cell 3;have d6:=h5.b.free 3;simp only[qP,qY,qZ] at cI;refine zb.n 16 ?_;refine zb.opS (w':=gT V5 ⟨w.heap.size+1+1,3,K3⟩ (X1 Q (kids.length-k1) cD)) rfl rfl K8 ⟨(λh=>absurd rfl h),?_⟩;have h6:=h5.oK 3 (X1 Q (kids.length-k1) cD);obtain⟨V6,aT⟩:∃V,gT V5 ⟨w.heap.size+1+1,3,K3⟩ (X1 Q (kids.length-k1) cD)=V:=⟨_,rfl⟩;have o6:∀r,w.heap.size+1+1+1+1<r->V6.heap[r]?=w8.heap[r]?:=λr q=>by rw[<-aT];exact(nU _ _ _ r (by show r≠w.heap.size+1+1;omega)).trans (o5 r q)
 rw[aT] at h6;rw[aT]
 try simp only[zA,zF,zE] at h6
 clear aT cI d6;simp only[zD,zC,zB,nJ];have F:=qp (w':=V6) F λr q=>o6 r (zj F r q)
 have G:=qp (w':=V6) G λr q=>o6 r (zj G r q)
 have O:=qp (w':=V6) O λr q=>o6 r (zj O r q)
 have aB:=qp (w':=V6) aB λr q=>o6 r (zj aB r q)
 refine zb.dn ?_;refine el ?_
 go_wp2_with fail
 have aA:=h6.drew;clear h6 o6;refine wp_region_noPanic ?_;refine zb.st (λW=>nH (w.heap.size+1) E W/\za W (w.heap.size+1) 69 #[X3 false,X1 none 0 0,X1 M k U,X1 P k1 cB]/\za W (w.heap.size+1+1) 69 #[X3 false,X1 none 0 0,X1 N (keys.length-k1) X,X1 Q (kids.length-k1) cD]) 10 ?_;refine zb.t 0 (Q0 #[X3 false,X1 none 0 0,X1 M k U,X1 P k1 cB]) rfl aA.sS (λW j=>by exact Qb zm j.2.1 rfl rfl rfl) ?_;simp only[zD,zB,nJ,zA,zF,zE];refine zb.t 1 (Q0 #[X3 false,X1 none 0 0,X1 N (keys.length-k1) X,X1 Q (kids.length-k1) cD]) rfl aA.sS (λW j=>by exact Qb zm j.2.2 rfl rfl rfl) ?_;refine zb.q 2 (Y9 (K4 ⟨w.heap.size,2,K3⟩)) aA.sS ?_;refine zb.t 3 (X1 (K4 ⟨gk,ok,K3⟩) keys.length u) rfl aA.sS (λW j=>by have e:=bB W j.1;go_simp) ?_;refine zb.q 4 (Y1 Q4 (k:Int)) aA.sS ?_;refine zb.q 5 (Y9 (K4 ⟨gk,ok+k,K3⟩)) aA.sS ?_;refine zb.t 6 (X9 key) rfl aA.sS (λW j=>by have e:=cO W j.1;go_simp) ?_;simp only[Z8];refine zb.n 7 ?_;refine zb.opS rfl rfl (vu (cs':=#[X3 false,X1 none 0 0,X1 M k U,X1 P k1 cB]) 69 (.tmp 2) (.tmp 84) rfl (w.heap.size+1) rfl rfl zm aA.a J0 J0 (PW rfl rfl rfl rfl)) ⟨λ_=>(aA.oS #[X3 false,X1 none 0 0,X1 M k U,X1 P k1 cB]).sS,?_⟩;have h7:=aA.oS #[X3 false,X1 none 0 0,X1 M k U,X1 P k1 cB];obtain⟨V7,aU⟩:∃V,gM V6.drew (w.heap.size+1) #[X3 false,X1 none 0 0,X1 M k U,X1 P k1 cB]=V:=⟨_,rfl⟩;have o7:∀r,w.heap.size+1+1+1+1<r->V7.heap[r]?=V6.drew.heap[r]?:=λr q=>by rw[<-aU];exact ng _ _ r _ K5
 rw[aU] at h7;rw[aU];clear aU;simp only[zD,zC,zB,nJ];refine zb.n 8 ?_;refine zb.opS rfl rfl (vu (cs':=#[X3 false,X1 none 0 0,X1 N (keys.length-k1) X,X1 Q (kids.length-k1) cD]) 69 (.tmp 3) (.tmp 85) rfl (w.heap.size+1+1) rfl rfl zm h7.b J0 J0 (PW rfl rfl rfl rfl)) ⟨λ_=>(h7.oR #[X3 false,X1 none 0 0,X1 N (keys.length-k1) X,X1 Q (kids.length-k1) cD]).sS,?_⟩;have h8:=h7.oR #[X3 false,X1 none 0 0,X1 N (keys.length-k1) X,X1 Q (kids.length-k1) cD];obtain⟨V8,aV⟩:∃V,gM V7 (w.heap.size+1+1) #[X3 false,X1 none 0 0,X1 N (keys.length-k1) X,X1 Q (kids.length-k1) cD]=V:=⟨_,rfl⟩;have o8:∀r,w.heap.size+1+1+1+1<r->V8.heap[r]?=V6.drew.heap[r]?:=λr q=>by rw[<-aV];exact(ng _ _ r _ K5).trans (o7 r q)
 rw[aV] at h8;rw[aV];clear aV;simp only[zD,zC,zB,nJ];have cJ:=h8.s.cell 0;have d7:=h8.s.free 0;simp only[qP,qY] at cJ;refine zb.n 9 ?_;refine zb.opS (w':=gT V8 ⟨w.heap.size+1+1+1,0,K3⟩ (X9 key)) rfl rfl K8 ⟨(λ_=>(h8.dF (X9 key)).sS),?_⟩;have h9:=h8.dF (X9 key);obtain⟨V9,aW⟩:∃V,gT V8 ⟨w.heap.size+1+1+1,0,K3⟩ (X9 key)=V:=⟨_,rfl⟩;have o9:∀r,w.heap.size+1+1+1+1<r->V9.heap[r]?=V6.drew.heap[r]?:=λr q=>by rw[<-aW];exact(nU _ _ _ r (by show r≠w.heap.size+1+1+1;omega)).trans (o8 r q)
 rw[aW] at h9;rw[aW]
 try simp only[qP,qY,qZ,zA,zF,zE] at h9
 clear aW cJ d7;simp only[zD,zC,zB,nJ];have cE:=h9.e.cell 0;have dP:=h9.e.free 0;simp only[qP,qY] at cE;refine zb.n 10 ?_;refine zb.opS (w':=gT V9 ⟨w.heap.size+1+1+1+1,0,K3⟩ (Y1 Q4 0)) rfl rfl K8 ⟨(λh=>absurd rfl h),?_⟩;have aC:=h9.dh (Y1 Q4 0);obtain⟨aD,aO⟩:∃V,gT V9 ⟨w.heap.size+1+1+1+1,0,K3⟩ (Y1 Q4 0)=V:=⟨_,rfl⟩;have bA:∀r,w.heap.size+1+1+1+1<r->aD.heap[r]?=V6.drew.heap[r]?:=λr q=>by rw[<-aO];exact(nU _ _ _ r (by show r≠w.heap.size+1+1+1+1;omega)).trans (o9 r q)
 rw[aO] at aC;rw[aO]
 try simp only[qP,qY,qZ,zA,zF,zE] at aC
 clear aO cE dP;simp only[zD,zC,zB,nJ];have F:=qp (w':=aD) F λr q=>bA r (zj F r q)
 have G:=qp (w':=aD) G λr q=>bA r (zj G r q)
 have O:=qp (w':=aD) O λr q=>bA r (zj O r q)
 have aB:=qp (w':=aD) aB λr q=>bA r (zj aB r q)
 refine zb.dn ?_;refine el ?_;go_wp2;refine leaves_cons (f:=149) (args:=#[Y9 (w.heap.size+1+1+1+1:Nat),.func (.func 207) #[] #[Y9 (w.heap.size+1:Nat),Y9 (w.heap.size+1+1:Nat),Y9 (w.heap.size+1+1+1:Nat)]]) K9 (by simp[go_sem]) ?_;refine(QL _ _ _).mono ?_;rintro e u' wz ⟨rfl,rfl,rfl⟩;obtain⟨a0,a1,a2,a3⟩:=wM aC.a;obtain⟨d0,d1,d2,d3⟩:=wM aC.b;have q3:=aC.s.boxed;have q4:=aC.e.boxed;have cU:nH w.heap.size w wz:=aI.trans (aC.h.mono (lY _));have n5:=λg (o:Nat) (e:M=some ⟨g,o,K3⟩)=>(by have:=zj F g (by rw[e];rfl);omega:w.heap.size<=g)
 have n6:=λg (o:Nat) (e:P=some ⟨g,o,K3⟩)=>(by have:=zj G g (by rw[e];rfl);omega:w.heap.size<=g)
 have n7:=λg (o:Nat) (e:N=some ⟨g,o,K3⟩)=>(by have:=zj O g (by rw[e];rfl);omega:w.heap.size<=g)
 have n8:=λg (o:Nat) (e:Q=some ⟨g,o,K3⟩)=>(by have:=zj aB g (by rw[e];rfl);omega:w.heap.size<=g)
 obtain⟨Aa,ca,ea,cZ⟩:=qq F (jd _);obtain⟨Ab,cb,eb,c0⟩:=qq G (Yh _);obtain⟨Ad,cd,ed,c1⟩:=qq O (jd _);obtain⟨Ae,ce,ee,c4⟩:=qq aB (Yh _);injection ea with ea1 ea2 ea3
 injection eb with eb1 eb2 eb3
 injection ed with ed1 ed2 ed3
 injection ee with ee1 ee2 ee3
 subst ea1 ea3 eb1 eb3 ed1 ed3 ee1 ee3;simp[Leaves,settle,results,Tryz.results137,go_sem,a0,a1,a2,a3,d0,d1,d2,d3,q3,q4];refine cK.out k _ _ ⟨M,U,P,cB,N,X,Q,cD,bS,?_,?_,?_,?_,?_,cU,n5,n6,n7,n8⟩
 .rw[<-aH.out,a4,a6,a5,a7,cP.out]
 .rw[a4];exact cZ
 .rw[<-aH.out,a5];exact c0
 .rw[<-aH.out,a6];exact c1
 .rw[<-aH.out,a7];exact c4
theorem Et (w:World)(x:ym)(a:Y5)(g:Nat)(f:Y5)(j:Nat)(c:Y5)(i:Nat)(h:XX w w.heap.size x a g f j c i)(hl:x.cells.length<=1000)(u:x.keys.length<=1000)(A:x.kids.length<=1001)(s:yh x)(B:(qg x).length<=512):nK Y3 84 #[Q0 (zx x a g f j c i)] w λe w'=>e=Y0 (X3 true)/\nH w.heap.size w w':=by
 have b0:=za.new w 69 (zx x a g f j c i);have hB:nH w.heap.size w (w.alloc (Q9 (zx x a g f j c i) 69)):=(nF _ w).alloc (zG _) _;have k:=Pq _ x a g f j c i (h.grow hB) hl u A s;have C:((qg x).length:Int)<=512:=K5
 generalize qg x=lb at *;unfold zx at *
 go_enter func84,ntmps84
 go_wp2_with (first
  |(refine yp zm b0 ?_)
  |(go_at_call 136;refine k.mono ?_;rintro e E ⟨rfl,q⟩))
 go_ret;exact⟨rfl,hB.trans (q.mono hB.size)⟩
section
variable {S T:nS}{by_:Nat}{z:Value}{ρ:nO->Value}{w:World}{o:Oper}{x y:nO}
theorem xQ {g n c i:Nat}(a:ZQ S T 1 by_ z)(e:o.op=.slice S x (some y) none none)(h1:ρ x=X1 g n c)(h2:ρ y=Y1 Q4 (i:Int))(hi:i<=n)(hc:i<c):(execOp ρ o).run Y3 w=.ok (.value (X1 (K4 ⟨g,i,K3⟩) (n-i) (c-i))) w:=by
 have:=Qc (w:=w) a e h1 h2 hi hc
 rwa [yJ] at this
theorem jm (h:ZQ S T 1 by_ z)(w:World)(ty:nS)(g off c dCap:Nat)(a:nN)(e f m:Nat)(cur:Y7)(t:nS)(cs:Y8)
  (k:za w g t cur) (q:m=Nat.min e c) (hn:cs.length=m)
  (s:∀j v,cs[j]?=some v->w.cell? (a.add j)=some v) (i:off+cs.length<=cur.size) (h1:∀v∈cs,v.oneCell'=true) :
  (Builtin.copy_ #[S,S] ty #[X1 (K4 ⟨g,off,K3⟩) c dCap,X1 (some a) e f]).run Y3 w =
   .ok (goInt (m:Int)) (w.setRow g (cur.toList.take off++cs++cur.toList.drop (off+cs.length)).toArray) :=
 XM h w ty g off c dCap a e f m cur t cs k q (by rw[hn,yJ]) s i h1
theorem UN (f:ZQ S T 1 by_ z)(w:World)(g n c k:Nat)(cur:Y7)(i:za w g T cur)(hn:n<=cur.size)(e:0<k)(hc:c<n+k)(j:n+k<=1000000)(h:by_<=1000):∃G a,(∀ty,(Builtin.append_ #[S,3] ty #[X1 g n c,Y1 Q4 (k:Int)]).run Y3 w=.ok (X1 w.heap.size (n+k) G) (w.drew.alloc (Q9 a T)))/\n+k<=G/\G<=maxLen/\a.size=G/\a.toList.take n=cur.toList.take n:=by
 have:=UM f w g n c k cur i (by rw[yJ];exact hn) e hc j h;simpa only[yJ] using this
end
theorem TC {L X Y C:Y8}{i n:Nat}(e:C.length=1)(f:X=L.take i)(g:Y=(L.take n).drop i)(hi:i<=n)(h:n+1<=L.length):let a:=L.take (i+1)++Y++L.drop (i+1+Y.length)
  let c:=a.take i++C++a.drop (i+C.length)
  c.take (n+1)=X++C++Y/\a.length=L.length/\c.length=L.length:=by
 have:=Ec (L:=L) (X:=X) (Y:=Y) (C:=C) (sz:=1) (i:=i) (n:=n) e (by rw[yJ];exact f) (by rw[yJ,yJ];exact g) hi K5;simpa only[yJ] using this
theorem Ef {L X Y C:Y8}{i n:Nat}(e:C.length=1)(f:L.take i=X)(h:X.length=i)(j:Y.length=n-i)(hi:i<=n)(g:n+1<=L.length):let a:=L.take i++C++L.drop (i+C.length)
  let c:=a.take (i+1)++Y++a.drop (i+1+Y.length)
  c.take (n+1)=X++C++Y/\a.length=L.length/\c.length=L.length:=by
 have:=Bf (L:=L) (X:=X) (Y:=Y) (C:=C) (sz:=1) (i:=i) (n:=n) e (by rw[yJ];exact f) K5 K5 hi K5;simpa only[yJ] using this
end
section
open Go Go.RowKit xq Go.Shelf
attribute [local go_sem] Oper.semAt_some
theorem pB:ZQ 142 129 1 24 (X1 none 0 0):=⟨underlying142,by kernel_rfl,by kernel_rfl,by decide⟩
theorem Cj (g o:Nat):(⟨g,o,none⟩:nN).add 0=⟨g,o,none⟩:=by simp[Addr.add]
theorem CY (n:Nat)(A:Y5)(len a:Nat)(w:World):mQ nv n Y3 81 #[X1 A len a,Y1 Q4 508] w λe w'=>e=Y0 (.func (.func 132) #[] #[Y9 w.heap.size,Y9 (w.heap.size+1:Nat)])/\(w.alloc (Q9 #[X1 A len a] 129)).alloc (Q9 #[Y1 Q4 508] 3)=w':=by
 refine gy func81 rfl trivial ?_ rfl;simp only[ntmps81,zR,zK,zY,yB,yC,qC,qD,qO,qG,zQ,zW]
 gi_wp2
 go_ret;exact⟨rfl,rfl⟩
def LB (xs:List Unit):Prop:=xs=[()]
theorem Pm (n:Nat)(aA:2<=n)(l j h g o c L:Nat)(Q:0<L)(V:L<=508)(X:L<=c)(Z:c<=9223372036854775807)(J s:List Unit->(Nat->Prop)->World->Prop)(C:sj J)(k:Nat->Prop)(hs:¬ k j)(hn:¬ k h)
  (K:∀f x U q,J f U q->f=[]->YieldAt nv (n-1) Y3 l #[X1 (K4 ⟨g,o,K3⟩) L L] q λe W' =>
   (e=Y0 (X3 true)/\∃a,vp q.heap.size U a/\J (f++[x]) a W'/\yd U q W')\/(e=Y0 (X3 false)/\∃a,s (f++[x]) a W'))
  (W:World) (P:W.cell? ⟨j,0,K3⟩=some (X1 (K4 ⟨g,o,K3⟩) L c)) (O:W.cell? ⟨h,0,K3⟩=K4 (Y1 Q4 508)) (B:J [] k W) :
  mQ nv n Y3 132 #[.func (.yield l) #[] #[],Y9 (K4 ⟨j,0,K3⟩),Y9 (K4 ⟨h,0,K3⟩)] W λe W'=>(∃v,e=Y0 v) /\
   ((∃xs a,LB xs/\J xs a W')\/(∃f a,LB f/\s f a W')):=by
 have h1:1<=n:=K5
 refine gy func132 rfl trivial ?_ rfl;simp only[ntmps132,zR,zK,zY,yB,yC,qC,qD,qO,qG,zQ,zW]
 gi_wp2
 gi_loopw [4] (λi wr=>(i=Y1 Q4 0/\wr=W)\/(i=Y1 Q4 508/\wr.cell? ⟨j,0,K3⟩=some (X1 (K4 ⟨g,o,K3⟩) L c)/\wr.cell? ⟨h,0,K3⟩=K4 (Y1 Q4 508)/\∃a,J [()] a wr))
  (λi _=>match i with | .int _ m=>(508-m).toNat|_=>0)
 case atStart=>exact .inl ⟨rfl,rfl⟩
 case round =>
  rcases hrel with⟨rfl,rfl⟩|⟨rfl,hc1,hc2,a,hJ1⟩
  .have hm:(if (L:Int)<508 then (L:Int) else 508)=(L:Int):=by split<;>omega
   have F:J [] k wr.drew:=C _ _ _ _ B (nF _ _).drew;obtain⟨fn,tmps,assign,body,hy,I⟩:=K [] () k wr.drew F rfl;have aC:IntKind.i64.wrap (L:Int)=(L:Int):=jy _
   gi_wp2
   gi_region
   gi_wp2
   refine I.mono ?_;rintro e u (⟨rfl,a,_,E,A⟩|⟨rfl,a,G⟩)
   .have N:u.cell? ⟨h,0,K3⟩=K4 (Y1 Q4 508):=A.cell (p:=⟨h,0,K3⟩) O hn;have M:u.cell? ⟨j,0,K3⟩=some (X1 (K4 ⟨g,o,K3⟩) L c):=A.cell (p:=⟨j,0,K3⟩) P hs
    gi_wp2
    go_roundw
    case rel=>exact .inr ⟨rfl,M,N,a,E⟩
    case measure=>decide
   .gi_wp2
    exact nT (mF rfl _ _ _) rfl ⟨⟨_,rfl⟩,.inr ⟨_,a,rfl,G⟩⟩
  .have aB:¬ (508:Int)<(L:Int):=K5
   gi_wp2
   go_end0;exact⟨⟨_,rfl⟩,.inl (by first|exact⟨_,a,rfl,hJ1⟩|exact⟨_,rfl,a,hJ1⟩)⟩
theorem Ft (n:Nat)(K:2<=n)(e a g o c L:Nat)(A:0<L)(B:L<=508)(C:L<=c)(F:c<=9223372036854775807)(w:World)(s:e<w.heap.size)(q:a<w.heap.size)
  (I:w.cell? e=some (X1 (K4 ⟨g,o,K3⟩) L c)) (G:w.cell? a=K4 (Y1 Q4 508)) :
  tB nv n Y3 132 #[Y9 e,Y9 a] (λ_:Unit=>#[X1 (K4 ⟨g,o,K3⟩) L L]) (λU=>¬ U e/\¬ U a) (λM _ _=>M=[]) LB LB w:=λl J i j W h f u _ E k =>
 Pm n K l e a g o c L A B C F J i u j f.1 f.2 E W ((h.cell (p:=⟨e,0,K3⟩) s).trans I) ((h.cell (p:=⟨a,0,K3⟩) q).trans G) k
def EU (w:World)(x:Value)(e:Ending)(w':World):Prop:=∃A c,e=Y0 (X1 A 1 c)/\yl w' w'.heap.size 1 A 1 c [x]/\nH w.heap.size w w'
structure sX (w:World)(x:Value)(s:List Unit)(U:Nat->Prop)(V:World):Prop where
 us:∀k,U k↔k=w.heap.size
 up:nH w.heap.size w V
 lt:w.heap.size<V.heap.size
 at_:(s=[]/\za V w.heap.size 142 #[X1 none 0 0])\/(s=[()]/\∃A c,za V w.heap.size 142 #[X1 A 1 c]/\V.ownsRow (w.heap.size+1) 129 1 (X1 A 1 c) 1 [x])
theorem SB (n:Nat)(hn:8<=n)(w:World)(i f g o c L:Nat)(hL:0<L)(aE:L<=508)(aF:L<=c)(aH:c<=9223372036854775807)(X:i<w.heap.size)(Q:f<w.heap.size)
  (aJ:w.cell? i=some (X1 (K4 ⟨g,o,K3⟩) L c)) (aI:w.cell? f=K4 (Y1 Q4 508)) :
  mQ nv n Y3 131 #[X1 none 0 0,.func (.func 132) #[] #[Y9 i,Y9 f]] w (EU w (X1 (K4 ⟨g,o,K3⟩) L L)):=by
 have h1:1<=n:=K5
 obtain⟨W1,Z,q,b1⟩:=Qp w 142 #[X1 none 0 0];have HS:=Ft (n-1) K5 i f g o c L hL aE aF aH W1 (zO X q.size) (zO Q q.size) ((q.cell (p:=⟨i,0,K3⟩) X).trans aJ) ((q.cell (p:=⟨f,0,K3⟩) Q).trans aI);have aM:=b1.lt;have aC:=nI Z.symm;clear Z;have G:(Value.slice (K4 ⟨g,o,K3⟩) L L).oneCell'=true:=rfl;refine callsIn_of_wp_marks func131 rfl trivial ?_ rfl;simp only[ntmps131,zR,zK,zY,yB,yC,qC,qD,qO,qG,zQ,zW]
 gi_wp2
 rw[aC.out];refine jF rfl h1 (gf:=132) (lb:=#[Y9 i,Y9 f]) rfl trivial (zb.eo func132)
  HS (nF _ _) (λ_=>rfl) (λk=>k=w.heap.size) ⟨by omega,by omega⟩
  (sX w (X1 (K4 ⟨g,o,K3⟩) L L)) (λ_ _ _ _=>False) ?st (λ_ _ _ _ _ _ h _ _=>h) (λs U V hs k hk=>by rw[(hs.us k).1 hk];exact hs.lt) ?ownR
  ⟨λk=>Iff.rfl,q,aM,.inl ⟨rfl,b1⟩⟩ ?act ?assign ?body ?done ?stop
 case st =>
  intro s U X0 Y row h B j;refine⟨h.us,h.up.trans (zo B (by have:=h.lt;omega) (λr e=>by have:=(j r e).1;omega)),zO h.lt B.size,?_⟩;rcases h.at_ with⟨e,a⟩|⟨e,A,c',a,own⟩
  .exact .inl ⟨e,a.kept B (λr e=>(j r e).2)⟩
  .exact .inr ⟨e,A,c',a.kept B (λr e=>(j r e).2),XS own B (λr e=>(j r e).2)⟩
 case ownR=>exact λaO x _ X0 Y row h _ _=>h
 case assign =>
  intro l1 x V K E
  gi_wp2
  exact E
 case body =>
  rintro l1 aO x U V h rfl;obtain⟨aB,M,aL,F⟩:=h;obtain a:za V w.heap.size 142 #[X1 none 0 0]:=by
   rcases F with⟨_,a⟩|⟨e,_⟩
   .exact a
   .cases e
  have c3:=a.boxed;have C:nH V.heap.size V (V.alloc (Q9 #[X1 (K4 ⟨g,o,K3⟩) L L] 129)):=(nF _ V).alloc (zG _) _;have aN:=World.ownsRow_nil (V.alloc (Q9 #[X1 (K4 ⟨g,o,K3⟩) L L] 129)) (w.heap.size+1) 129 1;have aG:w.heap.size+1<=(V.alloc (Q9 #[X1 (K4 ⟨g,o,K3⟩) L L] 129)).heap.size:=by have:=C.size;omega
  have ba:=a.below C a.lt;have aP:=Kb V 129 (X1 (K4 ⟨g,o,K3⟩) L L) G;have O:=nI aB;clear aB F
  gi_wp2_with (gi_at_builtin;refine MY rfl pB (.tmp 8) (.tmp 10) rfl (w.heap.size+1) (X1 none 0 0) 0 [] rfl aN _ _ 1 1 [X1 (K4 ⟨g,o,K3⟩) L L] rfl aP K5 (by unfold maxLen;omega) K5 aG ?_;intro v5 w5 N I;obtain⟨A5,k5,rfl,_⟩:=qq N (by intro u hu;rw[zQ,qL] at hu;subst hu;exact G);have b5:=ba.grown I (λe=>by cases e);have c5:=b5.boxed;have f5:=b5.free 0)
  have aD:nH w.heap.size (V.alloc (Q9 #[X1 (K4 ⟨g,o,K3⟩) L L] 129)) w5:=zo I K5 (λr e=>by cases e);have P:nH w.heap.size V w5:=(C.mono K5).trans aD;refine⟨U,vp.refl _ _,?_,⟨O.out,M.trans (P.setCell K9 _),by have:=P.size;simp;omega,.inr ⟨rfl,A5,k5,b5.set 0 _,?_⟩⟩⟩
  .refine(yd.grow U C).trans ((yd.grown U I (λr e=>by cases e)).trans (yd.setCell _ _ _ ((O.out _).2 rfl)))
  .exact qp N (λr j=>nU w5 ⟨w.heap.size,0,K3⟩ _ r (λe=>by have h7:=zj N r j;have h8:r=w.heap.size:=e;omega))
 case done =>
  rintro D xs U V hD hS ⟨_,M,aL,F⟩ E;obtain⟨A,c',a,own⟩:∃A c',za V w.heap.size 142 #[X1 A 1 c']/\V.ownsRow (w.heap.size+1) 129 1 (X1 A 1 c') 1 [X1 (K4 ⟨g,o,K3⟩) L L]:=by
   rcases F with⟨e,_⟩|⟨_,h⟩
   .rw[hS] at e;cases e
   .exact h
  have c3:=a.boxed
  gi_wp2
  refine⟨by simp,.inl ⟨_,_,rfl,run_takeDeferred E,?_⟩⟩;have aA:=grownBy_putObj' V D (.deferred none);have own2:=XS own aA (λr e=>⟨_,(by cases e;exact E),rfl⟩);obtain⟨A2,c2,e,aK⟩:=qq own2 (by intro u hu;rw[qL] at hu;subst hu;exact G);injection e with e1 e2 e3
  subst e1 e3;exact⟨_,results_tmp rfl _ _ _,A,c',rfl,aK,M.trans (zo aA K5 (λk e=>by cases e;omega))⟩
 case stop=>exact λ_ _ _ _ _ _ _ h _=>h.elim
theorem MQ (n:Nat)(hn:9<=n)(w:World)(f a g o c L:Nat)(k:0<L)(q:L<=508)(s:L<=c)(u:c<=9223372036854775807)(j:f<w.heap.size)(i:a<w.heap.size)
  (C:w.cell? f=some (X1 (K4 ⟨g,o,K3⟩) L c)) (B:w.cell? a=K4 (Y1 Q4 508)) :
  mQ nv n Y3 80 #[.func (.func 132) #[] #[Y9 f,Y9 a]] w (EU w (X1 (K4 ⟨g,o,K3⟩) L L)):=by
 have h1:1<=n:=K5
 have h:=SB (n-1) K5 w f a g o c L k q s u j i C B;unfold EU at *;refine gy func80 rfl trivial ?_ rfl;simp only[ntmps80,zR,zK,zY,yB,yC,qC,qD,qO,qG,zQ,zW]
 gi_wp2_with (first
  |(refine⟨trivial,?_⟩;gi_at_call 131;refine h.mono ?_;rintro e F ⟨A,c',rfl,E,hB⟩)
  |(refine⟨trivial,?_⟩;fail_if_success (refine callsIn_wide.2 ?_)))
 go_ret;exact⟨A,c',rfl,E,hB⟩
theorem EJ (n:Nat)(N:2<=n)(l k h j c:Nat)(X:Value)(G:X.oneCell'=true)(hc:1<=c)(J q:List Unit->(Nat->Prop)->World->Prop)(s:Nat->Prop)
  (E:∀f x U g,J f U g->f=[]->YieldAt nv (n-1) Y3 l #[Y1 Q4 0,X] g λe W' =>
   (e=Y0 (X3 true)/\∃a,vp g.heap.size U a/\J (f++[x]) a W'/\yd U g W')\/(e=Y0 (X3 false)/\∃a,q (f++[x]) a W'))
  (W:World) (K:W.cell? ⟨k,0,K3⟩=some (X1 (K4 ⟨h,j,K3⟩) 1 c)) (L:W.cell? ⟨h,j,K3⟩=some X) (u:J [] s W) :
  mQ nv n Y3 130 #[.func (.yield l) #[] #[],Y9 (K4 ⟨k,0,K3⟩)] W λe W'=>(∃v,e=Y0 v) /\
   ((∃xs a,LB xs/\J xs a W')\/(∃f a,LB f/\q f a W')):=by
 have h1:1<=n:=K5
 have I:=Cj h j;refine gy func130 rfl trivial ?_ rfl;simp only[ntmps130,zR,zK,zY,yB,yC,qC,qD,qO,qG,zQ,zW]
 gi_wp2
 gi_loopw [3] (λi wr=>(i=Y1 Q4 0/\wr=W)\/(i=Y1 Q4 (-1)/\∃a,J [()] a wr)) (λi _=>match i with | .int _ m=>(m+1).toNat|_=>0)
 case atStart=>exact .inl ⟨rfl,rfl⟩
 case round =>
  rcases hrel with⟨rfl,rfl⟩|⟨rfl,a,hJ1⟩
  .obtain⟨fn,tmps,assign,body,O,C⟩:=E [] () s wr u rfl
   gi_wp2
   refine C.mono ?_;rintro e F (⟨rfl,a,_,A,M⟩|⟨rfl,a,B⟩)
   .gi_wp2
    go_roundw
    case rel=>exact .inr ⟨rfl,a,A⟩
    case measure=>decide
   .gi_wp2
    exact nT (mF rfl _ _ _) rfl ⟨⟨_,rfl⟩,.inr ⟨_,a,rfl,B⟩⟩
  .gi_wp2
   go_end0;exact⟨⟨_,rfl⟩,.inl (by first|exact⟨_,a,rfl,hJ1⟩|exact⟨_,rfl,a,hJ1⟩)⟩
theorem Pt (n:Nat)(C:2<=n)(a e f c:Nat)(X:Value)(q:X.oneCell'=true)(hc:1<=c)(w:World)(k:a<w.heap.size)(B:e<w.heap.size)
  (u:w.cell? a=some (X1 (K4 ⟨e,f,K3⟩) 1 c)) (A:w.cell? ⟨e,f,K3⟩=some X) :
  tB nv n Y3 130 #[Y9 a] (λ_:Unit=>#[Y1 Q4 0,X]) (λ_=>True) (λE _ _=>E=[]) LB LB w:=λl J h i W g _ _ _ s j =>
 EJ n C l a e f c X q hc J h i s W ((g.cell (p:=⟨a,0,K3⟩) k).trans u) ((g.cell (p:=⟨e,f,K3⟩) B).trans A) j
theorem wQ (n:Nat)(A:Y5)(len a:Nat)(w:World):mQ nv n Y3 79 #[X1 A len a] w λe w'=>e=Y0 (.func (.func 130) #[] #[Y9 w.heap.size])/\w.alloc (Q9 #[X1 A len a] 142)=w':=by
 refine gy func79 rfl trivial ?_ rfl;simp only[ntmps79,zR,zK,zY,yB,yC,qC,qD,qO,qG,zQ,zW]
 gi_wp2
 go_ret;exact⟨rfl,rfl⟩
end
section
open Go xq Go.ChangeShapes Go.WideShapes Go.ChangeAt Go.RowKit
theorem PY {α : Type}{C : α -> Y8}{sz:Nat}(a:∀x,(C x).length=sz):∀(s:List α) (j:Nat) (v:Value),((s.map C).flatten)[j]?=some v->∃i q,∃hi:i<s.length,j=i*sz+q/\q<sz/\(C s[i])[q]?=some v
 | [],j,v,h=>by simp at h
 | x::s,j,v,h=>by
  have e:((x::s).map C).flatten=C x++(s.map C).flatten:=rfl;rw[e] at h
  by_cases c:j<(C x).length
  .rw[List.getElem?_append_left c] at h;exact⟨0,j,by simp,by omega,by rw[<-a x];exact c,by simpa using h⟩
  .rw[qU K5] at h;obtain⟨i,q,hi,f,hq,g⟩:=PY a s _ v h;rw[a] at f c;refine⟨i+1,q,by simpa using hi,?_,hq,by simpa using g⟩;rw[Nat.succ_mul];omega
section
variable {H:Type}{enc:nS×Value->H}{W:World}{r:Reach}{b0 b1:Nat}{held:Bool}{v:Value}{d:DataW H}{p:List MemPlace}
theorem uS {α : Type}[Inhabited α](C : α -> Y8){sz:Nat}(hz:0<sz)(u:∀x,(C x).length=sz)(h1:∀x,∀v∈C x,v.oneCell'=true){T E:nS}(O:Y3.underlying T=some (.slice E))(N:Y3.cellsOf E=sz)
  (U:∀(n:Nat) (cs:Y8) (x:DataW H×List MemPlace),cs.length=sz->DataW.trod enc Y3 W b1 (λ_=>true) held n E cs=some x->∃y : α,cs=C y)
  {n:Nat} {c:Value} {x:DataW H×List MemPlace} (h:DataW.trod enc Y3 W b1 (λ_=>true) held n T [c]=some x):∃A k,∃s:List α,c=X1 A s.length k/\yl W W.heap.size sz A s.length k ((s.map C).flatten):=by
 rcases Go.Deep.open_slice O h with⟨hcs,_⟩|⟨a,len,cap,m,n',D,Pl,hcs,G,hl,hm,hmm,_,hx⟩
 .simp at hcs;exact⟨none,0,[],hcs,yl.mt _ _ _⟩
 .simp at hcs;simp only[if_true] at hmm;subst hmm;rw[N] at hx
  obtain⟨B,hB⟩:=Go.Deep.choose_lt (α:=α) (p:=λi y=>∀j (f:j<(C y).length),W.cell? ((a.add (i*sz)).add j)=some (C y)[j]) (λi hi=>by
   obtain⟨cs',L,M⟩:=hx i hi;obtain⟨_,aA,Q⟩:=World.cells?_some L;obtain⟨y,rfl⟩:=U _ _ _ aA M
   exact⟨y,λj f=>(Q j K5).trans (zM f)⟩)
  refine⟨some a,m,(mi len).map B,by simpa using hcs,?_⟩;have g:((mi len).map B).length=len:=by simp
  refine⟨by rw[g];exact hl,by unfold maxLen at hm;omega,(λe=>by cases e),?_,?_,λK => ?_⟩
  .rw[List.length_flatten,List.map_map,g];have:(List.map (List.length ∘ C) ((mi len).map B))=zP len sz:=by rw[List.eq_replicate_iff];refine⟨by simp,λb G => ?_⟩;obtain⟨y,_,rfl⟩:=qR.1 G;exact u y
   rw[this,List.sum_replicate_nat]
  .intro v F;obtain⟨l,Z,F⟩:=List.mem_flatten.1 F;obtain⟨y,_,rfl⟩:=qR.1 Z;exact h1 y v F
  .rw[g] at K;obtain⟨b,off,aD⟩:=a;have I:=hB 0 K5 0 (by rw[u];exact hz);have aC:aD=none:=by simpa[Addr.add] using World.cell?_spot I
   subst aC;have P:b<W.heap.size:=by simpa[Addr.add] using MS I
   refine⟨b,off,rfl,P,λj v f => ?_⟩;obtain⟨i,q,hi,rfl,hq,e⟩:=PY u _ j v f;have X:=hi;rw[g] at X;have V:((mi len).map B)[i]=B i:=by simp
   rw[V] at e;obtain⟨aB,e⟩:=qM.1 e;have:=hB i K5 q aB;rw[Addr.add_mid,Addr.add_mid,e] at this;rw[<-Nat.add_assoc];exact this
instance:Inhabited xG:=⟨⟨nX,nX,0,0⟩⟩
end
end
end Go.Proofs.YtohmkffoojdahaaGreat
