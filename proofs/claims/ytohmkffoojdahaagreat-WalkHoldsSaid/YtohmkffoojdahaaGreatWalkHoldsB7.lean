/- Texts that the proof of WalkHolds leans on, part 7. -/
import Derived.Deep.Slices
import Derived.Deep.Grids
import Derived.Test.YtohmkffoojdahaaGreatWalkHoldsB6
open List renaming replicate->zP
open Nat renaming reduceAdd->yJ,reduceSub->yK
set_option linter.unusedVariables false
set_option linter.unusedSimpArgs false
set_option maxRecDepth 100000
set_option maxHeartbeats 8000000

open ByteArray renaming empty->oR
open Go renaming Calls->pr,Addr->px,Operand->py,TypeId->oD,CallsIn->dw
open Go.Act renaming put->pj
open Go.Fence renaming wide->oS
open Go.RowKit renaming Below->ph
open Go.World renaming setRow->oe,setCell->oh
open List renaming range->dv
open Go.Proofs.Tryz renaming prog->Y3
open Go.Proofs.Tryz
namespace Go.Proofs.YtohmkffoojdahaaGreat
section
open Go Go.RowKit vA
theorem Bx.sS {c w:World}{p:Nat}{a b:Y7}{s e:Value}(h:Bx c w p a b s e):ph (p+1) c w/\za w (p+1) 69 a/\za w (p+1+1) 69 b:=⟨h.h,h.a,h.b⟩
theorem QU {P:Program}{w:World}{ρ:py->Value}{o:Oper}{T t:oD}{k g:Nat}{cs:Y7}{x:py}(a:yx P T k)(c:za w g t cs)(e:cs.size=k)(f:o.op=.load T x)(h:ρ x=.pointer (some ⟨g,0,none⟩)):(execOp ρ o).run P w=.ok (.value (.agg cs)) w:=by
 have:=yX (ρ:=ρ) (o:=o) a c.range (by simpa using e) f h;simpa using this
theorem TW {v0 v1 c v3:Value}(e:v0.oneCell'=true)(h1:v1.oneCell'=true)(h2:c.oneCell'=true)(f:v3.oneCell'=true):∀v∈(#[v0,v1,c,v3]:Y7).toList,v.oneCell'=true:=by
 intro v a;simp at a;rcases a with rfl|rfl|rfl|rfl<;>assumption
theorem SB (w:World)(x:yo)(Ac:Y5)(cc:Nat)(Ak:Y5)(u:Nat)(Ai:Y5)(C:Nat)(h:XH w w.heap.size x Ac cc Ak u Ai C)(hl:x.cells.length<=1000)(bX:x.keys.length<=1000)(c6:x.kids.length<=1001)(hR:yj x)(hf:x.leaf=false)(hs:512<(qb x).length)(hn:3<=xM x):pr Y3 137 #[.agg (zu x Ac cc Ak u Ai C)] w (Yc w x):=by
 have HL:∀W,ph w.heap.size w W->pr Y3 151 #[.agg (zu x Ac cc Ak u Ai C)] W (yU W (qb x)):=λW j=>YS W x Ac cc Ak u Ai C (h.grow j) hl bX c6 hR
 have bN:∀W,ph w.heap.size w W->pr Y3 208 #[.agg (zu x Ac cc Ak u Ai C)] W (Ut W (qh x)):=λW j=>Jj W x Ac cc Ak u Ai C (h.grow j) (by omega) (by omega) (by omega) hR
 have bI:=Ql hR;have bU:(qh x).flatten.length<=1000000:=by
  have:=jd (qh x) 200 (Zt hR);have:(qh x).length<=1000:=by rw[bI];unfold xM;rw[hf];exact bX
  omega
 obtain⟨cV,c5,bV,cW⟩:=hR.inner hf;have bY:xj x=x.keys.length-2:=by unfold xj;rw[hf];rfl
 have bJ:xM x=x.keys.length:=by unfold xM;rw[hf];rfl
 have bZ:vQ x<=xM x:=by unfold vQ;rw[hf];exact hn
 have b6:∀k,(hk:k<x.keys.length)->yn x k=x.keys[k]:=λk hk=>by rw[Yy (by rw[Jh,bJ];exact hk)];unfold qi;simp only[hf,Bool.false_eq_true,if_false]
 have HG:∀(k:Nat) (e:Ending) (w':World),(∃(A:Y5) (c:Nat) (A':Y5) (c':Nat) (B:Y5) (d:Nat) (B':Y5) (d':Nat),kn (qh x) (xj x) k/\e=Y0 (.tuple #[.agg #[.bool false,.slice none 0 0,.slice A (x.keys.take k).length c,.slice A' (x.kids.take (k+1)).length c'],.agg #[.bool false,.slice none 0 0,.slice B (x.keys.drop (k+1)).length d,.slice B' (x.kids.drop (k+1)).length d'],.string (yn x k),.int .i64 0])/\yp w' w'.heap.size 1 A (x.keys.take k).length c (XJ (x.keys.take k))/\yp w' w'.heap.size 1 A' (x.kids.take (k+1)).length c' (Xr (x.kids.take (k+1)))/\yp w' w'.heap.size 1 B (x.keys.drop (k+1)).length d (XJ (x.keys.drop (k+1)))/\yp w' w'.heap.size 1 B' (x.kids.drop (k+1)).length d' (Xr (x.kids.drop (k+1)))/\ph w.heap.size w w'/\(∀g o,A=some ⟨g,o,none⟩->w.heap.size<=g)/\(∀g o,A'=some ⟨g,o,none⟩->w.heap.size<=g)/\(∀g o,B=some ⟨g,o,none⟩->w.heap.size<=g)/\(∀g o,B'=some ⟨g,o,none⟩->w.heap.size<=g))->Yc w x e w':=by
  rintro k e w' ⟨A,c,A',c',B,d,B',d',h1,rfl,h2,h3,h4,h5,h6,n1,n2,n3,n4⟩;refine⟨k,none,0,A,c,A',c',none,0,B,d,B',d',h1,bZ,?_,?_,?_,h6,(λg o e=>e.elim (λe=>nomatch e) (λe=>e.elim (n1 g o) (n2 g o))),(λg o e=>e.elim (λe=>nomatch e) (λe=>e.elim (n3 g o) (n4 g o)))⟩
  ·unfold xG yT zu;rw[hf];rfl
  ·unfold xG;rw[hf];exact⟨yp.mt _ _ _,h2,h3⟩
  ·unfold yT;rw[hf];exact⟨yp.mt _ _ _,h4,h5⟩
 have eF:(512:Int)<((qb x).length:Int):=by omega
 rw[bJ] at bI hn;rw[bY] at HG;generalize qb x=lb at *;generalize qh x=ls at *;generalize yn x=pt at *;generalize Yc w x=GO at *;have aG:=h.k;have aY:=h.i;clear hl hR bZ cW;obtain⟨b1,hx,aE⟩:=BZ w (zu x Ac cc Ak u Ai C);unfold zu at *;obtain⟨W1,aX⟩:=Z9 (Av w #[.bool x.leaf,.slice Ac x.cells.length cc,.slice Ak x.keys.length u,.slice Ai x.kids.length C]);rw[<-aX] at b1 hx aE;unfold Av at aX;have cT:=pk aX;clear aX;obtain⟨leaf,cells,keys,kids⟩:=x;simp only at *;subst hf cV;simp only[zY] at *;have eI:(3:Int)<=(ls.length:Int):=by omega
 have eK:IntKind.i64.wrap ((ls.length:Int)-2)=((keys.length-2:Nat):Int):=by rw[xd _];omega
 obtain⟨gk,ok,rfl,cX,d4⟩:=aG.rC (by omega);obtain⟨I,L,rfl,eC,dC⟩:=aY.rC (by omega);have eH:=aG.le;have eG:=aY.le;have bP:=λW base A c vs (hL:Zg W base (.slice A ls.length c) ls vs)=>Vf W base A c ls vs hL bU (by omega) (keys.length-2) (by omega)
 unfold Ko at bP;have eE:3<=keys.length:=by omega
 have aZ:kids.length=keys.length+1:=bV;have cQ:=pk b6;have cK:=pk HG;have cL:=pk aZ;clear bI bY bJ b6 HG hn bU bV aZ c5
 go_enter_defers func137,ntmps137
 go_wp2_with (first
  | (rw[<-cT.out];refine xA zj b1 ?_)
  | (go_at_call 151;refine(HL _ aE).mono ?_;rintro e w2 ⟨v,rfl,own,aJ⟩;obtain⟨A2,c2,rfl,cY⟩:=own.inB;have b7:=hx.rJ aJ;have b2:=b1.below aJ b1.lt;have bC:=aE.trans (aJ.mono aE.size))
  | (refine xA zj b2 ?_)
  | (go_at_call 208;refine(bN _ bC).mono ?_;rintro e w3 ⟨A3,c3,vs,rfl,bT,aK⟩;have b8:=b7.rJ aK;have b3:=b2.below aK b2.lt;have bQ:=bC.trans (aK.mono bC.size);have k0:w3.cell? ⟨w.heap.size,0,none⟩=some (.bool false):=(by rw[b3.cell];rfl))
  | (go_at_call 152;refine(yr _ _ _).mono ?_;rintro e w7 ⟨rfl,h7⟩;obtain⟨v7,rfl⟩:=h7.1 rfl)
  | (go_at_call 152;refine(yr _ _ _).mono ?_;rintro e w7 ⟨rfl,h7⟩;obtain rfl:=h7.2 (decide_eq_false (by omega)))
  | (go_at_call 209;refine(bP _ _ _ _ _ bT).mono ?_;rintro e E ⟨k,rfl,bS,aL⟩))
 have aZ:=cL.out;have eD:=bS.le;have hk:k<keys.length:=by omega
 obtain⟨k1,bW⟩:=Z9 (k+1);have eJ:IntKind.i64.wrap ((k:Int)+1)=(k1:Int):=by rw[xd _];omega
 have bK:=b8.rJ aL;have b4:=b3.below aL b3.lt;have aI:=bQ.trans (aL.mono bQ.size);have kk:E.cell? ⟨w.heap.size,2,none⟩=some (.slice (some ⟨gk,ok,none⟩) keys.length u):=by rw[b4.cell];rfl
 have ki:E.cell? ⟨w.heap.size,3,none⟩=some (.slice (some ⟨I,L,none⟩) kids.length C):=by rw[b4.cell];rfl
 have dB:w.heap.size<E.heap.size:=b4.lt;have dA:=bK.e.lt;have bB:∀W,ph (w.heap.size+1) E W->W.cell? ⟨w.heap.size,2,none⟩=some (.slice (some ⟨gk,ok,none⟩) keys.length u):=λW j=>(j.cell (p:=⟨w.heap.size,2,none⟩) (Nat.lt_succ_self _)).trans kk
 have bM:∀W,ph (w.heap.size+1) E W->W.cell? ⟨w.heap.size,3,none⟩=some (.slice (some ⟨I,L,none⟩) kids.length C):=λW j=>(j.cell (p:=⟨w.heap.size,3,none⟩) (Nat.lt_succ_self _)).trans ki
 have cO:∀W,ph (w.heap.size+1) E W->W.cell? ⟨gk,ok+k,none⟩=some (.string keys[k]):=λW j=>(j.cell (p:=⟨gk,ok+k,none⟩) (by show gk<_;omega)).trans ((aI.cell (p:=⟨gk,ok+k,none⟩) cX).trans (XP aG rfl k hk))
 have bH:∀W,ph (w.heap.size+1) E W->yp W W.heap.size 1 (some ⟨gk,ok,none⟩) keys.length u (XJ keys):=λW j=>(aG.below (aI.trans (j.mono (gI _)))).more (by have:=j.size;omega)
 have bG:∀W,ph (w.heap.size+1) E W->yp W W.heap.size 1 (some ⟨I,L,none⟩) kids.length C (Xr kids):=λW j=>(aY.below (aI.trans (j.mono (gI _)))).more (by have:=j.size;omega)
 have a4:(keys.take k).length=k:=by rw[zZ];omega
 have a6:(keys.drop k1).length=keys.length-k1:=qD;have a5:(kids.take k1).length=k1:=by rw[zZ];omega
 have a7:(kids.drop k1).length=kids.length-k1:=qD;have cR:∀W,ph (w.heap.size+1) E W->pr Y3 210 #[.slice (some ⟨gk,ok,none⟩) k u] W λe w'=>∃A c,e=Y0 (.slice A k c)/\w'.ownsRow W.heap.size 9 1 (.slice A k c) k (XJ (keys.take k))/\ph W.heap.size W w':=λW j=>by
  have hq:=(bH W j).take k u (by omega) (by omega) (zG _);rw[yL] at hq
  try rw[yL] at hq
  have:=kA W (some ⟨gk,ok,none⟩) u (keys.take k) (by rw[a4];unfold XJ at hq ⊢;rw[mB];exact hq) (by omega);unfold Uq at this;rw[a4] at this;exact this
 have cS:∀W,ph (w.heap.size+1) E W->pr Y3 210 #[.slice (some ⟨gk,ok+k1,none⟩) (keys.length-k1) (u-k1)] W λe w'=>∃A c,e=Y0 (.slice A (keys.length-k1) c)/\w'.ownsRow W.heap.size 9 1 (.slice A (keys.length-k1) c) (keys.length-k1) (XJ (keys.drop k1))/\ph W.heap.size W w':=λW j=>by
  have hq:=(bH W j).drop k1 (by omega);rw[yL] at hq
  try rw[yL] at hq
  have:=kA W (some ⟨gk,ok+k1,none⟩) (u-k1) (keys.drop k1) (by rw[a6];unfold XJ at hq ⊢;rw[mA];exact hq) (by omega);unfold Uq at this;rw[a6] at this;exact this
 have cM:∀W,ph (w.heap.size+1) E W->pr Y3 211 #[.slice (some ⟨I,L,none⟩) k1 C] W λe w'=>∃A c,e=Y0 (.slice A k1 c)/\w'.ownsRow W.heap.size 3 1 (.slice A k1 c) k1 (Xr (kids.take k1))/\ph W.heap.size W w':=λW j=>by
  have hq:=(bG W j).take k1 C (by omega) (by omega) (zG _);rw[yL] at hq
  try rw[yL] at hq
  have:=XY W (some ⟨I,L,none⟩) C (kids.take k1) (by rw[a5];unfold Xr at hq ⊢;rw[mB];exact hq) (by omega);unfold Ur at this;rw[a5] at this;exact this
 have cN:∀W,ph (w.heap.size+1) E W->pr Y3 211 #[.slice (some ⟨I,L+k1,none⟩) (kids.length-k1) (C-k1)] W λe w'=>∃A c,e=Y0 (.slice A (kids.length-k1) c)/\w'.ownsRow W.heap.size 3 1 (.slice A (kids.length-k1) c) (kids.length-k1) (Xr (kids.drop k1))/\ph W.heap.size W w':=λW j=>by
  have hq:=(bG W j).drop k1 (by omega);rw[yL] at hq
  try rw[yL] at hq
  have:=XY W (some ⟨I,L+k1,none⟩) (C-k1) (kids.drop k1) (by rw[a7];unfold Xr at hq ⊢;rw[mA];exact hq) (by omega);unfold Ur at this;rw[a7] at this;exact this
 have bO:=cQ.out k hk;generalize keys[k]=key at *;have cP:=pk bO;have i1:(k:Int)<(keys.length:Int):=by omega
 have i3:(k:Int)<=(u:Int):=by omega
 have i4:(0:Int)<=(k:Int):=by omega
 have i6:(0:Int)<=(k1:Int):=by omega
 have i7:(k1:Int)<=(keys.length:Int):=by omega
 have i8:(k1:Int)<=(kids.length:Int):=by omega
 have i9:(k1:Int)<=(C:Int):=by omega
 have eL:(k1:Int)<=(u:Int):=by omega
 have eM:¬ u=k1:=by omega
 have eN:¬ C=k1:=by omega
 have aH:=pk bW;have Z:ph (w.heap.size+1) E E.drew:=(pf _ E).drew;have d5:=bK.base.drew;have b5:w.heap.size+1+1+1+1<E.drew.heap.size:=dA;clear HL bN aE aJ aK aL b1 b2 b3 b4 kk ki aG aY d4 dC bO hx b7 b8 bK bT own cY bW aZ bH bG;refine wp_region_noPanic ?_;refine zb.st (λW=>ph (w.heap.size+1) E W) 15 ?_;refine zb.q 0 (.pointer (some ⟨w.heap.size,2,none⟩)) Z ?_;refine zb.t 1 (.slice (some ⟨gk,ok,none⟩) keys.length u) rfl Z (λW j=>by have e:=bB W j;go_simp) ?_;refine zb.q 2 (.int .i64 (k:Int)) Z ?_;refine zb.q 3 (.slice (some ⟨gk,ok,none⟩) k u) Z ?_;refine zb.q 5 (.pointer (some ⟨w.heap.size,3,none⟩)) Z ?_;refine zb.t 6 (.slice (some ⟨I,L,none⟩) kids.length C) rfl Z (λW j=>by have e:=bM W j;go_simp) ?_;refine zb.q 7 (.int .i64 (k:Int)) Z ?_;refine zb.q 8 (.int .i64 (k1:Int)) Z ?_;refine zb.q 9 (.slice (some ⟨I,L,none⟩) k1 C) Z ?_;simp only[Z8];refine zb.n 4 ?_;refine zb.oC 210 #[.tmp 60] #[66] #[.slice (some ⟨gk,ok,none⟩) k u] ((cR _ Z).mono ?_) (zb.eo func210);rintro e w5 ⟨M,U,rfl,F,bD⟩;have aF:ph (w.heap.size+1) E w5:=Z.trans (bD.mono dB);have b9:=d5.rJ bD;have F:=yS F (b5);refine⟨_,rfl,λ_=>aF,?_⟩;simp only[Z8];refine zb.n 10 ?_;refine zb.oC 211 #[.tmp 66] #[67] #[.slice (some ⟨I,L,none⟩) k1 C] ((cM _ aF).mono ?_) (zb.eo func211);rintro e w6 ⟨P,cB,rfl,G,bE⟩;have bR:ph (w.heap.size+1) E w6:=aF.trans (bE.mono (by have:=aF.size;omega));have bL:=b9.rJ bE;have c7:w.heap.size+1+1+1+1<w5.heap.size:=zO b5 bD.size;have F:=qw F bE;have G:=yS G c7;refine⟨_,rfl,λ_=>bR,?_⟩;simp only[Z8];refine zb.n 11 ?_;refine zb.opS rfl rfl (vm (cs':=#[.bool false,.slice none 0 0,.slice none 0 0,.slice none 0 0]) 69 (.tmp 2) (.const (.agg #[.bool false,.slice none 0 0,.slice none 0 0,.slice none 0 0])) rfl (w.heap.size+1) rfl rfl zj bL.a (by rfl) (by rfl) (Zo)) ⟨λ_=>(bL.sB #[.bool false,.slice none 0 0,.slice none 0 0,.slice none 0 0]).h,?_⟩;have h1:=bL.sB #[.bool false,.slice none 0 0,.slice none 0 0,.slice none 0 0];obtain⟨V1,aN⟩:∃V,oe w6 (w.heap.size+1) #[.bool false,.slice none 0 0,.slice none 0 0,.slice none 0 0]=V:=⟨_,rfl⟩;have o1:∀r,w.heap.size+1+1+1+1<r->V1.heap[r]?=w6.heap[r]?:=λr q=>by rw[<-aN];exact oL _ _ r _ (by omega)
 rw[aN] at h1;rw[aN];clear aN;simp only[zD,zC,zB,pj];refine zb.n 12 ?_;refine zb.opV (.pointer (some ⟨w.heap.size+1,2,none⟩)) rfl rfl (by go_simp) ⟨λ_=>h1.h,?_⟩;simp only[Z8];have cF:=h1.a.cell 2;have d7:=h1.a.free 2;simp only[qN,qX,qY] at cF;refine zb.n 13 ?_;refine zb.opS (w':=oh V1 ⟨w.heap.size+1,2,none⟩ (.slice M k U)) rfl rfl (by go_simp) ⟨(λ_=>(h1.rq 2 (.slice M k U)).h),?_⟩;have h2:=h1.rq 2 (.slice M k U);obtain⟨V2,aP⟩:∃V,oh V1 ⟨w.heap.size+1,2,none⟩ (.slice M k U)=V:=⟨_,rfl⟩;have o2:∀r,w.heap.size+1+1+1+1<r->V2.heap[r]?=w6.heap[r]?:=λr q=>by rw[<-aP];exact(oI _ _ _ r (by show r≠w.heap.size+1;omega)).trans (o1 r q)
 rw[aP] at h2;rw[aP]
 try simp only[zA,zF,zE] at h2
 clear aP cF d7;simp only[zD,zC,zB,pj];refine zb.n 14 ?_;refine zb.opV (.pointer (some ⟨w.heap.size+1,3,none⟩)) rfl rfl (by go_simp) ⟨λ_=>h2.h,?_⟩;simp only[Z8];have cG:=h2.a.cell 3;have d8:=h2.a.free 3;simp only[qN,qX,qY] at cG;refine zb.n 15 ?_;refine zb.opS (w':=oh V2 ⟨w.heap.size+1,3,none⟩ (.slice P k1 cB)) rfl rfl (by go_simp) ⟨(λh=>absurd rfl h),?_⟩;have h3:=h2.rq 3 (.slice P k1 cB);obtain⟨V3,aQ⟩:∃V,oh V2 ⟨w.heap.size+1,3,none⟩ (.slice P k1 cB)=V:=⟨_,rfl⟩;have o3:∀r,w.heap.size+1+1+1+1<r->V3.heap[r]?=w6.heap[r]?:=λr q=>by rw[<-aQ];exact(oI _ _ _ r (by show r≠w.heap.size+1;omega)).trans (o2 r q)
 rw[aQ] at h3;rw[aQ]
 try simp only[zA,zF,zE] at h3
 clear aQ cG d8;simp only[zD,zC,zB,pj];have F:=ql (w':=V3) F λr q=>o3 r (zh F r q)
 have G:=ql (w':=V3) G λr q=>o3 r (zh G r q)
 refine zb.dn ?_;refine NoPanic.normal ?_
 go_wp2_with fail
 have K:=h3.drew;have c8:w.heap.size+1+1+1+1<V3.drew.heap.size:=K.e.lt;clear aF bR b9 h3 o3;refine wp_region_noPanic ?_;refine zb.st (λW=>ph (w.heap.size+1) E W) 16 ?_;refine zb.q 0 (.pointer (some ⟨w.heap.size,2,none⟩)) K.h ?_;refine zb.t 1 (.slice (some ⟨gk,ok,none⟩) keys.length u) rfl K.h (λW j=>by have e:=bB W j;go_simp) ?_;refine zb.q 2 (.int .i64 (k:Int)) K.h ?_;refine zb.q 3 (.int .i64 (k1:Int)) K.h ?_;refine zb.q 4 (.slice (some ⟨gk,ok+k1,none⟩) (keys.length-k1) (u-k1)) K.h ?_;refine zb.q 6 (.pointer (some ⟨w.heap.size,3,none⟩)) K.h ?_;refine zb.t 7 (.slice (some ⟨I,L,none⟩) kids.length C) rfl K.h (λW j=>by have e:=bM W j;go_simp) ?_;refine zb.q 8 (.int .i64 (k:Int)) K.h ?_;refine zb.q 9 (.int .i64 (k1:Int)) K.h ?_;refine zb.q 10 (.slice (some ⟨I,L+k1,none⟩) (kids.length-k1) (C-k1)) K.h ?_;simp only[Z8];refine zb.n 5 ?_;refine zb.oC 210 #[.tmp 74] #[66] #[.slice (some ⟨gk,ok+k1,none⟩) (keys.length-k1) (u-k1)] ((cS _ K.h).mono ?_) (zb.eo func210);rintro e w7 ⟨N,X,rfl,O,bF⟩;have a8:=K.rJ bF;have F:=qw (w:=V3.drew) F bF;have G:=qw (w:=V3.drew) G bF;have O:=yS O c8;have c9:w.heap.size+1+1+1+1<w7.heap.size:=a8.e.lt;refine⟨_,rfl,λ_=>a8.h,?_⟩;simp only[Z8];refine zb.n 11 ?_;refine zb.oC 211 #[.tmp 80] #[67] #[.slice (some ⟨I,L+k1,none⟩) (kids.length-k1) (C-k1)] ((cN _ a8.h).mono ?_) (zb.eo func211);rintro e w8 ⟨Q,cD,rfl,aB,aM⟩;have a9:=a8.rJ aM;have F:=qw F aM;have G:=qw G aM;have O:=qw O aM;have aB:=yS aB c9;refine⟨_,rfl,λ_=>a9.h,?_⟩;simp only[Z8];refine zb.n 12 ?_;refine zb.opS rfl rfl (vm (cs':=#[.bool false,.slice none 0 0,.slice none 0 0,.slice none 0 0]) 69 (.tmp 3) (.const (.agg #[.bool false,.slice none 0 0,.slice none 0 0,.slice none 0 0])) rfl (w.heap.size+1+1) rfl rfl zj a9.b (by rfl) (by rfl) (Zo)) ⟨λ_=>(a9.sC #[.bool false,.slice none 0 0,.slice none 0 0,.slice none 0 0]).h,?_⟩;have h4:=a9.sC #[.bool false,.slice none 0 0,.slice none 0 0,.slice none 0 0];obtain⟨V4,aR⟩:∃V,oe w8 (w.heap.size+1+1) #[.bool false,.slice none 0 0,.slice none 0 0,.slice none 0 0]=V:=⟨_,rfl⟩;have o4:∀r,w.heap.size+1+1+1+1<r->V4.heap[r]?=w8.heap[r]?:=λr q=>by rw[<-aR];exact oL _ _ r _ (by omega)
 rw[aR] at h4;rw[aR];clear aR;simp only[zD,zC,zB,pj];refine zb.n 13 ?_;refine zb.opV (.pointer (some ⟨w.heap.size+1+1,2,none⟩)) rfl rfl (by go_simp) ⟨λ_=>h4.h,?_⟩;simp only[Z8];have cH:=h4.b.cell 2;have d9:=h4.b.free 2;simp only[qN,qX,qY] at cH;refine zb.n 14 ?_;refine zb.opS (w':=oh V4 ⟨w.heap.size+1+1,2,none⟩ (.slice N (keys.length-k1) X)) rfl rfl (by go_simp) ⟨(λ_=>(h4.rj 2 (.slice N (keys.length-k1) X)).h),?_⟩;have h5:=h4.rj 2 (.slice N (keys.length-k1) X);obtain⟨V5,aS⟩:∃V,oh V4 ⟨w.heap.size+1+1,2,none⟩ (.slice N (keys.length-k1) X)=V:=⟨_,rfl⟩;have o5:∀r,w.heap.size+1+1+1+1<r->V5.heap[r]?=w8.heap[r]?:=λr q=>by rw[<-aS];exact(oI _ _ _ r (by show r≠w.heap.size+1+1;omega)).trans (o4 r q)
 rw[aS] at h5;rw[aS]
 try simp only[zA,zF,zE] at h5
 clear aS cH d9;simp only[zD,zC,zB,pj];refine zb.n 15 ?_;refine zb.opV (.pointer (some ⟨w.heap.size+1+1,3,none⟩)) rfl rfl (by go_simp) ⟨λ_=>h5.h,?_⟩;simp only[Z8];have cI:=h5.b.cell 3;have eA:=h5.b.free 3;simp only[qN,qX,qY] at cI;refine zb.n 16 ?_;refine zb.opS (w':=oh V5 ⟨w.heap.size+1+1,3,none⟩ (.slice Q (kids.length-k1) cD)) rfl rfl (by go_simp) ⟨(λh=>absurd rfl h),?_⟩;have h6:=h5.rj 3 (.slice Q (kids.length-k1) cD);obtain⟨V6,aT⟩:∃V,oh V5 ⟨w.heap.size+1+1,3,none⟩ (.slice Q (kids.length-k1) cD)=V:=⟨_,rfl⟩;have o6:∀r,w.heap.size+1+1+1+1<r->V6.heap[r]?=w8.heap[r]?:=λr q=>by rw[<-aT];exact(oI _ _ _ r (by show r≠w.heap.size+1+1;omega)).trans (o5 r q)
 rw[aT] at h6;rw[aT]
 try simp only[zA,zF,zE] at h6
 clear aT cI eA;simp only[zD,zC,zB,pj];have F:=ql (w':=V6) F λr q=>o6 r (zh F r q)
 have G:=ql (w':=V6) G λr q=>o6 r (zh G r q)
 have O:=ql (w':=V6) O λr q=>o6 r (zh O r q)
 have aB:=ql (w':=V6) aB λr q=>o6 r (zh aB r q)
 refine zb.dn ?_;refine NoPanic.normal ?_
 go_wp2_with fail
 have aA:=h6.drew;clear h6 o6;refine wp_region_noPanic ?_;refine zb.st (λW=>ph (w.heap.size+1) E W/\za W (w.heap.size+1) 69 #[.bool false,.slice none 0 0,.slice M k U,.slice P k1 cB]/\za W (w.heap.size+1+1) 69 #[.bool false,.slice none 0 0,.slice N (keys.length-k1) X,.slice Q (kids.length-k1) cD]) 10 ?_;refine zb.t 0 (.agg #[.bool false,.slice none 0 0,.slice M k U,.slice P k1 cB]) rfl aA.sS (λW j=>by exact QU zj j.2.1 rfl rfl rfl) ?_;simp only[zD,zB,pj,zA,zF,zE];refine zb.t 1 (.agg #[.bool false,.slice none 0 0,.slice N (keys.length-k1) X,.slice Q (kids.length-k1) cD]) rfl aA.sS (λW j=>by exact QU zj j.2.2 rfl rfl rfl) ?_;refine zb.q 2 (.pointer (some ⟨w.heap.size,2,none⟩)) aA.sS ?_;refine zb.t 3 (.slice (some ⟨gk,ok,none⟩) keys.length u) rfl aA.sS (λW j=>by have e:=bB W j.1;go_simp) ?_;refine zb.q 4 (.int .i64 (k:Int)) aA.sS ?_;refine zb.q 5 (.pointer (some ⟨gk,ok+k,none⟩)) aA.sS ?_;refine zb.t 6 (.string key) rfl aA.sS (λW j=>by have e:=cO W j.1;go_simp) ?_;simp only[Z8];refine zb.n 7 ?_;refine zb.opS rfl rfl (vm (cs':=#[.bool false,.slice none 0 0,.slice M k U,.slice P k1 cB]) 69 (.tmp 2) (.tmp 84) rfl (w.heap.size+1) rfl rfl zj aA.a (by rfl) (by rfl) (TW rfl rfl rfl rfl)) ⟨λ_=>(aA.sB #[.bool false,.slice none 0 0,.slice M k U,.slice P k1 cB]).sS,?_⟩;have h7:=aA.sB #[.bool false,.slice none 0 0,.slice M k U,.slice P k1 cB];obtain⟨V7,aU⟩:∃V,oe V6.drew (w.heap.size+1) #[.bool false,.slice none 0 0,.slice M k U,.slice P k1 cB]=V:=⟨_,rfl⟩;have o7:∀r,w.heap.size+1+1+1+1<r->V7.heap[r]?=V6.drew.heap[r]?:=λr q=>by rw[<-aU];exact oL _ _ r _ (by omega)
 rw[aU] at h7;rw[aU];clear aU;simp only[zD,zC,zB,pj];refine zb.n 8 ?_;refine zb.opS rfl rfl (vm (cs':=#[.bool false,.slice none 0 0,.slice N (keys.length-k1) X,.slice Q (kids.length-k1) cD]) 69 (.tmp 3) (.tmp 85) rfl (w.heap.size+1+1) rfl rfl zj h7.b (by rfl) (by rfl) (TW rfl rfl rfl rfl)) ⟨λ_=>(h7.sC #[.bool false,.slice none 0 0,.slice N (keys.length-k1) X,.slice Q (kids.length-k1) cD]).sS,?_⟩;have h8:=h7.sC #[.bool false,.slice none 0 0,.slice N (keys.length-k1) X,.slice Q (kids.length-k1) cD];obtain⟨V8,aV⟩:∃V,oe V7 (w.heap.size+1+1) #[.bool false,.slice none 0 0,.slice N (keys.length-k1) X,.slice Q (kids.length-k1) cD]=V:=⟨_,rfl⟩;have o8:∀r,w.heap.size+1+1+1+1<r->V8.heap[r]?=V6.drew.heap[r]?:=λr q=>by rw[<-aV];exact(oL _ _ r _ (by omega)).trans (o7 r q)
 rw[aV] at h8;rw[aV];clear aV;simp only[zD,zC,zB,pj];have cJ:=h8.s.cell 0;have eB:=h8.s.free 0;simp only[qN,qX] at cJ;refine zb.n 9 ?_;refine zb.opS (w':=oh V8 ⟨w.heap.size+1+1+1,0,none⟩ (.string key)) rfl rfl (by go_simp) ⟨(λ_=>(h8.sX (.string key)).sS),?_⟩;have h9:=h8.sX (.string key);obtain⟨V9,aW⟩:∃V,oh V8 ⟨w.heap.size+1+1+1,0,none⟩ (.string key)=V:=⟨_,rfl⟩;have o9:∀r,w.heap.size+1+1+1+1<r->V9.heap[r]?=V6.drew.heap[r]?:=λr q=>by rw[<-aW];exact(oI _ _ _ r (by show r≠w.heap.size+1+1+1;omega)).trans (o8 r q)
 rw[aW] at h9;rw[aW]
 try simp only[qN,qX,qY,zA,zF,zE] at h9
 clear aW cJ eB;simp only[zD,zC,zB,pj];have cE:=h9.e.cell 0;have d6:=h9.e.free 0;simp only[qN,qX] at cE;refine zb.n 10 ?_;refine zb.opS (w':=oh V9 ⟨w.heap.size+1+1+1+1,0,none⟩ (.int .i64 0)) rfl rfl (by go_simp) ⟨(λh=>absurd rfl h),?_⟩;have aC:=h9.pP (.int .i64 0);obtain⟨aD,aO⟩:∃V,oh V9 ⟨w.heap.size+1+1+1+1,0,none⟩ (.int .i64 0)=V:=⟨_,rfl⟩;have bA:∀r,w.heap.size+1+1+1+1<r->aD.heap[r]?=V6.drew.heap[r]?:=λr q=>by rw[<-aO];exact(oI _ _ _ r (by show r≠w.heap.size+1+1+1+1;omega)).trans (o9 r q)
 rw[aO] at aC;rw[aO]
 try simp only[qN,qX,qY,zA,zF,zE] at aC
 clear aO cE d6;simp only[zD,zC,zB,pj];have F:=ql (w':=aD) F λr q=>bA r (zh F r q)
 have G:=ql (w':=aD) G λr q=>bA r (zh G r q)
 have O:=ql (w':=aD) O λr q=>bA r (zh O r q)
 have aB:=ql (w':=aD) aB λr q=>bA r (zh aB r q)
 refine zb.dn ?_;refine NoPanic.normal ?_;go_wp2;refine leaves_cons (f:=149) (args:=#[.pointer (some ⟨w.heap.size+1+1+1+1,0,none⟩),.func (.func 207) #[] #[.pointer (some ⟨w.heap.size+1,0,none⟩),.pointer (some ⟨w.heap.size+1+1,0,none⟩),.pointer (some ⟨w.heap.size+1+1+1,0,none⟩)]]) (by simp) (by simp[go_sem]) ?_;refine(QG _ _ _).mono ?_;rintro e u' wz ⟨rfl,rfl,rfl⟩;obtain⟨a0,a1,a2,a3⟩:=Bb aC.a;obtain⟨d0,d1,d2,d3⟩:=Bb aC.b;have q3:=aC.s.boxed;have q4:=aC.e.boxed;have cU:ph w.heap.size w wz:=aI.trans (aC.h.mono (gI _));have n5:=λg (o:Nat) (e:M=some ⟨g,o,none⟩)=>(by have:=zh F g (by rw[e];rfl);omega:w.heap.size<=g)
 have n6:=λg (o:Nat) (e:P=some ⟨g,o,none⟩)=>(by have:=zh G g (by rw[e];rfl);omega:w.heap.size<=g)
 have n7:=λg (o:Nat) (e:N=some ⟨g,o,none⟩)=>(by have:=zh O g (by rw[e];rfl);omega:w.heap.size<=g)
 have n8:=λg (o:Nat) (e:Q=some ⟨g,o,none⟩)=>(by have:=zh aB g (by rw[e];rfl);omega:w.heap.size<=g)
 obtain⟨Aa,ca,ea,cZ⟩:=qn F (jZ _);obtain⟨Ab,cb,eb,c0⟩:=qn G (YW _);obtain⟨Ad,cd,ed,c1⟩:=qn O (jZ _);obtain⟨Ae,ce,ee,c4⟩:=qn aB (YW _);injection ea with ea1 ea2 ea3
 injection eb with eb1 eb2 eb3
 injection ed with ed1 ed2 ed3
 injection ee with ee1 ee2 ee3
 subst ea1 ea3 eb1 eb3 ed1 ed3 ee1 ee3;simp[Leaves,settle,results,Tryz.results137,go_sem,a0,a1,a2,a3,d0,d1,d2,d3,q3,q4];refine cK.out k _ _ ⟨M,U,P,cB,N,X,Q,cD,bS,?_,?_,?_,?_,?_,cU,n5,n6,n7,n8⟩
 ·rw[<-aH.out,a4,a6,a5,a7,cP.out]
 ·rw[a4];exact cZ
 ·rw[<-aH.out,a5];exact c0
 ·rw[<-aH.out,a6];exact c1
 ·rw[<-aH.out,a7];exact c4
theorem Ou (w:World)(x:yo)(a:Y5)(g:Nat)(f:Y5)(j:Nat)(c:Y5)(i:Nat)(h:XH w w.heap.size x a g f j c i)(hl:x.cells.length<=1000)(u:x.keys.length<=1000)(A:x.kids.length<=1001)(s:yj x)(B:(qb x).length<=512):pr Y3 84 #[.agg (zu x a g f j c i)] w λe w'=>e=Y0 (.bool true)/\ph w.heap.size w w':=by
 have b0:=za.new w 69 (zu x a g f j c i);have hB:ph w.heap.size w (w.alloc (.cells (zu x a g f j c i) 69)):=(pf _ w).alloc (zG _) _;have k:=Tn _ x a g f j c i (h.grow hB) hl u A s;have C:((qb x).length:Int)<=512:=by omega
 generalize qb x=lb at *;unfold zu at *
 go_enter func84,ntmps84
 go_wp2_with (first
  | (refine xA zj b0 ?_)
  | (go_at_call 136;refine k.mono ?_;rintro e E ⟨rfl,q⟩))
 go_ret;exact⟨rfl,hB.trans (q.mono hB.size)⟩
theorem XS:yx Y3 92 1:=⟨⟨_,underlying92,rfl⟩,by kernel_rfl⟩
theorem Mt (w:World)(s f:Value)(q u:ByteArray):pr Y3 142 #[.agg #[s],.agg (zm ⟨q,u,0,0⟩).toArray,f] w λe w'=>(∃z,e=Y0 z)/\ph w.heap.size w w':=by
 obtain⟨a,c,k,-,b4⟩:=Bp w 92 #[s] 94 #[.string q,.string u,.int .i64 0,.int .i64 0];have c2:a.cell? ⟨w.heap.size+1,2,none⟩=some (.int .i64 0):=by rw[b4.cell];rfl
 have c3:a.cell? ⟨w.heap.size+1,3,none⟩=some (.int .i64 0):=by rw[b4.cell];rfl
 have g:=c2;have h:=c3;rw[c] at g h;have A:=pk c.symm;clear c;unfold zm
 go_enter func142,ntmps142
 go_wp2;rw[A.out];clear g h
 go_loopw [6,7] (λj i wr=>j=.int .i64 0/\i=.int .i64 0/\wr=a) (λ_ _ _=>0)
 case atStart=>exact⟨rfl,rfl,rfl⟩
 case round =>
  obtain⟨rfl,rfl,rfl⟩:=hrel;go_wp2
  first
   | (go_end0;exact⟨⟨_,rfl⟩,k⟩)
   | (refine oE (dS rfl _ _ _) rfl ?_;exact⟨⟨_,rfl⟩,k⟩)
section
variable {S T:oD}{by_:Nat}{z:Value}{ρ:py->Value}{w:World}{o:Oper}{x y:py}
theorem xQ {g n c i:Nat}(a:Zj S T 1 by_ z)(f:o.op=.slice S x (some y) none none)(h1:ρ x=.slice (some ⟨g,0,none⟩) n c)(h2:ρ y=.int .i64 (i:Int))(e:i<=n)(hc:i<c):(execOp ρ o).run Y3 w=.ok (.value (.slice (some ⟨g,i,none⟩) (n-i) (c-i))) w:=by
 have:=QV (w:=w) a f h1 h2 e hc
 rwa [yL] at this
theorem ji (h:Zj S T 1 by_ z)(w:World)(ty:oD)(g off c dCap:Nat)(a:px)(e f m:Nat)(cur:Y7)(t:oD)(cs:Y8)
  (k:za w g t cur) (q:m=Nat.min e c) (hn:cs.length=m)
  (s:∀j v,cs[j]?=some v->w.cell? (a.add j)=some v) (i:off+cs.length<=cur.size) (h1:∀v∈cs,v.oneCell'=true) :
  (Builtin.copy_ #[S,S] ty #[.slice (some ⟨g,off,none⟩) c dCap,.slice (some a) e f]).run Y3 w =
   .ok (goInt (m:Int)) (w.setRow g (cur.toList.take off++cs++cur.toList.drop (off+cs.length)).toArray) :=
 Yt h w ty g off c dCap a e f m cur t cs k q (by rw[hn,yL]) s i h1
theorem Vs (f:Zj S T 1 by_ z)(w:World)(g n c k:Nat)(cur:Y7)(i:za w g T cur)(hn:n<=cur.size)(e:0<k)(hc:c<n+k)(j:n+k<=1000000)(h:by_<=1000):∃G a,(∀ty,(Builtin.append_ #[S,3] ty #[.slice (some ⟨g,0,none⟩) n c,.int .i64 (k:Int)]).run Y3 w=.ok (.slice (some ⟨w.heap.size,0,none⟩) (n+k) G) (w.drew.alloc (.cells a T)))/\n+k<=G/\G<=maxLen/\a.size=G/\a.toList.take n=cur.toList.take n:=by
 have:=Vr f w g n c k cur i (by rw[yL];exact hn) e hc j h;simpa only[yL] using this
end
theorem SH {L X Y C:Y8}{i n:Nat}(e:C.length=1)(f:X=L.take i)(g:Y=(L.take n).drop i)(h:i<=n)(j:n+1<=L.length):let a:=L.take (i+1)++Y++L.drop (i+1+Y.length)
  let c:=a.take i++C++a.drop (i+C.length)
  c.take (n+1)=X++C++Y/\a.length=L.length/\c.length=L.length:=by
 have:=Oa (L:=L) (X:=X) (Y:=Y) (C:=C) (sz:=1) (i:=i) (n:=n) e (by rw[yL];exact f) (by rw[yL,yL];exact g) h (by omega);simpa only[yL] using this
theorem Oc {L X Y C:Y8}{i n:Nat}(e:C.length=1)(f:L.take i=X)(j:X.length=i)(k:Y.length=n-i)(g:i<=n)(h:n+1<=L.length):let a:=L.take i++C++L.drop (i+C.length)
  let c:=a.take (i+1)++Y++a.drop (i+1+Y.length)
  c.take (n+1)=X++C++Y/\a.length=L.length/\c.length=L.length:=by
 have:=CU (L:=L) (X:=X) (Y:=Y) (C:=C) (sz:=1) (i:=i) (n:=n) e (by rw[yL];exact f) (by omega) (by omega) g (by omega);simpa only[yL] using this
end
section
open Go Go.RowKit vA Go.Shelf
attribute [local go_sem] Oper.semAt_some
theorem tj:Zj 142 129 1 24 (.slice none 0 0):=⟨underlying142,by kernel_rfl,by kernel_rfl,by decide⟩
theorem Na (g o:Nat):(⟨g,o,none⟩:px).add 0=⟨g,o,none⟩:=by simp[Addr.add]
theorem NT (n:Nat)(A:Y5)(len a:Nat)(w:World):dw oS n Y3 81 #[.slice A len a,.int .i64 508] w λe w'=>e=Y0 (.func (.func 132) #[] #[.pointer (some ⟨w.heap.size,0,none⟩),.pointer (some ⟨w.heap.size+1,0,none⟩)])/\(w.alloc (.cells #[.slice A len a] 129)).alloc (.cells #[.int .i64 508] 3)=w':=by
 refine dN func81 rfl trivial ?_ rfl;simp only[ntmps81,zR,zL,zY,yJ,yK,qG,qH,qS,qL,zQ,zX]
 gi_wp2
 go_ret;exact⟨rfl,rfl⟩
def Ty (xs:List Unit):Prop:=xs=[()]
theorem Tj (n:Nat)(aA:2<=n)(l j h g o c L:Nat)(Q:0<L)(V:L<=508)(X:L<=c)(Z:c<=9223372036854775807)(J s:List Unit->(Nat->Prop)->World->Prop)(C:tc J)(k:Nat->Prop)(hs:¬ k j)(hn:¬ k h)
  (K:∀f x U q,J f U q->f=[]->YieldAt oS (n-1) Y3 l #[.slice (some ⟨g,o,none⟩) L L] q λe W' =>
   (e=Y0 (.bool true)/\∃a,vh q.heap.size U a/\J (f++[x]) a W'/\yg U q W')∨(e=Y0 (.bool false)/\∃a,s (f++[x]) a W'))
  (W:World) (P:W.cell? ⟨j,0,none⟩=some (.slice (some ⟨g,o,none⟩) L c)) (O:W.cell? ⟨h,0,none⟩=some (.int .i64 508)) (B:J [] k W) :
  dw oS n Y3 132 #[.func (.yield l) #[] #[],.pointer (some ⟨j,0,none⟩),.pointer (some ⟨h,0,none⟩)] W λe W'=>(∃v,e=Y0 v) /\
   ((∃xs a,Ty xs/\J xs a W')∨(∃f a,Ty f/\s f a W')):=by
 have h1:1<=n:=by omega
 refine dN func132 rfl trivial ?_ rfl;simp only[ntmps132,zR,zL,zY,yJ,yK,qG,qH,qS,qL,zQ,zX]
 gi_wp2
 gi_loopw [4] (λi wr=>(i=.int .i64 0/\wr=W)∨(i=.int .i64 508/\wr.cell? ⟨j,0,none⟩=some (.slice (some ⟨g,o,none⟩) L c)/\wr.cell? ⟨h,0,none⟩=some (.int .i64 508)/\∃a,J [()] a wr))
  (λi _=>match i with | .int _ m=>(508-m).toNat|_=>0)
 case atStart=>exact .inl ⟨rfl,rfl⟩
 case round =>
  rcases hrel with⟨rfl,rfl⟩|⟨rfl,hc1,hc2,a,hJ1⟩
  ·have hm:(if (L:Int)<508 then (L:Int) else 508)=(L:Int):=by split<;>omega
   have F:J [] k wr.drew:=C _ _ _ _ B (pf _ _).drew;obtain⟨fn,tmps,assign,body,hy,I⟩:=K [] () k wr.drew F rfl;have aC:IntKind.i64.wrap (L:Int)=(L:Int):=jw _
   gi_wp2
   gi_region
   gi_wp2
   refine I.mono ?_;rintro e u (⟨rfl,a,_,E,A⟩|⟨rfl,a,G⟩)
   ·have N:u.cell? ⟨h,0,none⟩=some (.int .i64 508):=A.cell (p:=⟨h,0,none⟩) O hn;have M:u.cell? ⟨j,0,none⟩=some (.slice (some ⟨g,o,none⟩) L c):=A.cell (p:=⟨j,0,none⟩) P hs
    gi_wp2
    go_roundw
    case rel=>exact .inr ⟨rfl,M,N,a,E⟩
    case measure=>decide
   ·gi_wp2
    exact oE (dS rfl _ _ _) rfl ⟨⟨_,rfl⟩,.inr ⟨_,a,rfl,G⟩⟩
  ·have aB:¬ (508:Int)<(L:Int):=by omega
   gi_wp2
   go_end0;exact⟨⟨_,rfl⟩,.inl (by first|exact⟨_,a,rfl,hJ1⟩|exact⟨_,rfl,a,hJ1⟩)⟩
theorem Rz (n:Nat)(K:2<=n)(e a g o c L:Nat)(A:0<L)(B:L<=508)(C:L<=c)(F:c<=9223372036854775807)(w:World)(s:e<w.heap.size)(q:a<w.heap.size)
  (I:w.cell? ⟨e,0,none⟩=some (.slice (some ⟨g,o,none⟩) L c)) (G:w.cell? ⟨a,0,none⟩=some (.int .i64 508)) :
  wJ oS n Y3 132 #[.pointer (some ⟨e,0,none⟩),.pointer (some ⟨a,0,none⟩)] (λ_:Unit=>#[.slice (some ⟨g,o,none⟩) L L]) (λU=>¬ U e/\¬ U a) (λM _ _=>M=[]) Ty Ty w:=λl J i j W h f u _ E k =>
 Tj n K l e a g o c L A B C F J i u j f.1 f.2 E W ((h.cell (p:=⟨e,0,none⟩) s).trans I) ((h.cell (p:=⟨a,0,none⟩) q).trans G) k
def OT (w:World)(x:Value)(e:Ending)(w':World):Prop:=∃A c,e=Y0 (.slice A 1 c)/\yp w' w'.heap.size 1 A 1 c [x]/\ph w.heap.size w w'
structure tS (w:World)(x:Value)(s:List Unit)(U:Nat->Prop)(V:World):Prop where
 us:∀k,U k↔k=w.heap.size
 up:ph w.heap.size w V
 lt:w.heap.size<V.heap.size
 at_:(s=[]/\za V w.heap.size 142 #[.slice none 0 0])∨(s=[()]/\∃A c,za V w.heap.size 142 #[.slice A 1 c]/\V.ownsRow (w.heap.size+1) 129 1 (.slice A 1 c) 1 [x])
theorem FI (n:Nat)(hn:8<=n)(w:World)(i f g o c L:Nat)(hL:0<L)(aE:L<=508)(aF:L<=c)(aH:c<=9223372036854775807)(X:i<w.heap.size)(Q:f<w.heap.size)
  (aJ:w.cell? ⟨i,0,none⟩=some (.slice (some ⟨g,o,none⟩) L c)) (aI:w.cell? ⟨f,0,none⟩=some (.int .i64 508)) :
  dw oS n Y3 131 #[.slice none 0 0,.func (.func 132) #[] #[.pointer (some ⟨i,0,none⟩),.pointer (some ⟨f,0,none⟩)]] w (OT w (.slice (some ⟨g,o,none⟩) L L)):=by
 have h1:1<=n:=by omega
 obtain⟨W1,Z,q,b1⟩:=YK w 142 #[.slice none 0 0];have HS:=Rz (n-1) (by omega) i f g o c L hL aE aF aH W1 (zO X q.size) (zO Q q.size) ((q.cell (p:=⟨i,0,none⟩) X).trans aJ) ((q.cell (p:=⟨f,0,none⟩) Q).trans aI);have aM:=b1.lt;have aC:=pk Z.symm;clear Z;have G:(Value.slice (some ⟨g,o,none⟩) L L).oneCell'=true:=rfl;refine callsIn_of_wp_marks func131 rfl trivial ?_ rfl;simp only[ntmps131,zR,zL,zY,yJ,yK,qG,qH,qS,qL,zQ,zX]
 gi_wp2
 rw[aC.out];refine vz rfl h1 (gf:=132) (lb:=#[.pointer (some ⟨i,0,none⟩),.pointer (some ⟨f,0,none⟩)]) rfl trivial (zb.eo func132)
  HS (pf _ _) (λ_=>rfl) (λk=>k=w.heap.size) ⟨by omega,by omega⟩
  (tS w (.slice (some ⟨g,o,none⟩) L L)) (λ_ _ _ _=>False) ?st (λ_ _ _ _ _ _ h _ _=>h) (λs U V hs k hk=>by rw[(hs.us k).1 hk];exact hs.lt) ?ownR
  ⟨λk=>Iff.rfl,q,aM,.inl ⟨rfl,b1⟩⟩ ?act ?assign ?body ?done ?stop
 case st =>
  intro s U X0 Y row h B j;refine⟨h.us,h.up.trans (zl B (by have:=h.lt;omega) (λr e=>by have:=(j r e).1;omega)),zO h.lt B.size,?_⟩;rcases h.at_ with⟨e,a⟩|⟨e,A,c',a,own⟩
  ·exact .inl ⟨e,a.kept B (λr e=>(j r e).2)⟩
  ·exact .inr ⟨e,A,c',a.kept B (λr e=>(j r e).2),Yz own B (λr e=>(j r e).2)⟩
 case ownR=>exact λaO x _ X0 Y row h _ _=>h
 case assign =>
  intro l1 x V K E
  gi_wp2
  exact E
 case body =>
  rintro l1 aO x U V h rfl;obtain⟨aB,M,aL,F⟩:=h;obtain a:za V w.heap.size 142 #[.slice none 0 0]:=by
   rcases F with⟨_,a⟩|⟨e,_⟩
   ·exact a
   ·cases e
  have c3:=a.boxed;have C:ph V.heap.size V (V.alloc (.cells #[.slice (some ⟨g,o,none⟩) L L] 129)):=(pf _ V).alloc (zG _) _;have aN:=World.ownsRow_nil (V.alloc (.cells #[.slice (some ⟨g,o,none⟩) L L] 129)) (w.heap.size+1) 129 1;have aG:w.heap.size+1<=(V.alloc (.cells #[.slice (some ⟨g,o,none⟩) L L] 129)).heap.size:=by have:=C.size;omega
  have ba:=a.below C a.lt;have aP:=KI V 129 (.slice (some ⟨g,o,none⟩) L L) G;have O:=pk aB;clear aB F
  gi_wp2_with (gi_at_builtin;refine Dv rfl tj (.tmp 8) (.tmp 10) rfl (w.heap.size+1) (.slice none 0 0) 0 [] rfl aN _ _ 1 1 [.slice (some ⟨g,o,none⟩) L L] rfl aP (by omega) (by unfold maxLen;omega) (by omega) aG ?_;intro v5 w5 N I;obtain⟨A5,k5,rfl,_⟩:=qn N (by intro u hu;rw[zQ,qK] at hu;subst hu;exact G);have b5:=ba.grown I (λe=>by cases e);have c5:=b5.boxed;have f5:=b5.free 0)
  have aD:ph w.heap.size (V.alloc (.cells #[.slice (some ⟨g,o,none⟩) L L] 129)) w5:=zl I (by omega) (λr e=>by cases e);have P:ph w.heap.size V w5:=(C.mono (by omega)).trans aD;refine⟨U,vh.refl _ _,?_,⟨O.out,M.trans (P.setCell (by simp) _),by have:=P.size;simp;omega,.inr ⟨rfl,A5,k5,b5.set 0 _,?_⟩⟩⟩
  ·refine(yg.grow U C).trans ((yg.grown U I (λr e=>by cases e)).trans (yg.setCell _ _ _ ((O.out _).2 rfl)))
  ·exact ql N (λr j=>oI w5 ⟨w.heap.size,0,none⟩ _ r (λe=>by have h7:=zh N r j;have h8:r=w.heap.size:=e;omega))
 case done =>
  rintro D xs U V hD hS ⟨_,M,aL,F⟩ E;obtain⟨A,c',a,own⟩:∃A c',za V w.heap.size 142 #[.slice A 1 c']/\V.ownsRow (w.heap.size+1) 129 1 (.slice A 1 c') 1 [.slice (some ⟨g,o,none⟩) L L]:=by
   rcases F with⟨e,_⟩|⟨_,h⟩
   ·rw[hS] at e;cases e
   ·exact h
  have c3:=a.boxed
  gi_wp2
  refine⟨by simp,.inl ⟨_,_,rfl,run_takeDeferred E,?_⟩⟩;have aA:=grownBy_putObj' V D (.deferred none);have own2:=Yz own aA (λr e=>⟨_,(by cases e;exact E),rfl⟩);obtain⟨A2,c2,e,aK⟩:=qn own2 (by intro u hu;rw[qK] at hu;subst hu;exact G);injection e with e1 e2 e3
  subst e1 e3;exact⟨_,results_tmp rfl _ _ _,A,c',rfl,aK,M.trans (zl aA (by omega) (λk e=>by cases e;omega))⟩
 case stop=>exact λ_ _ _ _ _ _ _ h _=>h.elim
theorem Dm (n:Nat)(hn:9<=n)(w:World)(f a g o c L:Nat)(k:0<L)(q:L<=508)(s:L<=c)(u:c<=9223372036854775807)(j:f<w.heap.size)(i:a<w.heap.size)
  (C:w.cell? ⟨f,0,none⟩=some (.slice (some ⟨g,o,none⟩) L c)) (B:w.cell? ⟨a,0,none⟩=some (.int .i64 508)) :
  dw oS n Y3 80 #[.func (.func 132) #[] #[.pointer (some ⟨f,0,none⟩),.pointer (some ⟨a,0,none⟩)]] w (OT w (.slice (some ⟨g,o,none⟩) L L)):=by
 have h1:1<=n:=by omega
 have h:=FI (n-1) (by omega) w f a g o c L k q s u j i C B;unfold OT at *;refine dN func80 rfl trivial ?_ rfl;simp only[ntmps80,zR,zL,zY,yJ,yK,qG,qH,qS,qL,zQ,zX]
 gi_wp2_with (first
  | (refine⟨trivial,?_⟩;gi_at_call 131;refine h.mono ?_;rintro e F ⟨A,c',rfl,E,hB⟩)
  | (refine⟨trivial,?_⟩;fail_if_success (refine callsIn_wide.2 ?_)))
 go_ret;exact⟨A,c',rfl,E,hB⟩
theorem OJ (n:Nat)(N:2<=n)(l k h j c:Nat)(X:Value)(G:X.oneCell'=true)(hc:1<=c)(J q:List Unit->(Nat->Prop)->World->Prop)(s:Nat->Prop)
  (E:∀f x U g,J f U g->f=[]->YieldAt oS (n-1) Y3 l #[.int .i64 0,X] g λe W' =>
   (e=Y0 (.bool true)/\∃a,vh g.heap.size U a/\J (f++[x]) a W'/\yg U g W')∨(e=Y0 (.bool false)/\∃a,q (f++[x]) a W'))
  (W:World) (K:W.cell? ⟨k,0,none⟩=some (.slice (some ⟨h,j,none⟩) 1 c)) (L:W.cell? ⟨h,j,none⟩=some X) (u:J [] s W) :
  dw oS n Y3 130 #[.func (.yield l) #[] #[],.pointer (some ⟨k,0,none⟩)] W λe W'=>(∃v,e=Y0 v) /\
   ((∃xs a,Ty xs/\J xs a W')∨(∃f a,Ty f/\q f a W')):=by
 have h1:1<=n:=by omega
 have I:=Na h j;refine dN func130 rfl trivial ?_ rfl;simp only[ntmps130,zR,zL,zY,yJ,yK,qG,qH,qS,qL,zQ,zX]
 gi_wp2
 gi_loopw [3] (λi wr=>(i=.int .i64 0/\wr=W)∨(i=.int .i64 (-1)/\∃a,J [()] a wr)) (λi _=>match i with | .int _ m=>(m+1).toNat|_=>0)
 case atStart=>exact .inl ⟨rfl,rfl⟩
 case round =>
  rcases hrel with⟨rfl,rfl⟩|⟨rfl,a,hJ1⟩
  ·obtain⟨fn,tmps,assign,body,O,C⟩:=E [] () s wr u rfl
   gi_wp2
   refine C.mono ?_;rintro e F (⟨rfl,a,_,A,M⟩|⟨rfl,a,B⟩)
   ·gi_wp2
    go_roundw
    case rel=>exact .inr ⟨rfl,a,A⟩
    case measure=>decide
   ·gi_wp2
    exact oE (dS rfl _ _ _) rfl ⟨⟨_,rfl⟩,.inr ⟨_,a,rfl,B⟩⟩
  ·gi_wp2
   go_end0;exact⟨⟨_,rfl⟩,.inl (by first|exact⟨_,a,rfl,hJ1⟩|exact⟨_,rfl,a,hJ1⟩)⟩
theorem Tp (n:Nat)(C:2<=n)(a e f c:Nat)(X:Value)(q:X.oneCell'=true)(hc:1<=c)(w:World)(k:a<w.heap.size)(B:e<w.heap.size)
  (u:w.cell? ⟨a,0,none⟩=some (.slice (some ⟨e,f,none⟩) 1 c)) (A:w.cell? ⟨e,f,none⟩=some X) :
  wJ oS n Y3 130 #[.pointer (some ⟨a,0,none⟩)] (λ_:Unit=>#[.int .i64 0,X]) (λ_=>True) (λE _ _=>E=[]) Ty Ty w:=λl J h i W g _ _ _ s j =>
 OJ n C l a e f c X q hc J h i s W ((g.cell (p:=⟨a,0,none⟩) k).trans u) ((g.cell (p:=⟨e,f,none⟩) B).trans A) j
theorem Bd (n:Nat)(A:Y5)(len a:Nat)(w:World):dw oS n Y3 79 #[.slice A len a] w λe w'=>e=Y0 (.func (.func 130) #[] #[.pointer (some ⟨w.heap.size,0,none⟩)])/\w.alloc (.cells #[.slice A len a] 142)=w':=by
 refine dN func79 rfl trivial ?_ rfl;simp only[ntmps79,zR,zL,zY,yJ,yK,qG,qH,qS,qL,zQ,zX]
 gi_wp2
 go_ret;exact⟨rfl,rfl⟩
end
section
open Go vA Go.ChangeShapes Go.WideShapes Go.ChangeAt Go.RowKit
theorem TY {α : Type}{C : α -> Y8}{sz:Nat}(a:∀x,(C x).length=sz):∀(s:List α) (j:Nat) (v:Value),((s.map C).flatten)[j]?=some v->∃i q,∃f:i<s.length,j=i*sz+q/\q<sz/\(C s[i])[q]?=some v
 | [],j,v,h=>by simp at h
 | x::s,j,v,h=>by
  have e:((x::s).map C).flatten=C x++(s.map C).flatten:=rfl;rw[e] at h
  by_cases c:j<(C x).length
  ·rw[List.getElem?_append_left c] at h;exact⟨0,j,by simp,by omega,by rw[<-a x];exact c,by simpa using h⟩
  ·rw[qU (by omega)] at h;obtain⟨i,q,f,g,hq,k⟩:=TY a s _ v h;rw[a] at g c;refine⟨i+1,q,by simpa using f,?_,hq,by simpa using k⟩;rw[Nat.succ_mul];omega
section
variable {H:Type}{enc:oD×Value->H}{W:World}{r:Reach}{b0 b1:Nat}{held:Bool}{v:Value}{d:DataW H}{p:List MemPlace}
theorem AS {α : Type}[Inhabited α](C : α -> Y8){sz:Nat}(hz:0<sz)(u:∀x,(C x).length=sz)(h1:∀x,∀v∈C x,v.oneCell'=true){T E:oD}(P:Y3.underlying T=some (.slice E))(O:Y3.cellsOf E=sz)
  (V:∀(n:Nat) (cs:Y8) (x:DataW H×List MemPlace),cs.length=sz->DataW.trod enc Y3 W b1 (λ_=>true) held n E cs=some x->∃y : α,cs=C y)
  {n:Nat} {c:Value} {x:DataW H×List MemPlace} (h:DataW.trod enc Y3 W b1 (λ_=>true) held n T [c]=some x):∃A k,∃s:List α,c=.slice A s.length k/\yp W W.heap.size sz A s.length k ((s.map C).flatten):=by
 rcases Go.Deep.open_slice P h with⟨hcs,_⟩|⟨a,len,cap,m,n',D,Pl,hcs,I,hl,hm,hmm,_,hx⟩
 ·simp at hcs;exact⟨none,0,[],hcs,yp.mt _ _ _⟩
 ·simp at hcs;simp only[if_true] at hmm;subst hmm;rw[O] at hx
  obtain⟨B,hB⟩:=Go.Deep.choose_lt (α:=α) (p:=λi y=>∀j (f:j<(C y).length),W.cell? ((a.add (i*sz)).add j)=some (C y)[j]) (λi F=>by
   obtain⟨cs',M,N⟩:=hx i F;obtain⟨_,aB,U⟩:=World.cells?_some M;obtain⟨y,rfl⟩:=V _ _ _ aB N
   exact⟨y,λj f=>(U j (by omega)).trans (zM f)⟩)
  refine⟨some a,m,(dv len).map B,by simpa using hcs,?_⟩;have g:((dv len).map B).length=len:=by simp
  refine⟨by rw[g];exact hl,by unfold maxLen at hm;omega,(λe=>by cases e),?_,?_,λL => ?_⟩
  ·rw[List.length_flatten,List.map_map,g];have:(List.map (List.length ∘ C) ((dv len).map B))=zP len sz:=by rw[List.eq_replicate_iff];refine⟨by simp,λb I => ?_⟩;obtain⟨y,_,rfl⟩:=qP.1 I;exact u y
   rw[this,List.sum_replicate_nat]
  ·intro v G;obtain⟨l,aA,G⟩:=List.mem_flatten.1 G;obtain⟨y,_,rfl⟩:=qP.1 aA;exact h1 y v G
  ·rw[g] at L;obtain⟨b,off,aE⟩:=a;have K:=hB 0 (by omega) 0 (by rw[u];exact hz);have aD:aE=none:=by simpa[Addr.add] using World.cell?_spot K
   subst aD;have Q:b<W.heap.size:=by simpa[Addr.add] using Dp K
   refine⟨b,off,rfl,Q,λj v f => ?_⟩;obtain⟨i,q,F,rfl,hq,e⟩:=TY u _ j v f;have Z:=F;rw[g] at Z;have X:((dv len).map B)[i]=B i:=by simp
   rw[X] at e;obtain⟨aC,e⟩:=qQ.1 e;have:=hB i (by omega) q aC;rw[Addr.add_mid,Addr.add_mid,e] at this;rw[<-Nat.add_assoc];exact this
instance:Inhabited xK:=⟨⟨oR,oR,0,0⟩⟩
end
end
end Go.Proofs.YtohmkffoojdahaaGreat
