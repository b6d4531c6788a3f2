/- Texts that the proof of WalkHolds leans on, part 13. -/
import Derived.Test.YtohmkffoojdahaaGreatWalkHoldsB12
set_option linter.unusedVariables false
set_option linter.unusedSimpArgs false
set_option maxRecDepth 100000
set_option maxHeartbeats 8000000

open ByteArray renaming empty->oR
open Go renaming Calls->pr,Addr->px,Operand->py,execOp->oB,TypeId->oD,maxLen->oo,callFunc->dF,Ending->dT
open Go.Act renaming put->pj
open Go.Deferred renaming ofValue->nh
open Go.Op renaming bytesLess->oa
open Go.Result renaming andThen->pv
open Go.RowKit renaming Below->ph
open Go.World renaming setRow->oe
open List renaming find?_append->nV,reverse_append->nZ,singleton_append->mP,find?_cons->me,reverse_cons->mj,reverse_singleton->ml
open List.Pairwise renaming nil->mQ
open Go.Proofs.Tryz renaming prog->Y3
open Go.Proofs.Tryz
namespace Go.Proofs.YtohmkffoojdahaaGreat
section
open Go Go.RowKit vA
def Au (A:Y5)(c i sz:Nat):Y5:=A.map λa=>⟨a.block,if c=i then 0 else i*sz,none⟩
section
variable {S T:oD}{sz by_:Nat}{z:Value}{ρ:py->Value}{w:World}{o:Oper}{x y u:py}
theorem uE (f:Zj S T sz by_ z)(g:o.op=.slice S x (some y) none none)(h1:ρ x=.slice none 0 0)(h2:ρ y=.int .i64 0):(oB ρ o).run Y3 w=.ok (.value (.slice none 0 0)) w:=by
 have ht:=Rl f;have hs:=YC f;simp[oB,g,h1,h2,go_sem,run_sliceAt_slice _ _ _ _ _ _ ht,pv,run_slice_l (ht:=ht),f.rX,hs,sliced]
theorem uD {A:Y5}{B n c i:Nat}{cs:Y8}(j:∀a,A=some a->a=⟨a.block,0,none⟩)(g:yp w B sz A n c cs)(f:Zj S T sz by_ z)(h:o.op=.slice S x (some y) none none)(h1:ρ x=.slice A n c)(h2:ρ y=.int .i64 (i:Int))(q:i<=n)(W:World):(oB ρ o).run Y3 W=.ok (.value (.slice (Au A c i sz) (n-i) (c-i))) W:=by
 rcases A with _|a
 ·have hc:=g.nil rfl;have C:=g.le;subst hc;obtain rfl:n=0:=by omega
  obtain rfl:i=0:=by omega
  exact uE f h h1 h2
 ·rw[j a rfl] at h1 ⊢;exact Np f h h1 h2 q
theorem Af {A:Y5}{B n c i:Nat}{cs:Y8}(h:∀a,A=some a->a=⟨a.block,0,none⟩)(f:yp w B sz A n c cs)(q:i<=n):yp w B sz (Au A c i sz) (n-i) (c-i) (cs.drop (i*sz)):=by
 rcases A with _|a
 ·have hc:=f.nil rfl;have C:=f.le;subst hc;obtain rfl:n=0:=by omega
  obtain rfl:i=0:=by omega
  have hl:=f.len;rw[Nat.zero_mul] at hl ⊢;rw[List.drop_zero];exact f
 ·obtain⟨g,j⟩:∃g,a=⟨g,0,none⟩:=⟨_,h a rfl⟩;subst j
  by_cases hc:c=i
  ·have C:=f.le;obtain rfl:n=i:=by omega
   subst hc;refine⟨by omega,by omega,(λe=>by cases e),?_,λv E=>f.one v (qV E),λF=>by omega⟩;rw[qD,f.len,<-Nat.sub_mul]
  ·have:=f.drop i q;rw[qC] at this;unfold Au;rw[Option.map_some,if_neg hc];exact this
end
theorem Lw (cs:List yN)(k:Nat):(yc cs).take (k*2)=yc (cs.take k):=by
 induction cs generalizing k with
 | nil=>simp[yc]
 | cons c cs ih =>
  cases k with
  | zero=>simp[yc]
  | succ k =>
   have e:yc (c::cs)=xc c++yc cs:=rfl;have f:yc ((c::cs).take (k+1))=xc c++yc (cs.take k):=rfl;rw[e,f,<-ih k,show (k+1)*2=(xc c).length+k*2 from by show _=2+_;omega,List.take_length_add_append]
theorem Lx (cs:List yN)(k:Nat):(yc cs).drop (k*2)=yc (cs.drop k):=by
 induction cs generalizing k with
 | nil=>simp[yc]
 | cons c cs ih =>
  cases k with
  | zero=>simp[yc]
  | succ k =>
   have e:yc (c::cs)=xc c++yc cs:=rfl;have f:yc ((c::cs).drop (k+1))=yc (cs.drop k):=rfl;rw[e,f,<-ih k,show (k+1)*2=(xc c).length+k*2 from by show _=2+_;omega,List.drop_length_add_append]
theorem IQ {w:World}{base:Nat}{T:oD}{sz n:Nat}{A:Y5}{c:Nat}{cs:Y8}(h:w.ownsRow base T sz (.slice A n c) n cs):∀a,A=some a->a=⟨a.block,0,none⟩:=λa e=>by
 subst e;rcases h.2 with⟨h',_⟩|⟨g',cap',cur,h',_⟩
 ·cases h'
 ·injection h' with h'
  injection h' with h'
  rw[h']
theorem CX {l:List yN}(h:qg l)(e:yN):putE l e=(Xs l e.1).take (yQ e.1 ((Xs l e.1).map (·.1)))++e::(Xs l e.1).drop (yQ e.1 ((Xs l e.1).map (·.1))):=by
 have hn:∀x∈Xs l e.1,x.1≠e.1:=λx A g=>by have:=(yB.1 A).2;rw[g] at this;simp at this
 have hs:qg (Xs l e.1):=h.filter _;rw[<-SY hs e hn];unfold putE Xs;rw[List.filter_filter,List.filter_filter];have j:∀x:yN,xD x.1 e.1=(xD x.1 e.1&&!(x.1.toList==e.1.toList)):=λx=>by
  cases f:x.1.toList==e.1.toList with
  | false=>simp
  | true =>
   have:x.1=e.1:=Zq (by simpa using f);rw[this,xo];rfl
 have q:∀x:yN,xD e.1 x.1=(xD e.1 x.1&&!(x.1.toList==e.1.toList)):=λx=>by
  cases f:x.1.toList==e.1.toList with
  | false=>simp
  | true =>
   have:x.1=e.1:=Zq (by simpa using f);rw[this,xo];rfl
 congr 1
 ·exact List.filter_congr λx _=>j x
 ·congr 1;exact List.filter_congr λx _=>q x
theorem RF (w:World)(l:List yN)(A:Y5)(c B:Nat)(a0:yp w B 2 A l.length c (yc l))(aX:B<=w.heap.size)(hl:l.length<=60)(a5:qg l)(e:yN):pr Y3 19 #[.slice A l.length c,.agg (xc e).toArray] w λx w'=>∃v,x=.returned v/\w'.ownsRow w.heap.size 36 2 v (putE l e).length (yc (putE l e))/\ph w.heap.size w w':=by
 have aO:=CX a5 e;have bN:=Ox l e.1;obtain⟨W1,aY,U,b1⟩:=YK w 36 (xc e).toArray;have HD:=RG W1 l A c B (a0.below (U.mono aX)) (zT aX U.size) hl e.1;obtain⟨at_,aI⟩:=Z9 (yQ e.1 ((Xs l e.1).map (·.1)));rw[<-aI] at aO;generalize Xs l e.1=d at *;generalize putE l e=pl at *;have bA:=pk aO;have aS:=pk aI;have bB:=pk aY.symm;have a4:=U.size;have bR:=b1.lt;clear aY aO aI a0 a5
 go_enter func19,ntmps19
 have bH:(xc e).toArray.size=2:=rfl
 go_wp2_with fail
 rw[bB.out];refine HD.mono ?_;rintro x w2 ⟨v2,rfl,own2,Z⟩;obtain⟨A2,c2,rfl,E⟩:=qn own2 (jo d);have aR:=pk (IQ own2);have bQ:=E.le;have bI:=Z.size;have bJ:w.heap.size<=w2.heap.size:=zT a4 bI;have f:=b1.below Z b1.lt;have bE:ph w.heap.size w w2:=U.trans (Z.mono a4);clear HD own2 Z b1
 go_wp2_with fail
 go_loopw [6] (λi wr=>∃(k:Nat),k<=d.length/\i=.int .i64 k/\(∀j,(h:j<(d.map (·.1)).length)->j<k->xD (d.map (·.1))[j] e.1=true)/\ph w2.heap.size w2 wr) (λi _=>d.length-(intOf i).toNat)
 case atStart=>exact⟨0,by omega,rfl,λj _ h=>by omega,pf _ _⟩
 case round =>
  obtain⟨k,hk,rfl,C,G⟩:=hrel;have br:=f.below G f.lt;have e0:wr.cell? ⟨w.heap.size,0,none⟩=some (.string e.1):=by rw[br.cell];rfl
  have bS:(d.map (·.1)).length=d.length:=qE _;have bT:(k:Int)<=(d.length:Int):=by omega
  by_cases aM:k<d.length
  case' pos =>
   obtain⟨g,o,rfl,hg,_⟩:=E.rC (by omega);have d0:wr.cell? ⟨g,o+k*2,none⟩=some (.string d[k].1):=(G.cell (p:=⟨g,_,none⟩) hg).trans (Rh E rfl k aM 0 _ rfl);have aB:(d.map (·.1))[k]'(by omega)=d[k].1:=List.getElem_map _;have aN:xD d[k].1 e.1=true->∀j,(h:j<(d.map (·.1)).length)->j<k+1->xD (d.map (·.1))[j] e.1=true:=λh1 j hj bP=>by
    by_cases ej:j=k
    ·subst ej;rw[aB];exact h1
    ·exact C j hj (by omega)
   have aJ:xD d[k].1 e.1=false->at_=k:=λh1=>aS.out.trans (YB e.1 _ k (by omega) C (λ_=>by rw[aB];exact h1))
   generalize d[k].1=s at *;have bK:IntKind.i64.wrap ((k:Int)+1)=(k:Int)+1:=xd _;have i1:(0:Int)<=(k:Int):=by omega
   have i2:(k:Int)<(d.length:Int):=by omega
   by_cases hs:xD s e.1=true
   case' pos =>
    have a3:oa s.toList e.1.toList=true:=hs;have O:=pk (aN hs);clear aN aJ C aB;go_wp2
    go_quiet (fail)
    go_wp2;exact⟨⟨k+1,by omega,by simp,O.out,below_drewN G _⟩,by simp[intOf];omega⟩
   case' neg =>
    have a3:oa s.toList e.1.toList=false:=by simpa[xD] using hs
    have O:=pk (aJ (by simpa using hs));clear aN aJ C aB hs;go_wp2
    go_quiet (fail)
    clear a3 aM d0 i1 i2 bK hg;generalize (some (⟨g,o,none⟩:px))=A2 at *
  case' neg =>
   have O:=pk (aS.out.trans (YB e.1 _ k (by omega) C (λh=>by omega)));have i2:¬ (k:Int)<(d.length:Int):=by omega
   clear C;go_wp2
   go_quiet (fail)
   clear aM i2
  all_goals
   have aC:((wr.drewN nq).alloc (.cells #[] 36)).ownsRow wr.heap.size 36 2 (.slice (some ⟨wr.heap.size,0,none⟩) 0 0) 0 []:=World.ownsRow_lit (wr.drewN nq) #[] 0 (zG _) (by decide) rfl;have a1:k<=c2:=by omega
   have bL:w2.heap.size<=wr.heap.size:=G.size;have aW:ph w2.heap.size w2 (wr.drewN nq):=below_drewN G nq;have aF:ph w2.heap.size w2 ((wr.drewN nq).alloc (.cells #[] 36)):=aW.trans ((jf (wr.drewN nq) (.cells #[] 36)).mono bL);have aE:wr.heap.size<=((wr.drewN nq).alloc (.cells #[] 36)).heap.size:=(jf (wr.drewN nq) (.cells #[] 36)).size;obtain⟨W3,aH⟩:=Z9 ((wr.drewN nq).alloc (.cells #[] 36));rw[<-aH] at aC aF aE;have a7:=(E.below aF).take k c2 hk a1 (zG _);have bC:=pk aH.symm;clear aH aW br e0
   go_wp2_with (first
    | (refine zr rfl (XM MT rfl rfl rfl a1) ?_)
    | (at_builtin;rw[bC.out];refine xy rfl MT _ _ rfl wr.heap.size _ 0 [] rfl aC _ _ k c2 _ rfl a7 (by unfold oo;omega) (by omega) aE ?_;intro v5 w5 aD aK))
   have bG:ph w2.heap.size w2 w5:=aF.trans (zl aK (by omega) (λr M=>by have:=zh aC r M;omega));have bM:wr.heap.size<=w5.heap.size:=zT aE aK.size;have aV:ph w2.heap.size w2 w5.drew:=bG.drew;have b5:za w5.drew w.heap.size 36 (xc e).toArray:=f.below aV f.lt;have aD:w5.drew.ownsRow wr.heap.size 36 2 v5 (0+k) _:=aD.drew;have bO:w5.drew.heap.size=w5.heap.size:=rfl;clear a7 aC aK;refine zb.st (λW:World=>za W w.heap.size 36 (xc e).toArray) 99 ?_;generalize w5.drew=q at *;refine zb.q0 0 (v5) b5 ?_;simp only[zD,zB,pj,zA,zF,zE];refine zb.t0 1 (.agg (xc e).toArray) rfl b5 (λW I=>by exact QU Pm I bH rfl rfl) ?_;refine zb.q0 4 (.slice A2 d.length c2) b5 ?_;refine zb.q0 5 (.int .i64 (k:Int)) b5 ?_;simp only[Z8];refine zb.t0 6 (.slice (Au A2 c2 k 2) (d.length-k) (c2-k)) rfl b5 (λW I=>by exact uD aR.out E MT rfl rfl rfl hk W) ?_;simp only[Z8];have aU:ph w2.heap.size w2 (q.alloc (.cells (xc e).toArray 36)):=aV.trans ((jf q _).mono (by omega));have a8:=Yu q 36 2 (xc e) rfl (jo [e]);have aP:(q.alloc (.cells (xc e).toArray 36)).ownsRow wr.heap.size 36 2 v5 (0+k) _:=aD.alloc _;have b6:=b5.alloc (.cells (xc e).toArray 36);have aT:wr.heap.size<=(q.alloc (.cells (xc e).toArray 36)).heap.size:=by rw[pq];omega
   refine zb.n 2 ?_;refine zb.opV (w':=q.alloc (.cells (xc e).toArray 36)) (.slice (some ⟨q.heap.size,0,none⟩) 1 1) rfl rfl (Uz e rfl rfl) ⟨λ_=>b6,?_⟩;simp only[Z8];generalize q.alloc (.cells (xc e).toArray 36)=W6 at *;refine zb.n 3 ?_;refine Jf rfl rfl MT (.tmp 33) (.tmp 35) rfl wr.heap.size v5 (0+k) _ rfl aP _ _ 1 1 (xc e) rfl a8 (by unfold oo;omega) (by omega) aT ?_;intro v7 w7 aQ aL;have aA:ph w2.heap.size w2 w7:=aU.trans (zl aL (by omega) (λr M=>by have:=zh aP r M;omega));have b7:za w7 w.heap.size 36 (xc e).toArray:=f.below aA f.lt;have bD:wr.heap.size<=w7.heap.size:=zT aT aL.size;have a6:=(Af (i:=k) aR.out E hk).below aA;refine⟨λ_=>b7,?_⟩;simp only[Z8];refine zb.n 7 ?_;refine Jf rfl rfl MT (.tmp 36) (.tmp 39) rfl wr.heap.size v7 (0+k+1) _ rfl aQ _ _ (d.length-k) (c2-k) _ rfl a6 (by unfold oo;omega) (by omega) bD ?_;intro v8 w8 a9 aZ;have aG:ph w2.heap.size w2 w8:=aA.trans (zl aZ (by omega) (λr M=>by have:=zh aQ r M;omega));have b8:za w8 w.heap.size 36 (xc e).toArray:=f.below aG f.lt;refine⟨λ_=>b8,?_⟩;simp only[Z8];refine zb.n 8 ?_;refine zb.opV (w':=w8) v8 rfl rfl (by go_simp) ⟨λ_=>b8,?_⟩;simp only[Z8];refine zb.dn ?_;have F:w8.ownsRow w.heap.size 36 2 v8 pl.length (yc pl):=by
    refine yS (b:=wr.heap.size) ?_ (by omega);have a2:pl=d.take k++e::d.drop k:=by rw[bA.out,O.out]
    have e1:pl.length=0+k+1+(d.length-k):=by rw[a2,zH,zL,zZ,qD];omega
    have e2:yc pl=[]++(yc d).take (k*2)++xc e++(yc d).drop (k*2):=by rw[a2,Ke,Lw,Lx,zQ,qO];rfl
    rw[e1,e2];exact a9
   have bF:ph w.heap.size w w8:=bE.trans (aG.mono bJ);clear a9 aQ aP aD a6 a8 aL aZ b8 b7 b6 b5 aG aA aU;go_wp2;go_ret;exact⟨_,rfl,F,bF⟩
theorem xX (e:Int)(w:World):pr Y3 7 #[.int .i64 e] w λx w'=>x=.returned (.int .i64 e)/\w=w':=by
 go_enter func7,ntmps7
 go_wp2;go_ret;exact⟨rfl,rfl⟩
structure tt (w:World)(K:xH)(p:Nat)(v:yz)(w':World):Prop where
 ok:K.Ok
 is:qv w K p v jB jB true (.slice none 0 0) w'
 nn:v.N<=3
 ii:v.i<=2
 sz:v.S.sz=1
 dd:v.D=λ_=>none
 yy:v.Y K 0=jc jB
theorem Dq (w:World)(pg room:Int)(P:Nat)(C:xB 400 pg=true)(hP:(P:Int)=pg)(aF:P<=900)(F:2<=room/\room<=2000)(aJ:(P:Int)<=room):pr Y3 16 #[.int .i64 pg,.int .i64 room] w λe w'=>∃K p v,e=Y0 (.tuple #[.pointer (some ⟨p,0,none⟩),.bool true])/\(K.P=P/\K.pg=pg/\K.fr=400/\K.room=room)/\tt w K p v w':=by
 have E:=(vN 400 pg).1 C;obtain⟨many,aR⟩:∃many:Nat,many=3602+8*P:=⟨_,rfl⟩;have B:(many:Int)=2+9*400+8*pg:=by omega
 have aH:many<=40000:=by omega
 have aQ:1<=many:=by omega
 have aM:∀W,pr Y3 36 #[.agg #[.int .i64 400,.int .i64 pg]] W λe w'=>e=Y0 (.int .i64 (many:Int))/\ph W.heap.size W w':=λW=>by rw[B];exact VD 400 pg W E.1 E.2
 obtain⟨W1,aG,g,b6⟩:=YK w 74 #[.int .i64 400,.int .i64 pg];have aN:=pk aG.symm;have I:=pk B;have M:=pk C;have O:=pk hP;clear aG aR B C hP E
 go_enter func16,ntmps16
 go_wp2_with fail
 rw[aN.out];refine(aM _).mono ?_;rintro e w2 ⟨rfl,j⟩
 go_wp2_with fail
 refine(IW _ many aQ aH).mono ?_;rintro e w3 ⟨d,rfl,aO,aC,aB⟩;have A:=j.trans (aB.mono j.size);have aA:=g.trans (A.mono g.size);have U:=b6.below A b6.lt;have aP:=zT (g.trans (j.mono g.size)).size aO;have G:=Lp w3 d many 400 pg aA aP aC M.out I.out (by omega)
 go_wp2_with (refine zr rfl (QT Zs U rfl rfl rfl) ?_)
 refine G.mono ?_;rintro e w4 ⟨f,l,rfl,aD,aT,aU⟩;clear G
 go_wp2_with fail
 refine(IC (P:=P) (room:=room) aD M.out I.out aH O.out aF F aJ).mono ?_;rintro e w5 (⟨_,p,a,r,v0,rfl,aI,n0,i0,s0,Z,y0⟩|⟨h,_⟩)
 rotate_left
 ·exact absurd F h
 obtain⟨K,q⟩:∃K:xH,K=⟨d,f,l,a,r,many,P,400,pg,room⟩:=⟨_,rfl⟩;rw[<-q] at aI y0;have hK:K.Ok:=by rw[q];exact⟨O.out,aF,F,aJ⟩
 have aE:K.P=P/\K.pg=pg/\K.fr=400/\K.room=room:=by rw[q];exact⟨rfl,rfl,rfl,rfl⟩
 have aL:=pk aE;have aK:=pk Z;clear q aE Z aD aC g A aB j aA b6 U
 go_wp2_with (first
  | (go_at_call 7;refine(xX _ _).mono ?_;rintro e wn ⟨rfl,rfl⟩)
  | (go_at_call 39;refine(RM aI).mono ?_;rintro e w6 ⟨rfl,aS,_⟩))
 exact oE (oN rfl _ _ _) rfl ⟨K,p,v0,rfl,aL.out,hK,aS,n0,i0,s0,aK.out,y0⟩
def OU (W W':World):Prop:=W.heap.size<=W'.heap.size/\∀b T cs,za W b T cs->Qg T->za W' b T cs
section
variable {W0 W W':World}{K:xH}{p t:Nat}{k:Int}{v v':yz}{st last st' last':qm}{under:Bool}{mk mk':Value}{ms:List vK}
theorem CZ (h:qe W0 K p t 0 v st last true mk ms W)(j:K.Ok)(q:450<=K.pg)(A:v.N<=500000){es:List yN}(B:jM K v.D st es)(I:es.length<=60)(ky u:ByteArray)(C:ky.size<=81)(F:u.size<=400){q1 q2:Nat}(b1:za W q1 9 #[.string ky])(f:za W q2 9 #[.string u]):pr Y3 44 #[.agg #[.pointer (some ⟨t,0,none⟩)],.pointer (some ⟨q1,0,none⟩),.pointer (some ⟨q2,0,none⟩)] W (wM W0 K p t last mk ms v W (putE es (ky,u))):=by
 obtain⟨used,free,root,E,g,⟨rfl,rfl,rfl⟩|⟨d,x,ps,hu,G,hl,M⟩⟩:=B.has
 ·exact Ez h j q A E g ky u C F b1 f
 ·exact Ey h j q A B.so I E g hu G hl M ky u C F b1 f
theorem CB (h:qe W0 K p t 0 v st last true mk ms W)(O:K.Ok)(aC:450<=K.pg)(aG:ms.length<=800)(hN:v.N<=500000){es:List yN}(U:jM K v.D st es)(aF:es.length<=60)(ky u:ByteArray)(aE:ky.size<=81)(aI:u.size<=400):pr Y3 18 #[.pointer (some ⟨t,0,none⟩),.string ky,.string u] W λe w'=>e=Y0 (.int .i64 0)/\∃v' st' mk',qe W0 K p t 0 v' st' last true mk' ms w'/\jM K v'.D st' (putE es (ky,u))/\v'.N<=v.N+800/\OU W w':=by
 obtain⟨W1,Z,q,b4,b5⟩:=Bp W 9 #[.string ky] 9 #[.string u];have h1:=h.grow q;have G:=h1.none;have aJ:(ky.size:Int)<=81:=by omega
 have F:=Mx h1 O aG 44 (.pointer (some ⟨W.heap.size,0,none⟩)) (.pointer (some ⟨W.heap.size+1,0,none⟩)) (zb.eo func44) (λ_=>False) (λ_ e=>e.elim)
  (λv' st' w=>jM K v'.D st' (putE es (ky,u))/\v'.N<=v.N+800/\∀b T cs,za W1 b T cs->Qg T->za w b T cs) (λW' mk' M B hs ht=>by
   refine(CZ ht O aC hN U aF ky u aE aI (B _ _ _ b4 (by decide)) (B _ _ _ b5 (by decide))).mono ?_;rintro e w' ⟨v',st',hz,aH,C,E,aD,I⟩
   exact⟨v',st',hz,aH,⟨C,E,λb T cs g f=>I.blk (B b T cs g f) (ht.rD (B b T cs g f) f)⟩,aD,I.more λj hj _ => .inl hj⟩)
 have c4:=b4.boxed;have c5:=b5.boxed;have aB:=pk Z.symm;clear Z h h1 U b4 b5
 go_enter func18,ntmps18
 go_wp2_with (first
  | (go_at_call 42;rw[aB.out];refine G.mono ?_;rintro e w2 ⟨rfl,rfl⟩))
 refine F.mono ?_;rintro e w3 ⟨v',st',w1,rfl,⟨C,E,aA⟩,A⟩;obtain⟨mk',h3⟩:=A.at_;have HB:OU W w3:=⟨zT q.size A.up,λb T cs g f=>A.rE b T cs (zO g.lt q.size) (aA b T cs (g.below q g.lt) f) f⟩;clear F G A aA;go_wp2;go_ret;exact⟨rfl,v',st',mk',h3,C,E,HB⟩
end
def uq (e:yN):Bool:=decide (e.1.size<=81)&&decide (e.2.size<=400)
def xx (es:List yN)(e:yN):List yN:=if uq e=true then putE es e else es
def kV (l:List yN):List yN:=(l.take 60).foldl xx []
theorem PZ (l:List yN)(k:Nat)(h:k<l.length):(l.take (k+1)).foldl xx []=xx ((l.take k).foldl xx []) l[k]:=by
 rw[zU h,List.foldl_append];rfl
theorem GN:∀(l es:List yN),(l.foldl xx es).length<=es.length+l.length
 | [],es=>by simp
 | a::l,es=>by
  have:=GN l (xx es a);have h2:(xx es a).length<=es.length+1:=by
   unfold xx;split
   ·exact ZJ _ _
   ·omega
  simp only[List.foldl_cons,zL];omega
theorem GM:∀(l es:List yN),qg es->qg (l.foldl xx es)
 | [],_,h=>h
 | a::l,es,h=>GM l _ (by
  unfold xx;split
  ·exact h.sW _
  ·exact h)
theorem Cj (l:List yN):qg (kV l):=GM _ _ mQ
theorem Sz (l:List yN):(kV l).length<=60:=by
 have:=GN (l.take 60) [];unfold kV;simp at this;omega
theorem Eg (l:List yN)(k:Nat):((l.take k).foldl xx []).length<=k:=by
 have:=GN (l.take k) [];simp at this;omega
theorem IS {W W':World}{base n:Nat}{v:Value}{cs:Y8}(h:W.ownsRow base 36 2 v n cs)(A:OU W W'):W'.ownsRow base 36 2 v n cs:=by
 refine⟨h.1,?_⟩;rcases h.2 with h|⟨g,f,cur,h1,h2,j,q⟩
 ·exact .inl h
 ·exact .inr ⟨g,f,cur,h1,h2,A.2 g 36 cur j (by decide),q⟩
structure Ju (w:World)(K:xH)(p t N:Nat)(es:List yN)(V:Value)(W:World):Prop where
 tr:∃v st mk,qe w K p t 0 v st jB true mk [] W/\jM K v.D st es/\v.N<=N
 own:W.ownsRow w.heap.size 36 2 V es.length (yc es)
theorem uy {K:xH}(g:450<=K.pg){D:Int->Option Y4}(f:D=λ_=>none):jM K D jB []:=by
 subst f;refine⟨⟨[],[],0,⟨by simp,by simp,rfl,(λp b e=>by cases e),by simp,rfl,rfl,?_⟩,rfl,.inl ⟨rfl,rfl,rfl⟩⟩,mQ⟩;show (1:Int)<=K.pg
 omega
theorem Gn (w:World)(l:List yN)(A:Y5)(c:Nat)(aG:yp w w.heap.size 2 A l.length c (yc l)):pr Y3 5 #[.slice A l.length c] w λe w'=>∃K p t V,e=Y0 (.tuple #[.pointer (some ⟨t,0,none⟩),V,.bool true])/\K.Ok/\450<=K.pg/\Ju w K p t 60000 (kV l) V w':=by
 have aL:xB 400 500=true:=by decide
 go_enter func5,ntmps5
 go_wp2_with fail
 refine(Dq w 500 520 500 aL rfl (by decide) (by decide) (by decide)).mono ?_;rintro e w1 ⟨K,p,v0,rfl,⟨aW,a5,_,aX⟩,E⟩;have O:=E.ok;have aK:=E.is;have m0:=E.nn;have aE:jM K v0.D jB []:=uy (by omega) E.dd;clear E aL aX aW
 go_wp2_with fail
 refine(Fs aK (vc.nil _ _ _ _) (by decide) 0 0 rfl).mono ?_;rintro e w2 ⟨t,rfl,h2,_⟩;replace h2:qe w K p t 0 v0 jB jB true (.slice none 0 0) [] w2:=h2;have M2:Ju w K p t 10 [] (.slice none 0 0) w2:=⟨⟨v0,jB,_,h2,aE,by omega⟩,World.ownsRow_nil _ _ _ _⟩;clear aK aE h2
 go_wp2_with (first
  | (go_at_call 7;refine(xX _ _).mono ?_;rintro e wn ⟨rfl,rfl⟩))
 go_loopw [9,10] (λV i wr=>∃(k:Nat),k<=l.length/\k<=60/\i=.int .i64 k/\Ju w K p t (10+800*k) ((l.take k).foldl xx []) V wr) (λ_ i _=>l.length-(intOf i).toNat)
 case atStart=>exact⟨0,by omega,by omega,rfl,M2⟩
 case round =>
  obtain⟨k,hk,a9,rfl,hM⟩:=hrel;obtain⟨⟨v,st,mk,q,B,hN⟩,C⟩:=hM;have a1:ph w.heap.size w wr:=q.pa.ca.cs.fh.up;have a8:(0:Int)<=(k:Int):=by omega
  have bA:IntKind.i64.wrap ((k:Int)+1)=(k:Int)+1:=xd _
  by_cases aI:k<l.length
  ·have i2:(k:Int)<(l.length:Int):=by omega
   by_cases a4:k<60
   ·have i3:(k:Int)<60:=by omega
    obtain⟨g,o,rfl,hg,_⟩:=aG.rC (by omega);have Z:=Rh aG rfl k aI;have aA:wr.rangeAt g (o+k*2) (xc l[k]):=λj v U=>(a1.cell (p:=⟨g,_,none⟩) hg).trans (Z j v U)
    have aJ:=PZ l k aI;have a7:=Eg l k;have aZ:qg ((l.take k).foldl xx []):=GM _ _ mQ;generalize l[k]=x at *;generalize (l.take k).foldl xx []=es at *;obtain⟨ky,u⟩:=x;have d0:wr.cell? ⟨g,o+k*2,none⟩=some (.string ky):=aA 0 _ rfl;have d1:wr.cell? ⟨g,o+k*2+1,none⟩=some (.string u):=aA 1 _ rfl;have I:=pk aJ;have aT:=pk Z;clear aJ Z
    by_cases aH:ky.size<=81
    ·have aY:¬ (81:Int)<(ky.size:Int):=by omega
     by_cases aN:u.size<=400
     ·have a0:¬ (400:Int)<(u.size:Int):=by omega
      go_wp2_with fail
      have aF:=q.grow (pf _ wr).drew;have HP:=CB aF O (by omega) (by decide) (by omega) B (by omega) ky u aH aN;have f:wr.drew.cell? ⟨g,o+k*2,none⟩=some (.string ky)/\wr.drew.cell? ⟨g,o+k*2+1,none⟩=some (.string u):=⟨d0,d1⟩;have aS:=C.drew;refine zb.st (λW:World=>W.cell? ⟨g,o+k*2,none⟩=some (.string ky)/\W.cell? ⟨g,o+k*2+1,none⟩=some (.string u)) 99 ?_;clear q C aF;generalize wr.drew=wd at *;refine zb.q0 0 (.pointer (some ⟨t,0,none⟩)) f ?_;refine zb.q0 1 (.slice (some ⟨g,o,none⟩) l.length c) f ?_;refine zb.q0 2 (.int .i64 (k:Int)) f ?_;refine zb.q0 3 (.pointer (some ⟨g,o+k*2,none⟩)) f ?_;refine zb.q0 4 (.pointer (some ⟨g,o+k*2,none⟩)) f ?_;refine zb.q0 5 (.string ky) f ?_;refine zb.q0 6 (.slice (some ⟨g,o,none⟩) l.length c) f ?_;refine zb.q0 7 (.int .i64 (k:Int)) f ?_;refine zb.q0 8 (.pointer (some ⟨g,o+k*2,none⟩)) f ?_;refine zb.q0 9 (.pointer (some ⟨g,o+k*2+1,none⟩)) f ?_;refine zb.q0 10 (.string u) f ?_;simp only[Z8];refine zb.n 11 ?_;refine zb.oC 18 #[.tmp 53,.tmp 58,.tmp 63] #[23,9,9] #[.pointer (some ⟨t,0,none⟩),.string ky,.string u] (HP.mono ?_) (zb.eo func18);rintro e w5 ⟨rfl,v5,a3,a2,M,aC,a6,aD⟩;have aO:ph w.heap.size w w5:=M.pa.ca.cs.fh.up;have aB:w5.rangeAt g (o+k*2) (xc (ky,u)):=λj v U=>(aO.cell (p:=⟨g,_,none⟩) hg).trans (aT.out j v U)
      have G:w5.cell? ⟨g,o+k*2,none⟩=some (.string ky)/\w5.cell? ⟨g,o+k*2+1,none⟩=some (.string u):=⟨aB 0 _ rfl,aB 1 _ rfl⟩;have aQ:=IS aS aD;refine⟨_,rfl,λ_=>G,?_⟩;simp only[Z8];refine zb.n 12 ?_;refine zb.oC 7 #[.tmp 64] #[27] #[.int .i64 0] ((xX _ _).mono ?_) (zb.eo func7);rintro e w6 ⟨rfl,rfl⟩;refine⟨_,rfl,λ_=>G,?_⟩;simp only[Z8];refine zb.n 13 ?_;refine zb.opV (w':=w5) (.bool false) rfl rfl (by go_simp) ⟨λ_=>G,?_⟩;simp only[Z8];refine zb.dn ?_;obtain⟨A5,c5,rfl,aP⟩:=qn aQ (jo es);have HQ:=RF w5 es A5 c5 _ aP (zG _) (by omega) aZ (ky,u);have aM:xx es (ky,u)=putE es (ky,u):=by unfold xx uq;rw[if_pos (by simp[aH,aN])]
      have aU:=pk aM;have s5:=aO.size;clear aM HP f G d0 d1 aA B aP aQ aS aD
      go_wp2_with (first
       | (refine zr rfl (yX Pm aB rfl rfl rfl) ?_))
      refine HQ.mono ?_;rintro e w7 ⟨V7,rfl,aR,aV⟩;have F:Ju w K p t (10+800*(k+1)) ((l.take (k+1)).foldl xx []) V7 w7:=by rw[I.out,aU.out];exact⟨⟨v5,a3,a2,M.grow aV,aC,by omega⟩,yS aR s5⟩
      clear HQ M aC aR
      go_wp2_with fail
      exact⟨⟨k+1,by omega,by omega,by simp,F⟩,by simp[intOf];omega⟩
     ·have a0:(400:Int)<(u.size:Int):=by omega
      go_wp2;have F:Ju w K p t (10+800*(k+1)) ((l.take (k+1)).foldl xx []) u9 wr:=by rw[I.out,show xx es (ky,u)=es from if_neg (by unfold uq;simp;omega)];exact⟨⟨v,st,mk,q,B,by omega⟩,C⟩
      exact⟨⟨k+1,by omega,by omega,by simp,F⟩,by simp[intOf];omega⟩
    ·have aY:(81:Int)<(ky.size:Int):=by omega
     go_wp2;have F:Ju w K p t (10+800*(k+1)) ((l.take (k+1)).foldl xx []) u9 wr:=by rw[I.out,show xx es (ky,u)=es from if_neg (by unfold uq;simp;omega)];exact⟨⟨v,st,mk,q,B,by omega⟩,C⟩
     exact⟨⟨k+1,by omega,by omega,by simp,F⟩,by simp[intOf];omega⟩
   ·have i3:¬ (k:Int)<60:=by omega
    go_wp2;refine oE (JJ rfl (vn 2 rfl) (vn 3 rfl) (vn 4 rfl)) rfl ⟨K,p,t,u9,rfl,O,by omega,⟨v,st,mk,q,?_,by omega⟩,?_⟩
    ·rw[show kV l=(l.take k).foldl xx [] from by unfold kV;rw[show k=60 from by omega]];exact B
    ·rw[show kV l=(l.take k).foldl xx [] from by unfold kV;rw[show k=60 from by omega]];exact C
  ·have i2:¬ (k:Int)<(l.length:Int):=by omega
   go_wp2;refine oE (JJ rfl (vn 2 rfl) (vn 3 rfl) (vn 4 rfl)) rfl ⟨K,p,t,u9,rfl,O,by omega,⟨v,st,mk,q,?_,by omega⟩,?_⟩
   ·rw[show kV l=(l.take k).foldl xx [] from by unfold kV;rw[qB (show l.length<=60 by omega),qB (show l.length<=k by omega)]];exact B
   ·rw[show kV l=(l.take k).foldl xx [] from by unfold kV;rw[qB (show l.length<=60 by omega),qB (show l.length<=k by omega)]];exact C
section
variable {W0 W W':World}{K:xH}{p t:Nat}{k:Int}{v v':yz}{st last:qm}{under:Bool}{mk:Value}{ms:List vK}
theorem yf.sK {x:yo}{Ac Ak Ai:Y5}{cc ck ci b B:Nat}(h:yf W K p v x Ac cc Ak ck Ai ci)(A:YG B x Ac Ak Ai)(E:b<B)(q:ze (λj=>j=b) W W'):yf W' K p v x Ac cc Ak ck Ai ci :=
 ⟨⟨h.is.c.rG (λf g o e C=>by have:=A g o (.inl ⟨f,e⟩);omega) q,h.is.k.rG (λf g o e C=>by have:=A g o (.inr (.inl ⟨f,e⟩));omega) q,h.is.i.rG (λf g o e C=>by have:=A g o (.inr (.inr ⟨f,e⟩));omega) q⟩,h.c,h.k,h.i⟩
theorem Vm (h:qe W0 K p t k v st last under mk ms W)(hK:K.Ok)(hN:v.N<=800000)(n:Int)(hn:1<=n/\n<st.size)(hP:n<(K.P:Int))(hT:¬ jK K v.D)(x:yo)(hx:XE K v n x):pr Y3 94 #[.pointer (some ⟨t,0,none⟩),.int .i64 n] W λe w'=>∃v' Ac cc Ak ck Ai ci,e=Y0 (.tuple #[.agg (zu x Ac cc Ak ck Ai ci),.int .i64 0])/\yf w' K p v' x Ac cc Ak ck Ai ci/\YG W.heap.size x Ac Ak Ai/\qe W0 K p t k v' st last under mk ms w'/\Xo K v v'/\qa K W v v'/\ze (qp K p v) W w':=by
 have a0:=h.up;obtain⟨W1,C⟩:=Z9 ((W.alloc (.cells YN 69)).alloc (.cells #[.int .i64 0] 27));have O:ph W.heap.size W W1:=by rw[C];exact VX _ _ _
 have b4:za W1 W.heap.size 69 YN:=by rw[C];exact(za.new W _ _).alloc _
 have b5:za W1 (W.heap.size+1) 27 #[.int .i64 0]:=by have:=za.new (W.alloc (.cells YN 69)) 27 #[.int .i64 0];rw[pq] at this;rw[C];exact this
 have aY:W1.heap.size=W.heap.size+1+1:=by rw[C,pq,pq]
 have h1:=h.grow O;have aC:=h1.none;have aB:=QW h1 hK hN n hn hP hT x hx;have n4:=h1.rD b4 (by decide);have n5:=h1.rD b5 (by decide);unfold YN at C b4;have aL:=pk C.symm;clear C h h1 hx hn hP hT
 go_enter_defers func94,ntmps94
 go_wp2_with (first
  | (go_at_call 42;rw[aL.out];refine aC.mono ?_;rintro e w2 ⟨rfl,rfl⟩))
 refine aB.mono ?_;rintro e w2 ⟨v',Ac,cc,Ak,ck,Ai,ci,rfl,n2,h2,aT,aH,G,wx,aI,aQ,aV,aA⟩;obtain⟨N,I⟩:=Z9 (zu x Ac cc Ak ck Ai ci);have aF:N.size=4:=by rw[I];rfl
 have aE:∀u∈N.toList,u.oneCell'=true:=by rw[I];exact zy rfl rfl rfl rfl
 rw[<-I];have U:=G.blk b4 n4;have aD:=G.blk b5 n5;have aU:=G.size;have h3:=h2.rF (qj w2 W.heap.size N) U (by decide) (λm e=>by cases e) (by omega) (by decide);have Z:=U.setRow N;have E:=aD.rB (by omega:W.heap.size+1≠W.heap.size) N;have X2:yf w2 K p v' x Ac cc Ak ck Ai ci:=yf.own aI n2 aA;have M:YG W1.heap.size x Ac Ak Ai:=(Kr.ge (show Kr wx.heap.size Ac Ak Ai from aA.rows)).less aV;have x3:=X2.sK M (by omega:W.heap.size<W1.heap.size) (qj w2 W.heap.size N);obtain⟨q,B⟩:=Z9 (w2.setRow W.heap.size N);rw[<-B] at h3 Z E x3;have aW:=E.boxed;have aX:=E.free 0;have A:ze (λj=>j=W.heap.size+1) q (q.setCell ⟨W.heap.size+1,0,none⟩ (.int .i64 0)):=ze.setCell _ _ _ rfl;have h4:=h3.rF A E (by decide) (λm e=>by cases e) (by omega) (by decide);have aP:=E.set 0 (.int .i64 0);have aO:=A.blk Z (by omega);have aZ:q.heap.size=w2.heap.size:=by rw[B];simp[oe]
 have x4:=x3.sK M (by omega:W.heap.size+1<W1.heap.size) A;have XL:=M.less (by omega:W.heap.size<=W1.heap.size);have aR:ze (qp K p v) W (q.setCell ⟨W.heap.size+1,0,none⟩ (.int .i64 0)):=by have F:ze (qp K p v) W w2:=(ze.below O).trans G;refine⟨A.os.trans ((by rw[B];rfl:q.os=w2.os).trans F.os),A.tape.trans ((by rw[B];rfl:q.tape=w2.tape).trans F.tape),A.output.trans ((by rw[B];rfl:q.output=w2.output).trans F.output),by have:=A.size;have:=F.size;omega,λj hj hm => ?_⟩;refine(A.block j (by have:=F.size;omega) (by omega)).trans ((?_:q.heap[j]?=w2.heap[j]?).trans (F.block j hj hm));rw[B];exact oL _ _ j _ (by omega)
 have aS:qa K W v v':=aH.mono O.size;have aM:=pk B.symm;have aJ:=pk aE;have aK:=pk I;clear B aE I h2 h3 n2 X2 M x3 aI aQ aA G aH Z E aD b5 b4 A aB aC aU O;generalize aG:q.setCell ⟨W.heap.size+1,0,none⟩ (.int .i64 0)=W4 at *;have aN:=pk aG;clear aG
 go_wp2_with (first
  | (refine vW zj U aF aJ.out ?_;rw[aM.out]))
 rw[aN.out];refine leaves_cons (f:=75) (args:=#[.pointer (some ⟨W.heap.size+1,0,none⟩),.func (.func 156) #[] #[.pointer (some ⟨W.heap.size,0,none⟩)]]) (by simp) (by simp[go_sem]) ?_;refine(KF _ _ _).mono ?_;rintro e u' wz ⟨rfl,rfl,rfl⟩;exact⟨_,vq rfl (xF (g:=W.heap.size) 4 rfl zj aO aF) (Zr (p:=⟨W.heap.size+1,0,none⟩) 5 rfl (by simp[go_sem]) aP.boxed),v',Ac,cc,Ak,ck,Ai,ci,by rw[aK.out],x4,XL,h4,aT,aS,aR⟩
end
theorem NX (w:World)(A:Y5)(c:Nat)(l:List Int)(h:yp w w.heap.size 1 A l.length c (Xr l))(i:Int)(hl:l.length<=100000)(j:Nat)(q:i=(j:Int))(m:Int)(f:l[j]?=some m):pr Y3 97 #[.slice A l.length c,.int .i64 i] w λe w'=>e=Y0 (.tuple #[.int .i64 m,.bool true])/\w=w':=by
 have F:j<l.length:=(qQ.1 f).1;obtain⟨g,o,rfl,E,B⟩:=h.rC (by omega);have hc:w.cell? ⟨g,o+j,none⟩=some (.int .i64 m):=B j _ (by unfold Xr;rw[List.getElem?_map,f];rfl);subst q;have h1:¬ (j:Int)<0:=by omega
 have h2:(j:Int)<(l.length:Int):=by omega
 have C:¬ (l.length:Int)<=(j:Int):=by omega
 go_enter func97,ntmps97
 go_wp2;exact oE (oN rfl _ _ _) rfl ⟨rfl,rfl⟩
theorem wC (w:World)(A:Y5)(c n:Nat)(i:Int)(f:i<0∨(n:Int)<=i):pr Y3 97 #[.slice A n c,.int .i64 i] w λe w'=>e=Y0 (.tuple #[.int .i64 0,.bool false])/\w=w':=by
 rcases(by omega:i<0∨¬ i<0/\(n:Int)<=i) with h1|⟨h1,h2⟩
 ·go_enter func97,ntmps97
  go_wp2;exact oE (oN rfl _ _ _) rfl ⟨rfl,rfl⟩
 ·go_enter func97,ntmps97
  go_wp2;exact oE (oN rfl _ _ _) rfl ⟨rfl,rfl⟩
theorem NY (w:World)(A:Y5)(c:Nat)(l:List xK)(h:yp w w.heap.size 4 A l.length c (vV l))(i:Int)(hl:l.length<=100000)(j:Nat)(f:i=(j:Int))(M:j<l.length):pr Y3 96 #[.slice A l.length c,.int .i64 i] w λe w'=>e=Y0 (.tuple #[.agg (zm l[j]).toArray,.bool true])/\ph w.heap.size w w':=by
 obtain⟨g,o,rfl,I,_⟩:=h.rC (by omega);have O:=VU h rfl j M;obtain⟨E,B,q,b1⟩:=YK w 94 #[.string ⟨#[]⟩,.string ⟨#[]⟩,.int .i64 0,.int .i64 0];generalize l[j]=x at *;have U:E.rangeAt g (o+j*4) (zm x):=λi y f=>(q.cell (p:=⟨g,o+j*4+i,none⟩) I).trans (O i y f)
 have F:=b1.setRow (zm x).toArray;have G:=zf q (zG _) (zm x).toArray;have C:=pk B.symm;clear B;subst f;have h1:¬ (j:Int)<0:=by omega
 have h2:(j:Int)<(l.length:Int):=by omega
 have Z:¬ (l.length:Int)<=(j:Int):=by omega
 go_enter func96,ntmps96
 go_wp2_with (first
  | (rw[C.out];refine zr rfl (yX qt U rfl rfl rfl) ?_)
  | (refine zt rfl 94 (.tmp 4) (.tmp 18) rfl w.heap.size rfl rfl qt b1 rfl rfl (zy rfl rfl rfl rfl) ?_))
 exact oQ (vq rfl (xF (g:=w.heap.size) 4 rfl qt F rfl) (vn 5 rfl)) rfl ⟨rfl,G⟩
theorem wE (w:World)(A:Y5)(c n:Nat)(i:Int)(E:i<0∨(n:Int)<=i):pr Y3 96 #[.slice A n c,.int .i64 i] w λe w'=>e=Y0 (.tuple #[.agg (zm ⟨⟨#[]⟩,⟨#[]⟩,0,0⟩).toArray,.bool false])/\ph w.heap.size w w':=by
 obtain⟨C,f,q,b1⟩:=YK w 94 #[.string ⟨#[]⟩,.string ⟨#[]⟩,.int .i64 0,.int .i64 0];have j:=b1.setRow #[.string ⟨#[]⟩,.string ⟨#[]⟩,.int .i64 0,.int .i64 0];have B:=zf q (zG _) #[.string ⟨#[]⟩,.string ⟨#[]⟩,.int .i64 0,.int .i64 0];have h:=pk f.symm;clear f;rcases(by omega:i<0∨¬ i<0/\(n:Int)<=i) with h1|⟨h1,h2⟩
 all_goals
  go_enter func96,ntmps96
  go_wp2_with (first
   | (rw[h.out];refine xA qt b1 ?_)
   | (refine zt rfl 94 (.tmp 4) (.tmp 14) rfl w.heap.size rfl rfl qt b1 rfl rfl (zy rfl rfl rfl rfl) ?_))
  exact oQ (vq rfl (xF (g:=w.heap.size) 4 rfl qt j rfl) (vn 5 rfl)) rfl ⟨rfl,B⟩
theorem Fh (w:World):pr Y3 95 #[.int .i64 0] w λe w'=>(∃v,e=Y0 v)/\w=w':=by
 go_enter func95,ntmps95
 go_wp2;go_end0;exact⟨⟨_,rfl⟩,rfl⟩
def pick (up:Bool)(P:yN->Bool)(es:List yN):Option yN:=if up then es.find? P else es.reverse.find? P
def JB (up:Bool)(ks:List YJ)(i:Int)(rest done:List YJ):Prop:=if up then ks=done++rest/\i=(done.length:Int) else ks=rest.reverse++done/\i=(rest.length:Int)-1
def Vp (up:Bool)(i:Int):Int:=if up then i+1 else i-1
def GP (up:Bool)(k:YJ)(done:List YJ):List YJ:=if up then done++[k] else k::done
section
variable {up:Bool}{P:yN->Bool}{ks rest done:List YJ}{i:Int}{k:YJ}{e:yN}{a b:List yN}
theorem Sf:pick up P []=none:=by unfold pick;cases up<;>rfl
theorem DY (ha:pick up P a=none)(f:pick up P b=none):pick up P (a++b)=none:=by
 unfold pick at *;cases up<;>simp_all
theorem Gf:∀{l:List YJ},(∀j∈l,pick up P j.es=none)->pick up P (KZ l)=none
 | [],_=>Sf
 | j::l,h=>by rw[kO];exact DY (h j (by simp)) (Gf λj f=>h j (by simp[f]))
theorem JB.next (h:JB up ks i (k::rest) done):JB up ks (Vp up i) rest (GP up k done):=by
 unfold JB Vp GP at *;cases up
 ·simp only[oF,if_false,mj,qO,zX,zQ,zL] at h ⊢;exact⟨h.1,by have:=h.2;omega⟩
 ·simp only[if_true,qO,zX,zQ,zH,zL,zY] at h ⊢;exact⟨h.1,by have:=h.2;omega⟩
theorem JB.at_ (h:JB up ks i (k::rest) done):∃j:Nat,i=(j:Int)/\ks[j]?=some k:=by
 unfold JB at h;cases up
 ·simp only[oF,if_false,mj,qO,zX,zQ,zL] at h;refine⟨rest.length,by omega,?_⟩;rw[h.1,qU (by simp)];simp
 ·simp only[if_true] at h;refine⟨done.length,h.2,?_⟩;rw[h.1,qU (by simp)];simp
theorem JB.out (h:JB up ks i [] done):i<0∨(ks.length:Int)<=i:=by
 unfold JB at h;cases up
 ·simp at h;omega
 ·simp at h;rw[h.1];omega
theorem JB.low (h:JB up ks i rest done) : -1<=i/\i<=(ks.length:Int):=by
 unfold JB at h;cases up
 ·simp only[oF,if_false] at h;rw[h.1,zH,List.length_reverse];omega
 ·simp only[if_true] at h;rw[h.1,zH];omega
theorem JB.pY (h:JB up ks i [] done)(hd:∀j∈done,pick up P j.es=none):pick up P (KZ ks)=none:=by
 have e:ks=done:=by unfold JB at h;cases up<;>simp at h<;>exact h.1
 rw[e];exact Gf hd
theorem JB.some_ (h:JB up ks i (k::rest) done)(hd:∀j∈done,pick up P j.es=none)(f:pick up P k.es=some e):pick up P (KZ ks)=some e:=by
 have hn:=Gf hd;unfold JB at h;unfold pick at *;cases up
 ·simp only[oF,if_false,mj,qO,zX,zQ] at h f hn ⊢;rw[h.1,YV,kO,nZ,nZ,nV,nV,hn,f];rfl
 ·simp only[if_true] at h f hn ⊢;rw[h.1,YV,kO,nV,nV,hn,f];rfl
theorem JB.sD (h:JB up ks i (k::rest) done):(Xk done).length+1+k.ps.length<=(Xk ks).length/\(Xk (GP up k done)).length=(Xk done).length+1+k.ps.length:=by
 unfold JB at h;unfold GP;cases up
 ·simp only[oF,if_false,mj,qO,zX,zQ] at h ⊢;rw[h.1,ku,jU];simp only[zH,zL];omega
 ·simp only[if_true] at h ⊢;rw[h.1,ku,ku,jU,jU];have e:Xk []=[]:=rfl;simp only[e,zH,zL,zY];omega
theorem JB.mem (h:JB up ks i (k::rest) done):k∈ks:=by
 obtain⟨j,_,f⟩:=h.at_;exact List.mem_of_getElem? f
theorem JB.dn (h:JB up ks i rest done):(Xk done).length<=(Xk ks).length:=by
 unfold JB at h;cases up
 ·simp only[oF,if_false] at h;rw[h.1,ku,zH];omega
 ·simp only[if_true] at h;rw[h.1,ku,zH];omega
theorem Pb (hd:∀j∈done,pick up P j.es=none)(g:pick up P k.es=none):∀j∈GP up k done,pick up P j.es=none:=λj f=>by
 unfold GP at f;cases up<;>simp at f
 ·rcases f with rfl|f
  ·exact g
  ·exact hd j f
 ·rcases f with f|rfl
  ·exact hd j f
  ·exact g
end
structure Tu (up:Bool)(P:yN->Bool)(cf kf:yo->Int):Prop where
 leaf:∀(D:Int->Option Y4) (x:yo) (es:List yN) (ps:List Int),ye D 0 x es ps->qg es->((cf x<0∨(x.cells.length:Int)<=cf x)/\pick up P es=none)∨∃(j:Nat) (hj:j<x.cells.length) (e:yN),cf x=(j:Int)/\pick up P es=some e/\x.cells[j].key=e.1
 inner:∀(x:yo) (es:List yN) (ps:List Int) (ks:List YJ),Ks x es ps ks->(∀k∈ks,k.es≠[])->∃rest done,JB up ks (kf x) rest done/\∀k∈done,pick up P k.es=none
theorem yh.sT {D:Int->Option Y4}{cs:List xK}{es:List yN}{ps:List Int}(h:yh D cs es ps)(j:Nat)(f:j<cs.length)(g:j<es.length):cs[j].key=es[j].1:=by
 have h2:=h.keys;have:(cs.map xK.key)[j]'(by simpa using f)=(es.map (·.1))[j]'(by simpa using g):=by simp only[h2]
 simpa using this
theorem Gy {x:yo}{es:List yN}{ps:List Int}{ks:List YJ}(C:Ks x es ps ks)(U:∀k∈ks,k.es≠[])(key:ByteArray):∃f k g,ks=f++k::g/\f.length=vv key x.keys/\(∀j∈f,∀e∈j.es,xD e.1 key=true)/\∀j∈g,∀e∈j.es,xD key e.1=true:=by
 have Z:x.keys.Pairwise (λa b=>xD a b=true):=C.sep.sorted λl hl=>by obtain⟨k,O,rfl⟩:=qP.1 hl;exact U k O
 obtain⟨L1,M,L2,h⟩:=C.sep.pT (vv key x.keys) (Vd key Z);obtain⟨f,K',E,B,F⟩:=List.map_eq_append_iff.1 h.eq;obtain⟨k,g,G,e5,I⟩:=List.map_eq_cons_iff.1 F;subst E G;refine⟨f,k,g,rfl,by rw[<-h.len,<-B,qE],λj A e q=>h.low e ?_,λj A e q=>h.high e ?_⟩
 ·rw[<-B];exact List.mem_flatten.2 ⟨j.es,qP.2 ⟨j,A,rfl⟩,q⟩
 ·rw[<-I];exact List.mem_flatten.2 ⟨j.es,qP.2 ⟨j,A,rfl⟩,q⟩
theorem UE {D:Int->Option Y4}{x:yo}{es:List yN}{ps:List Int}(h:ye D 0 x es ps)(key:ByteArray):yu x.leaf (qi x) key=yQ key (es.map (·.1)):=by
 obtain⟨h1,h2,g,j,f⟩:=h;have:qi x=es.map (·.1):=by unfold qi;rw[h1];exact f.keys
 rw[this,h1];rfl
theorem Kd {x:yo}{es:List yN}{ps:List Int}{ks:List YJ}(f:Ks x es ps ks)(key:ByteArray):yu x.leaf (qi x) key=vv key x.keys:=by
 unfold yu qi;rw[f.leaf];simp
theorem CL (key:ByteArray):Tu true (λe => !xD e.1 key) (λx=>(yu x.leaf (qi x) key:Int)) (λx=>(yu x.leaf (qi x) key:Int)):=by
 refine⟨λD x es ps h hs => ?_,λx es ps ks f I => ?_⟩
 ·simp only[UE h key];obtain⟨h1,h2,O,U,q⟩:=h;obtain⟨C,E⟩:=jn hs key;have Z:=q.length.1;generalize yQ key (es.map (·.1))=i at *;have F:∀e∈es.take i,(!xD e.1 key)=false:=λe g=>by rw[<-C] at g;rw[(yB.1 g).2];rfl
  have M:es.find? (λe => !xD e.1 key)=(es.drop i).find? (λe => !xD e.1 key):=by
   conv=>lhs;rw[<-qJ i es]
   rw[nV,List.find?_eq_none.2 λe g=>by rw[F e g];simp];rfl
  unfold pick;simp only[if_true,M];rcases nG i es.length with f|f
  ·right;refine⟨i,by omega,es[i],rfl,?_,q.sT i (by omega) f⟩;rw[qR f,me];rw[E es[i] (List.mem_drop_iff_getElem.2 ⟨0,by omega,by simp⟩)];rfl
  ·left;refine⟨.inr (by omega),?_⟩;rw[List.drop_eq_nil_of_le f];rfl
 ·obtain⟨A,k,B,rfl,hl,h1,_⟩:=Gy f I key;refine⟨k::B,A,?_,λj G => ?_⟩
  ·unfold JB;simp only[if_true,Kd f key,hl];exact⟨trivial,trivial⟩
  ·unfold pick;simp only[if_true];exact List.find?_eq_none.2 λe g=>by rw[h1 j G e g];simp
theorem Ej (key:ByteArray):Tu false (λe=>xD e.1 key) (λx=>(yu x.leaf (qi x) key:Int)-1) (λx=>(yu x.leaf (qi x) key:Int)):=by
 refine⟨λD x es ps h hs => ?_,λx es ps ks A M => ?_⟩
 ·simp only[UE h key];obtain⟨h1,h2,U,Z,q⟩:=h;obtain⟨F,G⟩:=jn hs key;have aA:=q.length.1;have I:=Xb key (es.map (·.1));rw[qE] at I;generalize yQ key (es.map (·.1))=i at *;have O:es.reverse.find? (λe=>xD e.1 key)=(es.take i).reverse.find? (λe=>xD e.1 key):=by
   conv=>lhs;rw[<-qJ i es]
   rw[nZ,nV,List.find?_eq_none.2 λe g=>by rw[G e (List.mem_reverse.1 g)];simp];rfl
  unfold pick;simp only[oF,if_false,O];cases i with
  | zero=>exact .inl ⟨.inl (by omega),rfl⟩
  | succ j =>
   right;have f:j<es.length:=by omega
   refine⟨j,by omega,es[j],by omega,?_,q.sT j (by omega) f⟩;have B:es[j]∈es.take (j+1):=List.mem_take_iff_getElem.2 ⟨j,by omega,rfl⟩;rw[<-F] at B;rw[zU f,nZ,ml,mP,me,(yB.1 B).2]
 ·obtain⟨C,k,E,rfl,hl,_,h2⟩:=Gy A M key;refine⟨(C++[k]).reverse,E,?_,λj f => ?_⟩
  ·unfold JB;simp only[oF,if_false,Kd A key,hl.symm];exact⟨by simp,by simp⟩
  ·unfold pick;simp only[oF,if_false];exact List.find?_eq_none.2 λe g=>by rw[vF (h2 j f e (List.mem_reverse.1 g))];simp
theorem Ek:Tu false (λ_=>true) (λx=>(x.cells.length:Int)-1) (λx=>(x.kids.length:Int)-1):=by
 refine⟨λD x es ps h hs => ?_,λx es ps ks q E => ?_⟩
 ·obtain⟨h1,h2,B,g,f⟩:=h;have C:=f.length.1;have F:=List.length_pos_iff.2 g;right;refine⟨x.cells.length-1,by omega,es[x.cells.length-1]'(by omega),by omega,?_,f.sT _ (by omega) (by omega)⟩;unfold pick;simp only[oF,if_false];have e:es.take (x.cells.length-1+1)=es:=qB (by omega)
  conv=>lhs;rw[<-e]
  rw[zU (by omega),nZ,ml,mP,me]
 ·refine⟨ks.reverse,[],?_,λj A=>by simp at A⟩;unfold JB;simp only[oF,if_false,q.kids];unfold Gs;exact⟨by simp,by simp⟩
def kv (k:ByteArray):ByteArray:=k++⟨#[0]⟩
theorem FB (k:ByteArray):(kv k).toList=k.toList++[0]:=by
 unfold kv;rw[mC,mC];simp
theorem Hr:∀k a:Y4,oa a (k++[0])=!oa k a
 | [],[]=>by simp[oa]
 | [],x::xs=>by simp[oa,UInt8.lt_iff_toNat_lt]
 | y::ys,[]=>by simp[oa]
 | y::ys,x::xs=>by
  have g:=Hr ys xs;simp only[zX,oa,g];rcases Nat.lt_trichotomy x.toNat y.toNat with h|h|h
  ·have h1:x<y:=UInt8.lt_iff_toNat_lt.2 h;have h2:¬ y<x:=λe=>by have:=UInt8.lt_iff_toNat_lt.1 e;omega
   have f:¬ y=x:=λe=>by rw[e] at h;omega
   simp[h1,h2,f]
  ·obtain rfl:=UInt8.toNat_inj.1 h;have h2:¬ x<x:=λe=>by have:=UInt8.lt_iff_toNat_lt.1 e;omega
   simp[h2]
  ·have h1:y<x:=UInt8.lt_iff_toNat_lt.2 h;have h2:¬ x<y:=λe=>by have:=UInt8.lt_iff_toNat_lt.1 e;omega
   have f:¬ x=y:=λe=>by rw[e] at h;omega
   simp[h1,h2,f]
theorem Gp (k a:ByteArray):xD a (kv k)=!xD k a:=by
 unfold xD;rw[FB];exact Hr _ _
theorem Ib (a:ByteArray):xD a ⟨#[]⟩=false:=by
 unfold xD;have e:(⟨#[]⟩:ByteArray).toList=[]:=by decide +kernel
 rw[e];cases a.toList<;>simp[oa]
section
variable {es:List yN}
theorem qg.lt (h:qg es){i j:Nat}(f:i<j)(g:j<es.length):xD es[i].1 es[j].1=true:=List.pairwise_iff_getElem.1 h i j (by omega) g f
theorem qg.le (h:qg es){i j:Nat}(g:i<=j)(f:j<es.length):xD es[j].1 (es[i]'(by omega)).1=false:=by
 rcases nG i j with e|e
 ·exact vF (h.lt e f)
 ·have:i=j:=by omega
  subst this;exact xo _
theorem MG {P:yN->Bool}(n:Nat)(h1:∀i (f:i<es.length),i<n->P es[i]=false)(h2:∀i (f:i<es.length),n<=i->P es[i]=true):pick true P es=es[n]?:=by
 unfold pick;simp only[if_true]
 conv=>lhs;rw[<-qJ n es]
 rw[nV,List.find?_eq_none.2 λe g => ?_,Option.none_or]
 ·rcases nG n es.length with hn|hn
  ·rw[qR hn,me,h2 n hn (zG _),zM hn]
  ·rw[List.drop_eq_nil_of_le hn,List.getElem?_eq_none hn];rfl
 ·obtain⟨i,f,rfl⟩:=List.mem_iff_getElem.1 g;rw[zZ] at f;rw[List.getElem_take,h1 i (by omega) (by omega)];simp
theorem MF {P:yN->Bool}(n:Nat)(hn:n<=es.length)(h1:∀i (f:i<es.length),i<n->P es[i]=true)(h2:∀i (f:i<es.length),n<=i->P es[i]=false):pick false P es=if n=0 then none else es[n-1]?:=by
 unfold pick;simp only[oF,if_false]
 conv=>lhs;rw[<-qJ n es]
 rw[nZ,nV,List.find?_eq_none.2 λe h => ?_,Option.none_or]
 ·cases n with
  | zero=>rfl
  | succ j =>
   have g:j<es.length:=by omega
   rw[zU g,nZ,ml,mP,me,h1 j g (by omega)];simp[zM g]
 ·obtain⟨i,f,rfl⟩:=List.mem_iff_getElem.1 (List.mem_reverse.1 h);rw[qD] at f;rw[List.getElem_drop,h2 (n+i) (by omega) (by omega)];simp
theorem LB:pick true (λe => !xD e.1 ⟨#[]⟩) es=es[0]?:=MG 0 (λi _ h=>by omega) λi _ _=>by rw[Ib];rfl
theorem IG:pick false (λ_=>true) es=if es.length=0 then none else es[es.length-1]?:=MF es.length (zG _) (λ_ _ _=>rfl) λi f h=>by omega
theorem IF (h:qg es)(n:Nat)(hn:n<es.length):pick true (λe => !xD e.1 (kv es[n].1)) es=es[n+1]?:=MG (n+1) (λi f hl=>by rw[Gp,h.le (by omega) hn];rfl) λi f hl=>by rw[Gp,h.lt (by omega) f];rfl
theorem IE (h:qg es)(n:Nat)(hn:n<es.length):pick false (λe=>xD e.1 es[n].1) es=if n=0 then none else es[n-1]?:=MF n (by omega) (λi f hl=>h.lt hl hn) λi f hl=>h.le hl f
theorem qg.inj (h:qg es){i j:Nat}(f:i<es.length)(g:j<es.length)(e:es[i].1=es[j].1):i=j:=by
 rcases Nat.lt_trichotomy i j with hl|hl|hl
 ·have:=h.lt hl g;rw[e,xo] at this;cases this
 ·exact hl
 ·have:=h.lt hl f;rw[e,xo] at this;cases this
end
namespace zb
section
variable {P:Program}{ops:Array Oper}{Q:Exit->Act->World->Prop}
theorem opCV {i:Nat}{o:Oper}{K:Act->World->Prop}{a:Act}{w:World}(x:py)(xs:Array py)(F:Array oD)(B:ops[i]?=some o)(A:o.guard=none)(hc:o.op=.call {callee:=.value x,args:=xs,argTypes:=F})(f:FuncId)(q:Y7)(E:a.eval x=.func (.func f) #[] q)
  (j:∀args w,(dF f args).run P w=.ok (.enter f args) w) (args:Y7) (ha:xs.map a.eval=args) (h:pr P f (args++q) w λe w'=>∃v,e=Y0 v/\K (a.put o.dst v) w'):wpOp P ops Q i K a w:=by
 unfold wpOp;simp only[B];rw[if_pos (by simp[Region.wanted,A])];left;have C:(oB a.eval o).run P w=.ok (.enter f (args++q)) w:=by simp[oB,hc,resolve,E,nh,invoke,<-ha,j]
 unfold Oper.wp;rw[C,Oper.upon_enter];refine h.mono ?_;rintro e w' ⟨v,rfl,g⟩;exact g
end
end zb
abbrev Nh:=Nat×oD×Y7
def xV (L:List Nh)(W:World):Prop:=∀x∈L,za W x.1 x.2.1 x.2.2/\Qg x.2.1
section
variable {W0 W W':World}{K:xH}{p t:Nat}{k:Int}{v v':yz}{st last:qm}{under:Bool}{mk:Value}{ms:List vK}{L:List Nh}
theorem xV.grow (h:xV L W)(hB:ph W.heap.size W W'):xV L W':=λx f=>⟨(h x f).1.below hB (h x f).1.lt,(h x f).2⟩
theorem xV.rH (h:xV L W)(ht:qe W0 K p t k v st last under mk ms W)(g:ze (qp K p v) W W'):xV L W':=λx f=>⟨g.blk (h x f).1 (ht.rD (h x f).1 (h x f).2),(h x f).2⟩
theorem xV.lt (h:xV L W):∀x∈L,x.1<W.heap.size:=λx f=>(h x f).1.lt
structure QJ (K:xH)(v v':yz)(m:Nat):Prop where
 nn:v'.N<=v.N+m
 ii:v'.i=v.i
 yy:v'.Y K=v.Y K
 sz:v'.S.sz=v.S.sz
 dd:v'.D=v.D
theorem Xo.m (h:Xo K v v'):QJ K v v' 1:=⟨h.nn,h.ii,h.yy,h.sz,h.dd⟩
theorem QJ.refl (K:xH)(v:yz):QJ K v v 0:=⟨zG _,rfl,rfl,rfl,rfl⟩
theorem QJ.trans {g:yz}{a b:Nat}(h:QJ K v v' a)(f:QJ K v' g b):QJ K v g (a+b):=⟨by have:=h.nn;have:=f.nn;omega,f.ii.trans h.ii,f.yy.trans h.yy,f.sz.trans h.sz,f.dd.trans h.dd⟩
theorem QJ.more {a b:Nat}(h:QJ K v v' a)(f:a<=b):QJ K v v' b:=⟨by have:=h.nn;omega,h.ii,h.yy,h.sz,h.dd⟩
end
structure JP where
 fc:Nat
 qc:Y7
 fk:Nat
 qk:Y7
 fn:Nat
def JP.val (s:JP):Y7:=#[.func (.func s.fc) #[] s.qc,.func (.func s.fk) #[] s.qk,.func (.func s.fn) #[] #[]]
structure Xg (L:List Nh)(s:JP)(up:Bool)(P:yN->Bool)(cf kf:yo->Int):Prop where
 ec:∀args w,(dF s.fc args).run Y3 w=.ok (.enter s.fc args) w
 ek:∀args w,(dF s.fk args).run Y3 w=.ok (.enter s.fk args) w
 en:∀args w,(dF s.fn args).run Y3 w=.ok (.enter s.fn args) w
 c:∀(W:World) (x:yo) (Ac:Y5) (cc:Nat) (Ak:Y5) (ck:Nat) (Ai:Y5) (ci:Nat),xV L W->XH W W.heap.size x Ac cc Ak ck Ai ci->x.cells.length<=1000->x.keys.length<=1000->x.kids.length<=1001->pr Y3 s.fc (#[.agg (zu x Ac cc Ak ck Ai ci)]++s.qc) W λe w'=>e=Y0 (.int .i64 (cf x))/\ph W.heap.size W w'
 k:∀(W:World) (x:yo) (Ac:Y5) (cc:Nat) (Ak:Y5) (ck:Nat) (Ai:Y5) (ci:Nat),xV L W->XH W W.heap.size x Ac cc Ak ck Ai ci->x.cells.length<=1000->x.keys.length<=1000->x.kids.length<=1001->pr Y3 s.fk (#[.agg (zu x Ac cc Ak ck Ai ci)]++s.qk) W λe w'=>e=Y0 (.int .i64 (kf x))/\ph W.heap.size W w'
 n:∀(W:World) (i:Int),-5<=i->i<=5000->pr Y3 s.fn #[.int .i64 i] W λe w'=>e=Y0 (.int .i64 (Vp up i))/\W=w'
 pl:Tu up P cf kf
theorem ES (W:World)(i:Int)(h1 : -5<=i)(h2:i<=5000):pr Y3 57 #[.int .i64 i] W λe w'=>e=Y0 (.int .i64 (Vp true i))/\W=w':=by
 have f:IntKind.i64.wrap (i+1)=i+1:=zg _
 go_enter func57,ntmps57
 go_wp2;go_ret;exact⟨rfl,rfl⟩
theorem KB (W:World)(i:Int)(h1 : -5<=i)(h2:i<=5000):pr Y3 32 #[.int .i64 i] W λe w'=>e=Y0 (.int .i64 (Vp false i))/\W=w':=by
 have f:IntKind.i64.wrap (i-1)=i-1:=zg _
 go_enter func32,ntmps32
 go_wp2;go_ret;exact⟨rfl,rfl⟩
section
variable {W:World}{x:yo}{Ac Ak Ai:Y5}{cc ck ci:Nat}
theorem YQ (q:Nat)(key:ByteArray)(hq:za W q 9 #[.string key])(F:XH W W.heap.size x Ac cc Ak ck Ai ci)(h1:x.cells.length<=1000)(h2:x.keys.length<=1000):pr Y3 55 #[.agg (zu x Ac cc Ak ck Ai ci),.pointer (some ⟨q,0,none⟩)] W λe w'=>e=Y0 (.int .i64 (yu x.leaf (qi x) key:Int))/\ph W.heap.size W w':=by
 obtain⟨N,h⟩:=Z9 (zu x Ac cc Ak ck Ai ci);have E:N.size=4:=by rw[h];rfl
 obtain⟨B,j,f,b1⟩:=YK W 69 N;have c1:=(hq.below f hq.lt).boxed;have g:=Xc B x Ac cc Ak ck Ai ci (F.grow f) (by omega) (by omega) key;unfold JA at g;rw[<-h] at g ⊢;have A:=pk j.symm;clear j h
 go_enter func55,ntmps55
 go_wp2_with (first
  | (rw[A.out];refine yV rfl 69 (.tmp 2) rfl W.heap.size rfl zj b1 E ?_)
  | (go_at_call 56;refine g.mono ?_;rintro e G ⟨rfl,C⟩))
 go_ret;exact⟨rfl,f.trans (C.mono f.size)⟩
theorem Mh (q1 q2:Nat)(key:ByteArray)(c2 c3:Value)(hq:za W q1 9 #[.string key])(A:za W q2 60 #[.func (.func 55) #[] #[.pointer (some ⟨q1,0,none⟩)],c2,c3])(I:XH W W.heap.size x Ac cc Ak ck Ai ci)(h1:x.cells.length<=1000)(h2:x.keys.length<=1000):pr Y3 54 #[.agg (zu x Ac cc Ak ck Ai ci),.pointer (some ⟨q2,0,none⟩)] W λe w'=>e=Y0 (.int .i64 ((yu x.leaf (qi x) key:Int)-1))/\ph W.heap.size W w':=by
 obtain⟨C,h,g,b1⟩:=YK W 69 (zu x Ac cc Ak ck Ai ci);have E:=A.below g A.lt;have c1:C.cell? ⟨q2,0,none⟩=some (.func (.func 55) #[] #[.pointer (some ⟨q1,0,none⟩)]):=by rw[E.cell];rfl
 have j:=YQ q1 key (hq.below g hq.lt) (I.grow g) h1 h2;obtain⟨N,q⟩:=Z9 (zu x Ac cc Ak ck Ai ci);have G:N.size=4:=by rw[q];rfl
 rw[<-q] at j h b1 ⊢;obtain⟨f,hf⟩:=Z9 (yu x.leaf (qi x) key);rw[<-hf] at j ⊢;have M:f<=1000:=by
  rw[hf];unfold yu qi;cases x.leaf
  ·have:=Kh key x.keys;simp;omega
  ·have:=Xb key (x.cells.map xK.key);simp at this ⊢;omega
 have O:IntKind.i64.wrap ((f:Int)-1)=(f:Int)-1:=zg _;rw[h] at c1;have B:=pk h.symm;clear h q hf
 go_enter func54,ntmps54
 go_wp2_with (first
  | (rw[B.out];refine yV rfl 69 (.tmp 2) rfl W.heap.size rfl zj b1 G ?_)
  | (go_at_call 55;refine j.mono ?_;rintro e U ⟨rfl,F⟩))
 go_ret;exact⟨rfl,g.trans (F.mono g.size)⟩
theorem Mj (h1:x.cells.length<=1000):pr Y3 30 #[.agg (zu x Ac cc Ak ck Ai ci)] W λe w'=>e=Y0 (.int .i64 ((x.cells.length:Int)-1))/\ph W.heap.size W w':=by
 have f:ph W.heap.size W (W.alloc (.cells (zu x Ac cc Ak ck Ai ci) 69)):=jf _ _;have g:IntKind.i64.wrap ((x.cells.length:Int)-1)=(x.cells.length:Int)-1:=zg _;unfold zu at *
 go_enter func30,ntmps30
 go_wp2;go_ret;exact⟨rfl,f⟩
theorem Mi (h1:x.kids.length<=1001):pr Y3 31 #[.agg (zu x Ac cc Ak ck Ai ci)] W λe w'=>e=Y0 (.int .i64 ((x.kids.length:Int)-1))/\ph W.heap.size W w':=by
 have f:ph W.heap.size W (W.alloc (.cells (zu x Ac cc Ak ck Ai ci) 69)):=jf _ _;have g:IntKind.i64.wrap ((x.kids.length:Int)-1)=(x.kids.length:Int)-1:=zg _;unfold zu at *
 go_enter func31,ntmps31
 go_wp2;go_ret;exact⟨rfl,f⟩
end
theorem UO:Qg 9:=by decide
theorem Zx:Qg 60:=by decide
theorem js:Qg 54:=by decide
theorem Pf {L:List Nh}{q:Nat}{key:ByteArray}(hq:(q,9,#[.string key])∈L):Xg L ⟨55,#[.pointer (some ⟨q,0,none⟩)],55,#[.pointer (some ⟨q,0,none⟩)],57⟩ true (λe => !xD e.1 key) (λx=>(yu x.leaf (qi x) key:Int)) (λx=>(yu x.leaf (qi x) key:Int)) :=
 ⟨zb.eo func55,zb.eo func55,zb.eo func57,λW x Ac cc Ak ck Ai ci f g h1 h2 _=>YQ q key (f _ hq).1 g h1 h2,λW x Ac cc Ak ck Ai ci f g h1 h2 _=>YQ q key (f _ hq).1 g h1 h2,ES,CL key⟩
theorem SF {L:List Nh}{q1 q2:Nat}{key:ByteArray}{c2 c3:Value}(hq:(q1,9,#[.string key])∈L)(h:(q2,60,#[.func (.func 55) #[] #[.pointer (some ⟨q1,0,none⟩)],c2,c3])∈L):Xg L ⟨54,#[.pointer (some ⟨q2,0,none⟩)],55,#[.pointer (some ⟨q1,0,none⟩)],32⟩ false (λe=>xD e.1 key) (λx=>(yu x.leaf (qi x) key:Int)-1) (λx=>(yu x.leaf (qi x) key:Int)) :=
 ⟨zb.eo func54,zb.eo func55,zb.eo func32,λW x Ac cc Ak ck Ai ci f g h1 h2 _=>Mh q1 q2 key c2 c3 (f _ hq).1 (f _ h).1 g h1 h2,λW x Ac cc Ak ck Ai ci f g h1 h2 _=>YQ q1 key (f _ hq).1 g h1 h2,KB,Ej key⟩
theorem SG (L:List Nh):Xg L ⟨30,#[],31,#[],32⟩ false (λ_=>true) (λx=>(x.cells.length:Int)-1) (λx=>(x.kids.length:Int)-1) :=
 ⟨zb.eo func30,zb.eo func31,zb.eo func32,λW x Ac cc Ak ck Ai ci _ _ h1 _ _=>Mj h1,λW x Ac cc Ak ck Ai ci _ _ _ _ f=>Mi f,KB,Ek⟩
theorem kC:yx Y3 60 3:=⟨⟨_,underlying60,rfl⟩,by kernel_rfl⟩
def XA:Option yN->ByteArray
 | some e=>e.1
 | none=>⟨#[]⟩
def kL:xK:=⟨⟨#[]⟩,⟨#[]⟩,0,0⟩
def Ol (up:Bool)(n:Nat)(i:Int):Nat:=if up then ((n:Int)-i).toNat else (i+1).toNat
theorem JB.less {up:Bool}{ks rest done:List YJ}{i:Int}{k:YJ}(h:JB up ks i (k::rest) done):Ol up ks.length (Vp up i)<Ol up ks.length i:=by
 have h1:=h.next.low;obtain⟨j,q,f⟩:=h.at_;have g:=(qQ.1 f).1;unfold Ol Vp at *;cases up<;>simp at *<;>omega
section
variable {W0:World}{K:xH}{p t c:Nat}{k:Int}{st last:qm}{under:Bool}{mk:Value}{ms:List vK}{used free:List Int}{D:Int->Option Y4}{L:List Nh}{s:JP}{up:Bool}{P:yN->Bool}{cf kf:yo->Int}{ky:ByteArray}{bb:Bool}
def QA (W0:World)(K:xH)(p t:Nat)(k:Int)(v:yz)(st last:qm)(under:Bool)(mk:Value)(ms:List vK)(W:World)(m:Nat)(r:Option yN)(e:dT)(w':World):Prop :=
 ∃cel v',e=Y0 (.tuple #[.agg (zm cel).toArray,.bool r.isSome])/\cel.key=XA r/\qe W0 K p t k v' st last under mk ms w'/\QJ K v v' m/\qa K W v v'/\ze (qp K p v) W w'
theorem AW (hs:Tu up P cf kf){x:yo}{es:List yN}{ps:List Int}(q:ye D 0 x es ps)(h:qg es)(hl:x.cells.length<=1000):∃f:xK,f.key=XA (pick up P es)/\∀(W:World) (Ac:Y5) (cc:Nat),yp W W.heap.size 4 Ac x.cells.length cc (vV x.cells) ->
  pr Y3 96 #[.slice Ac x.cells.length cc,.int .i64 (cf x)] W λe w'=>e=Y0 (.tuple #[.agg (zm f).toArray,.bool (pick up P es).isSome])/\ph W.heap.size W w':=by
 rcases hs.leaf D x es ps q h with⟨h1,h2⟩|⟨j,hj,e,h1,h2,h3⟩
 ·rw[h2];exact⟨kL,rfl,λW Ac cc _=>wE W Ac cc _ _ h1⟩
 ·rw[h2];exact⟨x.cells[j],h3,λW Ac cc g=>NY W Ac cc x.cells g _ (by omega) j h1 hj⟩
structure Jw (W0:World)(K:xH)(p t:Nat)(k:Int)(v:yz)(st last:qm)(under:Bool)(mk:Value)(ms:List vK)(used free:List Int)(D:Int->Option Y4)(W:World)(d:Nat)(n:Int)(x:yo)(es:List yN)(ps:List Int):Prop where
 at_:qe W0 K p t k v st last under mk ms W
 dd:v.D=D
 pl:xh K D st used free
 us:n∈used
 pg:D n=some (vE x)
 ln:(qb x).length<=512
 nd:ye D d x es ps
 sub:∀a∈ps,a∈used
 so:qg es
 many:es.length<=200
 nn:v.N+1+ps.length<=790000
theorem Jw.nod {v:yz}{W:World}{d:Nat}{n:Int}{x:yo}{es:List yN}{ps:List Int}(h:Jw W0 K p t k v st last under mk ms used free D W d n x es ps):XE K v n x:=by
 have:=h.pl.rP n (List.mem_append_left _ h.us);exact XE.of (by omega) (by rw[h.dd];exact h.pg) (h.nd.right h.so) h.ln
theorem PG (hK:K.Ok)(hs:Xg L s up P cf kf)(hc:(c,54,#[.pointer (some ⟨t,0,none⟩),.string ky,.bool bb])∈L){v:yz}{W:World}{n:Int}{x:yo}{es:List yN}{ps:List Int}(H:Jw W0 K p t k v st last under mk ms used free D W 0 n x es ps)(hL:xV L W):pr Y3 60 #[.pointer (some ⟨c,0,none⟩),.int .i64 n,.agg s.val] W (QA W0 K p t k v st last under mk ms W (1+ps.length) (pick up P es)):=by
 have h:=H.at_;have bO:=h.up;have bI:=hK.hP;have a7:=H.pl.rP n (List.mem_append_left _ H.us);have bN:=H.pl.sz;have hm:=H.nd.many;have bJ:=H.many;have bK:=H.nn;obtain⟨aW,a4,aS⟩:=AW hs.pl H.nd H.so (by omega);have bH:=H.nd.1;obtain⟨S,aR⟩:=Z9 s.val;have q:S[0]?=some (.func (.func s.fc) #[] s.qc):=by rw[aR];rfl
 obtain⟨W1,B⟩:=Z9 ((W.alloc (.cells S 60)).alloc (.cells (zm kL).toArray 94));have aE:ph W.heap.size W W1:=by rw[B];exact VX _ _ _
 have b5:za W1 W.heap.size 60 S:=by rw[B];exact(za.new W _ _).alloc _
 have b6:za W1 (W.heap.size+1) 94 (zm kL).toArray:=by have:=za.new (W.alloc (.cells S 60)) 94 (zm kL).toArray;rw[pq] at this;rw[B];exact this
 have bL:W1.heap.size=W.heap.size+1+1:=by rw[B,pq,pq]
 have h1:=h.grow aE;have aQ:=hL.grow aE;have c0:W1.cell? ⟨c,0,none⟩=some (.pointer (some ⟨t,0,none⟩)):=by rw[(aQ _ hc).1.cell];rfl
 have aT:=Vm h1 hK (by omega) n ⟨a7.1,a7.2⟩ (by omega) (by rw[H.dd];exact H.pl.loose hK) x H.nod;have n5:=h1.rD b5 Zx;have n6:=h1.rD b6 (by decide);unfold zm kL at B b6;rw[B] at c0;have bA:=pk B.symm;rw[<-aR];clear B h hL H aR
 go_enter func60,ntmps60
 go_wp2_with fail
 rw[bA.out];refine aT.mono ?_;rintro e f ⟨v',Ac,cc,Ak,ck,Ai,ci,rfl,X2,XG,h2,a5,a6,aB⟩;obtain⟨N,I⟩:=Z9 (zu x Ac cc Ak ck Ai ci);have a1:N.size=4:=by rw[I];rfl
 have bG:∀u∈N.toList,u.oneCell'=true:=by rw[I];exact zy rfl rfl rfl rfl
 rw[<-I];have aJ:=aB.blk b5 n5;have aK:=aB.blk b6 n6;have aZ:=aQ.rH h1 aB;have bM:=aB.size;obtain⟨W3,a2,aX,aU⟩:=YK f 69 #[.bool false,.slice none 0 0,.slice none 0 0,.slice none 0 0];have aO:ph f.heap.size f (W3.setRow f.heap.size N):=zf aX (zG _) _;have aH:=aU.setRow N;generalize a3:W3.setRow f.heap.size N=j at *;have aP:ph j.heap.size j j.drew:=(pf _ _).drew;have G:ph f.heap.size f j.drew:=aO.trans (aP.mono aO.size);have h4:=h2.grow G;have X4:=X2.grow G;have a0:=aZ.grow G;have aC:=aJ.below G aJ.lt;have aL:=aK.below G aK.lt;have U:=aH.below aP aH.lt;have d0:j.cell? ⟨f.heap.size,0,none⟩=some (.bool true):=by rw[aH.cell,I];simp[zu,bH]
 have d1:j.drew.cell? ⟨f.heap.size,1,none⟩=some (.slice Ac x.cells.length cc):=by rw[U.cell,I];rfl
 have s0:j.drew.cell? ⟨W.heap.size,0,none⟩=some (.func (.func s.fc) #[] s.qc):=by rw[aC.cell];exact q
 have q:j.drew.cell? ⟨f.heap.size,1,none⟩=some (.slice Ac x.cells.length cc)/\j.drew.cell? ⟨W.heap.size,0,none⟩=some (.func (.func s.fc) #[] s.qc)/\za j.drew f.heap.size 69 N:=⟨d1,s0,U⟩;have HC:=hs.c j.drew x Ac cc Ak ck Ai ci a0 X4.is (by omega) (by omega) (by omega);rw[<-I] at HC;have G4:ze (qp K p v) W j.drew:=((ze.below aE).trans aB).trans (ze.below G);have N4:qa K W v v':=a6.mono aE.size;have bB:=pk a2.symm;have bC:=pk a3;have a9:=pk a5;clear a2 a3 I h1 h2 aQ aZ b5 b6 aJ aK X2 XG aB a6 aX aO aP G aH aT aE a5 n5 n6 c0
 go_wp2_with (first
  | (rw[bB.out];refine vW zj aU a1 bG ?_;rw[bC.out])
  | (go_at_call 95;refine(Fh _).mono ?_;rintro e wm ⟨⟨_,rfl⟩,rfl⟩))
 refine zb.st (λW':World=>W'.cell? ⟨f.heap.size,1,none⟩=some (.slice Ac x.cells.length cc)/\W'.cell? ⟨W.heap.size,0,none⟩=some (.func (.func s.fc) #[] s.qc)/\za W' f.heap.size 69 N) 99 ?_;generalize j.drew=wd at *;refine zb.q0 0 (.pointer (some ⟨f.heap.size,1,none⟩)) q ?_;refine zb.q0 1 (.slice Ac x.cells.length cc) q ?_;refine zb.q0 2 (.pointer (some ⟨W.heap.size,0,none⟩)) q ?_;refine zb.q0 3 (.func (.func s.fc) #[] s.qc) q ?_;simp only[Z8];refine zb.t0 4 (.agg N) rfl q (λW ⟨Z,e1,E⟩=>by exact QU zj E a1 rfl rfl) ?_;simp only[Z8];refine zb.n 5 ?_;refine zb.opCV (.tmp 31) #[.tmp 32] #[69] rfl rfl rfl s.fc s.qc rfl hs.ec #[.agg N] (by simp only[zI,zJ,zN];rfl) (HC.mono ?_);rintro e w5 ⟨rfl,A⟩;have X5:=X4.grow A;have aM:=aL.below A aL.lt;have aD:=U.below A U.lt;have bD:=aC.below A aC.lt;have aI:w5.cell? ⟨f.heap.size,1,none⟩=some (.slice Ac x.cells.length cc)/\w5.cell? ⟨W.heap.size,0,none⟩=some (.func (.func s.fc) #[] s.qc)/\za w5 f.heap.size 69 N:=⟨(A.cell (p:=⟨f.heap.size,1,none⟩) U.lt).trans q.1,(A.cell (p:=⟨W.heap.size,0,none⟩) aC.lt).trans q.2.1,aD⟩;have HA:=aS w5 Ac cc X5.is.c;refine⟨_,rfl,λ_=>aI,?_⟩;simp only[Z8];refine zb.n 6 ?_;refine zb.oC 96 #[.tmp 29,.tmp 33] #[65,3] #[.slice Ac x.cells.length cc,.int .i64 (cf x)] (HA.mono ?_) (zb.eo func96);rintro e w6 ⟨rfl,aA⟩;have aN:=aM.below aA aM.lt;have aV:=aD.below aA aD.lt;have aG:w6.cell? ⟨f.heap.size,1,none⟩=some (.slice Ac x.cells.length cc)/\w6.cell? ⟨W.heap.size,0,none⟩=some (.func (.func s.fc) #[] s.qc)/\za w6 f.heap.size 69 N:=⟨(aA.cell (p:=⟨f.heap.size,1,none⟩) aD.lt).trans aI.1,(aA.cell (p:=⟨W.heap.size,0,none⟩) bD.lt).trans aI.2.1,aV⟩;refine⟨_,rfl,λ_=>aG,?_⟩;simp only[Z8];obtain⟨r,hr⟩:=Z9 ((pick up P es).isSome);rw[<-hr];obtain⟨C,aF⟩:=Z9 ((zm aW).toArray);have aY:C.size=4:=by rw[aF];rfl
 have bF:∀u∈C.toList,u.oneCell'=true:=by rw[aF];exact zy rfl rfl rfl rfl
 rw[<-aF];refine zb.q0 7 (.agg C) aG ?_;refine zb.q0 8 (.bool r) aG ?_;simp only[Z8];refine zb.n 9 ?_;have h7:=(h4.grow A).grow aA;have h8:=h7.rF (qj w6 (W.heap.size+1) C) aN (by decide) (λm e=>by cases e) (by omega) (by decide);have bE:=aN.setRow C;have M:ze (qp K p v) W w6:=(G4.trans (ze.below A)).trans (ze.below aA);have F:QA W0 K p t k v st last under mk ms W (1+ps.length) (pick up P es) (.returned (.tuple #[.agg C,.bool r])) (w6.setRow (W.heap.size+1) C) :=
  ⟨aW,v',by rw[aF,hr],a4,h8,a9.out.m.more (by omega),N4,⟨M.os,M.tape,M.output,by simp[oe];exact M.size,λa ha hm=>(oL _ _ a _ (by omega)).trans (M.block a ha hm)⟩⟩
 have a8:W.heap.size+1≠f.heap.size:=by omega
 have O:=aG;clear q aI aG X4 X5 h4 h7 h8 aC aL aM U aD aV HC HA aS G4 M aF hr a4 a0;refine zb.opS rfl rfl (vm 94 (.tmp 6) (.tmp 35) rfl (W.heap.size+1) rfl rfl qt aN rfl aY bF) ⟨λ_ => ?_,?_⟩
 ·exact⟨(oG (w:=w6) (oL _ _ _ _ (by show f.heap.size≠_;omega))).trans O.1,(oG (w:=w6) (oL _ _ _ _ (by show W.heap.size≠_;omega))).trans O.2.1,O.2.2.rB a8.symm C⟩
 simp only[zD,zC,zB,pj];refine zb.n 10 (zb.opV (w':=w6.setRow (W.heap.size+1) C) (.bool r) rfl rfl (by go_simp) ⟨λ_ => ?_,zb.dn ?_⟩)
 ·exact⟨(oG (w:=w6) (oL _ _ _ _ (by show f.heap.size≠_;omega))).trans O.1,(oG (w:=w6) (oL _ _ _ _ (by show W.heap.size≠_;omega))).trans O.2.1,O.2.2.rB a8.symm C⟩
 simp only[Z8];go_wp2;exact oQ (vq rfl (xF (g:=W.heap.size+1) 6 rfl qt bE aY) (vn 7 rfl)) rfl F
end
section
variable {W0:World}{K:xH}{p t c:Nat}{k:Int}{st last:qm}{under:Bool}{mk:Value}{ms:List vK}{used free:List Int}{D:Int->Option Y4}{L:List Nh}{s:JP}{up:Bool}{P:yN->Bool}{cf kf:yo->Int}{ky:ByteArray}{bb:Bool}
structure Bl (W0:World)(K:xH)(p t:Nat)(k:Int)(v:yz)(st last:qm)(under:Bool)(mk:Value)(ms:List vK)(L:List Nh)(W:World)(q5 q6 q8:Nat)(S N:Y7)(x:yo)(Ac:Y5)(cc:Nat)(Ak:Y5)(ck:Nat)(Ai:Y5)(ci:Nat)(up:Bool)(P:yN->Bool)(ks:List YJ)(j:Int)(rest done:List YJ)(v2:yz)(wr:World):Prop where
 at_:JB up ks j rest done
 no:∀a∈done,pick up P a.es=none
 tr:qe W0 K p t k v2 st last under mk ms wr
 km:QJ K v v2 (1+(Xk done).length)
 nd:yf wr K p v2 x Ac cc Ak ck Ai ci
 bx:xV L wr
 b5:za wr q5 60 S
 b6:za wr q6 94 (zm kL).toArray
 b8:za wr q8 69 N
 nm:qa K W v v2
 gb:ze (qp K p v) W wr
theorem AY {ks:List YJ}{a:YJ}(h:a∈ks):1+a.ps.length<=(Xk ks).length:=by
 obtain⟨A,B,rfl⟩:=List.append_of_mem h;rw[ku,jU];simp only[zH,zL];omega
theorem Fj (hK:K.Ok)(hs:Xg L s up P cf kf)(hc:(c,54,#[.pointer (some ⟨t,0,none⟩),.string ky,.bool bb])∈L){v:yz}{W:World}{d:Nat}{n:Int}{x:yo}{es:List yN}{ps:List Int}(H:Jw W0 K p t k v st last under mk ms used free D W (d+1) n x es ps)(hL:xV L W)
  (IH:∀(v:yz) (W:World) (n:Int) (x:yo) (es:List yN) (ps:List Int),Jw W0 K p t k v st last under mk ms used free D W d n x es ps->xV L W->pr Y3 60 #[.pointer (some ⟨c,0,none⟩),.int .i64 n,.agg s.val] W (QA W0 K p t k v st last under mk ms W (1+ps.length) (pick up P es))) :
  pr Y3 60 #[.pointer (some ⟨c,0,none⟩),.int .i64 n,.agg s.val] W (QA W0 K p t k v st last under mk ms W (1+ps.length) (pick up P es)):=by
 have h:=H.at_;have c5:=h.up;have cV:=hK.hP;have cB:=H.pl.rP n (List.mem_append_left _ H.us);have c4:=H.pl.sz;have hm:=H.nd.many;have cY:=H.many;have c1:=H.nn;have cU:=H.nd;obtain⟨ks,E,b7⟩:=cU;obtain⟨cD,bN,bW,cA⟩:=hs.pl.inner x es ps ks E (λa ha=>(b7 a ha).1.ne);have b4:x.kids.length=ks.length:=by rw[E.kids];unfold Gs;simp
 have c2:(Xk ks).length=ps.length:=by rw[E.sw]
 have a6:=E.sZ;have cS:=E.leaf;have cC:qg (KZ ks):=by rw[<-E.sZ];exact H.so
 have b3:∀a∈ks,a.es.length<=es.length:=λa ha=>by obtain⟨A,B,cJ⟩:=List.append_of_mem ha;rw[a6,cJ,YV,kO];simp only[zH];omega
 have aP:∀(a:YJ) (q:yz) (W2:World),a∈ks->qe W0 K p t k q st last under mk ms W2->QJ K v q (1+(ps.length-1-a.ps.length))->Jw W0 K p t k q st last under mk ms used free D W2 d a.pg a.nd a.es a.ps:=λa q W2 ha ht hk=>by obtain⟨a1,a2,a3⟩:=b7 a ha;obtain⟨m1,m2⟩:=Uo ha;have hl:=AY ha;exact⟨ht,hk.dd.trans H.dd,H.pl,H.sub _ (by rw[E.sw];exact m1),a2,a3,a1,λb hb=>H.sub _ (by rw[E.sw];exact m2 b hb),qg.sU cC a ha,by have:=b3 a ha;omega,by have:=hk.nn;omega⟩
 have a7:∀(a:YJ) (j:Nat),ks[j]?=some a->x.kids[j]?=some a.pg:=λa j ha=>by rw[E.kids];unfold Gs;rw[List.getElem?_map,ha];rfl
 obtain⟨S,aC⟩:=Z9 s.val;have cN:S.size=3:=by rw[aC];rfl
 have cL:S[1]?=some (.func (.func s.fk) #[] s.qk):=by rw[aC];rfl
 have cM:S[2]?=some (.func (.func s.fn) #[] #[]):=by rw[aC];rfl
 obtain⟨W1,O⟩:=Z9 ((W.alloc (.cells S 60)).alloc (.cells (zm kL).toArray 94));have aE:ph W.heap.size W W1:=by rw[O];exact VX _ _ _
 have b5:za W1 W.heap.size 60 S:=by rw[O];exact(za.new W _ _).alloc _
 have b6:za W1 (W.heap.size+1) 94 (zm kL).toArray:=by have:=za.new (W.alloc (.cells S 60)) 94 (zm kL).toArray;rw[pq] at this;rw[O];exact this
 have c3:W1.heap.size=W.heap.size+1+1:=by rw[O,pq,pq]
 have h1:=h.grow aE;have a0:=hL.grow aE;have c0:W1.cell? ⟨c,0,none⟩=some (.pointer (some ⟨t,0,none⟩)):=by rw[(a0 _ hc).1.cell];rfl
 have bB:=Vm h1 hK (by omega) n ⟨cB.1,cB.2⟩ (by omega) (by rw[H.dd];exact H.pl.loose hK) x H.nod;have n5:=h1.rD b5 Zx;have n6:=h1.rD b6 (by decide);unfold zm kL at O;rw[O] at c0;have bC:=pk O.symm;have a9:=pk a6;have cH:=pk aC;have bA:=pk b4;rw[<-aC];clear O h hL H aC a6 b3 cC b4
 go_enter func60,ntmps60
 go_wp2_with fail
 rw[bC.out];refine bB.mono ?_;rintro e f ⟨v',Ac,cc,Ak,ck,Ai,ci,rfl,X2,XG,h2,bZ,b9,aH⟩;obtain⟨N,aA⟩:=Z9 (zu x Ac cc Ak ck Ai ci);have bS:N.size=4:=by rw[aA];rfl
 have cK:∀u∈N.toList,u.oneCell'=true:=by rw[aA];exact zy rfl rfl rfl rfl
 rw[<-aA];have aQ:=aH.blk b5 n5;have aT:=aH.blk b6 n6;have bQ:=a0.rH h1 aH;obtain⟨W3,bT,bO,aW⟩:=YK f 69 #[.bool false,.slice none 0 0,.slice none 0 0,.slice none 0 0];have U:ph f.heap.size f (W3.setRow f.heap.size N):=zf bO (zG _) _;have aD:=aW.setRow N;generalize bU:W3.setRow f.heap.size N=W4 at *;have h4:=h2.grow U;have X4:=X2.grow U;have a4:=bQ.grow U;have aL:=aQ.below U aQ.lt;have aU:=aT.below U aT.lt;have d0:W4.cell? ⟨f.heap.size,0,none⟩=some (.bool false):=by rw[aD.cell,aA];simp[zu,cS]
 have s1:W4.cell? ⟨W.heap.size,1,none⟩=some (.func (.func s.fk) #[] s.qk):=by rw[aL.cell];exact cL
 have HC:=hs.k W4 x Ac cc Ak ck Ai ci a4 X4.is (by omega) (by omega) (by omega);rw[<-aA] at HC;have G4:ze (qp K p v) W W4:=((ze.below aE).trans aH).trans (ze.below U);have N4:qa K W v v':=b9.mono aE.size;have bD:=pk bT.symm;have bE:=pk bU;have cG:=pk aA;have cF:=pk bZ;have cW:=hs.ek;have cX:=hs.en;clear bT bU aA h1 h2 a0 bQ b5 b6 aQ aT X2 XG aH b9 bO U bB aE bZ n5 n6 c0
 go_wp2_with (first
  | (rw[bD.out];refine vW zj aW bS cK ?_;rw[bE.out])
  | (go_at_call 95;refine(Fh _).mono ?_;rintro e wm ⟨⟨_,rfl⟩,rfl⟩)
  | (refine yV rfl 69 (.tmp 8) rfl f.heap.size rfl zj aD bS ?_))
 refine HC.mono ?_;rintro e w5 ⟨rfl,I⟩;have h5:=h4.grow I;have X5:=X4.grow I;have bR:=a4.grow I;have bH:=aL.below I aL.lt;have bJ:=aU.below I aU.lt;have bL:=aD.below I aD.lt;have G5:ze (qp K p v) W w5:=G4.trans (ze.below I);have R0:Bl W0 K p t k v st last under mk ms L W W.heap.size (W.heap.size+1) f.heap.size S N x Ac cc Ak ck Ai ci up P ks (kf x) cD bN v' w5:=⟨bW,cA,h5,cF.out.m.more (by omega),X5,bR,bH,bJ,bL,N4,G5⟩;clear HC h4 X4 a4 aL aU aD aW G4 N4 h5 X5 bR bH bJ bL G5 I d0 s1 bW cA bD bE bC
 go_wp2_with fail
 go_loopw [10] (λi wr=>∃j rest done q,i=.int .i64 j/\Bl W0 K p t k v st last under mk ms L W W.heap.size (W.heap.size+1) f.heap.size S N x Ac cc Ak ck Ai ci up P ks j rest done q wr) (λi _=>match i with | .int _ m=>Ol up ks.length m|_=>0)
 case atStart=>exact⟨_,cD,bN,v',rfl,R0⟩
 case round =>
  obtain⟨j,rest,done,q,rfl,R⟩:=hrel;clear R0;have d3:wr.cell? ⟨f.heap.size,3,none⟩=some (.slice Ai x.kids.length ci):=by rw[R.b8.cell,cG.out];rfl
  have cZ:=R.at_.low;cases rest with
  | nil =>
   have HO:=wC wr Ai ci x.kids.length j (by have:=R.at_.out;have:=bA.out;omega);have aJ:pick up P es=none:=by rw[a9.out];exact R.at_.pY R.no
   have cP:=R.at_.dn;have hT:=R.tr;have hq:=hT.rF (qj wr (W.heap.size+1) (zm kL).toArray) R.b6 (by decide) (λm e=>by cases e) (by omega) (by decide);have bK:=R.b6;have aM:=R.b6.setRow (zm kL).toArray;have gR:=R.gb;have F:QA W0 K p t k v st last under mk ms W (1+ps.length) (pick up P es) (.returned (.tuple #[.agg (zm kL).toArray,.bool false])) (wr.setRow (W.heap.size+1) (zm kL).toArray):=by rw[aJ];exact⟨kL,q,rfl,rfl,hq,R.km.more (by omega),R.nm,⟨gR.os,gR.tape,gR.output,by simp[oe];exact gR.size,λa ha hm=>(oL _ _ a _ (by omega)).trans (gR.block a ha hm)⟩⟩
   unfold zm kL at F bK aM;clear R hq hT IH aP a7 gR aJ
   go_wp2_with (first
    | (go_at_call 97;refine HO.mono ?_;rintro e w6 ⟨rfl,rfl⟩)
    | (refine zt rfl 94 (.tmp 6) (.tmp 54) rfl (W.heap.size+1) rfl rfl qt bK rfl rfl (zy rfl rfl rfl rfl) ?_))
   exact oQ (vq rfl (xF (g:=W.heap.size+1) 6 rfl qt aM rfl) (vn 7 rfl)) rfl F
  | cons a rest =>
   obtain⟨i0,bY,cR⟩:=R.at_.at_;have cP:=R.at_.sD;have cO:=R.at_.mem;have HA:=NX wr Ai ci x.kids R.nd.is.i j (by omega) i0 bY a.pg (a7 a i0 cR);have HI:=IH q wr a.pg a.nd a.es a.ps (aP a q wr cO R.tr (R.km.more (by omega))) R.bx;unfold QA at HI;rw[<-cH.out] at HI;have bI:=R.b5;clear IH aP a7 bY
   go_wp2_with (first
    | (go_at_call 97;refine HA.mono ?_;rintro e w6 ⟨rfl,rfl⟩)
    | (refine yV rfl 60 (.tmp 5) rfl W.heap.size rfl kC bI cN ?_))
   refine HI.mono ?_;rintro e w6 ⟨bM,v3,rfl,bX,h6,b2,a8,Z⟩;have aR:=Z.blk R.b5 (R.tr.rD R.b5 Zx);have aV:=Z.blk R.b6 (R.tr.rD R.b6 (by decide));have aX:=Z.blk R.b8 (R.tr.rD R.b8 (by decide));have X6:=R.nd.rH Z a8;have L6:=R.bx.rH R.tr Z;have N6:qa K W v v3:=R.nm.trans a8 R.gb.size;have G6:ze (qp K p v) W w6:=Z.fresh R.gb R.nm R.gb.size;obtain⟨C,aG⟩:=Z9 ((zm bM).toArray);have aF:C.size=4:=by rw[aG];rfl
   have aZ:∀u∈C.toList,u.oneCell'=true:=by rw[aG];exact zy rfl rfl rfl rfl
   rw[<-aG];obtain⟨W7,a5,bP,aK⟩:=YK w6 94 (zm kL).toArray;have M:ph w6.heap.size w6 (W7.setRow w6.heap.size C):=zf bP (zG _) _;have cI:=aK.setRow C;generalize bV:W7.setRow w6.heap.size C=w8 at *;have h8:=h6.grow M;have aS:=aR.below M aR.lt;have aB:=aV.below M aV.lt;have aY:=aX.below M aX.lt;have X8:=X6.grow M;have L8:=L6.grow M;have G:ze (qp K p v) W w8:=G6.trans (ze.below M);have aN:QJ K v v3 (1+(Xk done).length+(1+a.ps.length)):=R.km.trans b2;have aI:=R.at_;have aO:=R.no;unfold zm kL at a5 aK;have bF:=pk a5.symm;have bG:=pk bV;have cE:=pk aG;have cQ:W0.heap.size<=W.heap.size+1:=by omega
   clear a5 bV aG R HI HA bI aR aV aX h6 b2 a8 Z G6 X6 L6 bP M d3;rcases hp:pick up P a.es with _|e1
   ·have c6:w8.cell? ⟨W.heap.size,2,none⟩=some (.func (.func s.fn) #[] #[]):=by rw[aS.cell];exact cM
    have HN:=hs.n w8 j (by omega) (by have:=bA.out;omega);have R8:Bl W0 K p t k v st last under mk ms L W W.heap.size (W.heap.size+1) f.heap.size S N x Ac cc Ak ck Ai ci up P ks (Vp up j) rest (GP up a done) v3 w8:=⟨aI.next,Pb aO hp,h8,aN.more (by omega),X8,L8,aS,aB,aY,N6,G⟩;have cT:=aI.less;clear aI aO h8 X8 L8 aB aY G aN hp
    go_wp2_with (first
     | (rw[bF.out];refine vW qt aK aF aZ ?_;rw[bG.out]))
    refine HN.mono ?_;rintro e w9 ⟨rfl,rfl⟩
    go_wp2_with fail
    exact⟨⟨_,rest,_,v3,rfl,R8⟩,cT⟩
   ·have aJ:pick up P es=some e1:=by rw[a9.out];exact aI.some_ aO hp
    have hq:=h8.rF (qj w8 (W.heap.size+1) C) aB (by decide) (λm e=>by cases e) cQ (by decide);have aM:=aB.setRow C;have F:QA W0 K p t k v st last under mk ms W (1+ps.length) (pick up P es) (.returned (.tuple #[.agg C,.bool true])) (w8.setRow (W.heap.size+1) C):=by rw[aJ];exact⟨bM,v3,by rw[cE.out];rfl,by rw[bX,hp],hq,aN.more (by omega),N6,⟨G.os,G.tape,G.output,by simp[oe];exact G.size,λa ha hm=>(oL _ _ a _ (by omega)).trans (G.block a ha hm)⟩⟩
    unfold zm kL at aB;clear aI aO h8 X8 L8 aS aY G aN hp hq aJ bX
    go_wp2_with (first
     | (rw[bF.out];refine vW qt aK aF aZ ?_;rw[bG.out])
     | (refine yV rfl 94 (.tmp 13) rfl w6.heap.size rfl qt cI aF ?_)
     | (refine vW qt aB aF aZ ?_))
    exact oQ (vq rfl (xF (g:=W.heap.size+1) 6 rfl qt aM aF) (vn 7 rfl)) rfl F
theorem Dw (f:K.Ok)(hs:Xg L s up P cf kf)(hc:(c,54,#[.pointer (some ⟨t,0,none⟩),.string ky,.bool bb])∈L):∀(d:Nat) (v:yz) (W:World) (n:Int) (x:yo) (es:List yN) (ps:List Int),Jw W0 K p t k v st last under mk ms used free D W d n x es ps->xV L W->pr Y3 60 #[.pointer (some ⟨c,0,none⟩),.int .i64 n,.agg s.val] W (QA W0 K p t k v st last under mk ms W (1+ps.length) (pick up P es))
 | 0,_,_,_,_,_,_,H,hL=>PG f hs hc H hL
 | d+1,_,_,_,_,_,_,H,hL=>Fj f hs hc H hL (Dw f hs hc d)
end
def wP (o:Obj):Prop:=(∃cs T,o=.cells cs T (0,0)/\Qg T)∨(o.isCells=false/\∀es c,o≠.map es c)
def xu (W W':World):Prop:=W.heap.size<=W'.heap.size/\∀(b:Nat) (o:Obj),W.heap[b]?=some o->wP o->W'.heap[b]?=some o
def vl (c:Nat)(W W':World):Prop:=W.heap.size<=W'.heap.size/\∀(b:Nat) (o:Obj),b≠c->W.heap[b]?=some o->wP o->W'.heap[b]?=some o
section
variable {W0 W W' X Y:World}{K:xH}{p t b c d:Nat}{k:Int}{v:yz}{st last:qm}{under:Bool}{mk:Value}{ms:List vK}{o:Obj}{T:oD}{cs:Y7}
theorem Ax (f:Qg T):wP (.cells cs T (0,0)):=.inl ⟨cs,T,rfl,f⟩
theorem Qk (h:W.heap[b]?=some o):b<W.heap.size:=(zK.1 h).1
theorem xu.trans (h:xu W X)(f:xu X Y):xu W Y:=⟨zT h.1 f.1,λb o j g=>f.2 b o (h.2 b o j g) g⟩
theorem xu.grow (h:ph W.heap.size W X):xu W X:=⟨h.size,λb _ f _=>(h.block b (Qk f)).trans f⟩
theorem qe.pV (h:qe W0 K p t k v st last under mk ms W)(B:W.heap[b]?=some o)(A:wP o):¬ qp K p v b:=by
 rcases A with⟨cs,T,rfl,A⟩|⟨h1,h2⟩
 ·exact h.rD B A
 ·have hc:∀{T:oD} {cs:Y7} {k:Nat},za W k T cs->b≠k:=λE e=>by
   subst e;have f:W.heap[b]?=some (.cells _ _ (0,0)):=E;rw[B] at f;injection f with f
   rw[f] at h1;cases h1
  have q:=h.pa.ca.cs.ca;rintro(e|e|e|⟨j,u,hu,e⟩)
  ·exact hc h.pa.pb e
  ·exact hc q.cb e
  ·obtain⟨es,C,F,_⟩:=q.mp;have g:W.heap[K.r]?=some (.map es C):=F;rw[<-e,B] at g;injection g with g
   exact h2 _ _ g
  ·exact hc (q.rows j u hu).blk e
theorem xu.rH (h:qe W0 K p t k v st last under mk ms W)(g:ze (qp K p v) W X):xu W X:=⟨g.size,λb _ f j=>(g.block b (Qk f) (h.pV f j)).trans f⟩
theorem xu.new (h:xu W X)(f:ze (λj=>j=d) X Y)(hd:W.heap.size<=d):xu W Y:=⟨zT h.1 f.size,λb o g q=>by
 have hl:=Qk g
 exact(f.block b (zO hl h.1) (by omega)).trans (h.2 b o g q)⟩
theorem vl.of (h:xu W X):vl c W X:=⟨h.1,λb o _ g f=>h.2 b o g f⟩
theorem vl.rH (h:vl c W X)(f:ze (λj=>j=c) X Y):vl c W Y:=⟨zT h.1 f.size,λb o hc g q=>(f.block b (zO (Qk g) h.1) hc).trans (h.2 b o hc g q)⟩
theorem vl.new (h:vl c W X)(f:ze (λj=>j=d) X Y)(hd:W.heap.size<=d):vl c W Y:=⟨zT h.1 f.size,λb o hc g q=>by
 have hl:=Qk g
 exact(f.block b (zO hl h.1) (by omega)).trans (h.2 b o hc g q)⟩
theorem vl.blk (h:vl c W X)(g:za W b T cs)(hc:b≠c)(f:Qg T):za X b T cs:=h.2 b _ hc g (Ax f)
end
theorem Mk (p f:Value)(w:World):CallsD Y3 58 #[p,f] .returning w λe h w'=>e=Y0 (.tuple #[])/\h=.returning/\w'=w:=by
 refine callsD_of_wpS func58 rfl λg cs hu => ?_
 apply wpS_seq;apply wpS_region;simp[wpOpsS,go_sem,recoverD,hu,ntmps58,Exit.thenS];apply wpS_seq;apply wpS_region;simp[wpOpsS,go_sem,Exit.thenS];refine wpS_cond (t:=false) (by simp[Act.eval,Array.replicate]) ?_;simp only[oF,if_false];refine wpS_of_wp (wp_skip ?_);cases g
 simp_all [bodyPostS,results,Tryz.results58]
section
variable {W0 W W':World}{K:xH}{p t c:Nat}{v v':yz}{st last:qm}{under:Bool}{mk:Value}{ms:List vK}{L:List Nh}{s:JP}{up:Bool}{P:yN->Bool}{cf kf:yo->Int}{ky:ByteArray}{bb:Bool}{es:List yN}
def XC (t:Nat)(ky:ByteArray)(bb:Bool):Y7:=#[.pointer (some ⟨t,0,none⟩),.string ky,.bool bb]
structure jI (W0:World)(K:xH)(p t c:Nat)(v:yz)(st last:qm)(under:Bool)(mk:Value)(ms:List vK)(W:World)(r:Option yN)(w':World):Prop where
 tr:∃v',qe W0 K p t 0 v' st last under mk ms w'/\QJ K v v' 200
 cu:za w' c 54 (XC t (XA r) r.isSome)
 kb:vl c W w'
theorem PF (h:qe W0 K p t 0 v st last under mk ms W)(I:K.Ok)(U:v.N<=700000)(g:jM K v.D st es)(Z:es.length<=61)(hs:Xg L s up P cf kf)(hc:(c,54,#[.pointer (some ⟨t,0,none⟩),.string ky,.bool bb])∈L)(M:xV L W){n:Int}(f:st.roots[0]?=some n)(hn:¬ n=0):pr Y3 60 #[.pointer (some ⟨c,0,none⟩),.int .i64 n,.agg s.val] W (QA W0 K p t 0 v st last under mk ms W 200 (pick up P es)):=by
 obtain⟨used,free,root,O,h1,⟨rfl,_⟩|⟨d,x,ps,hu,G,hl,j⟩⟩:=g.has
 ·rw[f] at h1;exact absurd (mL h1) hn
 ·rw[f] at h1;obtain rfl:=mL h1;have hf:=j.sV;refine(Dw I hs hc d v W n x es ps ⟨h,rfl,O,hu.mem_iff.2 (by simp),G,hl,j,λa ha=>hu.mem_iff.2 (by simp[ha]),g.so,by omega,by omega⟩ M).mono ?_;rintro e w' ⟨q,v',h2,A,B,C,E,F⟩;exact⟨q,v',h2,A,B,C.more (by omega),E,F⟩
theorem Em (g:jM K v.D st es)(f:st.roots[0]?=some 0):es=[]:=by
 obtain⟨used,free,root,h,h1,⟨_,h2,_⟩|⟨d,x,ps,hu,j,hl,q⟩⟩:=g.has
 ·exact h2
 ·rw[f] at h1;obtain rfl:=mL h1;have:=h.rP 0 (List.mem_append_left _ (hu.mem_iff.2 (by simp)));omega
theorem jM.root (f:jM K v.D st es):∃n,st.roots[0]?=some n:=by
 obtain⟨_,_,root,_,h1,_⟩:=f.has;exact⟨root,h1⟩
theorem Vg (h:qe W0 K p t 0 v st last under mk ms W)(hK:K.Ok)(hN:v.N<=700000)(hT:jM K v.D st es)(cS:es.length<=61)(hs:Xg L s up P cf kf)(hc:(c,54,#[.pointer (some ⟨t,0,none⟩),.string ky,.bool bb])∈L)(hL:xV L W)(b7:W0.heap.size<=c):pr Y3 29 #[.pointer (some ⟨c,0,none⟩),.agg s.val] W λe w'=>e=Y0 (.tuple #[.bool (pick up P es).isSome,.int .i64 0])/\jI W0 K p t c v st last under mk ms W (pick up P es) w':=by
 have c6:=h.up;obtain⟨n,h0⟩:=hT.root;obtain⟨S,a7⟩:=Z9 s.val;have cQ:S.size=3:=by rw[a7];rfl
 have c1:c<W.heap.size:=hL.lt _ hc;obtain⟨W1,O⟩:=Z9 ((((W.alloc (.cells S 60)).alloc (.cells #[.bool false] 4)).alloc (.cells #[.int .i64 0] 27)).alloc (.cells #[.string ⟨#[]⟩,.string ⟨#[]⟩,.int .i64 0,.int .i64 0] 94));have bS:ph W.heap.size W W1:=by rw[O];exact(Za _ _ _ _).alloc (by simp[pq];omega) _
 have b3:za W1 W.heap.size 60 S:=by rw[O];exact(((za.new W _ _).alloc _).alloc _).alloc _
 have b4:za W1 (W.heap.size+1) 4 #[.bool false]:=by have:=((za.new (W.alloc (.cells S 60)) 4 #[.bool false]).alloc (.cells #[.int .i64 0] 27)).alloc (.cells #[.string ⟨#[]⟩,.string ⟨#[]⟩,.int .i64 0,.int .i64 0] 94);rw[pq] at this;rw[O];exact this
 have b5:za W1 (W.heap.size+1+1) 27 #[.int .i64 0]:=by have:=(za.new ((W.alloc (.cells S 60)).alloc (.cells #[.bool false] 4)) 27 #[.int .i64 0]).alloc (.cells #[.string ⟨#[]⟩,.string ⟨#[]⟩,.int .i64 0,.int .i64 0] 94);rw[pq,pq] at this;rw[O];exact this
 have b6:za W1 (W.heap.size+1+1+1) 94 #[.string ⟨#[]⟩,.string ⟨#[]⟩,.int .i64 0,.int .i64 0]:=by have:=za.new (((W.alloc (.cells S 60)).alloc (.cells #[.bool false] 4)).alloc (.cells #[.int .i64 0] 27)) 94 #[.string ⟨#[]⟩,.string ⟨#[]⟩,.int .i64 0,.int .i64 0];rw[pq,pq,pq] at this;rw[O];exact this
 have c2:W1.heap.size=W.heap.size+1+1+1+1:=by rw[O,pq,pq,pq,pq]
 have e2:W1.setRow (W.heap.size+1+1+1) #[.string ⟨#[]⟩,.string ⟨#[]⟩,.int .i64 0,.int .i64 0]=W1:=setRow_self W1 _ _ _ _ b6;have k4:=b4.boxed;have f4:=b4.free 0;obtain⟨W2,aD⟩:=Z9 (W1.setCell ⟨W.heap.size+1,0,none⟩ (.bool false));have aW:ph W.heap.size W W2:=by rw[aD];exact bS.setCell (p:=⟨W.heap.size+1,0,none⟩) (by simp) _
 have g2:ze (λj=>j=W.heap.size+1) W1 W2:=by rw[aD];exact ze.setCell _ _ _ rfl
 have a3:za W2 (W.heap.size+1) 4 #[.bool false]:=by rw[aD];exact b4.set 0 _
 have a1:=g2.blk b3 (by omega);have a4:=g2.blk b5 (by omega);have a5:=g2.blk b6 (by omega);have h2:=h.grow aW;have aY:=hL.grow aW;have c0:W2.cell? ⟨c,0,none⟩=some (.pointer (some ⟨t,0,none⟩)):=by rw[(aY _ hc).1.cell];rfl
 have HR:=Xz h2 (i:=0) rfl h0;have HD:∀w,ph W2.heap.size W2 w->¬ n=0->_:=λw hB hn=>PF (h2.grow hB) hK hN hT cS hs hc (aY.grow hB) h0 hn
 rw[<-a7] at HD ⊢;have bZ:=λ(e:n=0)=>Em hT (e▸h0)
 rw[aD] at c0;obtain⟨r,B⟩:=Z9 ((pick up P es).isSome);obtain⟨g,U⟩:=Z9 (XA (pick up P es));rw[<-B];have bA:=pk B;have a9:=pk U;have cF:=pk O.symm;have cG:=pk aD.symm;have E2:=pk e2;have a0:=pk bZ;have c3:=g2.size;clear O aD e2 a7 h hL hT bZ B U
 go_enter_defers func29,ntmps29
 go_wp2_with (first
  | (rw[cF.out];refine zt rfl 94 (.tmp 6) (.tmp 9) rfl (W.heap.size+1+1+1) rfl rfl qt b6 rfl rfl (zy rfl rfl rfl rfl) ?_;rw[E2.out]))
 rw[cG.out];refine HR.mono ?_;rintro e w3 ⟨rfl,q⟩;have cV:=q.size;have aX:ph W.heap.size W w3:=aW.trans (q.mono (by omega));have M:=h2.grow q;have aE:=a3.below q a3.lt;have a2:=a1.below q a1.lt;have aG:=a4.below q a4.lt;have aI:=a5.below q a5.lt;have aJ:=(aY.grow q _ hc).1;have cR:c≠W.heap.size+1/\c≠W.heap.size+1+1/\c≠W.heap.size+1+1+1:=⟨by omega,by omega,by omega⟩;have b2:W0.heap.size<=W.heap.size+1:=by omega
 clear HR h2 aY a3 a1 a4 a5 bS aW g2 k4 f4 b3 b4 b5 b6 c0;have B:=bA.out;have U:=a9.out;rcases Decidable.em (n=0) with hn|hn
 case' inl =>
  obtain⟨v6,w6,C,e6,h6,b8,aP,aR,aT,a6,aV,a8,b9⟩:∃(v6:yz) (w6:World) (C:Y7),w6=w3/\qe W0 K p t 0 v6 st last under mk ms w6/\QJ K v v6 200/\za w6 (W.heap.size+1) 4 #[.bool r]/\za w6 (W.heap.size+1+1) 27 #[.int .i64 0]/\za w6 (W.heap.size+1+1+1) 94 C/\C[0]?=some (.string g)/\za w6 c 54 #[.pointer (some ⟨t,0,none⟩),.string ky,.bool bb]/\xu W w6/\W2.heap.size<=w6.heap.size:=by
   have cU:pick up P es=none:=by rw[a0.out hn];exact Sf
   rw[cU] at B U;refine⟨v,w3,_,rfl,M,(QJ.refl K v).more (by omega),by rw[B];exact aE,aG,aI,by rw[U];rfl,aJ,xu.grow aX,cV⟩
  subst e6;clear HD M aE a2 aG aI aJ a0 B U q aX
  go_wp2_with fail
 case' inr =>
  have aO:=HD w3 q hn;unfold QA at aO;rw[<-B,<-U] at aO;clear HD a0 U B;have bB:=a2
  go_wp2_with (first
   | (refine yV rfl 60 (.tmp 3) rfl W.heap.size rfl kC bB cQ ?_))
  refine aO.mono ?_;rintro e w4 ⟨cL,v6,rfl,bY,h4,b8,cT,aB⟩;have bC:=aB.blk aE (M.rD aE (by decide));have bF:=aB.blk aG (M.rD aG (by decide));have aS:=aB.blk aI (M.rD aI (by decide));have bM:=aB.blk aJ (M.rD aJ js);have c4:=aB.size;have cB:xu W w4:=(xu.grow aX).trans (xu.rH M aB);obtain⟨C,aM⟩:=Z9 ((zm cL).toArray);have cP:C.size=4:=by rw[aM];rfl
  have cO:∀u∈C.toList,u.oneCell'=true:=by rw[aM];exact zy rfl rfl rfl rfl
  have a6:C[0]?=some (.string g):=by rw[aM,<-bY];rfl
  rw[<-aM];have h5:=h4.rF (qj w4 (W.heap.size+1+1+1) C) aS (by decide) (λm e=>by cases e) (by omega) (by decide);have aF:=bC.rB (by omega:W.heap.size+1≠W.heap.size+1+1+1) C;have bG:=bF.rB (by omega:W.heap.size+1+1≠W.heap.size+1+1+1) C;have bK:=aS.setRow C;have bN:=bM.rB cR.2.2 C;have c5:(w4.setRow (W.heap.size+1+1+1) C).heap.size=w4.heap.size:=by simp[oe]
  have cC:xu W (w4.setRow (W.heap.size+1+1+1) C):=cB.new (qj w4 (W.heap.size+1+1+1) C) (by omega);generalize cA:w4.setRow (W.heap.size+1+1+1) C=w5 at *;have cW:=aF.boxed;have cM:=aF.free 0;obtain⟨w6,aZ⟩:=Z9 (w5.setCell ⟨W.heap.size+1,0,none⟩ (.bool r));have g6:ze (λj=>j=W.heap.size+1) w5 w6:=by rw[aZ];exact ze.setCell _ _ _ rfl
  have h6:=h5.rF g6 aF (by simp) (λm e=>by cases e) b2 (by decide);have aP:za w6 (W.heap.size+1) 4 #[.bool r]:=by rw[aZ];exact aF.set 0 _
  have aR:=g6.blk bG (by omega);have aT:=g6.blk bK (by omega);have aV:=g6.blk bN (by omega);have b9:W2.heap.size<=w6.heap.size:=by have:=g6.size;omega
  have a8:xu W w6:=cC.new g6 (by omega);have cH:=pk cA;have cI:=pk aZ.symm;clear cA aZ aM M h4 h5 aE a2 aG aI aJ bC bF bM aF bG bK bN aB cT cB cC g6 q aX aO bB bY
  go_wp2_with (first
   | (refine vW qt aS cP cO ?_;rw[cH.out]))
  rw[cI.out];clear aS cW cM
 all_goals
  have aA:ph w6.heap.size w6 w6.drew:=(pf _ _).drew;have bR:=h6.grow aA;have aQ:=aP.below aA aP.lt;have bJ:=aR.below aA aR.lt;have aU:=aT.below aA aT.lt;have aL:=aV.below aA aV.lt;have k6:w6.drew.cell? ⟨W.heap.size+1+1+1,0,none⟩=some (.string g):=by rw[aU.cell];exact a6
  have k4:=aQ.boxed;have A:w6.drew.cell? ⟨W.heap.size+1+1+1,0,none⟩=some (.string g)/\w6.drew.cell? ⟨W.heap.size+1,0,none⟩=some (.bool r):=⟨k6,k4⟩;have cE:xu W w6.drew:=a8.trans (xu.grow aA);clear h6 aP aR aT aV a6 a8 k6 k4 aA b9;refine Code.wp_mono (Q:=Oj _) (λe a w h=>Sv h) ?_;refine zb.st (λW':World=>W'.cell? ⟨W.heap.size+1+1+1,0,none⟩=some (.string g)/\W'.cell? ⟨W.heap.size+1,0,none⟩=some (.bool r)) 99 ?_;generalize w6.drew=wd at *;refine zb.q0 0 (.pointer (some ⟨c,0,none⟩)) A ?_;refine zb.q0 1 (.pointer (some ⟨c,0,none⟩)) A ?_;refine zb.q0 2 (.pointer (some ⟨W.heap.size+1+1+1,0,none⟩)) A ?_;refine zb.q0 3 (.string g) A ?_;refine zb.q0 4 (.bool r) A ?_;refine zb.q0 5 (.pointer (some ⟨c,0,none⟩)) A ?_;refine zb.q0 6 (.pointer (some ⟨c,1,none⟩)) A ?_;simp only[Z8];have q1:wd.cell? ⟨c,1,none⟩=some (.string ky):=by rw[aL.cell];rfl
  have p1:=aL.free 1;obtain⟨X,hX⟩:=Z9 (wd.setCell ⟨c,1,none⟩ (.string g));have I:ze (λj=>j=c) wd X:=by rw[hX];exact ze.setCell _ _ _ rfl
  have aK:za X c 54 #[.pointer (some ⟨t,0,none⟩),.string g,.bool bb]:=by rw[hX];exact aL.set 1 _
  have aN:X.cell? ⟨W.heap.size+1+1+1,0,none⟩=some (.string g)/\X.cell? ⟨W.heap.size+1,0,none⟩=some (.bool r):=⟨(oG (w:=wd) (I.block _ aU.lt (by show W.heap.size+1+1+1≠c;omega))).trans A.1,(oG (w:=wd) (I.block _ aQ.lt (by show W.heap.size+1≠c;omega))).trans A.2⟩;refine zb.n 7 (zb.opS (w':=wd.setCell ⟨c,1,none⟩ (.string g)) rfl rfl (by go_simp) ⟨λ_=>by rw[<-hX];exact aN,?_⟩);simp only[zD,zC,zB,pj];rw[<-hX];clear hX;refine zb.q0 8 (.pointer (some ⟨c,0,none⟩)) aN ?_;refine zb.q0 9 (.pointer (some ⟨c,2,none⟩)) aN ?_;simp only[Z8];have q2:X.cell? ⟨c,2,none⟩=some (.bool bb):=by rw[aK.cell];rfl
  have p2:=aK.free 2;obtain⟨Y,hY⟩:=Z9 (X.setCell ⟨c,2,none⟩ (.bool r));have gY:ze (λj=>j=c) X Y:=by rw[hY];exact ze.setCell _ _ _ rfl
  have bP:za Y c 54 (XC t g r):=by rw[hY];exact aK.set 2 _
  have bD:=I.blk aQ (by omega);have bH:=I.blk bJ (by omega);have bL:=I.blk aU (by omega);have aC:=gY.blk bD (by omega);have bI:=gY.blk bH (by omega);have bT:Y.cell? ⟨W.heap.size+1+1+1,0,none⟩=some (.string g)/\Y.cell? ⟨W.heap.size+1,0,none⟩=some (.bool r):=⟨(oG (w:=X) (gY.block _ bL.lt (by show W.heap.size+1+1+1≠c;omega))).trans aN.1,aC.boxed⟩;refine zb.n 10 (zb.opS (w':=X.setCell ⟨c,2,none⟩ (.bool r)) rfl rfl (by go_simp) ⟨λ_=>by rw[<-hY];exact bT,zb.dn ?_⟩);simp only[zD,zC,zB,pj];rw[<-hY];refine Sw ?_;have bV:=bR.rF I aL (by simp) (λm e=>by cases e) b7 js;have bW:=bV.rF gY aK (by simp) (λm e=>by cases e) b7 js;have cD:vl c W Y:=((vl.of cE).rH I).rH gY;have c7:=aC.boxed;have cY:=aC.free 0;obtain⟨Z,hZ⟩:=Z9 (Y.setCell ⟨W.heap.size+1,0,none⟩ (.bool r));have gZ:ze (λj=>j=W.heap.size+1) Y Z:=by rw[hZ];exact ze.setCell _ _ _ rfl
  have bE:za Z (W.heap.size+1) 4 #[.bool r]:=by rw[hZ];exact aC.set 0 _
  have aH:=gZ.blk bI (by omega);have bQ:=gZ.blk bP (by omega);have cX:=aH.boxed;have cN:=aH.free 0;have bX:=bW.rF gZ aC (by simp) (λm e=>by cases e) b2 (by decide);obtain⟨V,hV⟩:=Z9 (Z.setCell ⟨W.heap.size+1+1,0,none⟩ (.int .i64 0));have gV:ze (λj=>j=W.heap.size+1+1) Z V:=by rw[hV];exact ze.setCell _ _ _ rfl
  have cK:za V (W.heap.size+1+1) 27 #[.int .i64 0]:=by rw[hV];exact aH.set 0 _
  have cJ:=gV.blk bE (by omega);have bO:=gV.blk bQ (by omega);have bU:=bX.rF gV aH (by decide) (λm e=>by cases e) (by omega) (by decide);have cZ:=gV.size;have F:jI W0 K p t c v st last under mk ms W (pick up P es) V:=by refine⟨⟨v6,bU,b8⟩,by rw[<-bA.out,<-a9.out];exact bO,(cD.new gZ (by omega)).new gV (by omega)⟩
  rw[hZ] at cX cN hV;have HV:=pk hV.symm;clear A aN bT hY hZ hV I gY gZ gV aL aK bP bQ bO aQ bJ aU bD bH bL aC bI bE aH bR bV bW bX bU cE cD q1 p1 q2 p2;go_wp2;rw[HV.out];refine leaves_cons (f:=58) (args:=#[.pointer (some ⟨W.heap.size+1+1,0,none⟩),.func (.func 59) #[] #[.pointer (some ⟨W.heap.size+1,0,none⟩)]]) (by simp) (by simp[go_sem]) ?_;refine(Mk _ _ _).mono ?_;rintro e u' wz ⟨rfl,rfl,rfl⟩;exact⟨_,vq rfl (Zr (p:=⟨W.heap.size+1,0,none⟩) 4 rfl (by simp[go_sem]) cJ.boxed) (Zr (p:=⟨W.heap.size+1+1,0,none⟩) 5 rfl (by simp[go_sem]) cK.boxed),rfl,F⟩
end
section
variable {W0 W W':World}{K:xH}{p t c:Nat}{k:Int}{v v':yz}{st last:qm}{under:Bool}{mk:Value}{ms:List vK}{L:List Nh}{s:JP}{up:Bool}{P:yN->Bool}{cf kf:yo->Int}{ky key:ByteArray}{bb:Bool}{es:List yN}
theorem PI (h:qe W0 K p t k v st last under mk ms W):pr Y3 6 #[.pointer (some ⟨t,0,none⟩)] W λe w'=>e=Y0 (.tuple #[.pointer (some ⟨W.heap.size,0,none⟩),.int .i64 0])/\za w' W.heap.size 54 (XC t ⟨#[]⟩ false)/\ph W.heap.size W w':=by
 have g:=Ms h;have f:=za.new W 54 (XC t ⟨#[]⟩ false);have hB:ph W.heap.size W (W.alloc (.cells (XC t ⟨#[]⟩ false) 54)):=jf _ _;clear h;unfold XC at f hB ⊢
 go_enter func6,ntmps6
 go_wp2_with (go_at_call 20;refine g.mono ?_;rintro e j ⟨rfl,rfl⟩)
 exact oE (oN rfl _ _ _) rfl ⟨rfl,f,hB⟩
theorem Xy (hc:za W c 54 (XC t ky bb)):pr Y3 22 #[.pointer (some ⟨c,0,none⟩)] W λe w'=>e=Y0 (.bool false)/\W=w':=by
 have c0:W.cell? ⟨c,0,none⟩=some (.pointer (some ⟨t,0,none⟩)):=by rw[hc.cell];rfl
 go_enter func22,ntmps22
 go_wp2;go_ret;exact⟨rfl,rfl⟩
theorem PJ (hc:za W c 54 (XC t ky bb)):pr Y3 9 #[.pointer (some ⟨c,0,none⟩)] W λe w'=>e=Y0 (.tuple #[.string ky,.bool bb])/\ph W.heap.size W w':=by
 have A:=Xy hc;have j:ph W.heap.size W W.drew:=(pf _ W).drew;have hd:=hc.below j hc.lt;have f:W.drew.cell? ⟨c,1,none⟩=some (.string ky)/\W.drew.cell? ⟨c,2,none⟩=some (.bool bb):=⟨by rw[hd.cell];rfl,by rw[hd.cell];rfl⟩;clear hc hd
 go_enter func9,ntmps9
 go_wp2_with (go_at_call 22;refine A.mono ?_;rintro e B ⟨rfl,rfl⟩)
 refine zb.st (λW':World=>W'.cell? ⟨c,1,none⟩=some (.string ky)/\W'.cell? ⟨c,2,none⟩=some (.bool bb)) 99 ?_;generalize W.drew=q at *;refine zb.q0 0 (.pointer (some ⟨c,0,none⟩)) f ?_;refine zb.q0 1 (.pointer (some ⟨c,0,none⟩)) f ?_;refine zb.q0 2 (.pointer (some ⟨c,1,none⟩)) f ?_;refine zb.q0 3 (.string ky) f ?_;refine zb.q0 4 (.pointer (some ⟨c,0,none⟩)) f ?_;refine zb.q0 5 (.pointer (some ⟨c,0,none⟩)) f ?_;refine zb.q0 6 (.pointer (some ⟨c,2,none⟩)) f ?_;refine zb.q0 7 (.bool bb) f ?_;simp only[Z8];refine zb.n 8 (zb.opV (w':=q) (.string ky) rfl rfl (by go_simp) ⟨λ_=>f,?_⟩);simp only[Z8];refine zb.n 9 (zb.opV (w':=q) (.bool bb) rfl rfl (by go_simp) ⟨λ_=>f,zb.dn ?_⟩);simp only[Z8];go_wp2;exact oE (oN rfl _ _ _) rfl ⟨rfl,j⟩
theorem Vi (hc:za W c 54 (XC t ky bb)):pr Y3 28 #[.pointer (some ⟨c,0,none⟩),.slice none 0 0] W λe w'=>e=Y0 (.int .i64 0)/\W=w':=by
 have f:=Xy hc;clear hc
 go_enter func28,ntmps28
 go_wp2_with (go_at_call 22;refine f.mono ?_;rintro e g ⟨rfl,rfl⟩)
 go_loopw [11] (λi wr=>i=.int .i64 0/\wr=W) (λ_ _=>0)
 case atStart=>exact⟨rfl,rfl⟩
 case round =>
  obtain⟨rfl,rfl⟩:=hrel;go_wp2;go_ret;exact⟨rfl,rfl⟩
theorem PH (hc:za W c 54 (XC t ky bb))(g:Nat)(h:W.cell? ⟨g,0,none⟩=some (.string key))(j:key.size<=81):pr Y3 28 #[.pointer (some ⟨c,0,none⟩),.slice (some ⟨g,0,none⟩) 1 1] W λe w'=>e=Y0 (.int .i64 0)/\W=w':=by
 have f:=Xy hc;clear hc
 go_enter func28,ntmps28
 go_wp2_with (go_at_call 22;refine f.mono ?_;rintro e q ⟨rfl,rfl⟩)
 go_loopw [11] (λi wr=>(i=.int .i64 0∨i=.int .i64 1)/\wr=W) (λi _=>match i with | .int _ m=>(1-m).toNat|_=>0)
 case atStart=>exact⟨.inl rfl,rfl⟩
 case round =>
  obtain⟨rfl|rfl,rfl⟩:=hrel
  ·go_wp2;refine⟨⟨?_,?_⟩,?_⟩<;>first|trivial|exact .inr rfl|rfl|decide
  ·go_wp2;go_ret;exact⟨rfl,rfl⟩
theorem JV (W:World)(key:ByteArray):pr Y3 27 #[.string key] W λe w'=>e=Y0 (.agg #[.func (.func 55) #[] #[.pointer (some ⟨W.heap.size,0,none⟩)],.func (.func 55) #[] #[.pointer (some ⟨W.heap.size,0,none⟩)],.func (.func 57) #[] #[]])/\za w' W.heap.size 9 #[.string key]/\ph W.heap.size W w':=by
 obtain⟨I,q,E,b1,h⟩:=Bp W 9 #[.string key] 60 #[.nilFunc,.nilFunc,.nilFunc];obtain⟨S,f⟩:∃S:Y7,S=#[.func (.func 55) #[] #[.pointer (some ⟨W.heap.size,0,none⟩)],.func (.func 55) #[] #[.pointer (some ⟨W.heap.size,0,none⟩)],.func (.func 57) #[] #[]]:=⟨_,rfl⟩;have b3:=h.setRow S;have C:=b1.rB (by omega:W.heap.size≠W.heap.size+1) S;have F:=zf E (Nat.le_succ W.heap.size) S;have j:S.size=3:=by rw[f];rfl
 have G:∀u∈S.toList,u.oneCell'=true:=by rw[f];intro u hu;simp at hu;rcases hu with rfl|rfl<;>rfl
 rw[<-f];have B:=pk q.symm;have A:=pk f;clear q f
 go_enter func27,ntmps27
 go_wp2_with (rw[B.out];refine zt rfl 60 (.tmp 2) (.tmp 7) rfl (W.heap.size+1) rfl (by rw[A.out];rfl) kC h rfl j G ?_)
 exact oQ (yi rfl (xF (g:=W.heap.size+1) 2 rfl kC b3 j)) rfl ⟨rfl,C,F⟩
end
section
variable {W0 W W':World}{K:xH}{p t c:Nat}{v v':yz}{st last:qm}{under:Bool}{mk:Value}{ms:List vK}{L:List Nh}{s:JP}{up:Bool}{P:yN->Bool}{cf kf:yo->Int}{ky key:ByteArray}{bb:Bool}{es:List yN}{r:Option yN}
theorem jI.rW (hB:ph W.heap.size W W'){w:World}(h:jI W0 K p t c v st last under mk ms W' r w):jI W0 K p t c v st last under mk ms W r w :=
 ⟨h.tr,h.cu,zT hB.size h.kb.1,λb o hc f g=>h.kb.2 b o hc ((hB.block b (Qk f)).trans f) g⟩
theorem Fi (W:World)(key:ByteArray):pr Y3 25 #[.string key] W λe w'=>∃q1 q2,e=Y0 (.agg #[.func (.func 54) #[] #[.pointer (some ⟨q2,0,none⟩)],.func (.func 55) #[] #[.pointer (some ⟨q1,0,none⟩)],.func (.func 32) #[] #[]])/\za w' q1 9 #[.string key]/\za w' q2 60 #[.func (.func 55) #[] #[.pointer (some ⟨q1,0,none⟩)],.func (.func 55) #[] #[.pointer (some ⟨q1,0,none⟩)],.func (.func 57) #[] #[]]/\ph W.heap.size W w':=by
 obtain⟨h,aG,G,q⟩:=YK W 60 #[.nilFunc,.nilFunc,.nilFunc];have I:=JV h key;have O:=pk aG.symm;clear aG
 go_enter func25,ntmps25
 go_wp2_with fail
 rw[O.out];refine I.mono ?_;rintro e f ⟨rfl,q2,C⟩;obtain⟨A,j⟩:∃A:Y7,A=#[.func (.func 55) #[] #[.pointer (some ⟨h.heap.size,0,none⟩)],.func (.func 55) #[] #[.pointer (some ⟨h.heap.size,0,none⟩)],.func (.func 57) #[] #[]]:=⟨_,rfl⟩;have aO:A.size=3:=by rw[j];rfl
 have aN:∀u∈A.toList,u.oneCell'=true:=by rw[j];intro u hu;simp at hu;rcases hu with rfl|rfl<;>rfl
 have aP:A[1]?=some (.func (.func 55) #[] #[.pointer (some ⟨h.heap.size,0,none⟩)]):=by rw[j];rfl
 rw[<-j];have B:=q.below C q.lt;have aS:=G.size;have aU:=C.size;obtain⟨U,aH,aE,aB⟩:=YK f 60 #[.nilFunc,.nilFunc,.nilFunc];have E:ph f.heap.size f (U.setRow f.heap.size A):=zf aE (zG _) A;have aC:=aB.setRow A;generalize aI:U.setRow f.heap.size A=Z at *;have aA:=B.below E B.lt;have aJ:=q2.below E q2.lt;have aV:Z.cell? ⟨f.heap.size,1,none⟩=some (.func (.func 55) #[] #[.pointer (some ⟨h.heap.size,0,none⟩)]):=by rw[aC.cell];exact aP
 obtain⟨S,F⟩:∃S:Y7,S=#[.func (.func 54) #[] #[.pointer (some ⟨f.heap.size,0,none⟩)],.func (.func 55) #[] #[.pointer (some ⟨h.heap.size,0,none⟩)],.func (.func 32) #[] #[]]:=⟨_,rfl⟩;have aF:S.size=3:=by rw[F];rfl
 have aR:∀u∈S.toList,u.oneCell'=true:=by rw[F];intro u hu;simp at hu;rcases hu with rfl|rfl|rfl<;>rfl
 have aM:=aA.setRow S;have aD:=aC.rB (by have:=B.lt;omega:f.heap.size≠W.heap.size) S;have aT:=aJ.rB (by have:=q.lt;omega:h.heap.size≠W.heap.size) S;have aQ:ph W.heap.size W (Z.setRow W.heap.size S):=zf ((G.trans (C.mono aS)).trans (E.mono (by omega))) (zG _) S;have aK:=pk aH.symm;have aL:=pk aI;have M:=pk F;have HA:=pk j;clear aH aI F j I q B G C aE E q2 aJ O
 go_wp2_with (first
  | (rw[aK.out];refine vW kC aB aO aN ?_;rw[aL.out])
  | (refine zt rfl 60 (.tmp 2) (.tmp 9) rfl W.heap.size rfl (by rw[M.out];rfl) kC aA rfl aF aR ?_))
 rw[HA.out] at aD;exact oQ (yi rfl (xF (g:=W.heap.size) 2 rfl kC aM aF)) rfl ⟨_,_,by rw[M.out],aT,aD,aQ⟩
def ko (W:World)(c t:Nat)(ky:ByteArray)(bb:Bool)(up:Bool)(P:yN->Bool)(e:dT)(w':World):Prop :=
 ∃s L cf kf,e=Y0 (.agg (JP.val s))/\ph W.heap.size W w'/\Xg L s up P cf kf/\(c,54,XC t ky bb)∈L/\xV L w'
theorem JN {q:Nat}(hB:ph W.heap.size W W')(hc:za W' c 54 (XC t ky bb))(hq:za W' q 9 #[.string key]):ko W c t ky bb true (λe => !xD e.1 key) (.returned (.agg #[.func (.func 55) #[] #[.pointer (some ⟨q,0,none⟩)],.func (.func 55) #[] #[.pointer (some ⟨q,0,none⟩)],.func (.func 57) #[] #[]])) W' :=
 ⟨⟨55,#[.pointer (some ⟨q,0,none⟩)],55,#[.pointer (some ⟨q,0,none⟩)],57⟩,[(c,54,XC t ky bb),(q,9,#[.string key])],_,_,rfl,hB,Pf (q:=q) (by simp),by simp,λx f=>by
  simp only[qM,dG,or_false] at f;rcases f with rfl|rfl
  ·exact⟨hc,js⟩
  ·exact⟨hq,UO⟩⟩
theorem Hb {q1 q2:Nat}{c2 c3:Value}(hB:ph W.heap.size W W')(hc:za W' c 54 (XC t ky bb))(hq:za W' q1 9 #[.string key])(g:za W' q2 60 #[.func (.func 55) #[] #[.pointer (some ⟨q1,0,none⟩)],c2,c3]):ko W c t ky bb false (λe=>xD e.1 key) (.returned (.agg #[.func (.func 54) #[] #[.pointer (some ⟨q2,0,none⟩)],.func (.func 55) #[] #[.pointer (some ⟨q1,0,none⟩)],.func (.func 32) #[] #[]])) W' :=
 ⟨⟨54,#[.pointer (some ⟨q2,0,none⟩)],55,#[.pointer (some ⟨q1,0,none⟩)],32⟩,[(c,54,XC t ky bb),(q1,9,#[.string key]),(q2,60,#[.func (.func 55) #[] #[.pointer (some ⟨q1,0,none⟩)],c2,c3])],_,_,rfl,hB,SF (q1:=q1) (q2:=q2) (c2:=c2) (c3:=c3) (by simp) (by simp),by simp,λx f=>by
  simp only[qM,dG,or_false] at f;rcases f with rfl|rfl|rfl
  ·exact⟨hc,js⟩
  ·exact⟨hq,UO⟩
  ·exact⟨g,Zx⟩⟩
structure Xp (W0:World)(K:xH)(p t c:Nat)(v:yz)(st last:qm)(under:Bool)(mk:Value)(ms:List vK)(es:List yN)(ky:ByteArray)(bb:Bool)(W:World):Prop where
 tr:qe W0 K p t 0 v st last under mk ms W
 is:jM K v.D st es
 cu:za W c 54 (XC t ky bb)
 ge:W0.heap.size<=c
 le:es.length<=61
theorem Xp.grow (h:Xp W0 K p t c v st last under mk ms es ky bb W)(hB:ph W.heap.size W W'):Xp W0 K p t c v st last under mk ms es ky bb W':=⟨h.tr.grow hB,h.is,h.cu.below hB h.cu.lt,h.ge,h.le⟩
theorem GD (h:Xp W0 K p t c v st last under mk ms es ky bb W)(f:K.Ok)(q:v.N<=700000){e:dT}(B:ko W c t ky bb up P e W'):∃A,e=Y0 (.agg A)/\pr Y3 29 #[.pointer (some ⟨c,0,none⟩),.agg A] W' λe w'=>e=Y0 (.tuple #[.bool (pick up P es).isSome,.int .i64 0])/\jI W0 K p t c v st last under mk ms W (pick up P es) w':=by
 obtain⟨s,L,cf,kf,rfl,hB,E,hc,g⟩:=B;refine⟨s.val,rfl,(Vg (h.tr.grow hB) f q h.is h.le E hc g h.ge).mono ?_⟩;rintro e w' ⟨C,j⟩;exact⟨C,j.rW hB⟩
theorem Vj (h:Xp W0 K p t c v st last under mk ms es ky bb W)(Z:K.Ok)(hN:v.N<=700000)(hk:key.size<=81):pr Y3 21 #[.pointer (some ⟨c,0,none⟩),.string key] W λe w'=>e=Y0 (.tuple #[.bool (pick true (λe => !xD e.1 key) es).isSome,.int .i64 0])/\jI W0 K p t c v st last under mk ms W (pick true (λe => !xD e.1 key) es) w':=by
 obtain⟨U,I,C,b1⟩:=YK W 9 #[.string key];have h1:=h.grow C;have q:=PH h1.cu W.heap.size b1.boxed hk;have B:=JV U key;obtain⟨r,j⟩:=Z9 (pick true (λe => !xD e.1 key) es);rw[<-j];have M:=pk j;have O:=pk I.symm;clear I j
 go_enter func21,ntmps21
 go_wp2_with (first
  | (go_at_call 28;rw[O.out];refine q.mono ?_;rintro e w2 ⟨rfl,rfl⟩))
 refine B.mono ?_;rintro e w2 ⟨rfl,q2,E⟩;obtain⟨A,f,g⟩:=GD h1 Z hN (JN E (h1.cu.below E h1.cu.lt) q2);rw[<-M.out] at g;injection f with f
 injection f with f
 rw[f];clear f B q h h1
 go_wp2_with fail
 refine g.mono ?_;rintro e w3 ⟨rfl,G⟩;have F:=G.rW C;clear g G;go_wp2;exact oE (oN rfl _ _ _) rfl ⟨rfl,F⟩
theorem Ml (h:Xp W0 K p t c v st last under mk ms es ky bb W)(j:K.Ok)(A:v.N<=700000):pr Y3 8 #[.pointer (some ⟨c,0,none⟩)] W λe w'=>e=Y0 (.tuple #[.bool (es[0]?).isSome,.int .i64 0])/\jI W0 K p t c v st last under mk ms W (es[0]?) w':=by
 have f:=Vj (key:=⟨#[]⟩) h j A (by decide);rw[LB] at f;obtain⟨r,g⟩:=Z9 (es[0]?);rw[<-g] at f ⊢;clear h g
 go_enter func8,ntmps8
 go_wp2_with fail
 refine f.mono ?_;rintro e B ⟨rfl,q⟩;clear f;go_wp2;exact oE (oN rfl _ _ _) rfl ⟨rfl,q⟩
theorem Fm (h:Xp W0 K p t c v st last under mk ms es ky bb W)(A:K.Ok)(C:v.N<=700000):pr Y3 12 #[.pointer (some ⟨c,0,none⟩)] W λe w'=>e=Y0 (.tuple #[.bool (pick false (λ_=>true) es).isSome,.int .i64 0])/\jI W0 K p t c v st last under mk ms W (pick false (λ_=>true) es) w':=by
 have g:=Vi h.cu;have j:xV [(c,54,XC t ky bb)] W:=λx E=>by obtain rfl:=qK.1 E;exact⟨h.cu,js⟩
 have f:=Vg h.tr A C h.is h.le (SG [(c,54,XC t ky bb)]) (qK.2 rfl) j h.ge;unfold JP.val at f;obtain⟨r,q⟩:=Z9 (pick false (λ_=>true) es);rw[<-q] at f ⊢;clear h q j
 go_enter func12,ntmps12
 go_wp2_with (first
  | (go_at_call 28;refine g.mono ?_;rintro e F ⟨rfl,rfl⟩))
 refine f.mono ?_;rintro e G ⟨rfl,B⟩;clear f g;go_wp2;exact oE (oN rfl _ _ _) rfl ⟨rfl,B⟩
end
section
variable {W0 W W':World}{K:xH}{p t c:Nat}{v v':yz}{st last:qm}{under:Bool}{mk:Value}{ms:List vK}{up:Bool}{P:yN->Bool}{ky key:ByteArray}{bb:Bool}{es:List yN}{r:Option yN}
theorem Vh (h:Xp W0 K p t c v st last under mk ms es ky true W)(I:K.Ok)(O:v.N<=700000)(F:Nat)(q:Value)(U:∀args w,(dF F args).run Y3 w=.ok (.enter F args) w)(B:pr Y3 F #[q] W (ko W c t ky true up P)):pr Y3 23 #[.pointer (some ⟨c,0,none⟩),.func (.func F) #[] #[q]] W λe w'=>e=Y0 (.tuple #[.bool (pick up P es).isSome,.int .i64 0])/\jI W0 K p t c v st last under mk ms W (pick up P es) w':=by
 have g:=Vi h.cu;have k2:W.cell? ⟨c,2,none⟩=some (.bool true):=by rw[h.cu.cell];rfl
 have f:=λ(e:dT) (w:World) (hs:ko W c t ky true up P e w)=>GD h I O hs
 obtain⟨r,E⟩:=Z9 (pick up P es);rw[<-E] at f ⊢;clear h E
 go_enter func23,ntmps23
 go_wp2_with (first
  | (go_at_call 28;refine g.mono ?_;rintro e G ⟨rfl,rfl⟩))
 refine B.mono ?_;intro e G C;obtain⟨A,rfl,j⟩:=f e G C;clear f B g C k2
 go_wp2_with fail
 refine j.mono ?_;rintro e Z ⟨rfl,M⟩;clear j;go_wp2;exact oE (oN rfl _ _ _) rfl ⟨rfl,M⟩
theorem Mg {b:Nat}(E:za W b 26 #[.pointer (some ⟨c,0,none⟩)])(hc:za W c 54 (XC t ky bb))(hk:ky.size<=100000):pr Y3 26 #[.pointer (some ⟨b,0,none⟩)] W (ko W c t ky bb true (λe => !xD e.1 (kv ky))):=by
 obtain⟨j,C,h,q⟩:=YK W 60 #[.nilFunc,.nilFunc,.nilFunc];have c1:=hc.below h hc.lt;have k0:=(E.below h E.lt).boxed;have k1:j.cell? ⟨c,1,none⟩=some (.string ky):=by rw[c1.cell];rfl
 have F:=JV j (kv ky);have aC:ky++⟨#[0]⟩=kv ky:=rfl;have aD:¬ oo<ky.size+(⟨#[0]⟩:ByteArray).size:=by have:(⟨#[0]⟩:ByteArray).size=1:=rfl;unfold oo;omega
 rw[C] at k0 k1;have O:=pk C.symm;clear C
 go_enter func26,ntmps26
 go_wp2_with fail
 rw[O.out];refine F.mono ?_;rintro e w2 ⟨rfl,q2,B⟩;have I:=q.below B q.lt;obtain⟨A,f⟩:∃A:Y7,A=#[.func (.func 55) #[] #[.pointer (some ⟨j.heap.size,0,none⟩)],.func (.func 55) #[] #[.pointer (some ⟨j.heap.size,0,none⟩)],.func (.func 57) #[] #[]]:=⟨_,rfl⟩;have M:A.size=3:=by rw[f];rfl
 have Z:∀u∈A.toList,u.oneCell'=true:=by rw[f];intro u hu;simp at hu;rcases hu with rfl|rfl<;>rfl
 rw[<-f];have U:=I.setRow A;have aB:=h.size;have aA:ph W.heap.size W (w2.setRow W.heap.size A):=zf (h.trans (B.mono aB)) (zG _) A;have G:=JN (W:=W) aA ((c1.below B c1.lt).rB (by have:=hc.lt;omega) A) (q2.rB (by have:=q.lt;omega) A);rw[<-f] at G;clear f F q2 q k0 k1 h B hc E
 go_wp2_with (first
  | (refine vW kC I M Z ?_))
 exact oQ (yi rfl (xF (g:=W.heap.size) 1 rfl kC U M)) rfl G
theorem Mf {b:Nat}(E:za W b 26 #[.pointer (some ⟨c,0,none⟩)])(hc:za W c 54 (XC t ky bb)):pr Y3 24 #[.pointer (some ⟨b,0,none⟩)] W (ko W c t ky bb false (λe=>xD e.1 ky)):=by
 obtain⟨I,C,h,B⟩:=YK W 60 #[.nilFunc,.nilFunc,.nilFunc];have c1:=hc.below h hc.lt;have k0:=(E.below h E.lt).boxed;have k1:I.cell? ⟨c,1,none⟩=some (.string ky):=by rw[c1.cell];rfl
 have F:=Fi I ky;rw[C] at k0 k1;have Z:=pk C.symm;clear C
 go_enter func24,ntmps24
 go_wp2_with fail
 rw[Z.out];refine F.mono ?_;rintro e w2 ⟨M,O,rfl,q1,q2,q⟩;have j:=B.below q B.lt;obtain⟨A,f⟩:∃A:Y7,A=#[.func (.func 54) #[] #[.pointer (some ⟨O,0,none⟩)],.func (.func 55) #[] #[.pointer (some ⟨M,0,none⟩)],.func (.func 32) #[] #[]]:=⟨_,rfl⟩;have U:A.size=3:=by rw[f];rfl
 have aB:∀u∈A.toList,u.oneCell'=true:=by rw[f];intro u hu;simp at hu;rcases hu with rfl|rfl|rfl<;>rfl
 rw[<-f];have aA:=j.setRow A;have aD:=h.size;have n1:M≠W.heap.size:=λe=>by rw[e] at q1;exact zo q1 j (by decide) rfl
 have n2:O≠W.heap.size:=λe=>by rw[e] at q2;have:=q2.symm.trans j;simp at this
 have aC:ph W.heap.size W (w2.setRow W.heap.size A):=zf (h.trans (q.mono aD)) (zG _) A;have G:=Hb (W:=W) aC ((c1.below q c1.lt).rB (by have:=hc.lt;omega) A) (q1.rB n1 A) (q2.rB n2 A);rw[<-f] at G;clear f F q1 q2 B k0 k1 h q hc E
 go_wp2_with (first
  | (refine vW kC j U aB ?_))
 exact oQ (yi rfl (xF (g:=W.heap.size) 1 rfl kC aA U)) rfl G
theorem Fl (h:Xp W0 K p t c v st last under mk ms es ky true W)(C:K.Ok)(E:v.N<=700000)(G:ky.size<=100000):pr Y3 11 #[.pointer (some ⟨c,0,none⟩)] W λe w'=>e=Y0 (.tuple #[.bool (pick true (λe => !xD e.1 (kv ky)) es).isSome,.int .i64 0])/\jI W0 K p t c v st last under mk ms W (pick true (λe => !xD e.1 (kv ky)) es) w':=by
 obtain⟨I,q,g,b1⟩:=YK W 26 #[.pointer (some ⟨c,0,none⟩)];have h1:=h.grow g;have f:=Vh h1 C E 26 (.pointer (some ⟨W.heap.size,0,none⟩)) (zb.eo func26) (Mg b1 h1.cu G);obtain⟨r,A⟩:=Z9 (pick true (λe => !xD e.1 (kv ky)) es);rw[<-A] at f ⊢;have B:=pk q.symm;clear q h h1 A
 go_enter func11,ntmps11
 go_wp2_with fail
 rw[B.out];refine f.mono ?_;rintro e M ⟨rfl,j⟩;have F:=j.rW g;clear f j b1;go_wp2;exact oE (oN rfl _ _ _) rfl ⟨rfl,F⟩
theorem Fk (h:Xp W0 K p t c v st last under mk ms es ky true W)(C:K.Ok)(E:v.N<=700000):pr Y3 10 #[.pointer (some ⟨c,0,none⟩)] W λe w'=>e=Y0 (.tuple #[.bool (pick false (λe=>xD e.1 ky) es).isSome,.int .i64 0])/\jI W0 K p t c v st last under mk ms W (pick false (λe=>xD e.1 ky) es) w':=by
 obtain⟨G,q,g,b1⟩:=YK W 26 #[.pointer (some ⟨c,0,none⟩)];have h1:=h.grow g;have f:=Vh h1 C E 24 (.pointer (some ⟨W.heap.size,0,none⟩)) (zb.eo func24) (Mf b1 h1.cu);obtain⟨r,A⟩:=Z9 (pick false (λe=>xD e.1 ky) es);rw[<-A] at f ⊢;have B:=pk q.symm;clear q h h1 A
 go_enter func10,ntmps10
 go_wp2_with fail
 rw[B.out];refine f.mono ?_;rintro e I ⟨rfl,j⟩;have F:=j.rW g;clear f j b1;go_wp2;exact oE (oN rfl _ _ _) rfl ⟨rfl,F⟩
end
theorem CY {Q:yN->Prop}{l:List yN}{e:yN}(hl:∀x∈l,Q x)(g:Q e):∀x∈putE l e,Q x:=λx f=>by
 unfold putE at f;rcases qA.1 f with f|f
 ·exact hl x (yB.1 f).1
 ·rcases qM.1 f with rfl|f
  ·exact g
  ·exact hl x (yB.1 f).1
theorem MA:∀(l es:List yN),(∀x∈es,x.1.size<=81/\x.2.size<=400)->∀x∈l.foldl xx es,x.1.size<=81/\x.2.size<=400
 | [],_,h=>h
 | a::l,es,h=>MA l _ (by
  unfold xx;split
  ·rename_i ho
   unfold uq at ho;simp at ho;exact CY (Q:=λx=>x.1.size<=81/\x.2.size<=400) h ho
  ·exact h)
theorem Ia (l:List yN):∀x∈kV l,x.1.size<=81/\x.2.size<=400:=MA _ _ (λx f=>by cases f)
structure vw (w:World)(K:xH)(p t c:Nat)(es:List yN)(V:Value)(r:Option yN)(N:Nat)(W:World):Prop where
 cur:∃v st mk,Xp w K p t c v st jB true mk [] es (XA r) r.isSome W/\v.N<=N
 own:W.ownsRow w.heap.size 36 2 V es.length (yc es)
 ok:K.Ok
 so:qg es
 ks:∀x∈es,x.1.size<=81/\x.2.size<=400
section
variable {w W W':World}{K:xH}{p t c N:Nat}{es:List yN}{V:Value}{r r':Option yN}
theorem vw.grow (h:vw w K p t c es V r N W)(hB:ph W.heap.size W W'):vw w K p t c es V r N W':=by
 obtain⟨⟨v,st,mk,hc,hn⟩,j,f,hs,g⟩:=h;exact⟨⟨v,st,mk,hc.grow hB,hn⟩,qw j hB,f,hs,g⟩
theorem Cf {base n:Nat}{cs:Y8}{T:oD}{j:Y7}(h:W.ownsRow base 36 2 V n cs)(hc:za W c T j)(C:T≠36)(B:vl c W W'):W'.ownsRow base 36 2 V n cs:=by
 refine⟨h.1,?_⟩;rcases h.2 with h|⟨g,q,cur,h1,h2,f,A⟩
 ·exact .inl h
 ·exact .inr ⟨g,q,cur,h1,h2,B.blk f (λe=>by subst e;exact zo f hc (λe=>C e.symm) rfl) (by decide),A⟩
theorem YF {v:yz}{st:qm}{mk:Value}{ky:ByteArray}{bb:Bool}(hc:Xp w K p t c v st jB true mk [] es ky bb W)(E:v.N<=N)(B:W.ownsRow w.heap.size 36 2 V es.length (yc es))(j:K.Ok)(hs:qg es)(A:∀x∈es,x.1.size<=81/\x.2.size<=400)
  (g:jI w K p t c v st jB true mk [] W r' W'):vw w K p t c es V r' (N+200) W':=by
 obtain⟨⟨v',C,f⟩,h,q⟩:=g;exact⟨⟨v',st,mk,⟨C,by rw[f.dd];exact hc.is,h,hc.ge,hc.le⟩,by have:=f.nn;omega⟩,Cf B hc.cu (by decide) q,j,hs,A⟩
theorem Kn {l:List yN}(f:K.Ok)(h:Ju w K p t 60000 (kV l) V W):pr Y3 6 #[.pointer (some ⟨t,0,none⟩)] W λe w'=>∃c,e=Y0 (.tuple #[.pointer (some ⟨c,0,none⟩),.int .i64 0])/\vw w K p t c (kV l) V none 60000 w':=by
 obtain⟨⟨v,st,mk,ht,g,hn⟩,j⟩:=h;refine(PI ht).mono ?_;rintro e w' ⟨rfl,hc,hB⟩;exact⟨_,rfl,⟨v,st,mk,⟨ht.grow hB,g,hc,ht.up,by have:=Sz l;omega⟩,hn⟩,qw j hB,f,Cj l,Ia l⟩
theorem uW (h:vw w K p t c es V r N W)(B:N<=700000):pr Y3 8 #[.pointer (some ⟨c,0,none⟩)] W λe w'=>e=Y0 (.tuple #[.bool (es[0]?).isSome,.int .i64 0])/\vw w K p t c es V (es[0]?) (N+200) w':=by
 obtain⟨⟨v,st,mk,hc,hn⟩,A,f,hs,q⟩:=h;refine(Ml hc f (by omega)).mono ?_;rintro e w' ⟨j,g⟩;exact⟨j,YF hc hn A f hs q g⟩
theorem wY (h:vw w K p t c es V r N W)(B:N<=700000):pr Y3 12 #[.pointer (some ⟨c,0,none⟩)] W λe w'=>e=Y0 (.tuple #[.bool (if es.length=0 then none else es[es.length-1]?).isSome,.int .i64 0])/\vw w K p t c es V (if es.length=0 then none else es[es.length-1]?) (N+200) w':=by
 obtain⟨⟨v,st,mk,hc,hn⟩,A,f,hs,q⟩:=h;have H:=Fm hc f (by omega);rw[IG] at H;refine H.mono ?_;rintro e w' ⟨j,g⟩;exact⟨j,YF hc hn A f hs q g⟩
theorem wX {key:ByteArray}(h:vw w K p t c es V r N W)(C:N<=700000)(q:key.size<=81):pr Y3 21 #[.pointer (some ⟨c,0,none⟩),.string key] W λe w'=>e=Y0 (.tuple #[.bool (pick true (λe => !xD e.1 key) es).isSome,.int .i64 0])/\vw w K p t c es V (pick true (λe => !xD e.1 key) es) (N+200) w':=by
 obtain⟨⟨v,st,mk,hc,hn⟩,B,f,hs,A⟩:=h;refine(Vj hc f (by omega) q).mono ?_;rintro e w' ⟨j,g⟩;exact⟨j,YF hc hn B f hs A g⟩
theorem Oq {n:Nat}(h:vw w K p t c es V (es[n]?) N W)(E:N<=700000)(hn:n<es.length):pr Y3 11 #[.pointer (some ⟨c,0,none⟩)] W λe w'=>e=Y0 (.tuple #[.bool (es[n+1]?).isSome,.int .i64 0])/\vw w K p t c es V (es[n+1]?) (N+200) w':=by
 obtain⟨⟨v,st,mk,hc,B⟩,A,f,hs,g⟩:=h;have C:=(g es[n] (qI _)).1;rw[zM hn] at hc;have H:=Fl hc f (by omega) (by show es[n].1.size<=100000;omega);have e:XA (some es[n])=es[n].1:=rfl;rw[e,IF hs n hn] at H;refine H.mono ?_;rintro e w' ⟨q,j⟩;exact⟨q,YF hc B A f hs g j⟩
theorem Oo {n:Nat}(h:vw w K p t c es V (es[n]?) N W)(C:N<=700000)(hn:n<es.length):pr Y3 10 #[.pointer (some ⟨c,0,none⟩)] W λe w'=>e=Y0 (.tuple #[.bool (if n=0 then none else es[n-1]?).isSome,.int .i64 0])/\vw w K p t c es V (if n=0 then none else es[n-1]?) (N+200) w':=by
 obtain⟨⟨v,st,mk,hc,B⟩,A,f,hs,q⟩:=h;rw[zM hn] at hc;have H:=Fk hc f (by omega);have e:XA (some es[n])=es[n].1:=rfl;rw[e,IE hs n hn] at H;refine H.mono ?_;rintro e w' ⟨j,g⟩;exact⟨j,YF hc B A f hs q g⟩
theorem Cu (h:vw w K p t c es V r N W):pr Y3 9 #[.pointer (some ⟨c,0,none⟩)] W λe w'=>e=Y0 (.tuple #[.string (XA r),.bool r.isSome])/\vw w K p t c es V r N w':=by
 have f:=h;obtain⟨⟨v,st,mk,hc,B⟩,A,j,hs,q⟩:=h;refine(PJ hc.cu).mono ?_;rintro e w' ⟨g,hB⟩;exact⟨g,f.grow hB⟩
end
def Hf:List yN:=[(⟨#[97]⟩,⟨#[49]⟩),(⟨#[99]⟩,⟨#[50]⟩)]
theorem Ch:kV Hf=Hf:=by
 unfold kV Hf xx uq putE;decide +kernel
theorem tA:pick true (λe => !xD e.1 ⟨#[98]⟩) Hf=Hf[1]?:=by decide +kernel
theorem uK:pick true (λe => !xD e.1 ⟨#[100]⟩) Hf=none:=by decide +kernel
theorem FW {ρ:py->Value}{w:World}{o:Oper}{x y:py}(m n:yN)(f:o.op=.buildSlice 22 2 #[(0,x),(1,y)])(h1:ρ x=.agg (xc m).toArray)(h2:ρ y=.agg (xc n).toArray):(oB ρ o).run Y3 w=.ok (.value (.slice (some ⟨w.heap.size,0,none⟩) 2 2)) (w.alloc (.cells (yc [m,n]).toArray 36)):=by
 unfold xc yc at *;simp[oB,f,h1,h2,go_sem,pv]
 try unfold xc
 try simp
theorem DG (w:World):pr Y3 13 #[] w λe w'=>e=Y0 (.bool true)/\ph w.heap.size w w':=by
 obtain⟨g,aB,aA,b1⟩:=YK w 36 (yc Hf).toArray
 have aC:yp g g.heap.size 2 (some ⟨w.heap.size,0,none⟩) 2 2 (yc Hf):=⟨zG _,by decide,(λe=>by cases e),rfl,jo _,λ_=>⟨w.heap.size,0,rfl,b1.lt,λj u hj=>by
  rw[qC,b1.cell]
  simpa using hj⟩⟩
 have C:=Gn g Hf (some ⟨w.heap.size,0,none⟩) 2 aC;have aF:=aA.size;rw[Ch] at C;have aD:=pk aB.symm;clear aB aC b1
 go_enter func13,ntmps13
 go_wp2_with (first
  | (refine zr rfl (FW (⟨#[97]⟩,⟨#[49]⟩) (⟨#[99]⟩,⟨#[50]⟩) rfl rfl rfl) ?_;rw[show w.alloc (.cells (yc [(⟨#[97]⟩,⟨#[49]⟩),(⟨#[99]⟩,⟨#[50]⟩)]).toArray 36)=g from aD.out]))
 refine C.mono ?_;rintro e w2 ⟨K,p,t,V,rfl,hK,aG,h2⟩;have E:=Kn (l:=Hf) hK (by rw[Ch];exact h2);rw[Ch] at E;clear h2 C
 go_wp2_with (first
  | (go_at_call 7;refine(xX _ _).mono ?_;rintro e wn ⟨rfl,rfl⟩)
  | (go_at_call 6;refine E.mono ?_;rintro e w3 ⟨c,rfl,O⟩;clear E;have f:=wX (key:=⟨#[98]⟩) O (by omega) (by decide);rw[tA] at f;rw[show (Hf[1]?).isSome=true from rfl] at f))
 refine f.mono ?_;rintro e w4 ⟨rfl,U⟩;clear f O;have q:=Cu U;rw[show XA (Hf[1]?)=⟨#[99]⟩ from rfl] at q
 go_wp2_with fail
 refine q.mono ?_;rintro e w5 ⟨rfl,Z⟩;clear q U;have I:=Oq (n:=1) Z (by omega) (by decide);rw[show (Hf[1+1]?).isSome=false from rfl] at I
 go_wp2_with fail
 refine I.mono ?_;rintro e w6 ⟨rfl,h6⟩;clear I Z;have B:=wY h6 (by omega);rw[show (if Hf.length=0 then none else Hf[Hf.length-1]?)=Hf[1]? from rfl,show (Hf[1]?).isSome=true from rfl] at B
 go_wp2_with fail
 refine B.mono ?_;rintro e w7 ⟨rfl,h7⟩;clear B h6;have F:=Oo (n:=1) h7 (by omega) (by decide);rw[show (if 1=0 then none else Hf[1-1]?)=Hf[0]? from rfl,show (Hf[0]?).isSome=true from rfl] at F
 go_wp2_with fail
 refine F.mono ?_;rintro e w8 ⟨rfl,h8⟩;clear F h7;have A:=Cu h8;rw[show XA (Hf[0]?)=⟨#[97]⟩ from rfl] at A
 go_wp2_with fail
 refine A.mono ?_;rintro e w9 ⟨rfl,h9⟩;clear A h8;have G:=Oo (n:=0) h9 (by omega) (by decide);rw[show (if 0=0 then none else Hf[0-1]?)=none from rfl] at G
 go_wp2_with fail
 refine G.mono ?_;rintro e aH ⟨rfl,M⟩;clear G h9;have h:=wX (key:=⟨#[100]⟩) M (by omega) (by decide);rw[uK] at h
 go_wp2_with fail
 refine h.mono ?_;rintro e w11 ⟨rfl,aE⟩;clear h M;obtain⟨⟨v,st,mk,hc,_⟩,_⟩:=aE;have hB:ph w.heap.size w w11:=aA.trans (hc.tr.pa.ca.cs.fh.up.mono aF);clear hc;go_wp2;exact oE (results_tmp rfl _ _ _) rfl ⟨rfl,hB⟩
theorem vw.row {w W:World}{K:xH}{p t c N n f:Nat}{es:List yN}{A:Y5}{r:Option yN}(h:vw w K p t c es (.slice A n f) r N W):yp W W.heap.size 2 A es.length f (yc es):=by
 obtain⟨j,c',e,g⟩:=qn h.own (jo es);injection e with e1 e2 e3
 subst e1 e3;exact g
theorem vw.key {w W:World}{K:xH}{p t c N n j:Nat}{es:List yN}{A:Y5}{r:Option yN}(h:vw w K p t c es (.slice A n j) r N W)(k:Nat)(q:k<es.length):∃g o,A=some ⟨g,o,none⟩/\W.cell? ⟨g,o+k*2,none⟩=some (.string es[k].1):=by
 have f:=h.row;obtain⟨g,o,rfl,B,_⟩:=f.rC (by omega);exact⟨g,o,rfl,Rh f rfl k q 0 _ rfl⟩
theorem Qn {es:List yN}{k:Nat}(h:k<es.length):(es[k]?).isSome=true:=by simp[h]
theorem Ik {es:List yN}{k:Nat}(h:¬ k<es.length):(es[k]?).isSome=false:=by simp;omega
theorem Gt {es:List yN}{k:Nat}(h:k<es.length):XA (es[k]?)=es[k].1:=by rw[zM h];rfl
theorem vw.more {w W:World}{K:xH}{p t c N f:Nat}{es:List yN}{V:Value}{r:Option yN}(h:vw w K p t c es V r N W)(A:N<=f):vw w K p t c es V r f W:=by
 obtain⟨⟨v,st,mk,hc,hn⟩,q,g,hs,j⟩:=h;exact⟨⟨v,st,mk,hc,by omega⟩,q,g,hs,j⟩
def VY (es:List yN)(k:Nat):Option yN:=if k=0 then none else es[k-1]?
theorem Ts (es:List yN)(k:Nat):VY es (k+1)=es[k]?:=by
 unfold VY;rw[if_neg (by omega),Nat.add_sub_cancel]
theorem LX (w:World)(l:List yN)(A:Y5)(c0:Nat)(aC:yp w w.heap.size 2 A l.length c0 (yc l)):pr Y3 3 #[.slice A l.length c0] w λe w'=>e=Y0 (.bool true)/\ph w.heap.size w w':=by
 have HM:=Gn w l A c0 aC;have aI:=Sz l;have HN:=λK p t V W (hK:K.Ok) h=>Kn (w:=w) (K:=K) (p:=p) (t:=t) (V:=V) (W:=W) (l:=l) hK h
 generalize kV l=es at *;clear aC
 go_enter func3,ntmps3
 go_wp2_with fail
 refine HM.mono ?_;rintro e w2 ⟨K,p,t,V,rfl,hK,aH,h2⟩;have HC:=HN K p t V w2 hK h2;clear HN HM h2
 go_wp2_with fail
 refine HC.mono ?_;rintro e w3 ⟨c,rfl,h3⟩;clear HC;obtain⟨AV,cv,rfl,_⟩:=qn h3.own (jo es);have HF:=uW h3 (by omega)
 go_wp2_with (first
  | (go_at_call 7;refine(xX _ _).mono ?_;rintro e O ⟨rfl,rfl⟩)
  | (go_at_call 8;refine HF.mono ?_;rintro e w4 ⟨rfl,h4⟩;clear HF h3))
 go_loopw [8,9,10] (λI ok ev wr=>∃(k:Nat),k<=es.length/\I=.int .i64 k/\ok=.bool (es[k]?).isSome/\ev=.int .i64 0/\vw w K p t c es (.slice AV es.length cv) (es[k]?) (61000+1000*k) wr) (λI _ _ _=>es.length-(intOf I).toNat)
 case atStart=>exact⟨0,by omega,rfl,rfl,rfl,h4.more (by omega)⟩
 case round =>
  obtain⟨k,hk,rfl,q,rfl,C⟩:=hrel;have aJ:IntKind.i64.wrap ((k:Int)+1)=(k:Int)+1:=xd _;have aF:(0:Int)<=(k:Int):=by omega
  by_cases f:k<es.length
  ·rw[Qn f] at q;subst q;have i2:(k:Int)<(es.length:Int):=by omega
   have j:=Cu C;rw[Qn f,Gt f] at j
   go_wp2_with (first
    | (go_at_call 7;refine(xX _ _).mono ?_;rintro e O ⟨rfl,rfl⟩))
   refine j.mono ?_;rintro e w5 ⟨rfl,G⟩;clear j C;obtain⟨g,o,rfl,d0⟩:=G.key k f
   by_cases hz:k=0
   ·have aG:¬ (1:Int)<(k:Int)+1:=by omega
    clear hz;have B:=Oq G (by omega) f;generalize es[k].1=ky at *
    go_wp2_with fail
    refine B.mono ?_;rintro e w6 ⟨rfl,E⟩;clear B G
    go_wp2_with fail
    exact⟨⟨k+1,by omega,by simp,rfl,rfl,E.more (by omega)⟩,by simp[intOf];omega⟩
   ·have aG:(1:Int)<(k:Int)+1:=by omega
    have F:=Oo G (by omega) f;rw[if_neg hz,Qn (show k-1<es.length by omega)] at F;have M:k-1+1=k:=by omega
    have HE:=pk (show XA (es[k]?)=es[k].1 from Gt f);have HS:=pk (show (es[k]?).isSome=true from Qn f);generalize es[k].1=ky at *;have aD:=pk M;clear hz M
    go_wp2_with fail
    refine F.mono ?_;rintro e w6 ⟨rfl,E⟩;clear F G;have M:=aD.out;have B:=Oq E (by omega) (by omega);rw[M,HS.out] at B;clear M
    go_wp2_with fail
    refine B.mono ?_;rintro e w7 ⟨rfl,U⟩;clear B E;have j:=Cu U;rw[HS.out,HE.out] at j
    go_wp2_with fail
    refine j.mono ?_;rintro e w8 ⟨rfl,h8⟩;clear j U;have B:=Oq h8 (by omega) f
    go_wp2_with (first
     | (go_at_call 7;refine(xX _ _).mono ?_;rintro e O ⟨rfl,rfl⟩))
    refine B.mono ?_;rintro e w9 ⟨rfl,h9⟩;clear B h8
    go_wp2_with fail
    exact⟨⟨k+1,by omega,by simp,rfl,rfl,h9.more (by omega)⟩,by simp[intOf];omega⟩
  ·rw[Ik f] at q;subst q;obtain rfl:k=es.length:=by omega
   have Z:=wY C (by omega);rw[show (if es.length=0 then none else es[es.length-1]?)=VY es es.length from rfl] at Z
   go_wp2_with (first
    | (go_at_call 7;refine(xX _ _).mono ?_;rintro e O ⟨rfl,rfl⟩))
   refine Z.mono ?_;rintro e w5 ⟨rfl,G⟩;clear Z C
   go_wp2_with fail
   go_loopw [8,9,10] (λI ok ev wr=>∃(k:Nat),k<=es.length/\I=.int .i64 k/\ok=.bool (VY es k).isSome/\ev=.int .i64 0/\vw w K p t c es (.slice AV es.length cv) (VY es k) (200000-1000*k) wr) (λI _ _ _=>(intOf I).toNat)
   case atStart=>exact⟨es.length,by omega,rfl,rfl,rfl,G.more (by omega)⟩
   case round =>
    obtain⟨k,hk,rfl,q,rfl,C⟩:=hrel;rcases k with _|k
    ·replace q:_=Value.bool false:=q;subst q;obtain⟨⟨v,st,mk,hc,_⟩,_⟩:=C;have hB:ph w.heap.size w wr:=hc.tr.pa.ca.cs.fh.up;have aA:=DG wr;clear hc
     go_wp2_with (first
      | (go_at_call 7;refine(xX _ _).mono ?_;rintro e O ⟨rfl,rfl⟩))
     refine aA.mono ?_;rintro e w6 ⟨rfl,aB⟩;have aE:=hB.trans (aB.mono hB.size);clear aA hB aB;go_wp2;exact oE (results_tmp rfl _ _ _) rfl ⟨rfl,aE⟩
    ·have f:k<es.length:=by omega
     rw[Ts] at q C;rw[Qn f] at q;subst q;have aF:(0:Int)<=(k:Int):=by omega
     have i2:(k:Int)<(es.length:Int):=by omega
     have j:=Cu C;rw[Qn f,Gt f] at j
     go_wp2_with (first
      | (go_at_call 7;refine(xX _ _).mono ?_;rintro e O ⟨rfl,rfl⟩))
     refine j.mono ?_;rintro e w6 ⟨rfl,E⟩;clear j C;obtain⟨g,o,rfl,d0⟩:=E.key k f;have F:=Oo E (by omega) f;rw[show (if k=0 then none else es[k-1]?)=VY es k from rfl] at F;generalize es[k].1=ky at *
     go_wp2_with fail
     refine F.mono ?_;rintro e w7 ⟨rfl,U⟩;clear F E
     go_wp2_with fail
     refine⟨⟨k,by omega,rfl,rfl,rfl,U.more (by omega)⟩,?_⟩;show (k:Int).toNat<((k+1:Nat):Int).toNat
     omega
end
section
open Go vA Go.ChangeShapes Go.WideShapes Go.ChangeAt Go.RowKit
section
variable {H:Type}{enc:oD×Value->H}{W:World}{r:Reach}{b0 b1:Nat}{held:Bool}{v:Value}{d:DataW H}{p:List MemPlace}
instance:Inhabited yN:=⟨(oR,oR)⟩
theorem BH (e:yN):∀v∈xc e,v.oneCell'=true:=jo [e]
theorem CO {n:Nat}{c:Value}{x:DataW H×List MemPlace}(h:DataW.trod enc Y3 W b1 (λ_=>true) held n 22 [c]=some x):∃A k,∃s:List yN,c=.slice A s.length k/\yp W W.heap.size 2 A s.length k (yc s):=by
 have hc:Y3.cellsOf 36=2:=by kernel_rfl
 have C:Y3.cellsOf 9=1:=by kernel_rfl
 exact AS (α:=yN) xc (by decide) (λ_=>rfl) BH underlying22 hc (λn cs x hl ht=>by
  obtain⟨xs,m,_,_,_,E,B⟩:=DataW.trod_struct underlying36 ht
  match cs,hl with
  | [c0,c1],_ =>
   have I:xs.length=2:=E;have j:=B 0 _ rfl;have q:=B 1 _ rfl;rw[zM (by omega)] at j q;obtain⟨F,f,_,_⟩:=DataW.trod_string underlying9 j;obtain⟨G,g,_,_⟩:=DataW.trod_string underlying9 q;replace f:([c0,c1].drop 0).take (Y3.cellsOf 9)=_:=f;replace g:([c0,c1].drop 1).take (Y3.cellsOf 9)=_:=g;rw[C] at f g;simp at f g;subst f g
   exact⟨(F,G),rfl⟩) h
theorem IU (g:Value.okWide Y3 W r b0 22 v)(h:DataW.Trod enc Y3 W b1 (λ_=>true) held 22 v d p):∃(A:Y5) (k:Nat) (xs:List yN),v=.slice A xs.length k/\yp W W.heap.size 2 A xs.length k (yc xs):=by
 obtain⟨A,n,k,rfl⟩:=okWide_slice underlying22 g;obtain⟨f,hf⟩:=h;exact CO (show DataW.trod enc Y3 W b1 (λ_=>true) held f 22 [.slice A n k]=_ from hf)
end
end
end Go.Proofs.YtohmkffoojdahaaGreat
