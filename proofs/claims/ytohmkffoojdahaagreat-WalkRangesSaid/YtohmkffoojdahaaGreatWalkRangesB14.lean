/- Texts that the proof of WalkRanges leans on, part 14. -/
import Derived.Lib.MinMax
import Derived.Test.YtohmkffoojdahaaGreatWalkRangesB13
open Nat renaming reduceAdd->yB,reduceSub->yC
set_option linter.unusedVariables false
set_option linter.unusedSimpArgs false
set_option maxRecDepth 100000
set_option maxHeartbeats 8000000

open ByteArray renaming empty->nX
open Go.Act renaming put->nJ
open Go.DataW renaming trod_string->eR
open Go.Fence renaming wide->nv
open Go.RowKit renaming Below->nH
open Go.Proofs.Tryz renaming prog->Y3
open Go.Proofs.Tryz
open Go.Value renaming int->Y1,pointer->Y9,slice->X1,bool->X3,string->X9,agg->Q0
open Go.IntKind renaming i64->Q4
open Go.Obj renaming cells->Q9
open Option renaming none->K3,some->K4
namespace Go.Proofs.YtohmkffoojdahaaGreat
section
open Go Go.RowKit xq Go.Shelf
attribute [local go_sem] Oper.semAt_some
@[local go_sem] theorem ry (w:World) (f:Fn) (xs ys:Y7):(binOp .eql 42 (.func f xs ys) .nilFunc).run Y3 w=.ok (X3 false) w:=by have h:=TE (P:=Y3) 9999 42 w f xs ys underlying42;have e:binOp .eql 42 (.func f xs ys) .nilFunc=(do pure (.bool (<-Op.equalIn (9999+1) 42 (.func f xs ys) .nilFunc))):=rfl;rw[e];simp only[Sem.run_bind,h,Result.andThen,Sem.run_pure]
theorem Ma {F:Fence}{n e:Nat}{P:Program}{C:Code}{Q:Exit->Act->World->Prop}{a0:Act}{w0:World}(S:Act->Act->World->Prop)(h1:∀c:Exit->Act->World->Prop,(∀a w,S a0 a w->c .normal a w)->(∀a w,S a0 a w->c (.exit e) a w)->C.wpIn F n P c a0 w0)(h2:∀a w,S a0 a w->Q .normal a w):C.wpIn F n P (Exit.inBlock e Q) a0 w0 :=
 h1 _ h2 (λa w h=>by simpa[Exit.inBlock] using h2 a w h)
section
variable {W W' X Y:World}{base n N q r z s B b:Nat}{v vk:Value}{cs:Y8}{t m many:Int}{D:List qw}{lo hi:ByteArray}{T:Y5}
theorem uR (h:W.ownsRow base 36 2 v n cs)(j:∀g o l c,v=X1 (K4 ⟨g,o,K3⟩) l c->g<N)(i:xC N W W'):W'.ownsRow base 36 2 v n cs:=by
 refine⟨h.1,?_⟩;rcases h.2 with h|⟨g,a,cur,h1,h2,e,f⟩
 .exact .inl h
 .exact .inr ⟨g,a,cur,h1,h2,i.blk e (j _ _ _ _ h1) K7,f⟩
theorem GI (h:W.ownsRow base 36 2 v n cs)(g:Nat)(o l c:Nat)(e:v=X1 (K4 ⟨g,o,K3⟩) l c):g<W.heap.size:=by
 rcases h.2 with⟨h1,_⟩|⟨g',cap,cur,h1,h2,h3,h4⟩
 .rw[h1] at e;cases e
 .rw[h1] at e;injection e with e
  injection e with e
  injection e with e
  rw[<-e];exact za.lt h3
structure Wr (s q r z:Nat)(many:Int)(vk:Value)(t m:Int)(D:List qw)(B:Nat)(X:World):Prop where
 y:za X (s+1) 3 #[Y1 Q4 many]
 k:za X q 22 #[vk]
 t:za X r 3 #[Y1 Q4 t]
 m:za X z 3 #[Y1 Q4 m]
 row:X.ownsRow B 36 2 vk D.length (yP D)
theorem Wr.oq (h:Wr s q r z many vk t m D B X)(a:xC N X Y)(h1:s+1<N)(h2:q<N)(e:r<N)(f:z<N)(i:∀g o l c,vk=X1 (K4 ⟨g,o,K3⟩) l c->g<N):Wr s q r z many vk t m D B Y :=
 ⟨a.blk h.y h1 K7,a.blk h.k h2 K7,a.blk h.t e K7,a.blk h.m f K7,uR h.row i a⟩
theorem Wr.step (h:Wr s q r z many vk t m D B X)(h1:s+1≠z)(c:r≠z)(a:Int):Wr s q r z many vk t a D B (X.setCell z (Y1 Q4 a)) :=
 ⟨h.y.other (by simpa using h1) _,h.k.other (by simpa using zh h.k h.m K7) _,h.t.other (by simpa using c) _,h.m.set 0 _,Tt h.row h.m K7 ((vA.of (yo.grow (nF _ _))).pS (ze.setCell _ _ _ rfl))⟩
theorem jP.set (h:jP b T lo hi X)(a:za X z 3 #[Y1 Q4 m])(u:Value):jP b T lo hi (X.setCell z u) :=
 ⟨h.b1.other (by simpa using zh h.b1 a K7) _,h.b2.other (by simpa using zh h.b2 a K7) _,h.b3.other (by simpa using zh h.b3 a K7) _⟩
theorem Wr.in_ {A:Y5}{c:Nat}(h:Wr s q r z many (X1 A D.length c) t m D B X):yl X X.heap.size 2 A D.length c (yP D):=by
 obtain⟨a,c',e,hi⟩:=qq h.row (vj D);injection e with e1 e2 e3
 subst e1 e3;exact hi
theorem Bo {a:List qw}{x:qw}(h:a++[x] <+: D):∃c:a.length<D.length,D[a.length]=x:=by
 obtain⟨l,rfl⟩:=h;refine⟨by simp,?_⟩;simp
def Vv (Es:List Nat)(X:World):Prop:=∀E∈Es,X.heap[E]?=some (.deferred (some []))
theorem Jl {a:List Nat}{v:Value}{T:TypeId}(c:Vv a X)(f:za X z T #[v])(u:Value):Vv a (X.setCell z u):=λE h=>by
 refine(Below.heap_setCell X ⟨z,0,K3⟩ u E (λe => ?_)).trans (c E h);have h1:=c E h;have h2:X.heap[z]?=some (.cells _ _ (0,0)):=f;rw[e] at h1;rw[h1] at h2;cases h2
theorem DB {a:List Nat}(c:Vv a X)(hB:nH X.heap.size X Y):Vv a Y:=λE h=>(hB.block E (jI (c E h))).trans (c E h)
theorem Km {a:List Nat}(c:Vv a X)(g:∀E∈a,E<N)(f:xC N X Y):Vv a Y:=λE h=>f.2 E _ (g E h) (c E h) (.inr ⟨rfl,λ_ _ e=>by cases e⟩)
theorem Wr.next (e:za X (s+1) 3 #[Y1 Q4 many])(a:za X q 22 #[vk])(f:X.ownsRow B 36 2 vk D.length (yP D))(t:Int):Wr s q X.heap.size (X.heap.size+1) many vk t 0 D B ((X.alloc (Q9 #[Y1 Q4 t] 3)).alloc (Q9 #[Y1 Q4 0] 3)):=by
 have hB:=QU X (Q9 #[Y1 Q4 t] 3) (Q9 #[Y1 Q4 0] 3);have c:=za.new (X.alloc (Q9 #[Y1 Q4 t] 3)) 3 #[Y1 Q4 0];rw[nG] at c;exact⟨e.below hB e.lt,a.below hB a.lt,(za.new X _ _).alloc _,c,qn f hB⟩
theorem KI {E:Nat}{a:List Nat}(h:X.heap[E]?=some (.deferred (some [])))(c:Vv a X):Vv (E::a) X:=λF hF=>by
 rcases qN.1 hF with rfl|hF
 .exact h
 .exact c F hF
structure rZ (W1:World)(K:xB)(p tt:Nat)(st:qj)(mk:Value)(es:List qw)(b:Nat)(lo hi:ByteArray)(N:Nat)(Es:List Nat)(X:World):Prop where
 tr:∃v,zy W1 K p tt 0 v st vv true mk [] X/\xu K v.D st es/\v.N<=N
 bx:jP b (K4 ⟨tt,0,K3⟩) lo hi X
 dq:Vv Es X
theorem rZ.grow {c:World}{K:xB}{p e N b:Nat}{st:qj}{mk:Value}{es:List qw}{a:List Nat}(h:rZ c K p e st mk es b lo hi N a X)(hB:nH X.heap.size X Y):rZ c K p e st mk es b lo hi N a Y:=by
 obtain⟨⟨v,h1,h2,f⟩,g,i⟩:=h;exact⟨⟨v,h1.grow hB,h2,f⟩,g.grow hB,DB i hB⟩
end
theorem Hr (n:Nat)(hn:14<=n)(w:World)(l:List qw)(A:Y5)(c0:Nat)(Z:yl w w.heap.size 2 A l.length c0 (yP l))(lo hi:ByteArray)(many:Int)(b7:lo.size<=100)(b6:hi.size<=100):CallsIn nv n Y3 4 #[X1 A l.length c0,Q0 #[X9 lo,X9 hi],Y1 Q4 many] w λe w'=>e=Y0 (X3 true)/\nH w.heap.size w w':=by
 have h1:1<=n:=K5
 obtain⟨W1,aC⟩:=Z9 (((w.alloc (Q9 #[X9 lo,X9 hi] 39)).alloc (Q9 #[Y1 Q4 many] 3)).alloc (Q9 #[X3 false] 4));have a3:nH w.heap.size w W1:=by rw[aC];exact(QU _ _ _).alloc (by simp[nG];omega) _
 have s1:W1.heap.size=w.heap.size+3:=by rw[aC];simp[nG]
 have bk:za W1 w.heap.size 39 #[X9 lo,X9 hi]:=by rw[aC];exact((za.new w _ _).alloc _).alloc _
 have aR:za W1 (w.heap.size+1) 3 #[Y1 Q4 many]:=by have:=(za.new (w.alloc (Q9 #[X9 lo,X9 hi] 39)) 3 #[Y1 Q4 many]).alloc (Q9 #[X3 false] 4);rw[nG] at this;rw[aC];exact this
 have bo:za W1 (w.heap.size+2) 4 #[X3 false]:=by have:=za.new ((w.alloc (Q9 #[X9 lo,X9 hi] 39)).alloc (Q9 #[Y1 Q4 many] 3)) 4 #[X3 false];rw[nG,nG] at this;rw[aC];exact this
 have HM:=Ho W1 l A c0 (by have:=Z.grow a3;exact this);have bA:=PA l;have bH:=Mq l;generalize kW l=es at *;obtain⟨D,hD⟩:=Z9 (jw es lo hi);have cK:D.length<=60:=by rw[hD];have:=Ee es lo hi;omega
 have HD:=nI hD;clear hD;have k0:W1.cell? w.heap.size=some (X9 lo):=by rw[bk.cell];rfl
 have k1:W1.cell? ⟨w.heap.size,1,K3⟩=some (X9 hi):=by rw[bk.cell];rfl
 have g0:¬ (100:Int)<(lo.size:Int):=K5
 have g1:¬ (100:Int)<(hi.size:Int):=K5
 rw[aC] at k0 k1;have bV:=nI aC.symm;have bU:=nI s1;clear aC s1 Z b7 b6;refine callsIn_of_wp_marks func4 rfl trivial ?_ rfl;simp only[ntmps4,zR,zK,zY,yB,yC,qC,qD,qO,qG,zQ,zW]
 gi_wp2_with (first
  |(refine⟨trivial,?_⟩;gi_at_call 5;rw[bV.out];refine(callsIn_wide.2 HM).mono ?_;rintro e w2 ⟨K,p,tt,V,rfl,hK,cR,hM⟩;obtain⟨⟨v,st,mk,hT,hI,hN⟩,bQ⟩:=hM;have bR:=hT.pa.ca.cs.fh.up;have aK:=bk.below bR bk.lt;have M:w2.cell? w.heap.size=some (X9 lo):=(by rw[aK.cell];rfl);have O:w2.cell? ⟨w.heap.size,1,K3⟩=some (X9 hi):=(by rw[aK.cell];rfl);obtain⟨AV,cv,rfl,bP⟩:=qq bQ (vj es);have HR:=Ru w2 es AV cv w2.heap.size bP (zG _) bA lo hi;rw[<-HD.out] at HR)
  | (refine⟨trivial,?_⟩;gi_at_call 14;refine(callsIn_wide.2 HR).mono ?_;rintro e w3 ⟨vk,rfl,bC,a6⟩;obtain⟨L,F,rfl,-⟩:=qq bC (vj D)))
 have a7:nH w3.heap.size w3 (w3.alloc (Q9 #[X1 L D.length F] 22)):=vo _ _;have q4:=za.new w3 22 #[X1 L D.length F];have bS:=qn bC a7;have bI:=a6.trans (a7.mono a6.size);have a5:=bI.drew;have bM:=hT.grow a5;have aM:=aK.below a5 aK.lt;have qd:=q4.below (nF _ _).drew q4.lt;have bT:=bS.drew;have S:(w3.alloc (Q9 #[X1 L D.length F] 22)).drew.cell? w.heap.size=some (X9 lo)/\(w3.alloc (Q9 #[X1 L D.length F] 22)).drew.cell? ⟨w.heap.size,1,K3⟩=some (X9 hi):=⟨by rw[aM.cell];rfl,by rw[aM.cell];rfl⟩;clear a7 q4 bS bI hT bC a6 a5 HR HM M O bQ bP;refine wpIn_wide.2 ?_;refine Code.wp_mono (Q:=Tx _) (λe a w h=>Hj h) ?_;refine zb.st (λX:World=>X.cell? w.heap.size=some (X9 lo)/\X.cell? ⟨w.heap.size,1,K3⟩=some (X9 hi)) 99 ?_;generalize (w3.alloc (Q9 #[X1 L D.length F] 22)).drew=wd at *;refine zb.q0 0 (Y9 tt) S ?_;refine zb.q0 1 (Y9 w.heap.size) S ?_;refine zb.q0 2 (X9 lo) S ?_;refine zb.q0 3 (Y9 (K4 ⟨w.heap.size,1,K3⟩)) S ?_;refine zb.q0 4 (X9 hi) S ?_;refine zb.q0 6 (Y9 w.heap.size) S ?_;refine zb.q0 7 (X9 lo) S ?_;refine zb.q0 8 (Y9 (K4 ⟨w.heap.size,1,K3⟩)) S ?_;refine zb.q0 9 (X9 hi) S ?_;simp only[Z8];refine zb.n 5 ?_;refine zb.oC 15 #[.tmp 42,.tmp 44,.tmp 46] #[23,9,9] #[Y9 tt,X9 lo,X9 hi] ((KX _ _ _ _).mono ?_) (zb.eo func15);rintro e w5 ⟨rfl,bO,aS⟩;have aL:=aM.below aS aM.lt;have bL:w5.cell? w.heap.size=some (X9 lo)/\w5.cell? ⟨w.heap.size,1,K3⟩=some (X9 hi):=⟨by rw[aL.cell];rfl,by rw[aL.cell];rfl⟩;refine⟨_,rfl,λ_=>bL,?_⟩;simp only[Z8];refine zb.n 10 ?_;refine zb.oC 15 #[.const (Y9 none),.tmp 49,.tmp 51] #[23,9,9] #[Y9 none,X9 lo,X9 hi] ((KX _ _ _ _).mono ?_) (zb.eo func15);rintro e w6 ⟨rfl,bB,aT⟩;have a2:=aL.below aT aL.lt;have aW:w6.cell? w.heap.size=some (X9 lo)/\w6.cell? ⟨w.heap.size,1,K3⟩=some (X9 hi):=⟨by rw[a2.cell];rfl,by rw[a2.cell];rfl⟩;refine⟨_,rfl,λ_=>aW,?_⟩;simp only[Z8];refine zb.n 11 (zb.opV (w':=w6) (.func (.func 33) #[] (Du wd.heap.size)) rfl rfl K8 ⟨λ_=>aW,?_⟩);simp only[Z8];refine zb.n 12 (zb.opV (w':=w6) (.func (.func 33) #[] (Du w5.heap.size)) rfl rfl K8 ⟨λ_=>aW,zb.dn ?_⟩);simp only[Z8];refine Hk ?_;have aU:=aS.trans (aT.mono aS.size);have T6:=bM.grow aU;have B6:=bO.grow aT;have q6:=qd.below aU qd.lt;have bE:=qn bT aU;generalize hq:w3.heap.size=q at q6 ⊢;generalize hb:wd.heap.size=b at B6 ⊢;generalize b5:w5.heap.size=b' at bB ⊢;generalize b4:w2.heap.size=B at bE;clear S bL aW bM aM aL a2 qd bT bO aS aT aU aK bR hq hb b5 b4
 gi_wp2
 refine MZ (λa0 a X=>∃E,a={a0 with defers:={target:=.collected E,args:=#[]}::a0.defers}/\X.heap[E]?=some (.deferred (some []))/\w6.heap.size<=E/\nH w6.heap.size w6 X) ?_ ?_
 .intro Q' hQ;exact RP rfl h1 (gf:=33) (lb:=Du b') rfl trivial (zb.eo func33) (Iv (n-1) K5 bB) (λ_=>rfl) (λE V P hB hK=>hQ _ _ ⟨E,rfl,hK,P,hB⟩)
 rintro a w7 ⟨E0,rfl,bK,a8,aN⟩;have T7:=T6.grow aN;have S7:rZ W1 K p tt st mk es b lo hi 60000 [E0] w7:=⟨⟨v,T7,hI,hN⟩,B6.grow aN,λE h=>by rw[qL.1 h];exact bK⟩;have X7:=λi=>Wr.next (aR.below T7.pa.ca.cs.fh.up aR.lt) (q6.below aN q6.lt) (qn bE aN) i
 have cW:W1.heap.size<=w7.heap.size:=T7.up;have cL:w6.heap.size<=E0:=a8;have c1:W1.heap.size<=w6.heap.size:=T6.up;clear T6 B6 q6 bE bB aN T7 hI hN bK a8
 gi_wp2
 refine wpIn_loop_rounds 3 ?_;rw[roundsIn_succ]
 gi_wp2
 have S0:=S7.grow (QU w7 (Q9 #[Y1 Q4 0] 3) (Q9 #[Y1 Q4 0] 3));have u:=X7 0;obtain⟨v0,aG,hI0,cS⟩:=S0.tr;have aE:=λ(hz:W1.heap.size<=w7.heap.size+1)=>TO (n-1) K5 aG hK K5 hI0 bA (λx hx=>(bH x hx).1) S0.bx hz
 rw[<-HD.out] at aE;replace aE:=aE K5;clear X7;generalize (w7.alloc (Q9 #[Y1 Q4 0] 3)).alloc (Q9 #[Y1 Q4 0] 3)=V0 at *;generalize cY:w7.heap.size+1=z0 at *;generalize w7.heap.size=r0 at *;have aO:=λE h=>jI (S0.dq E h)
 refine Ma (λa0 a X=>∃(E k:Nat),a={a0 with defers:={target:=.collected E,args:=#[]}::a0.defers}/\(k:Int)=min (D.length:Int) (max 1 many)/\V0.heap.size<=E/\Wr w.heap.size q r0 z0 many (X1 L D.length F) 0 (k:Int) D B X/\rZ W1 K p tt st mk es b lo hi 80000 (E::[E0]) X) ?_ ?_
 .intro Q' hQ aV;refine XJ rfl h1 (gf:=33) (lb:=Du b) rfl trivial (zb.eo func33) aE (Um.oU aG.up aG.du aG.mlt) (λ_=>rfl)
   (λc X=>c <+: D/\(c.length=0\/(c.length:Int)<many)/\Wr w.heap.size q r0 z0 many (X1 L D.length F) 0 (c.length:Int) D B X/\jP b (K4 ⟨tt,0,K3⟩) lo hi X/\Vv [E0] X)
   (λcd c X=>cd=.exit 4/\(c.length:Int)=min (D.length:Int) (max 1 many)/\Wr w.heap.size q r0 z0 many (X1 L D.length F) 0 (c.length:Int) D B X/\jP b (K4 ⟨tt,0,K3⟩) lo hi X/\Vv [E0] X)
   ?hI0 ?hIx0 (λs X h=>⟨_,h.2.2.1.m⟩) ⟨⟨D,rfl⟩,.inl rfl,u,S0.bx,S0.dq⟩ ?act0 ?assign0 ?body0 ?done0 ?stop0
  case hI0 =>
   rintro s X Y ⟨h1,h2,h3,h4,h5⟩ j;exact⟨h1,h2,h3.oq j u.y.lt u.k.lt u.t.lt u.m.lt (GI u.row),h4.oq j S0.bx.b3.lt,Km h5 aO j⟩
  case hIx0 =>
   rintro cd s X Y ⟨h1,h2,h3,h4,h5⟩ j;exact⟨h1,h2,h3.oq j u.y.lt u.k.lt u.t.lt u.m.lt (GI u.row),h4.oq j S0.bx.b3.lt,Km h5 aO j⟩
  case assign0 =>
   intro l1 x X K hK;unfold Gu
   gi_wp2
   exact hK
  case body0 =>
   rintro l1 c x X ⟨hp,a9,f,G,I⟩ aP;obtain⟨hk,rfl⟩:=Bo aP;have bY:1<=n-1-1:=K5
   have Z:=f.in_;obtain⟨g,o,rfl,hg,_⟩:=Z.pO K5;have d:=Vk Z rfl c.length hk;have d0:X.cell? ⟨g,o+c.length*2,K3⟩=some (.string (D[c.length]).1):=d 0 _ rfl;have d1:X.cell? ⟨g,o+c.length*2+1,K3⟩=some (.string (D[c.length]).2):=d 1 _ rfl;have aD:((c++[D[c.length]]).length:Int)=(c.length:Int)+1:=by simp
   have n1:w.heap.size+1≠z0:=by have:=aR.lt;omega
   have n2:r0≠z0:=K5
   have aX:Wr w.heap.size q r0 z0 many (X1 (K4 ⟨g,o,K3⟩) D.length F) 0 ((c++[D[c.length]]).length:Int) D B (X.setCell z0 (Y1 Q4 ((c.length:Int)+1))):=by rw[aD];exact f.step n1 n2 _
   have cy:=f.y.boxed;have ck:=f.k.boxed;have ct:=f.t.boxed;have cm:=f.m.boxed;have fm:=f.m.free 0;have aY:=G.set f.m (Y1 Q4 ((c.length:Int)+1));have aZ:=Jl I f.m (Y1 Q4 ((c.length:Int)+1));have n3:¬ q=z0:=zh f.k f.m K7;have n4:¬ w.heap.size+1=z0:=n1;have n5:¬ r0=z0:=n2;have b8:IntKind.i64.wrap ((c.length:Int)+1)=(c.length:Int)+1:=xX _;have i0:(0:Int)<=(c.length:Int):=K5
   have i1:¬ (D.length:Int)<=(c.length:Int):=K5
   have i2:(c.length:Int)<(D.length:Int):=K5
   have HL:=nI aD;clear aD d Z hg hp n1 n2 f G I aE aG S0 u aO hQ aV;generalize D[c.length]=x at *;obtain⟨x1,x2⟩:=x
   by_cases hc:many<=(c.length:Int)+1
   .gi_wp2
    exact⟨ze.setCell _ _ _ rfl,rfl,by rw[HL.out];omega,aX,aY,aZ⟩
   .gi_wp2
    exact⟨ze.setCell _ _ _ rfl,aP,.inr (by rw[HL.out];omega),aX,aY,aZ⟩
  case done0 =>
   rintro E X P ⟨_,a9,f,G,I⟩ ⟨v',aJ,aA⟩ aB;exact hQ _ _ ⟨E,D.length,rfl,by omega,P,f,⟨⟨v',aJ,by rw[aA.dd];exact hI0,by have:=aA.nn;omega⟩,G,KI aB I⟩⟩
  case stop0 =>
   rintro E cd c X P _ ⟨rfl,bD,f,G,I⟩ ⟨v',aJ,aA⟩ aB;exact wpIn_exit (aV _ _ ⟨E,c.length,rfl,bD,P,f,⟨⟨v',aJ,by rw[aA.dd];exact hI0,by have:=aA.nn;omega⟩,G,KI aB I⟩⟩)
 rintro a w8 ⟨E1,k0,rfl,cU,a8,W8,S8⟩;have cG:=W8.t.boxed;have cE:=W8.m.boxed;have cB:=W8.k.boxed;have cI:=W8.y.boxed;have X8:=λi=>Wr.next W8.y W8.k W8.row i
 have c3:=(za.new w8 3 #[Y1 Q4 1]).boxed;have cX:W1.heap.size<=w8.heap.size:=by obtain⟨v8,t8,_⟩:=S8.tr;exact t8.up
 have cM:=aO E0 K9;clear W8 S0 u S7 aG aE aO
 gi_wp2
 rw[roundsIn_succ]
 gi_wp2
 have S1:=S8.grow (QU w8 (Q9 #[Y1 Q4 1] 3) (Q9 #[Y1 Q4 0] 3));have C:=X8 1;obtain⟨v1,aH,hI1,cT⟩:=S1.tr;have aF:=λ(hz:W1.heap.size<=w8.heap.size+1)=>TO (n-1) K5 aH hK K5 hI1 bA (λx hx=>(bH x hx).1) S1.bx hz
 rw[<-HD.out] at aF;replace aF:=aF K5;clear X8;generalize (w8.alloc (Q9 #[Y1 Q4 1] 3)).alloc (Q9 #[Y1 Q4 0] 3)=V1 at *;generalize cZ:w8.heap.size+1=z1 at *;generalize w8.heap.size=r1 at *;have aI:=λE h=>jI (S1.dq E h)
 refine Ma (λa0 a X=>∃(E k:Nat),a={a0 with defers:={target:=.collected E,args:=#[]}::a0.defers}/\k=D.length/\V1.heap.size<=E/\Wr w.heap.size q r1 z1 many (X1 L D.length F) 1 (k:Int) D B X/\rZ W1 K p tt st mk es b lo hi 100000 (E::[E1,E0]) X) ?_ ?_
 .intro Q' hQ aV;refine XJ rfl h1 (gf:=33) (lb:=Du b) rfl trivial (zb.eo func33) aF (Um.oU aH.up aH.du aH.mlt) (λ_=>rfl)
   (λc X=>c <+: D/\True/\Wr w.heap.size q r1 z1 many (X1 L D.length F) 1 (c.length:Int) D B X/\jP b (K4 ⟨tt,0,K3⟩) lo hi X/\Vv [E1,E0] X)
   (λcd c X=>cd=.exit 4/\False/\Wr w.heap.size q r1 z1 many (X1 L D.length F) 1 (c.length:Int) D B X/\jP b (K4 ⟨tt,0,K3⟩) lo hi X/\Vv [E1,E0] X)
   ?hI1 ?hIx1 (λs X h=>⟨_,h.2.2.1.m⟩) ⟨⟨D,rfl⟩,trivial,C,S1.bx,S1.dq⟩ ?act1 ?assign1 ?body1 ?done1 ?stop1
  case hI1 =>
   rintro s X Y ⟨h1,h2,h3,h4,h5⟩ j;exact⟨h1,h2,h3.oq j C.y.lt C.k.lt C.t.lt C.m.lt (GI C.row),h4.oq j S1.bx.b3.lt,Km h5 aI j⟩
  case hIx1 =>
   rintro cd s X Y ⟨h1,h2,h3,h4,h5⟩ j;exact⟨h1,h2,h3.oq j C.y.lt C.k.lt C.t.lt C.m.lt (GI C.row),h4.oq j S1.bx.b3.lt,Km h5 aI j⟩
  case assign1 =>
   intro l1 x X K hK;unfold Gu
   gi_wp2
   exact hK
  case body1 =>
   rintro l1 c x X ⟨hp,a9,f,G,I⟩ aP;obtain⟨hk,rfl⟩:=Bo aP;have bY:1<=n-1-1:=K5
   have Z:=f.in_;obtain⟨g,o,rfl,hg,_⟩:=Z.pO K5;have d:=Vk Z rfl c.length hk;have d0:X.cell? ⟨g,o+c.length*2,K3⟩=some (.string (D[c.length]).1):=d 0 _ rfl;have d1:X.cell? ⟨g,o+c.length*2+1,K3⟩=some (.string (D[c.length]).2):=d 1 _ rfl;have aD:((c++[D[c.length]]).length:Int)=(c.length:Int)+1:=by simp
   have n1:w.heap.size+1≠z1:=by have:=aR.lt;omega
   have n2:r1≠z1:=K5
   have aX:Wr w.heap.size q r1 z1 many (X1 (K4 ⟨g,o,K3⟩) D.length F) 1 ((c++[D[c.length]]).length:Int) D B (X.setCell z1 (Y1 Q4 ((c.length:Int)+1))):=by rw[aD];exact f.step n1 n2 _
   have cy:=f.y.boxed;have ck:=f.k.boxed;have ct:=f.t.boxed;have cm:=f.m.boxed;have fm:=f.m.free 0;have aY:=G.set f.m (Y1 Q4 ((c.length:Int)+1));have aZ:=Jl I f.m (Y1 Q4 ((c.length:Int)+1));have n3:¬ q=z1:=zh f.k f.m K7;have n4:¬ w.heap.size+1=z1:=n1;have n5:¬ r1=z1:=n2;have b8:IntKind.i64.wrap ((c.length:Int)+1)=(c.length:Int)+1:=xX _;have i0:(0:Int)<=(c.length:Int):=K5
   have i1:¬ (D.length:Int)<=(c.length:Int):=K5
   have i2:(c.length:Int)<(D.length:Int):=K5
   have HL:=nI aD;clear aD d Z hg hp n1 n2 f G I aF aH S1 C aI hQ aV;generalize D[c.length]=x at *;obtain⟨x1,x2⟩:=x
   gi_wp2
   exact⟨ze.setCell _ _ _ rfl,aP,aX,aY,aZ⟩
  case done1 =>
   rintro E X P ⟨_,a9,f,G,I⟩ ⟨v',aJ,aA⟩ aB;exact hQ _ _ ⟨E,D.length,rfl,rfl,P,f,⟨⟨v',aJ,by rw[aA.dd];exact hI1,by have:=aA.nn;omega⟩,G,KI aB I⟩⟩
  case stop1 =>
   rintro E cd c X P _ ⟨rfl,bD,f,G,I⟩ ⟨v',aJ,aA⟩ aB;exact bD.elim
 rintro a w9 ⟨E2,k1,rfl,cV,cO,W9,S9⟩;have cH:=W9.t.boxed;have cF:=W9.m.boxed;have cC:=W9.k.boxed;have c4:=(za.new w9 3 #[Y1 Q4 2]).boxed;have bJ:nH w9.heap.size w9 (w9.alloc (Q9 #[Y1 Q4 2] 3)):=vo _ _;have bF:=S9.grow bJ;obtain⟨c5,a1,_⟩:=bF.tr;have cN:=aI E0 K9;have cP:=aI E1 K9;have bG:=bo.below a1.pa.ca.cs.fh.up bo.lt;have bN:=a1.pa.ca.cs.fh.up;clear W9 S1 C S8 aH aF aI S9 a1 bJ
 gi_wp2
 rw[roundsIn_succ]
 gi_wp2_with (refine⟨trivial,?_⟩;gi_at_call 13;refine(callsIn_wide.2 (JQ _)).mono ?_;rintro e w11 ⟨rfl,a4⟩;have aQ:=bG.below a4 bG.lt;have c2:=aQ.boxed;have cJ:=aQ.free 0)
 have b9:=DB bF.dq a4;have b2:nH w.heap.size w w11:=a3.trans ((bN.trans (a4.mono bN.size)).mono a3.size);have bW:=aQ.set 0 (X3 true);have cA:=Jl b9 aQ (X3 true);have bZ:nH w.heap.size w (w11.setCell (w.heap.size+2:Nat) (X3 true)):=b2.setCell (p:=⟨w.heap.size+2,0,K3⟩) K9 _;have bX:w.heap.size+1+1=w.heap.size+2:=rfl;rw[bX];generalize w11.setCell (w.heap.size+2:Nat) (X3 true)=V at *;refine Ko (λV=>za V (w.heap.size+2) 4 #[X3 true]/\nH w.heap.size w V) [E2,E1,E0] V (by simp;omega) cA (λE P U hU aB => ?_) ⟨bW,bZ⟩ (λU hU => ?_)
 .have cQ:w.heap.size+2<E:=by have:=bU.out;simp at P;omega
  exact⟨(Jr U E (.deferred none) (g:=w.heap.size+2) K5).trans hU.1,hU.2.trans (belowK_b (w:=w) (zG _) U E _ _ K5 aB rfl rfl)⟩
 .exact⟨X3 true,Yu (p:=⟨w.heap.size+1+1,0,K3⟩) 6 rfl rfl (by simp[go_sem]) hU.1.boxed,rfl,hU.2⟩
theorem Ve (n:Nat)(hn:14<=n)(w:World)(A:Value)(lo hi:ByteArray)(many:Int)(h:¬ (lo.size<=100/\hi.size<=100)):CallsIn nv n Y3 4 #[A,Q0 #[X9 lo,X9 hi],Y1 Q4 many] w λe w'=>e=Y0 (X3 true)/\nH w.heap.size w w':=by
 have h1:1<=n:=K5
 obtain⟨W1,a⟩:=Z9 (((w.alloc (Q9 #[X9 lo,X9 hi] 39)).alloc (Q9 #[Y1 Q4 many] 3)).alloc (Q9 #[X3 false] 4));have g:nH w.heap.size w W1:=by rw[a];exact(QU _ _ _).alloc (by simp[nG];omega) _
 have c:za W1 w.heap.size 39 #[X9 lo,X9 hi]:=by rw[a];exact((za.new w _ _).alloc _).alloc _
 have f:za W1 (w.heap.size+1+1) 4 #[X3 false]:=by have:=za.new ((w.alloc (Q9 #[X9 lo,X9 hi] 39)).alloc (Q9 #[Y1 Q4 many] 3)) 4 #[X3 false];rw[nG,nG] at this;rw[a];exact this
 have k0:W1.cell? w.heap.size=some (X9 lo):=by rw[c.cell];rfl
 have k1:W1.cell? ⟨w.heap.size,1,K3⟩=some (X9 hi):=by rw[c.cell];rfl
 have hc:(100:Int)<(lo.size:Int)\/(¬ (100:Int)<(lo.size:Int)/\(100:Int)<(hi.size:Int)):=K5
 rw[a] at k0 k1;have j:=nI a.symm;clear a h c;refine callsIn_of_wp_marks func4 rfl trivial ?_ rfl;simp only[ntmps4,zR,zK,zY,yB,yC,qC,qD,qO,qG,zQ,zW];rcases hc with k|⟨k,u⟩
 all_goals
  gi_wp2_with (refine⟨trivial,?_⟩;gi_at_call 13;rw[j.out];refine(callsIn_wide.2 (JQ _)).mono ?_;rintro e C ⟨rfl,i⟩;have b2:=f.below i f.lt;have x:=b2.boxed;have o:=b2.free 0)
  exact⟨X3 true,Yu (p:=⟨w.heap.size+1+1,0,K3⟩) 6 rfl rfl (by simp[go_sem]) (b2.set 0 _).boxed,rfl,(g.trans (i.mono g.size)).setCell (p:=⟨w.heap.size+1+1,0,K3⟩) (by simp;omega) _⟩
theorem PH (w:World)(l:List qw)(A:Y5)(c0:Nat)(a:yl w w.heap.size 2 A l.length c0 (yP l))(lo hi:ByteArray)(many:Int):Calls Y3 4 #[X1 A l.length c0,Q0 #[X9 lo,X9 hi],Y1 Q4 many] w λe w'=>e=Y0 (X3 true)/\nH w.heap.size w w':=by
 by_cases h:lo.size<=100/\hi.size<=100
 .exact callsIn_wide.1 (Hr 14 (zG _) w l A c0 a lo hi many h.1 h.2)
 .exact callsIn_wide.1 (Ve 14 (zG _) w _ lo hi many h)
end
section
open Go xq Go.ChangeShapes Go.WideShapes Go.ChangeAt Go.RowKit
section
variable {H:Type}{enc:TypeId×Value->H}{W:World}{r:Reach}{b0 b1:Nat}{held:Bool}{v:Value}{d:DataW H}{p:List MemPlace}
instance:Inhabited qw:=⟨(nX,nX)⟩
theorem An (e:qw):∀v∈xO e,v.oneCell'=true:=vj [e]
theorem BX {n:Nat}{c:Value}{x:DataW H×List MemPlace}(h:DataW.trod enc Y3 W b1 (λ_=>true) held n 22 [c]=some x):∃A k,∃s:List qw,c=.slice A s.length k/\yl W W.heap.size 2 A s.length k (yP s):=by
 have hc:Y3.cellsOf 36=2:=K6
 have i:Y3.cellsOf 9=1:=K6
 exact uS (α:=qw) xO K7 (λ_=>rfl) An underlying22 hc (λn cs x hl ht=>by
  obtain⟨xs,m,_,_,_,j,hi⟩:=DataW.trod_struct underlying36 ht
  match cs,hl with
  | [c0,c1],_ =>
   have w:xs.length=2:=j;have f:=hi 0 _ rfl;have g:=hi 1 _ rfl;rw[zM K5] at f g;obtain⟨o,a,_,_⟩:=eR underlying9 f;obtain⟨u,e,_,_⟩:=eR underlying9 g;replace a:([c0,c1].drop 0).take (Y3.cellsOf 9)=_:=a;replace e:([c0,c1].drop 1).take (Y3.cellsOf 9)=_:=e;rw[i] at a e;simp at a e;subst a e
   exact⟨(o,u),rfl⟩) h
theorem Nf (c:Value.okWide Y3 W r b0 22 v)(h:DataW.Trod enc Y3 W b1 (λ_=>true) held 22 v d p):∃(A:Y5) (k:Nat) (xs:List qw),v=.slice A xs.length k/\yl W W.heap.size 2 A xs.length k (yP xs):=by
 obtain⟨A,n,k,rfl⟩:=okWide_slice underlying22 c;obtain⟨a,hf⟩:=h;exact BX (show DataW.trod enc Y3 W b1 (λ_=>true) held a 22 [.slice A n k]=_ from hf)
end
section
variable {H:Type}{enc:TypeId×Value->H}{W:World}{r:Reach}{b0 b1:Nat}{held:Bool}{v:Value}{d:DataW H}{p:List MemPlace}
theorem MI (j:Value.okWide Y3 W r b0 39 v)(h:DataW.Trod enc Y3 W b1 (λ_=>true) held 39 v d p):∃a c:ByteArray,v=.agg #[.string a,.string c]:=by
 obtain⟨cs,rfl,hl,hi⟩:=By underlying39 j h;have h2:Y3.cellsOf 39=2:=K6
 have h1:Y3.cellsOf 9=1:=K6
 rw[h2] at hl
 match cs,hl with
 | [c0,c1],_ =>
  obtain⟨_,_,e⟩:=hi 0 K5;obtain⟨_,_,f⟩:=hi 1 K5;rw[h1] at e f;obtain⟨a,g,_⟩:=eR underlying9 e;obtain⟨c,i,_⟩:=eR underlying9 f;simp at g i;subst g i;exact⟨a,c,rfl⟩
end
end
end Go.Proofs.YtohmkffoojdahaaGreat
