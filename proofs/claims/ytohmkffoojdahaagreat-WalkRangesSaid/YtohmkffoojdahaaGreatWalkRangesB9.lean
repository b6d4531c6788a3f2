/- Texts that the proof of WalkRanges leans on, part 9. -/
import Derived.Test.YtohmkffoojdahaaGreatWalkRangesB8
open List renaming replicate->zP
open Nat renaming reduceAdd->yB,reduceSub->yC
set_option linter.unusedVariables false
set_option linter.unusedSimpArgs false
set_option maxRecDepth 100000
set_option maxHeartbeats 8000000

open Go renaming Calls->nK,Addr->nN,Operand->nO,execOp->nQ,TypeId->nS,MapEntry->nZ,Oper->nh,maxLen->gP,undef->gQ,CallsIn->mQ
open Go.Act renaming put->nJ
open Go.Builtin renaming zeroCells->la
open Go.Fence renaming wide->nv
open Go.MapKept renaming Stamped->nY
open Go.Result renaming andThen->nM
open Go.RowKit renaming Below->nH
open Go.World renaming cell?->mv,freeze->ey
open List renaming range->mi,set_append_right->fu
open Go.Proofs.Tryz renaming prog->Y3
open Go.Proofs.Tryz
open Go.Value renaming int->Y1,pointer->Y9,slice->X1,bool->X3,agg->Q0,tuple->Q2,map->Q1
open Go.IntKind renaming i64->Q4,u8->Q5,u64->Q6,u32->Q7
open Go.Obj renaming cells->Q9
open Option renaming none->K3,some->K4
namespace Go.Proofs.YtohmkffoojdahaaGreat
section
open Go Go.RowKit xq
section
variable {w:World}{a f r P:Nat}{room now hh mm:Int}{V:qt}
theorem La (h:yW w a f r P room now hh mm V)(hP:P<=1000)(hn:0<=now/\now<=1000000)(A:2<=room){c:Int}{v:jN}(g:V c=some v):nK Y3 111 #[Y9 a,Y1 Q4 c] w λe w'=>e=Y0 (Q2 #[Y9 v.b,Y1 Q4 0])/\yW w' a f r P room (now+1) hh mm (xS V c (some {v with at_:=now+1}))/\ze (xI a r V) w w':=by
 refine(KZ w a f r P room now hh mm V h hP hn A c (h.rows c v g).key (λe=>by rw[g] at e;cases e)).mono ?_;rintro e w' ⟨⟨v',h1,rfl,h2⟩|⟨h1,_⟩,q⟩
 .rw[g] at h1;injection h1 with h1
  subst h1;exact⟨rfl,h2,q⟩
 .rw[g] at h1;cases h1
def ID (V:qt)(page:Int)(b:Nat)(sz:Nat):Prop:=(∃v,V page=some v/\b=v.b)\/(V page=none/\sz<=b)
theorem ID.mu {c:Int}{b sz:Nat}(h:ID V c b sz):xI a r V b\/sz<=b:=by
 rcases h with⟨v,h1,h2⟩|⟨_,h3⟩
 .exact .inl (.inr (.inr ⟨c,v,h1,h2⟩))
 .exact .inr h3
end
theorem VI.pq {Mu:Nat->Prop}{W W':World}{A:Y5}{c:Nat}{l:Y4}(E:VI W A)(G:qv W W.heap.size A c l)(h:64<l.length)(q:ze Mu W W')(C:∀k,Mu k->XZ W k):VI W' A:=λg o e=>by
 obtain⟨cs,F⟩:=E g o e;exact⟨cs,q.blk F (λH=>XZ.pP G h e (C g H))⟩
theorem EB (w:World)(a f r P:Nat)(room now hh mm:Int)(V:qt)(h:yW w a f r P room now hh mm V)(hP:P<=1000)(hn:0<=now/\now<=1000000)(X:2<=room)(aC:0<=hh/\hh<=1000000)(g:Int)(v:jN)(L:V g=some v):nK Y3 68 #[Y9 a,Y1 Q4 g] w λe w'=>∃A c,e=Y0 (Q2 #[X1 A v.y.length c,Y1 Q4 0])/\qv w' w'.heap.size A c v.y/\VI w' A/\yW w' a f r P room (now+1) (hh+1) mm (xS V g (some {v with at_:=now+1}))/\ze (xI a r V) w w':=by
 have O:=jt h.cb;have k3:w.cell? ⟨a,3,K3⟩=some (Q1 (some r)):=(h.cb.cell _).trans rfl;have C:=ES (w:=w) (a:=⟨a,4,K3⟩) (x:=hh) ((h.cb.cell _).trans rfl) (h.cb.free 4) rfl K5;obtain⟨h1,I⟩:=h.ow 4 (Y1 Q4 (hh+1)) (now':=now) (hh':=hh+1) (mm':=mm) rfl (mo _);have E:=La h1 hP hn X L;obtain⟨es,aA,U,S,aD⟩:=h.mp;have hl:=XQ L;obtain⟨F,G⟩:=Z9 (w.setCell ⟨a,4,K3⟩ (Y1 Q4 (hh+1)));rw[<-G] at C h1 I E;clear G
 go_enter func68,ntmps68
 go_wp2_with (first
  |(go_at_call 109;refine O.mono ?_;rintro e w' ⟨rfl,rfl⟩)
  |(refine zp rfl (tM S U hl rfl rfl rfl) ?_)
  |(go_at_call 118;refine C.mono ?_;rintro e w' ⟨rfl,rfl⟩)
  | (go_at_call 111;refine E.mono ?_;rintro e M ⟨rfl,h2,Q⟩
     have q:=h2.rows g _ (Qn V g _);have k2:M.cell? ⟨v.b,1,K3⟩=some (X1 v.A v.y.length v.c):=(q.blk.cell _).trans rfl
     have N:=Xw M v.A v.c v.y q.px q.short)
  | (go_at_call 112;refine N.mono ?_;rintro e w3 ⟨A,c,rfl,T,aB,Z,H⟩))
 exact bodyPost_ret (results_tmp2 rfl _ _ _) rfl ⟨A,c,rfl,T,Z,h2.below H,((I.more (λk e _ => .inl e)).trans Q).trans (ze.below H)⟩
theorem MP (w:World)(a f l r P:Nat)(fr pg room now hh mm:Int)(V:qt)(h:yW w a f r P room now hh mm V)(hf:za w f 119 (Vh l fr pg))(hP:P<=1000)(aK:(P:Int)=pg)(hn:0<=now/\now<=1000000)(aH:2<=room)(g:Int)(aG:0<=g/\g<pg)(A:Y5)(c:Nat)(y:Y4)(H:y.length=512)(aE:qv w w.heap.size A c y)(aD:V g=none->((xJ (jW V) P).length:Int)<room):nK Y3 65 #[Y9 a,Y1 Q4 g,X1 A 512 c] w λe w'=>∃b L c',ID V g b w.heap.size/\e=Y0 (Y1 Q4 0)/\yW w' a f r P room (now+1) hh mm (xS V g (K4 ⟨b,now+1,L,c',y,true⟩))/\VI w' L/\ze (xI a r V) w w':=by
 have HN:=jt h.cb;have HP:=Yj hf;have k0:w.cell? a=K4 (Y9 f):=(h.cb.cell _).trans rfl;have hq:=Vb fr pg;have HT:∀W,nH w.heap.size w W->nK Y3 111 #[Y9 a,Y1 Q4 g] W λe w'=>∃v1,ID V g v1.b w.heap.size/\v1.at_=now+1/\e=Y0 (Q2 #[Y9 v1.b,Y1 Q4 0])/\yW w' a f r P room (now+1) hh mm (xS V g (some v1))/\ze (xI a r V) W w':=λW hB=>by
  refine(KZ W a f r P room now hh mm V (h.below hB) hP hn aH g ⟨aG.1,by omega⟩ aD).mono ?_;rintro e w' ⟨⟨v,F,rfl,h2⟩|⟨F,b,q,rfl,C⟩,Q⟩
  .exact⟨{v with at_:=now+1},.inl ⟨v,F,rfl⟩,rfl,rfl,h2,Q⟩
  .exact⟨⟨b,now+1,none,0,[],false⟩,.inr ⟨F,zT hB.size q⟩,rfl,rfl,C,Q⟩
 go_enter func65,ntmps65
 go_wp2_with fail
 refine wp_scope_straight ?_
 go_wp2_with (first
  |(go_at_call 109;refine HN.mono ?_;rintro e w' ⟨rfl,rfl⟩)
  | (go_at_call 110;refine HP.mono ?_;rintro e w1 ⟨rfl,N⟩))
 refine(HT w1 N).mono ?_;rintro e I ⟨v1,X,aC,rfl,h2,aA⟩;have S:=(ze.below (Mu:=xI a r V) N).trans aA;have aF:qv I I.heap.size A c y:=Jb.pQ aE (.inl H) S h.ca;have M:=Xw I A c y aF K5;rw[H] at M;have G:=Qn V g (some v1)
 go_wp2_with (first
  | (go_at_call 112;refine M.mono ?_;rintro e Z ⟨A3,c3,rfl,U,aL,aI,O⟩
     have q:=h2.below O;have E:=q.rows g _ G;have k1:Z.cell? ⟨v1.b,1,K3⟩=some (X1 v1.A v1.y.length v1.c):=(E.blk.cell _).trans rfl;have k2:=E.blk.free 1;have k3:Z.cell? ⟨v1.b,2,K3⟩=some (X3 v1.d):=(E.blk.cell _).trans rfl;have k4:=E.blk.free 2
     obtain⟨C,T⟩:=q.fill G H U))
 go_step3
 go_wp2;simp only[Exit.noGoto];go_ret;rw[VR,aC] at C;have aJ:=aI.pq U K5 T (λk e=>by subst e;exact q.ca _ (.inr (.inr ⟨g,_,G,rfl⟩)));refine⟨v1.b,A3,c3,X,rfl,C,aJ,?_⟩;have aB:=(S.more (Nu:=λk=>xI a r V k\/w.heap.size<=k) (λk e _ => .inl e)).trans ((ze.below O).trans (T.more (λk e _=>by rw[e];exact X.mu)));exact aB.more (λk e hk=>by rcases e with e|e;exact e;omega)
end
section
open Go Go.RowKit xq Go.Shelf
attribute [local go_sem] Oper.semAt_some
section
variable {w W W':World}{a f r P:Nat}{room now hh mm:Int}{V:qt}
theorem yW.oz (h:yW W a f r P room now hh mm V){D:Nat}{A:Option (List Deferred)}(g:W.heap[D]?=some (.deferred A)):¬ xI a r V D:=by
 have hc:∀{T:nS} {cs:Y7} {k:Nat},za W k T cs->D≠k:=λC e=>by subst e;have q:W.heap[D]?=some (.cells _ _ (0,0)):=C;rw[g] at q;cases q
 rintro(e|e|⟨j,v,G,e⟩)
 .exact hc h.cb e
 .obtain⟨es,c,E,_⟩:=h.mp;have F:W.heap[r]?=some (.map es c):=E;rw[e,F] at g;cases g
 .exact hc (h.rows j v G).blk e
theorem yW.dV (h:yW W a f r P room now hh mm V){D:Nat}{q:Option (List Deferred)}(c:W.heap[D]?=some (.deferred q))(o:Obj):yW (W.putObj D o) a f r P room now hh mm V/\ze (λk=>k=D) W (W.putObj D o):=by
 have g:ze (λk=>k=D) W (W.putObj D o):=ze.grown (grownBy_putObj' W D o) (λr e=>by injection e with e;exact .inl e.symm);exact⟨h.pR g (λk e=>by subst e;exact .inr (.inr ⟨_,c⟩)) (λk e=>by subst e;exact h.oz c),g⟩
structure wh (W:World)(d l:Nat):Prop where
 dk:∃cs,za W d 114 cs/\cs.size<=64/\∀n,cs[0]? ≠ K4 (Y1 Q6 n)
 lg:∃cs,za W l 171 cs/\cs.size<=64/\∀n,cs[0]? ≠ K4 (Y1 Q6 n)
theorem wh.grow {d l:Nat}(h:wh W d l)(hB:nH W.heap.size W W'):wh W' d l:=by
 obtain⟨⟨c1,b1,h1⟩,⟨c2,b2,h2⟩⟩:=h;exact⟨⟨c1,b1.below hB b1.lt,h1⟩,⟨c2,b2.below hB b2.lt,h2⟩⟩
theorem yW.dS {d l:Nat}(h:yW W a f r P room now hh mm V)(hd:wh W d l)(e:ze (λk=>k=d\/k=l) W W'):yW W' a f r P room now hh mm V:=by
 obtain⟨⟨c1,b1,h1⟩,⟨c2,b2,h2⟩⟩:=hd;exact h.pR e (λk c=>by rcases c with rfl|rfl;exact .inr (.inl ⟨_,_,b1,h1⟩);exact .inr (.inl ⟨_,_,b2,h2⟩)) (λk c=>by rcases c with rfl|rfl;exact h.pU b1 K7 K7;exact h.pU b2 K7 K7)
theorem wh.ne {d l k:Nat}{T:nS}{cs:Y7}(h:wh W d l)(c:za W k T cs)(h1:T≠114)(h2:T≠171):¬ (k=d\/k=l):=by
 obtain⟨⟨c1,b1,_⟩,⟨c2,b2,_⟩⟩:=h;rintro(e|e)
 .exact zh c b1 h1 e
 .exact zh c b2 h2 e
theorem wh.dg {d l D:Nat}(h:wh W d l){A:Option (List Deferred)}(q:W.heap[D]?=some (.deferred A)):¬ (D=d\/D=l):=by
 obtain⟨⟨c1,b1,_⟩,⟨c2,b2,_⟩⟩:=h;have c:W.heap[d]?=some (.cells _ _ (0,0)):=b1;have g:W.heap[l]?=some (.cells _ _ (0,0)):=b2;rintro(e|e)<;>subst e
 .rw[q] at c;cases c
 .rw[q] at g;cases g
theorem OX (n:Nat)(hn:10<=n)(h:yW w a f r P room now hh mm V){d l:Nat}(b2:wh w d l)(b3:∀k v,V k=some v->v.y.length=512)(cB:P<=1000)(y0:Y4)(cF:y0.length=512)(bG:QS (xZ V) P=[(0,y0)])(z:Int)
  (HF:∀W' A k xs,nH w.heap.size w W'->Vu W' w.heap.size A 1 xs (rz [(0,y0)])->nK Y3 117 #[Y9 f,Y1 Q4 z,X1 A 1 k] W' λe w'=>e=Y0 (Y1 Q4 0)/\ze (λk=>k=d\/k=l) W' w') :
  mQ nv n Y3 67 #[Y9 a,Y1 Q4 z] w λe w'=>e=Y0 (Y1 Q4 0)/\yW w' a f r P room now hh mm (kR V)/\ze (λk=>xI a r V k\/(k=d\/k=l)) w w':=by
 have h1:1<=n:=K5
 obtain⟨W2,aO,aK,b0⟩:=Qp w 197 #[X1 none 0 0];have s2:W2.heap.size=w.heap.size+1:=by rw[aO];simp
 have h2:=h.below aK;have HN:=jt h.cb;have HD:=VD W2 a f r P room now hh mm V h2;have a1:∀k y,jB V k=some y->0<=k/\k<(P:Int):=λk y hy=>by
  unfold jB at hy;cases C:V k with
  | none=>rw[C] at hy;cases hy
  | some v=>exact(h.rows k v C).key
 have aN:=Ev h2 b3;have a0:=aN.keys a1;have aW:=nI aO.symm;clear aO;refine callsIn_of_wp_marks func67 rfl trivial ?_ rfl;simp only[ntmps67,zR,zK,zY,yB,yC,qC,qD,qO,qG,zQ,zW]
 gi_wp2_with (first
  |(refine⟨trivial,?_⟩;gi_at_call 109;refine(callsIn_wide.2 HN).mono ?_;rintro e w' ⟨rfl,rfl⟩)
  | (refine⟨trivial,?_⟩;gi_at_call 115;rw[aW.out];refine(callsIn_wide.2 HD).mono ?_;rintro e W4 ⟨q,s4,eo,co,rfl,hq,bF,bA,bI,aF,cE,cD⟩))
 have a5:=aN.grow aF;have b4:=b0.below aF b0.lt;have bK:nH w.heap.size w W4:=aK.trans (aF.mono aK.size);have cG:=aF.size;clear HN HD h2 aN aW b0;refine jF rfl h1 (gf:=186) (lb:=#[Y9 (K4 ⟨q,0,K3⟩)]) rfl trivial (zb.eo func186)
  (DL (n-1) K5 q s4 P co eo (xh V) (jB V) W4 hq bF bA bI a5 a0 K5) (nF _ _) (λ_=>rfl) (λk=>k=w.heap.size)
  ⟨λe=>by omega,λe=>by omega,λk e=>by subst e;exact .inr ⟨_,_,b4,by show 1<=64;decide⟩⟩
  (λM U X=>Zz w W4.heap.size (jB V) M U X) (λ_ _ _ _=>False) (Zz.st _ _ _) (λ_ _ _ _ _ _ h _ _=>h) (λs U X hs=>hs.oE) ?ownR
  ⟨⟨none,0,b4,World.ownsRow_nil _ _ _ _,λk=>⟨λe => .inl e,λe=>e.elim id (λe=>by cases e)⟩⟩,(λx hx=>by cases hx),bK,by omega,zG _⟩ ?act ?assign ?body ?done ?stop
 case ownR =>
  rintro M x _ X Y row ⟨E,e2,y,e3,e4,e5,e6⟩ bE hr;exact⟨E,e2,y,e3,e4,qv.pX (B:=W4.heap.size) _ _ _ () X Y row e5 bE hr,VI.pX (B:=W4.heap.size) _ () X Y row e6 bE hr⟩
 case assign =>
  intro l1 x V K hK;simp only[Tj]
  gi_wp2
  exact hK
 case body =>
  rintro l1 M ⟨N,G,H⟩ U X I ⟨E,_,y,e3,e4,e5,e6⟩;have cC:M.length<=1000:=by have h3:=(qM.1 E).1;have h4:=JI (xh V) P;omega
  obtain⟨T,Z,hb,own,hU⟩:=I.has;have k1:=hb.boxed;have aG:nH X.heap.size X (X.alloc (Q9 #[Y1 Q4 (N:Int),X1 G 512 H] 200)):=(nF _ X).alloc (zG _) _;have bM:=qn own aG;have b8:yl (X.alloc (Q9 #[Y1 Q4 (N:Int),X1 G 512 H] 200)) (X.alloc (Q9 #[Y1 Q4 (N:Int),X1 G 512 H] 200)).heap.size 2 (K4 ⟨X.heap.size,0,K3⟩) 1 1 (TZ (LF (N,G,H))) :=
   ⟨zG _,by omega,(λe=>by cases e),rfl,(by intro v C;simp[TZ,LF] at C;rcases C with rfl|rfl<;>rfl),λ_=>⟨X.heap.size,0,rfl,by simp,λj v hj=>by
    rw[(za.new X 200 #[Y1 Q4 (N:Int),X1 G 512 H]).cell,qA]
    simpa[TZ,LF] using hj⟩⟩
  have bX:=I.b4;have bY:W4.heap.size<=(X.alloc (Q9 #[Y1 Q4 (N:Int),X1 G 512 H] 200)).heap.size:=by have:=aG.size;omega
  have b7:=zj bM;have bW:=λ(v5:Value) (w5:World) o5 g5 bR=>I.next (x:=(N,G,H)) hb own hU ⟨y,e3,e4,e5,e6⟩ aG (v5:=v5) (w5:=w5) o5 g5 bR
  have bQ:=hb.below aG hb.lt;clear E e3 e4 e5 e6
  gi_wp2_with (gi_at_builtin;refine LK rfl pA (.tmp 19) (.tmp 23) rfl W4.heap.size (X1 T M.length Z) M.length (JO (M.map LF)) rfl bM _ _ 1 1 (TZ (LF (N,G,H))) rfl b8 K5 (by unfold gP;omega) K5 bY ?_;intro v5 w5 bL bB b9;obtain⟨A5,k5,rfl,_⟩:=qq bL (λv C=>(zZ.1 C).elim (Gz _ v) (uO _ v));have b5:=bQ.grown bB (λe=>by have:=b7 _ e.symm;omega);have c5:=b5.boxed;have f5:=b5.free 0)
  exact bW _ _ bL bB b9
 case done =>
  rintro D ys U X hD a6 I hK;obtain⟨L,hL⟩:=Z9 (QS (xZ V) P);have a4:ys.map (·.1)=L.map (·.1):=by rw[a6,hL,Ue]
  have a3:∀x∈L,jB V (x.1:Int)=some x.2:=λx hx=>by rw[hL] at hx;exact ZU.1 (DK.1 hx).2
  obtain⟨T,Z,aA,HA⟩:=I.args L a4 a3;have bV:L.length=1:=by rw[hL,bG];rfl
  rw[hL.trans bG] at HA;rw[bV] at aA;have aB:=I.up;have hV:=h.below aB;have a9:=b2.grow aB;have bS:=(zI.1 hK).1;have bX:=I.b4;have aV:=HF X.drew T Z _ (aB.trans ((nF _ _).drew.mono aB.size)) (HA.grow (nF _ _).drew |> λq=>⟨λg o e=>by have:=q.ge g o e;omega,q.row,q.px,q.tys⟩);clear a6 I a4 a3 hL a5 a0 a1 hq bF bA bI b4 bK HA;have k1:=aA.boxed;have S:=aA.boxed;have Q:X.drew.cell? a=K4 (Y9 f):=(hV.cb.cell 0).trans rfl;have aY:=hV.below (nF _ _).drew;have aH:=a9.grow (nF _ _).drew;have aJ:=aA.below (nF _ _).drew aA.lt
  gi_wp2_with fail
  refine wpIn_wide.2 ?_;refine wp_region_noPanic ?_;refine zb.st (λW:World=>W.cell? a=K4 (Y9 f)/\W.cell? w.heap.size=some (X1 T 1 Z)) 99 ?_;refine zb.t0 0 (Y9 a) rfl ⟨Q,S⟩ (λW ⟨e0,E⟩=>by go_simp) ?_;refine zb.t0 1 (Y9 a) rfl ⟨Q,S⟩ (λW ⟨e0,E⟩=>by go_simp) ?_;refine zb.t0 2 (Y9 a) rfl ⟨Q,S⟩ (λW ⟨e0,E⟩=>by go_simp) ?_;refine zb.t0 3 (Y9 f) rfl ⟨Q,S⟩ (λW ⟨e0,E⟩=>by go_simp) ?_;refine zb.t0 4 (Y1 Q4 z) rfl ⟨Q,S⟩ (λW ⟨e0,E⟩=>by go_simp) ?_;refine zb.t0 5 (X1 T 1 Z) rfl ⟨Q,S⟩ (λW ⟨e0,E⟩=>by go_simp) ?_;simp only[Z8];refine zb.n 6 ?_;refine zb.oC 117 #[.tmp 50,.tmp 51,.tmp 52] #[79,3,197] #[Y9 f,Y1 Q4 z,X1 T 1 Z] (aV.mono ?_) (zb.eo func117);rintro e w9 ⟨rfl,aC⟩;have O:=aY.dS aH aC;have aX:=aC.blk aJ (aH.ne aJ K7 K7);have aU:=aX.boxed;have aT:w9.cell? a=K4 (Y9 f):=(O.cb.cell 0).trans rfl;have aM:X.drew.heap[D]?=some (.deferred (some [])):=hK;have aL:=(aC.block D bS (aH.dg aM)).trans aM;have bU:ze (λk=>xI a r V k\/(k=d\/k=l)) w w9:=(ze.below (aB.trans ((nF _ X).drew.mono aB.size))).trans (aC.more (λk e _ => .inr e));clear aY aJ S aV aH aM aC aX Q a9 hV aA k1;refine⟨_,rfl,λ_=>⟨aT,aU⟩,?_⟩;simp only[Z8];refine zb.n 7 (zb.opV (w':=w9) (Y1 Q4 0) rfl rfl K8 ⟨λ_=>⟨aT,aU⟩,zb.dn ?_⟩);simp only[Z8];simp only[NoPanic];have bT:=(zI.1 aL).1;obtain⟨es,clock,aQ,he,bJ⟩:=O.mp;have cH:w9.cell? ⟨a,3,K3⟩=some (Q1 (some r)):=(O.cb.cell 3).trans rfl;have bZ:∀x∈es.toList,x.born<clock:=((MapKept.stamped_iff es clock).1 bJ).1;have aS:=aQ.lt;obtain⟨W10,aD⟩:=Z9 (w9.alloc (.mapIter (some r) clock #[] clock));have aE:nH w9.heap.size w9 W10:=by rw[aD];exact(nF _ _).alloc (zG _) _
  have bP:Yq w9 w9.heap.size r clock es a f P room now hh mm V #[] (λ_=>false) W10:=⟨⟨clock,by rw[aD];exact lD w9 _,zG _⟩,jE.start es,by rw[MR];exact O.below aE,aQ.below aE aS,ze.below aE,by rw[aD];simp⟩;have bO:=nI aD.symm;clear aD aE aT aU
  gi_wp2_with (refine XI rfl (EZ aQ underlying178 rfl rfl) ?_;rw[bO.out])
  simp only[nJ,zA,zF,zE]
  gi_loopw [61] (λ_ wr=>∃aI pd,Yq w9 w9.heap.size r clock es a f P room now hh mm V aI pd wr) (λ_ wr=>wr.rangeLeft r w9.heap.size)
  case atStart=>exact⟨_,_,bP⟩
  case round =>
   obtain⟨aI,pd,F⟩:=hrel;rcases tQ 0 F.it F.mp he bJ bZ (zG _) aS F.sz F.sn with⟨hall,hrun⟩|⟨k,xv,b,w4,hk,hpk,hrun,hit4,hB4',hdec,hent,hsn4⟩
   .have a8:=Pj hall;have a7:=F.ca;rw[a8] at a7;have bC:=F.gb;have a2:wr.heap[D]?=some (.deferred (some [])):=(bC.block D bT (O.oz aL)).trans aL;clear a8 hall
    gi_wp2_with (refine XI rfl (Gb hrun rfl) ?_)
    refine⟨by simp,.inl ⟨D,_,rfl,mV a2,?_⟩⟩;obtain⟨t1,t2⟩:=a7.dV a2 (.deferred none);have b6:=((bU.more (Nu:=λk=>(xI a r V k\/(k=d\/k=l))\/w.heap.size<=k) (λk e _ => .inl e)).trans (bC.more (λk e _ => .inl (.inl e)))).trans (t2.more (λk e _ => .inr K5));exact⟨_,results_tmp rfl _ _ _,rfl,t1,b6.more (λk e hk=>e.elim id (λe=>by omega))⟩
   .obtain⟨v,C,rfl⟩:=Kf hk;have cA:=(O.rows k v C).blk.lt;obtain⟨aP,bD⟩:=F.iter O hB4';obtain⟨aZ,bH⟩:=F.next C hpk cA aS hit4 hB4' (.inr trivial) hsn4 aP bD;have aR:=aP.rows k v (Uh C hpk);have k24:w4.cell? ⟨v.b,2,K3⟩=some (X3 v.d):=(aR.blk.cell 2).trans rfl;have f24:=aR.blk.free 2;have b1:(w4.setCell ⟨v.b,2,K3⟩ (X3 false)).rangeLeft r w9.heap.size<wr.rangeLeft r w9.heap.size:=by rw[bH];exact hdec
    have bN:Hid (∃aI pd,Yq w9 w9.heap.size r clock es a f P room now hh mm V aI pd (w4.setCell ⟨v.b,2,K3⟩ (X3 false))):=nI ⟨_,_,aZ⟩;clear aP bD aZ bH aR F
    gi_wp2_with (first
     |(refine XI rfl (Gb hrun rfl) ?_)
     | (refine XI rfl (RM hent rfl) ?_))
    go_roundw
    case rel=>exact bN.out
    case measure=>exact b1
 case stop =>
  rintro D c M U V _ _ h _;exact h.elim
end
end
section
open Go Go.RowKit xq
structure SG (w:World)(l d many:Nat)(fr pg:Int)(sr ep:Nat)(sz:Int):Prop where
 dk:∃g,yN w d many g [] 0 false
 lg:za w l 171 (ZC (K4 ⟨d,0,K3⟩) fr pg sr ep sz none 0 0)
section
variable {w w':World}{l d many:Nat}{fr pg:Int}{sr ep:Nat}{sz:Int}
theorem SG.grow (h:SG w l d many fr pg sr ep sz)(hB:nH w.heap.size w w'):SG w' l d many fr pg sr ep sz:=by
 obtain⟨⟨g,h1⟩,h2⟩:=h;exact⟨⟨g,h1.grow hB⟩,h2.below hB h2.lt⟩
theorem SG.dl (h:SG w l d many fr pg sr ep sz):wh w d l:=by
 obtain⟨⟨g,h1⟩,h2⟩:=h;obtain⟨r,A,n,c,q⟩:=SM h1;exact⟨⟨_,q,by show 5<=64;decide,λn e=>by cases e⟩,⟨_,h2,by show 7<=64;decide,λn e=>by cases e⟩⟩
theorem SG.ne (h:SG w l d many fr pg sr ep sz):l≠d:=by
 obtain⟨⟨g,h1⟩,h2⟩:=h;obtain⟨r,A,n,c,e⟩:=SM h1;exact zh h2 e K7
theorem AG {f B:Nat}(O:za w f 119 (Vh l fr pg))(N:SG w l d many fr pg sr ep sz)(G:Y5)(c:Nat)(xs:Nat->Int×Y5×Nat)(y:Y4)(L:Vu w B G 1 xs (rz [(0,y)]))(z:Int)(hz:0<=z/\z<=pg)(aK:yz fr pg=true)(aJ:0<pg)(aM:vl sz 1=true)(aH:11<=many)(aI:many<=1000000)(aL:sr+1<18446744073709551616):nK Y3 117 #[Y9 f,Y1 Q4 z,X1 G 1 c] w λe w'=>e=Y0 (Y1 Q4 0)/\ze (λk=>k=d\/k=l) w w':=by
 obtain⟨W3,E⟩:=Z9 (((w.alloc (Q9 #[Y9 f] 79)).alloc (Q9 #[Y1 Q4 z] 3)).alloc (Q9 #[X1 G 1 c] 197));have M:nH w.heap.size w W3:=by rw[E];exact(((nF _ w).alloc (zG _) _).alloc K9 _).alloc (by simp;omega) _
 have H:za W3 w.heap.size 79 #[Y9 f]:=by rw[E];exact((za.new w _ _).alloc _).alloc _
 have b1:za W3 (w.heap.size+1) 3 #[Y1 Q4 z]:=by have:=za.new (w.alloc (Q9 #[Y9 f] 79)) 3 #[Y1 Q4 z];rw[nG] at this;rw[E];exact this.alloc _
 have b2:za W3 (w.heap.size+1+1) 197 #[X1 G 1 c]:=by have:=za.new ((w.alloc (Q9 #[Y9 f] 79)).alloc (Q9 #[Y1 Q4 z] 3)) 197 #[X1 G 1 c];rw[nG,nG] at this;rw[E];exact this
 have I:=O.below M O.lt;have c0:W3.cell? w.heap.size=K4 (Y9 f):=H.boxed;have T:=Yk I;have aA:nH W3.heap.size W3 W3.drew:=(nF _ _).drew;have F:nH w.heap.size w W3.drew:=M.trans (aA.mono M.size);obtain⟨g,o,rfl,hx,aG⟩:=L.row (zG 1);obtain⟨e0,e1,e2⟩:=L.px 0 K7;have Q:=hx 0 K7;rw[Nat.zero_mul,Nat.add_zero,<-e0] at Q;obtain⟨⟨gd,hD⟩,aC⟩:=N.grow F;have S:=EK W3.drew l d many gd [] 0 fr pg sr ep sz hD K7 K7 K7 aC N.ne g o c (0:Int) (xs 0).2.1 (xs 0).2.2 y (by have:=F.size;omega) (λj v hj=>(F.cell (p:=⟨g,o+j,K3⟩) aG).trans (Q j v hj)) ((e2.below F).more F.size) e1 aK K7 aJ z hz.1 hz.2 aM aH aI aL;have U:∀W,nH W3.heap.size W3 W->W.cell? w.heap.size=K4 (Y9 f):=λW A=>(H.below A H.lt).boxed
 have X:∀W,nH W3.heap.size W3 W->W.cell? (w.heap.size+1:Nat)=K4 (Y1 Q4 z):=λW A=>(b1.below A b1.lt).boxed
 have Z:∀W,nH W3.heap.size W3 W->W.cell? (w.heap.size+1+1:Nat)=some (X1 (K4 ⟨g,o,K3⟩) 1 c):=λW A=>(b2.below A b2.lt).boxed
 have TF:∀W,nH W3.heap.size W3 W->W.cell? f=K4 (Y9 l):=λW A=>by rw[(I.below A I.lt).cell];rfl
 go_enter func117,ntmps117
 rw[E] at c0;have aD:=nI E;clear E
 go_wp2_with (go_at_call 107;rw[<-aD.out];refine T.mono ?_;rintro e w' ⟨rfl,rfl⟩)
 have C:nH W3.heap.size W3 W3.drew:=aA;refine jb.start (λW=>nH W3.heap.size W3 W) [6,7] K6 ?_;refine jb.k1 0 (Y9 f) rfl C (zb.yld rfl (λW A=>by have q:=U W A;go_simp)) ?_;simp only[zD,zB,nJ,zA,zF,zE];refine jb.k1 1 (Y9 f) rfl C (zb.yld rfl (λW A=>by go_simp)) ?_;simp only[Z8];refine jb.k1 2 (Y9 f) rfl C (zb.yld rfl (λW A=>by go_simp)) ?_;simp only[Z8];refine jb.k1 3 (Y9 l) rfl C (zb.yld rfl (λW A=>by have q:=TF W A;go_simp)) ?_;simp only[Z8];refine jb.k1 4 (Y1 Q4 z) rfl C (zb.yld rfl (λW A=>by have q:=X W A;go_simp)) ?_;simp only[Z8];refine jb.k1 5 (X1 (K4 ⟨g,o,K3⟩) 1 c) rfl C (zb.yld rfl (λW A=>by have q:=Z W A;go_simp)) ?_;simp only[Z8];refine jb.one 6 K6 ?_;refine zb.oC 190 #[.tmp 13,.tmp 14,.tmp 15] #[115,3,197] #[Y9 l,Y1 Q4 z,X1 (K4 ⟨g,o,K3⟩) 1 c] (S.mono ?_) (zb.eo func190);rintro e w4 ⟨rfl,_,_,aB⟩;refine⟨_,rfl,λh=>(by cases h),?_⟩;simp only[Z8];refine jb.one 7 K6 (zb.opV (w':=w4) (Y1 Q4 0) rfl rfl K8 ⟨λh=>(by cases h),jb.done K6 ?_⟩);simp only[Z8];have aF:ze (λk=>k=d\/k=l) w w4:=(ze.below F).trans aB;clear O N L I H b1 b2 S T c0 hx Q hD aC e2 U X Z TF aB C
 go_wp2_with fail
 go_quiet (fail)
 go_wp2;go_ret;have aE:nH w4.heap.size w4 (w4.drewN nq):=⟨rfl,rfl,rfl,zG _,λ_ _=>rfl⟩;exact⟨rfl,aF.trans (ze.below aE)⟩
end
def Kz (R:kU)(p:Int):Option Y4:=match R p with|some (b,true)=>some b|_=>none
theorem jr {R:kU}{p:Int}{b:Y4}:Kz R p=some b↔R p=some (b,true):=by
 unfold Kz;cases h:R p with
 | none=>simp
 | some x =>
  obtain⟨y,d⟩:=x;cases d<;>simp
theorem Aq (R:kU)(p:Int)(y:Y4):Kz (Xj R p (y,true))=λj=>if j=p then some y else Kz R j:=by
 funext j
 unfold Kz Xj
 by_cases e:j=p<;>simp[e]
theorem CO {R:kU}(h:∀p b,¬ R p=some (b,true)):Kz R=λ_=>none:=by
 funext p
 cases e:Kz R p with
 | none=>rfl
 | some b=>exact absurd (jr.1 e) (h p b)
theorem LQ (Y:Nat->Y4)(R:kU)(p:Nat):Si Y R p=(Kz R (p:Int)).getD (Y p):=by
 unfold Si Kz;split<;>simp_all
structure xB where
 d:Nat
 f:Nat
 l:Nat
 a:Nat
 r:Nat
 many:Nat
 P:Nat
 fr:Int
 pg:Int
 room:Int
structure SzL where
 sz:Int
structure yj where
 G:Nat->Y4
 S:SzL
 c:YU
 i:Nat
 N:Nat
structure xB.Ok (K:xB):Prop where
 hP:(K.P:Int)=K.pg
 P2:K.P<=900
 rm:2<=K.room/\K.room<=2000
 rp:(K.P:Int)<=K.room
def yj.Y (_:xB)(v:yj):Nat->Y4:=v.G
def yj.R (v:yj):kU:=xZ v.c.V
def yj.view (K:xB)(v:yj)(p:Nat):Y4:=Si (v.Y K) v.R p
def yj.D (v:yj):Int->Option Y4:=Kz v.R
theorem jv (K:xB)(v:yj)(p:Nat):v.view K p=(v.D (p:Int)).getD (v.Y K p):=LQ _ _ _
def xB.mu (K:xB)(v:yj)(k:Nat):Prop:=xI K.a K.r v.c.V k
structure FhL (W0:World)(f l:Nat)(fr pg:Int)(W:World):Prop where
 up:nH W0.heap.size W0 W
 fb:za W f 119 (Vh l fr pg)
structure IG (W0:World)(K:xB)(c:YU)(W:World):Prop where
 fh:FhL W0 K.f K.l K.fr K.pg W
 ca:yW W K.a K.f K.r K.P K.room c.now c.hh c.mm c.V
 nb:∀k,xI K.a K.r c.V k->W0.heap.size<=k
 ty:∀k u,c.V k=some u->u.y.length=512->VI W u.A
structure vi (W0:World)(K:xB)(v:yj)(W:World):Prop where
 cs:IG W0 K v.c W
 ok:v.c.Ok v.N
 ro:jR K.P (v.Y K) v.R
 cn:(ZL K.P v.c.V:Int)<=K.room
def zz (K:xB)(W:World)(v v':yj):Prop:=∀k,K.mu v' k->K.mu v k\/W.heap.size<=k
theorem RF {P:Nat}{V:qt}{k:Int}(g:0<=k/\k<(P:Int))(e:V k=none):ZL P V+1<=P:=by
 have:=Qq (l:=k.toNat::xJ (jW V) P) (m:=mi P) (List.nodup_cons.2 ⟨(λh=>by
  rw[kj,show ((k.toNat:Nat):Int)=k by omega,e] at h
  exact absurd h.2 K9),Yf _ _⟩) (λx c=>by
  rw[qN,kj] at c;rw[List.mem_range];rcases c with rfl|c
  .omega
  .exact c.1)
 simpa[ZL] using this
section
variable {W0 W W':World}{K:xB}{v v':yj}
theorem IG.grow {c:YU}(h:IG W0 K c W)(hB:nH W.heap.size W W'):IG W0 K c W':=⟨⟨h.fh.up.trans (hB.mono h.fh.up.size),h.fh.fb.below hB h.fh.fb.lt⟩,h.ca.below hB,h.nb,λk u hu hl=>(h.ty k u hu hl).grow hB⟩
theorem IG.nf {c:YU}(h:IG W0 K c W):¬ xI K.a K.r c.V K.f:=h.ca.pU h.fh.fb K7 K7
theorem IG.pS {c c':YU}(h:IG W0 K c W)(g:ze (xI K.a K.r c.V) W W')(q:yW W' K.a K.f K.r K.P K.room c'.now c'.hh c'.mm c'.V)(C:∀k,xI K.a K.r c'.V k->xI K.a K.r c.V k\/W.heap.size<=k)(E:∀k u,c'.V k=some u->u.y.length=512->VI W' u.A):IG W0 K c' W' :=
 ⟨⟨h.fh.up.trans (g.toBelow h.fh.up.size h.nb),g.blk h.fh.fb h.nf⟩,q,λk F=>(C k F).elim (h.nb k) (λe=>zT h.fh.up.size e),E⟩
theorem IG.tyK {Mu:Nat->Prop}{c:YU}(h:IG W0 K c W)(e:ze Mu W W')(g:∀k,Mu k->XZ W k):∀k u,c.V k=some u->u.y.length=512->VI W' u.A:=λk u hu hl=>(h.ty k u hu hl).pq (h.ca.rows k u hu).px K5 e g
theorem IG.tyU {Mu:Nat->Prop}{c:YU}(h:IG W0 K c W)(e:ze Mu W W')(g:∀k,Mu k->XZ W k){C:Int}{x:jN}(q:x.y.length=512->VI W' x.A):∀k u,xS c.V C (some x) k=some u->u.y.length=512->VI W' u.A:=λk u hu hl=>by
 unfold xS at hu;split at hu
 .injection hu with hu
  subst hu;exact q hl
 .exact h.tyK e g k u hu hl
theorem vi.grow (h:vi W0 K v W)(hB:nH W.heap.size W W'):vi W0 K v W':=⟨IG.grow h.cs hB,h.ok,h.ro,h.cn⟩
theorem vi.pR {Mu:Nat->Prop}(h:vi W0 K v W)(g:ze Mu W W')(q:∀k,Mu k->QY W k)(A:∀k,Mu k->W0.heap.size<=k)(hn:∀k,Mu k->¬ K.mu v k/\k≠K.f):vi W0 K v W' :=
 ⟨⟨⟨h.cs.fh.up.trans (g.toBelow h.cs.fh.up.size A),g.blk h.cs.fh.fb (λe=>(hn _ e).2 rfl)⟩,h.cs.ca.pR g (λk c=>(q k c).ca) (λk c=>(hn k c).1),h.cs.nb,h.cs.tyK g (λk c=>(q k c).ca)⟩,h.ok,h.ro,h.cn⟩
theorem sq (h:vi W0 K v W)(e:v.N<=900000):v.c.Ok 900000:=h.ok.more e
theorem tR (h:vi W0 K v W)(F:K.Ok)(X:v.N<=800000)(g:Int)(y:Y4)(T:v.D g=some y):nK Y3 68 #[Y9 K.a,Y1 Q4 g] W λe w'=>∃v',sV (.inr y) e w'/\y.length=512/\(0<=g/\g<(K.P:Int))/\vi W0 K v' w'/\v'.N=v.N+1/\v'.i=v.i/\v'.Y K=v.Y K/\v'.S.sz=v.S.sz/\v'.D=v.D/\zz K W v v'/\ze (K.mu v) W w':=by
 have Z:=F.P2;have E:=h.ok;have q:=jr.1 T;obtain⟨u,hu,rfl,aE⟩:∃u,v.c.V g=some u/\u.y=y/\u.d=true:=by
  unfold yj.R xZ at q;cases I:v.c.V g with
  | none=>rw[I] at q;cases q
  | some u =>
   rw[I,Option.map_some] at q;injection q with q
   injection q with h1 h2
   exact⟨u,rfl,h1,h2⟩
 have U:=(h.ro g u.y u.d (vw hu)).2.1;have O:=(h.ro g u.y u.d (vw hu)).1;have aD:=E.now;have aC:=E.hh;refine(EB W K.a K.f K.r K.P K.room v.c.now v.c.hh v.c.mm v.c.V h.cs.ca K5 ⟨by omega,by omega⟩ F.rm.1 ⟨by omega,by omega⟩ g u hu).mono ?_;rintro e w' ⟨A,c,rfl,M,Q,L,C⟩;have hs:xZ (xS v.c.V g (some {u with at_:=v.c.now+1}))=xZ v.c.V:=by
  rw[VU]
  funext j
  unfold Xj;split
  .next e=>rw[e];exact(vw hu).symm
  .rfl
 have aA:=RE (P:=K.P) (v:={u with at_:=v.c.now+1}) hu;have aB:=h.cn;have H:∀k,xI K.a K.r (xS v.c.V g (some {u with at_:=v.c.now+1})) k->xI K.a K.r v.c.V k\/W.heap.size<=k:=DT (λk u h=>h) rfl (.inl ⟨u,hu,rfl⟩);refine⟨⟨v.G,v.S,⟨v.c.now+1,v.c.hh+1,v.c.mm,xS v.c.V g (some {u with at_:=v.c.now+1})⟩,v.i,v.N+1⟩,⟨A,c,rfl,M,Q⟩,U,O,⟨h.cs.pS (c':=⟨v.c.now+1,v.c.hh+1,v.c.mm,xS v.c.V g (some {u with at_:=v.c.now+1})⟩) C L H (h.cs.tyU C h.cs.ca.ca (λhl=>(h.cs.ty g u hu hl).pq (h.cs.ca.rows g u hu).px K5 C h.cs.ca.ca)),⟨⟨by show 0<=v.c.now+1;omega,by show v.c.now+1<=((v.N+1:Nat):Int);omega⟩,⟨by show 0<=v.c.hh+1;omega,by show v.c.hh+1<=((v.N+1:Nat):Int);omega⟩,⟨E.mm.1,by have:=E.mm.2;show v.c.mm<=((v.N+1:Nat):Int);omega⟩⟩,?_,by show (ZL K.P (xS v.c.V g (some {u with at_:=v.c.now+1})):Int)<=K.room;omega⟩,rfl,rfl,rfl,rfl,?_,H,C⟩
 .show jR K.P v.G (xZ (xS v.c.V g (some {u with at_:=v.c.now+1})))
  rw[hs];exact h.ro
 .show Kz (xZ (xS v.c.V g (some {u with at_:=v.c.now+1})))=Kz (xZ v.c.V)
  rw[hs]
theorem FW (h:vi W0 K v W)(E:K.Ok)(hN:v.N<=800000)(g:Int)(A:Y5)(k:Nat)(y:Y4)(L:y.length=512)(Q:qv W W.heap.size A k y):nK Y3 65 #[Y9 K.a,Y1 Q4 g,X1 A 512 k] W λe w'=>∃x v',e=Y0 (Y1 Q4 x)/\vi W0 K v' w'/\v'.N=v.N+1/\v'.i=v.i/\v'.Y K=v.Y K/\v'.S.sz=v.S.sz/\((x=0/\(0<=g/\g<(K.P:Int))/\v'.D=λj=>if j=g then some y else v.D j)\/((x=4/\(g<0\/(K.P:Int)<=g)\/x=160/\Dg K.P K.room v.c.V)/\v'.D=v.D))/\zz K W v v'/\ze (K.mu v) W w':=by
 have aA:=E.P2;have hP:=E.hP;have aC:=E.rp;have C:=h.ok;have aB:=C.now
 by_cases U:g<0\/K.pg<=g
 .refine(Fo W K.a K.f K.l K.r K.fr K.pg K.room v.c.now v.c.hh v.c.mm h.cs.ca.cb h.cs.fh.fb g A k U).mono ?_;rintro e w' ⟨rfl,hB⟩;exact⟨4,⟨v.G,v.S,v.c,v.i,v.N+1⟩,rfl,⟨h.cs.grow hB,C.more (Nat.le_succ _),h.ro,h.cn⟩,rfl,rfl,rfl,rfl,.inr ⟨.inl ⟨rfl,by omega⟩,rfl⟩,λk T => .inl T,ze.below hB⟩
 .refine(MP W K.a K.f K.l K.r K.P K.fr K.pg K.room v.c.now v.c.hh v.c.mm v.c.V h.cs.ca h.cs.fh.fb K5 hP ⟨by omega,by omega⟩ E.rm.1 g K5 A k y L Q (λe=>by have:=RF (P:=K.P) (k:=g) ⟨by omega,by omega⟩ e;show (ZL K.P v.c.V:Int)<K.room;omega)).mono ?_;rintro e w' ⟨b,q,c1,I,rfl,M,X,F⟩;have H:∀k,xI K.a K.r (xS v.c.V g (K4 ⟨b,v.c.now+1,q,c1,y,true⟩)) k->xI K.a K.r v.c.V k\/W.heap.size<=k:=by
   rcases I with⟨u,hu,hb⟩|⟨_,hb⟩
   .exact DT (λk u h=>h) rfl (.inl ⟨u,hu,hb⟩)
   .exact DT (λk u h=>h) rfl (.inr hb)
  have O:(ZL K.P (xS v.c.V g (K4 ⟨b,v.c.now+1,q,c1,y,true⟩)):Int)<=K.room:=by
   have Z:=h.cn;rcases I with⟨u,hu,_⟩|⟨hu,_⟩
   .have:=RE (P:=K.P) (v:=⟨b,v.c.now+1,q,c1,y,true⟩) hu;omega
   .have h1:=RF (P:=K.P) (k:=g) ⟨by omega,by omega⟩ hu;have h2:=wB K.P v.c.V g ⟨b,v.c.now+1,q,c1,y,true⟩;omega
  refine⟨0,⟨v.G,v.S,⟨v.c.now+1,v.c.hh,v.c.mm,xS v.c.V g (K4 ⟨b,v.c.now+1,q,c1,y,true⟩)⟩,v.i,v.N+1⟩,rfl,⟨h.cs.pS (c':=⟨v.c.now+1,v.c.hh,v.c.mm,xS v.c.V g (K4 ⟨b,v.c.now+1,q,c1,y,true⟩)⟩) F M H (h.cs.tyU F h.cs.ca.ca (λ_=>X)),⟨⟨by show 0<=v.c.now+1;omega,by show v.c.now+1<=((v.N+1:Nat):Int);omega⟩,⟨C.hh.1,by have:=C.hh.2;show v.c.hh<=((v.N+1:Nat):Int);omega⟩,⟨C.mm.1,by have:=C.mm.2;show v.c.mm<=((v.N+1:Nat):Int);omega⟩⟩,?_,O⟩,rfl,rfl,rfl,rfl,.inl ⟨rfl,by omega,?_⟩,H,F⟩
  .show jR K.P v.G (xZ (xS v.c.V g (K4 ⟨b,v.c.now+1,q,c1,y,true⟩)))
   rw[VU];exact jR.put h.ro K5 L (λe=>by cases e)
  .show Kz (xZ (xS v.c.V g (K4 ⟨b,v.c.now+1,q,c1,y,true⟩)))=_
   rw[VU];exact Aq _ _ _
end
section
variable {ρ:nO->Value}{w:World}{o:nh}{x y z m:nO}
theorem ti {g p n c a:Nat}(I:o.op=.slice 129 x (some y) (some z) (some m))(h1:ρ x=X1 (K4 ⟨g,p,K3⟩) n c)(h2:ρ y=Y1 Q4 (a:Int))(C:ρ z=Y1 Q4 ((a:Int)+4))(F:ρ m=Y1 Q4 ((a:Int)+4))(L:a+4<=n)(hn:n<=c):(nQ ρ o).run Y3 w=.ok (.value (X1 (K4 ⟨g,p+a,K3⟩) 4 4)) w:=by
 have ht:Y3.underlying 129=some (.slice (Y3.elem 129)):=K6
 have A:(⟨g,p,none⟩:nN).add a=⟨g,p+a,none⟩:=by cases a<;>simp[Addr.add]
 have E:ρ z=Y1 Q4 ((a+4:Nat):Int):=by rw[C];simp
 have G:ρ m=Y1 Q4 ((a+4:Nat):Int):=by rw[F];simp
 generalize M:a+4=b at *;have e:a<=b:=K5
 have h:b-a=4:=K5
 have N:b<=c:=K5
 have H:(b:Int)<=(c:Int):=K5
 have q:¬ b=a:=K5
 simp[nQ,I,h1,h2,E,G,go_sem,run_sliceAt_slice _ _ _ _ _ _ ht,nM,e,H,h,q,A]
end
theorem Dz (w:World)(A:Y5)(c a:Nat)(y:Y4)(h:qv w w.heap.size A c y)(O:y.length=512)(ha:a+4<=512):nK Y3 69 #[X1 A 512 c,Y1 Q4 (a:Int)] w λe w'=>e=Y0 (Y1 Q4 (xH ((y.drop a).take 4):Int))/\nH w.heap.size w w':=by
 obtain⟨g,o,rfl,E,hc⟩:=h.pO K5;have I:=h.le;have q:qv w w.heap.size (K4 ⟨g,o+a,K3⟩) 4 ((y.drop a).take 4):=by
  have hl:((y.drop a).take 4).length=4:=by simp;omega
  refine⟨by omega,by omega,(λe=>by cases e),λ_=>⟨g,o+a,rfl,E,λj G => ?_⟩⟩;have:=hc (a+j) K5;rw[mg,this];simp
 have F:((y.drop a).take 4).length=4:=by simp;omega
 have H:=YB w _ _ _ q;rw[F] at H;unfold Vj at H;rw[if_neg K5] at H;have C:((y.drop a).take 4).take 4=(y.drop a).take 4:=by rw[mU];simp
 rw[C] at H;have L:xH ((y.drop a).take 4)<4294967296:=YA _;generalize xH ((y.drop a).take 4)=R at *;have M:IntKind.i64.wrap ((a:Int)+4)=(a:Int)+4:=zg _;have N:IntKind.i64.wrap (R:Int)=(R:Int):=zg _;clear q h hc
 go_enter func69,ntmps69
 go_wp2_with (first
  |(refine zp rfl (ti (a:=a) rfl rfl rfl rfl rfl K5 K5) ?_)
  | (go_at_call 120;refine H.mono ?_;rintro e w' ⟨rfl,hB⟩))
 go_ret;exact⟨rfl,hB⟩
theorem MG {w:World}{A C p:Nat}{b u:Bool}(E:w.cell? A=K4 (Y9 p))(h1:w.cell? C=some (X3 u))(h2:w.cell? ⟨p,39,K3⟩=some (X3 b)):nK Y3 123 #[Y9 A,Y9 C] w λe w'=>e=Y0 (.bool (b != u))/\nH w.heap.size w w':=by
 have c:w.drew.cell? A=K4 (Y9 p)/\w.drew.cell? C=some (X3 u)/\w.drew.cell? ⟨p,39,K3⟩=some (X3 b):=⟨E,h1,h2⟩
 go_enter func123,ntmps123
 go_wp2_with fail
 refine zb.st (λW:World=>W.cell? A=K4 (Y9 p)/\W.cell? C=some (X3 u)/\W.cell? ⟨p,39,K3⟩=some (X3 b)) 99 ?_;refine zb.q0 0 (Y9 p) c ?_;refine zb.q0 1 (Y9 p) c ?_;refine zb.q0 2 (Y9 (K4 ⟨p,39,K3⟩)) c ?_;refine zb.q0 3 (X3 b) c ?_;refine zb.q0 4 (X3 u) c ?_;refine zb.t0 5 (.bool (b != u)) rfl c (λW ⟨g,h,q⟩=>by go_simp;cases b<;>cases u<;>rfl) ?_;simp only[Z8];refine zb.n 6 (zb.opV (w':=w.drew) (.bool (b != u)) rfl rfl K8 ⟨λ_=>c,zb.dn ?_⟩);simp only[Z8];clear c;go_wp2;go_ret;exact⟨rfl,(nF _ _).drew⟩
theorem Dx {w:World}{G F H p:Nat}{n E size:Int}(I:w.cell? G=K4 (Y1 Q4 n))(h1:w.cell? F=K4 (Y1 Q4 E))(h2:w.cell? H=K4 (Y9 p))(L:w.cell? p=K4 (Y1 Q4 size)):nK Y3 154 #[Y9 G,Y9 F,Y9 H] w λe w'=>e=Y0 (X3 (decide (n<E\/size<=n)))/\nH w.heap.size w w':=by
 have c:w.drew.cell? G=K4 (Y1 Q4 n)/\w.drew.cell? F=K4 (Y1 Q4 E)/\w.drew.cell? H=K4 (Y9 p)/\w.drew.cell? p=K4 (Y1 Q4 size):=⟨I,h1,h2,L⟩
 by_cases hl:n<E
 .have hd:decide (n<E\/size<=n)=true:=by simp[hl]
  rw[hd]
  go_enter func154,ntmps154
  go_wp2_with fail
  refine zb.st (λW:World=>W.cell? G=K4 (Y1 Q4 n)/\W.cell? F=K4 (Y1 Q4 E)/\W.cell? H=K4 (Y9 p)/\W.cell? p=K4 (Y1 Q4 size)) 99 ?_;refine zb.q0 0 (Y1 Q4 n) c ?_;refine zb.q0 1 (Y1 Q4 E) c ?_;refine zb.q0 2 (X3 true) c ?_;refine zb.q0 3 (X3 true) c ?_;simp only[Z8];refine zb.k0 4 gQ rfl c (.inr ⟨by rfl,rfl⟩) ?_;simp only[Z8];refine zb.k0 5 gQ rfl c (.inr ⟨by rfl,rfl⟩) ?_;simp only[Z8];refine zb.k0 6 gQ rfl c (.inr ⟨by rfl,rfl⟩) ?_;simp only[Z8];refine zb.k0 7 gQ rfl c (.inr ⟨by rfl,rfl⟩) ?_;simp only[Z8];refine zb.k0 8 gQ rfl c (.inr ⟨by rfl,rfl⟩) ?_;simp only[Z8];refine zb.k0 9 gQ rfl c (.inr ⟨by rfl,rfl⟩) ?_;simp only[Z8];refine zb.k0 10 gQ rfl c (.inr ⟨by rfl,rfl⟩) ?_;refine zb.q0 11 (X3 true) c ?_;simp only[Z8];refine zb.n 12 (zb.opV (w':=w.drew) (X3 true) rfl rfl K8 ⟨λ_=>c,zb.dn ?_⟩);simp only[Z8];clear c;go_wp2;go_ret;exact⟨rfl,(nF _ _).drew⟩
 .have hd:decide (n<E\/size<=n)=decide (size<=n):=by simp[hl]
  rw[hd]
  go_enter func154,ntmps154
  go_wp2_with fail
  refine zb.st (λW:World=>W.cell? G=K4 (Y1 Q4 n)/\W.cell? F=K4 (Y1 Q4 E)/\W.cell? H=K4 (Y9 p)/\W.cell? p=K4 (Y1 Q4 size)) 99 ?_;refine zb.q0 0 (Y1 Q4 n) c ?_;refine zb.q0 1 (Y1 Q4 E) c ?_;refine zb.q0 2 (X3 false) c ?_;refine zb.q0 3 (X3 false) c ?_;simp only[Z8];refine zb.k0 4 (Y1 Q4 n) rfl c (zb.yldG J0 (λW C=>by obtain⟨g,h,q,A⟩:=C;go_simp)) ?_;simp only[Z8];refine zb.k0 5 (Y9 p) rfl c (zb.yldG J0 (λW C=>by obtain⟨g,h,q,A⟩:=C;go_simp)) ?_;simp only[Z8];refine zb.k0 6 (Y9 p) rfl c (zb.yldG J0 (λW C=>by obtain⟨g,h,q,A⟩:=C;go_simp)) ?_;simp only[Z8];refine zb.k0 7 (Y9 p) rfl c (zb.yldG J0 (λW C=>by obtain⟨g,h,q,A⟩:=C;go_simp)) ?_;simp only[Z8];refine zb.k0 8 (Y9 p) rfl c (zb.yldG J0 (λW C=>by obtain⟨g,h,q,A⟩:=C;go_simp)) ?_;simp only[Z8];refine zb.k0 9 (Y1 Q4 size) rfl c (zb.yldG J0 (λW C=>by obtain⟨g,h,q,A⟩:=C;go_simp)) ?_;simp only[Z8];refine zb.k0 10 (X3 (decide (size<=n))) rfl c (zb.yldG J0 (λW C=>by obtain⟨g,h,q,A⟩:=C;go_simp)) ?_;refine zb.q0 11 (X3 (decide (size<=n))) c ?_;simp only[Z8];refine zb.n 12 (zb.opV (w':=w.drew) (X3 (decide (size<=n))) rfl rfl K8 ⟨λ_=>c,zb.dn ?_⟩);simp only[Z8];clear c;go_wp2;go_ret;exact⟨rfl,(nF _ _).drew⟩
theorem Hd {w:World}{G H p len c:Nat}{A:Y5}{n:Int}(I:w.cell? G=K4 (Y1 Q4 n))(h1:w.cell? H=K4 (Y9 p))(h2:w.cell? ⟨p,40,K3⟩=some (X1 A len c)):nK Y3 201 #[Y9 G,Y9 H] w λe w'=>e=Y0 (X3 (decide (n<0\/(len:Int)<=n)))/\nH w.heap.size w w':=by
 have g:w.drew.cell? G=K4 (Y1 Q4 n)/\w.drew.cell? H=K4 (Y9 p)/\w.drew.cell? ⟨p,40,K3⟩=some (X1 A len c):=⟨I,h1,h2⟩
 by_cases hl:n<0
 .have hd:decide (n<0\/(len:Int)<=n)=true:=by simp[hl]
  rw[hd]
  go_enter func201,ntmps201
  go_wp2_with fail
  refine zb.st (λW:World=>W.cell? G=K4 (Y1 Q4 n)/\W.cell? H=K4 (Y9 p)/\W.cell? ⟨p,40,K3⟩=some (X1 A len c)) 99 ?_;refine zb.q0 0 (Y1 Q4 n) g ?_;refine zb.q0 1 (X3 true) g ?_;refine zb.q0 2 (X3 true) g ?_;simp only[Z8];refine zb.k0 3 gQ rfl g (.inr ⟨by rfl,rfl⟩) ?_;simp only[Z8];refine zb.k0 4 gQ rfl g (.inr ⟨by rfl,rfl⟩) ?_;simp only[Z8];refine zb.k0 5 gQ rfl g (.inr ⟨by rfl,rfl⟩) ?_;simp only[Z8];refine zb.k0 6 gQ rfl g (.inr ⟨by rfl,rfl⟩) ?_;simp only[Z8];refine zb.k0 7 gQ rfl g (.inr ⟨by rfl,rfl⟩) ?_;simp only[Z8];refine zb.k0 8 gQ rfl g (.inr ⟨by rfl,rfl⟩) ?_;simp only[Z8];refine zb.k0 9 gQ rfl g (.inr ⟨by rfl,rfl⟩) ?_;refine zb.q0 10 (X3 true) g ?_;simp only[Z8];refine zb.n 11 (zb.opV (w':=w.drew) (X3 true) rfl rfl K8 ⟨λ_=>g,zb.dn ?_⟩);simp only[Z8];clear g;go_wp2;go_ret;exact⟨rfl,(nF _ _).drew⟩
 .have hd:decide (n<0\/(len:Int)<=n)=decide ((len:Int)<=n):=by simp[hl]
  rw[hd]
  go_enter func201,ntmps201
  go_wp2_with fail
  refine zb.st (λW:World=>W.cell? G=K4 (Y1 Q4 n)/\W.cell? H=K4 (Y9 p)/\W.cell? ⟨p,40,K3⟩=some (X1 A len c)) 99 ?_;refine zb.q0 0 (Y1 Q4 n) g ?_;refine zb.q0 1 (X3 false) g ?_;refine zb.q0 2 (X3 false) g ?_;simp only[Z8];refine zb.k0 3 (Y1 Q4 n) rfl g (zb.yldG J0 (λW F=>by obtain⟨q,C,E⟩:=F;go_simp)) ?_;simp only[Z8];refine zb.k0 4 (Y9 p) rfl g (zb.yldG J0 (λW F=>by obtain⟨q,C,E⟩:=F;go_simp)) ?_;simp only[Z8];refine zb.k0 5 (Y9 p) rfl g (zb.yldG J0 (λW F=>by obtain⟨q,C,E⟩:=F;go_simp)) ?_;simp only[Z8];refine zb.k0 6 (Y9 (K4 ⟨p,40,K3⟩)) rfl g (zb.yldG J0 (λW F=>by obtain⟨q,C,E⟩:=F;go_simp)) ?_;simp only[Z8];refine zb.k0 7 (X1 A len c) rfl g (zb.yldG J0 (λW F=>by obtain⟨q,C,E⟩:=F;go_simp)) ?_;simp only[Z8];refine zb.k0 8 (Y1 Q4 (len:Int)) rfl g (zb.yldG J0 (λW F=>by obtain⟨q,C,E⟩:=F;go_simp)) ?_;simp only[Z8];refine zb.take0 9 (X3 (decide ((len:Int)<=n))) rfl K6 K6 K6 rfl (λ_ _ _ h=>h) g (zb.yldG J0 (λW F=>by obtain⟨q,C,E⟩:=F;go_simp)) ?_;refine zb.t0 10 (X3 (decide ((len:Int)<=n))) rfl g (λW ⟨q,C,E⟩=>by go_simp) ?_;simp only[Z8];refine zb.n 11 (zb.opV (w':=w.drew) (X3 (decide ((len:Int)<=n))) rfl rfl K8 ⟨λ_=>g,zb.dn ?_⟩);simp only[Z8];clear g;go_wp2;go_ret;exact⟨rfl,(nF _ _).drew⟩
theorem TY {w:World}{bb len c:Nat}{A:Y5}(g:w.cell? bb=some (X1 A len c)):nK Y3 135 #[Y9 bb] w λe w'=>e=Y0 (.bool ((len:Int) != 512))/\w=w':=by
 go_enter func135,ntmps135
 go_wp2;go_ret;exact⟨rfl,rfl⟩
theorem Dy {w:World}{bi:Nat}{i:Int}(g:w.cell? bi=K4 (Y1 Q4 i)):nK Y3 91 #[Y9 bi] w λe w'=>e=Y0 (X3 (decide (i<0\/16<=i)))/\w=w':=by
 by_cases hl:i<0
 .have hd:decide (i<0\/16<=i)=true:=by simp[hl]
  rw[hd]
  go_enter func91,ntmps91
  go_wp2;go_ret;exact⟨rfl,rfl⟩
 .by_cases c:16<=i
  .have hd:decide (i<0\/16<=i)=true:=by simp[c]
   rw[hd]
   go_enter func91,ntmps91
   go_wp2;go_ret;exact⟨rfl,rfl⟩
  .have hd:decide (i<0\/16<=i)=false:=by simp[hl,c]
   rw[hd]
   go_enter func91,ntmps91
   go_wp2;go_ret;exact⟨rfl,rfl⟩
structure ZO (w:World)(fn:Nat)(xs:Y7)(b:Bool):Prop where
 enters:∀args w,(callFunc fn args).run Y3 w=.ok (.enter fn args) w
 oZ:∀W,nH w.heap.size w W->nK Y3 fn xs W λe w'=>e=Y0 (X3 b)/\nH W.heap.size W w'
theorem ZO.later {w w':World}{fn:Nat}{xs:Y7}{b:Bool}(h:ZO w fn xs b)(hB:nH w.heap.size w w'):ZO w' fn xs b:=⟨h.enters,λW c=>h.oZ W (hB.trans (c.mono hB.size))⟩
theorem MF {w:World}{fn:Nat}{x:Value}{er:Int}{b:Bool}(h:ZO w fn #[x] b):nK Y3 125 #[Q0 #[.func (.func fn) #[x] #[],Y1 Q4 er]] w λe w'=>e=Y0 (X3 b)/\nH w.heap.size w w':=by
 have c:nH w.heap.size w (w.alloc (Q9 #[.func (.func fn) #[x] #[],Y1 Q4 er] 156)):=(nF _ w).alloc (zG _) _;have H:=h.oZ _ c;have q:=h.enters;have g:=c.size;clear h
 go_enter func125,ntmps125
 go_wp2_with fail
 refine H.mono ?_;rintro e w' ⟨rfl,hB⟩;go_wp2;go_ret;exact⟨rfl,c.trans (hB.mono g)⟩
theorem Tq {w:World}{fn:Nat}{x:Value}{er:Int}{b:Bool}(h:ZO w fn #[x] b):nK Y3 125 #[Q0 #[.func (.func fn) #[] #[x],Y1 Q4 er]] w λe w'=>e=Y0 (X3 b)/\nH w.heap.size w w':=by
 have c:nH w.heap.size w (w.alloc (Q9 #[.func (.func fn) #[] #[x],Y1 Q4 er] 156)):=(nF _ w).alloc (zG _) _;have H:=h.oZ _ c;have q:=h.enters;have g:=c.size;clear h
 go_enter func125,ntmps125
 go_wp2_with fail
 refine H.mono ?_;rintro e w' ⟨rfl,hB⟩;go_wp2;go_ret;exact⟨rfl,c.trans (hB.mono g)⟩
theorem Tp {w:World}{fn:Nat}{x y:Value}{er:Int}{b:Bool}(h:ZO w fn #[x,y] b):nK Y3 125 #[Q0 #[.func (.func fn) #[] #[x,y],Y1 Q4 er]] w λe w'=>e=Y0 (X3 b)/\nH w.heap.size w w':=by
 have c:nH w.heap.size w (w.alloc (Q9 #[.func (.func fn) #[] #[x,y],Y1 Q4 er] 156)):=(nF _ w).alloc (zG _) _;have H:=h.oZ _ c;have q:=h.enters;have g:=c.size;clear h
 go_enter func125,ntmps125
 go_wp2_with fail
 refine H.mono ?_;rintro e w' ⟨rfl,hB⟩;go_wp2;go_ret;exact⟨rfl,c.trans (hB.mono g)⟩
theorem ME {w:World}{fn:Nat}{x y z:Value}{er:Int}{b:Bool}(h:ZO w fn #[x,y,z] b):nK Y3 125 #[Q0 #[.func (.func fn) #[] #[x,y,z],Y1 Q4 er]] w λe w'=>e=Y0 (X3 b)/\nH w.heap.size w w':=by
 have c:nH w.heap.size w (w.alloc (Q9 #[.func (.func fn) #[] #[x,y,z],Y1 Q4 er] 156)):=(nF _ w).alloc (zG _) _;have H:=h.oZ _ c;have q:=h.enters;have g:=c.size;clear h
 go_enter func125,ntmps125
 go_wp2_with fail
 refine H.mono ?_;rintro e w' ⟨rfl,hB⟩;go_wp2;go_ret;exact⟨rfl,c.trans (hB.mono g)⟩
theorem Qf:yw Y3 156 2:=⟨⟨_,underlying156,rfl⟩,by kernel_rfl⟩
structure ZN where
 f:Value
 er:Int
 b:Bool
  deriving Inhabited
def JW (x:ZN):Y8:=[x.f,Y1 Q4 x.er]
def ya (l:List ZN):Y8:=(l.map JW).flatten
theorem Ze:∀(xs:List ZN) (j:Nat) (h:j<xs.length),((ya xs).drop (j*2)).take 2=JW xs[j]
 | x::xs,0,_=>by have e:ya (x::xs)=JW x++ya xs:=rfl;rw[e];rfl
 | x::xs,j+1,h=>by have e:ya (x::xs)=JW x++ya xs:=rfl;rw[e,show (j+1)*2=2+j*2 by omega,<-fB];exact Ze xs j (by simpa using h)
def yi (w:World)(x:ZN):Prop:=∀W,nH w.heap.size w W->nK Y3 125 #[Q0 #[x.f,Y1 Q4 x.er]] W λe w'=>e=Y0 (X3 x.b)/\nH W.heap.size W w'
theorem Ry (w:World)(A:Y5)(c:Nat)(xs:List ZN)(h:yl w w.heap.size 2 A xs.length c (ya xs))(hl:xs.length<=1000)(ha:∀k (O:k<xs.length),(∀j (q:j<xs.length),j<k->xs[j].b=false)->yi w xs[k]):nK Y3 124 #[X1 A xs.length c,.func (.func 125) #[] #[]] w λe w'=>nH w.heap.size w w'/\((∃k,∃O:k<xs.length,e=Y0 (Y1 Q4 (k:Int))/\xs[k].b=true/\∀j (q:j<xs.length),j<k->xs[j].b=false)\/(e=Y0 (Y1 Q4 (-1))/\∀x∈xs,x.b=false)):=by
 go_enter func124,ntmps124
 go_wp2_with fail
 go_loopw [8] (λi wr=>∃k:Nat,k<=xs.length/\i=Y1 Q4 (k:Int)/\Hid (∀j (q:j<xs.length),j<k->xs[j].b=false)/\nH w.heap.size w wr) (λi _=>xs.length-(intOf i).toNat)
 case atStart=>exact⟨0,ly _,rfl,nI (λj _ h=>by omega),nF _ _⟩
 case round =>
  obtain⟨k,O,rfl,E,hB⟩:=hrel
  by_cases F:k<xs.length
  .obtain⟨g,o,rfl,S,_⟩:=h.pO K5;have G:=h.elem k F;rw[Ze xs k F] at G;have C:=ha k F E.out wr hB;obtain⟨x,I⟩:=Z9 (xs[k]);rw[<-I] at G C;have L:=nI I;have N:wr.rangeAt g (o+k*2) (JW x):=λj v q=>(hB.cell (p:=⟨g,o+k*2+j,K3⟩) S).trans (G j v q)
   have U:IntKind.i64.wrap ((k:Int)+1)=(k:Int)+1:=zg _;have M:=hB.size;obtain⟨f,er,b⟩:=x;clear G I ha h;cases b
   .have Q:Hid (∀j (q:j<xs.length),j<k+1->xs[j].b=false):=nI (λj q h1=>by
     by_cases e:j=k
     .subst e;rw[<-L.out]
     .exact E.out j q K5)
    go_wp2_with (first
     |(refine zp rfl (yQ Qf N rfl rfl rfl) ?_)
     | (go_at_call 125;refine C.mono ?_;rintro e T ⟨rfl,H⟩))
    exact⟨⟨k+1,by omega,by simp,Q,hB.trans (H.mono M)⟩,by simp[intOf];omega⟩
   .go_wp2_with (first
     |(refine zp rfl (yQ Qf N rfl rfl rfl) ?_)
     | (go_at_call 125;refine C.mono ?_;rintro e T ⟨rfl,H⟩))
    go_ret;exact⟨hB.trans (H.mono M),.inl ⟨k,F,rfl,by rw[<-L.out],E.out⟩⟩
  .obtain rfl:k=xs.length:=K5
   clear ha h;go_wp2;go_ret;refine⟨hB,.inr ⟨rfl,λx C => ?_⟩⟩;obtain⟨j,q,rfl⟩:=yG C;exact E.out j q q
theorem ux {w:World}{p a:Nat}(hc:w.cell? ⟨p,19,K3⟩=K4 (Y9 a))(g:p<w.heap.size):ZO w 73 #[Y9 p] false :=
 ⟨zb.eo func73,λW c=>by
  refine(QI ((c.cell (p:=⟨p,19,K3⟩) g).trans hc)).mono ?_;rintro e w' ⟨rfl,rfl⟩
  exact⟨rfl,nF _ _⟩⟩
theorem wT {w:World}{c e p:Nat}{b u:Bool}(h:w.cell? c=K4 (Y9 p))(h1:w.cell? e=some (X3 u))(h2:w.cell? ⟨p,39,K3⟩=some (X3 b))(q:c<w.heap.size)(A:e<w.heap.size)(C:p<w.heap.size):ZO w 123 #[Y9 c,Y9 e] (b != u) :=
 ⟨zb.eo func123,λW g=>MG ((g.cell (p:=⟨c,0,K3⟩) q).trans h) ((g.cell (p:=⟨e,0,K3⟩) A).trans h1) ((g.cell (p:=⟨p,39,K3⟩) C).trans h2)⟩
theorem Pv {w:World}{e c g p:Nat}{n q size:Int}(A:w.cell? e=K4 (Y1 Q4 n))(h1:w.cell? c=K4 (Y1 Q4 q))(h2:w.cell? g=K4 (Y9 p))(C:w.cell? p=K4 (Y1 Q4 size))(E:e<w.heap.size)(F:c<w.heap.size)(G:g<w.heap.size)(H:p<w.heap.size):ZO w 154 #[Y9 e,Y9 c,Y9 g] (decide (n<q\/size<=n)) :=
 ⟨zb.eo func154,λW h=>Dx ((h.cell (p:=⟨e,0,K3⟩) E).trans A) ((h.cell (p:=⟨c,0,K3⟩) F).trans h1) ((h.cell (p:=⟨g,0,K3⟩) G).trans h2) ((h.cell (p:=⟨p,0,K3⟩) H).trans C)⟩
theorem Ch {w:World}{e g p len c:Nat}{A:Y5}{n:Int}(q:w.cell? e=K4 (Y1 Q4 n))(h1:w.cell? g=K4 (Y9 p))(h2:w.cell? ⟨p,40,K3⟩=some (X1 A len c))(C:e<w.heap.size)(E:g<w.heap.size)(F:p<w.heap.size):ZO w 201 #[Y9 e,Y9 g] (decide (n<0\/(len:Int)<=n)) :=
 ⟨zb.eo func201,λW h=>Hd ((h.cell (p:=⟨e,0,K3⟩) C).trans q) ((h.cell (p:=⟨g,0,K3⟩) E).trans h1) ((h.cell (p:=⟨p,40,K3⟩) F).trans h2)⟩
theorem SF {w:World}{fn:Nat}{x:Value}{b:Bool}(er:Int)(h:ZO w fn #[x] b):yi w ⟨.func (.func fn) #[x] #[],er,b⟩:=λ_ c=>MF (h.later c)
theorem yi.one {w:World}{fn:Nat}{x:Value}{b:Bool}(er:Int)(h:ZO w fn #[x] b):yi w ⟨.func (.func fn) #[] #[x],er,b⟩:=λ_ c=>Tq (h.later c)
theorem yi.two {w:World}{fn:Nat}{x y:Value}{b:Bool}(er:Int)(h:ZO w fn #[x,y] b):yi w ⟨.func (.func fn) #[] #[x,y],er,b⟩:=λ_ c=>Tp (h.later c)
theorem SE {w:World}{fn:Nat}{x y z:Value}{b:Bool}(er:Int)(h:ZO w fn #[x,y,z] b):yi w ⟨.func (.func fn) #[] #[x,y,z],er,b⟩:=λ_ c=>ME (h.later c)
theorem yi.later {w w':World}{x:ZN}(h:yi w x)(hB:nH w.heap.size w w'):yi w' x:=λW c=>h W (hB.trans (c.mono hB.size))
theorem ke {s l:qj}{cv mk:Value}{under:Bool}(hs:s.roots.length=16)(hl:l.roots.length=16):(VM s cv l under mk).size=41:=by
 unfold VM;simp[zq hs,zq hl]
structure qx (W0:World)(K:xB)(p:Nat)(v:yj)(st last:qj)(under:Bool)(mk:Value)(W:World):Prop where
 ca:vi W0 K v W
 pb:za W p 128 (VM st (Y9 K.a) last under mk)
 np:W0.heap.size<=p
 hs:st.roots.length=16
 hl:last.roots.length=16
def sT (P:Nat)(D:Int->Option Y4):Nat:=((mi P).filter λk:Nat=>(D (k:Int)).isSome).length
def qi (K:xB)(p:Nat)(v:yj)(k:Nat):Prop:=k=p\/K.mu v k
section
variable {W0 W W':World}{K:xB}{p:Nat}{v v':yj}{st last st' last':qj}{under under':Bool}{mk mk':Value}
theorem vi.sm (h:vi W0 K v W):∀k,K.mu v k->QY W k:=yW.sm h.cs.ca
theorem vi.oE (h:vi W0 K v W):∀k,K.mu v k->k<W.heap.size:=yW.oE h.cs.ca
theorem qx.sm (h:qx W0 K p v st last under mk W):QY W p :=
 ⟨.inr (.inl ⟨_,_,h.pb,by rw[ke h.hs h.hl];decide,λn e=>by cases e⟩),.inr (.inl ⟨_,_,h.pb,by rw[ke h.hs h.hl];decide⟩)⟩
theorem qx.sms (h:qx W0 K p v st last under mk W):∀k,qi K p v k->QY W k:=λk c=>by
 rcases c with rfl|c
 .exact h.sm
 .exact h.ca.sm k c
theorem vi.dL (h:vi W0 K v W){cs:Y7}(c:za W p 128 cs):¬ K.mu v p/\p≠K.f:=by
 exact⟨yW.pU h.cs.ca c K7 K7,λe=>zh c h.cs.fh.fb K7 e⟩
theorem qx.grow (h:qx W0 K p v st last under mk W)(hB:nH W.heap.size W W'):qx W0 K p v st last under mk W':=⟨h.ca.grow hB,h.pb.below hB h.pb.lt,h.np,h.hs,h.hl⟩
theorem qx.pS (h:qx W0 K p v st last under mk W)(e:ze (K.mu v) W W')(c:vi W0 K v' W'):qx W0 K p v' st last under mk W':=⟨c,e.blk h.pb (h.ca.dL h.pb).1,h.np,h.hs,h.hl⟩
theorem qx.own (h:qx W0 K p v st last under mk W)(c:ze (λk=>k=p) W W')(g:za W' p 128 (VM st' (Y9 K.a) last' under' mk'))(hs:st'.roots.length=16)(hl:last'.roots.length=16):qx W0 K p v st' last' under' mk' W' :=
 ⟨h.ca.pR c (λk e=>by subst e;exact h.sm) (λk e=>by subst e;exact h.np) (λk e=>by subst e;exact h.ca.dL h.pb),g,h.np,hs,hl⟩
theorem qx.oD (h:qx W0 K p v st last under mk W):W.cell? ⟨p,19,K3⟩=K4 (Y9 K.a):=by rw[h.pb.cell];exact sC h.hs
theorem qx.oB (h:qx W0 K p v st last under mk W):W.cell? ⟨p,39,K3⟩=some (X3 under):=by rw[h.pb.cell];exact NU h.hs h.hl
theorem qx.dW (h:qx W0 K p v st last under mk W):W.cell? ⟨p,40,K3⟩=some mk:=by rw[h.pb.cell];exact NW h.hs h.hl
theorem qx.dU (h:qx W0 K p v st last under mk W):W.cell? p=K4 (Y1 Q4 st.size):=by rw[h.pb.cell];exact Br h.hs
theorem qx.de (h:qx W0 K p v st last under mk W):W.cell? ⟨p,1,K3⟩=K4 (Y1 Q4 st.first):=by rw[h.pb.cell];exact NX h.hs
theorem qx.mac (h:qx W0 K p v st last under mk W):W.cell? ⟨p,2,K3⟩=K4 (Y1 Q4 st.many):=by rw[h.pb.cell];exact Bt h.hs
end
end
section
open Go Go.RowKit xq Go.Shelf
attribute [local go_sem] Oper.semAt_some
structure jT (W:World)(M:Nat)(Y:Int->Option Y4):Prop where
 has:∃es co f,qa W M es co/\jx es f/\nY es co/\Zw W f Y
structure Dh (w0:World)(B M b B4:Nat)(Y:Int->Option Y4)(ks:List Nat)(V:World):Prop where
 mp:∃es co f,qa V M es co/\jx es f/\nY es co/\Df V f Y ks
 bx:za V b 211 #[Q1 (some M)]
 up:nH B w0 V
 b4:B<=M/\M<B4/\b<B4/\B4<=V.heap.size
theorem Df.abC {B:Nat}{X Z:World}{row:Option Nat}{e:Int->Option Value}{Y:Int->Option Y4}{ks:List Nat}(h:Df X e Y ks)(E:X.grownBy Z row)(F:∀r,row=some r->B<=r/\∃o:Obj,X.heap[r]?=some o/\o.isCells=false):Df Z e Y ks:=λk=>by
 rcases h k with h1|⟨h1,A,c,y,h2,g,q,C⟩
 .exact .inl h1
 .exact .inr ⟨h1,A,c,y,h2,g,q,qv.pX (B:=B) _ _ _ () X Z row C E F⟩
theorem Dh.row {E X Z:World}{B M b c:Nat}{Y:Int->Option Y4}{ks:List Nat}{row:Option Nat}(h:Dh E B M b c Y ks X)(g:X.grownBy Z row)(q:∀r,row=some r->c<=r/\∃o:Obj,X.heap[r]?=some o/\o.isCells=false):Dh E B M b c Y ks Z:=by
 obtain⟨⟨es,F,f,h1,h2,H,I⟩,L,N,O,A,C,G⟩:=h;exact⟨⟨es,F,f,h1.oL (B:=c) A g (λr e=>(q r e).1),h2,H,I.abC (B:=c) g q⟩,L.dt (B:=c) C g (λr e=>(q r e).1),N.trans (zo g K5 (λr e=>by have:=(q r e).1;omega)),O,A,C,zT G g.size⟩
theorem Dh.st (A:World)(B M b c:Nat)(Y:Int->Option Y4):tU c (λ(q:List (Nat×(Y5×Nat))) U V=>Dh A B M b c Y (q.map (·.1)) V/\∀k,U k↔k=M):=λ_ _ _ _ _ h e g=>⟨h.1.row e g,h.2⟩
theorem OO (n:Nat)(hn:8<=n)(T w:World)(B M q r many Z:Nat)(es:Array nZ)(f:Int->Option Value)(Y:Int->Option Y4)
  (hq:za w q 211 #[Q1 (some r)]) (hm:qa w r es Z) (he:jx es f) (aG:nY es Z) (hP:Zw w f Y) (N:ZF f many) (aR:many<=40000) (E:qa w M #[] 0) (aO:r≠M) (aU:nH B T w) (aL:B<=M) (aM:B<=w.heap.size) :
  mQ nv n Y3 265 #[Q1 (some M),.func (.func 186) #[] #[Y9 (K4 ⟨q,0,K3⟩)]] w λe w'=>e=Y0 (Q2 #[])/\jT w' M Y/\nH B T w':=by
 have h1:1<=n:=K5
 obtain⟨W1,aA,C,b1⟩:=Qp w 211 #[Q1 (some M)];have s1:W1.heap.size=w.heap.size+1:=by rw[aA];simp
 have aS:q≠M:=λe=>by subst e;have h1:w.heap[q]?=some (.map #[] 0):=E;have h2:w.heap[q]?=some (Q9 #[Q1 (some r)] 211 (0,0)):=hq;rw[h1] at h2;cases h2
 have aC:=E.below C E.lt;have aV:nH B T W1:=aU.trans (C.mono aM);have aX:=E.lt;have HS:=DL (n-1) K5 q r many Z es f Y W1 (hq.below C hq.lt) (hm.below C hm.lt) he aG (hP.grow C) N aR;have aF:∀k:Nat,k∈xJ f many↔(Y (k:Int)).isSome=true:=λk=>by
  rw[jJ];rcases hP (k:Int) with⟨h2,h3⟩|⟨A,c,y,h2,h3,_⟩
  .rw[h2,h3];simp
  .rw[h2,h3];have:=N _ _ h2;simp;omega
 have aD:∀k y,Y k=some y->0<=k:=λk y hy=>by
  rcases hP k with⟨_,h3⟩|⟨A,c,y,h2,_⟩
  .rw[h3] at hy;cases hy
  .exact(N _ _ h2).1
 have aH:=nI aF;have aJ:=nI aD;have aI:=nI aA.symm;have aN:M<W1.heap.size:=K5
 have aW:w.heap.size<W1.heap.size:=K5
 clear hm hq he aG hP N E aF aD aA s1;refine callsIn_of_wp_marks func265 rfl trivial ?_ rfl;simp only[ntmps265,zR,zK,zY,yB,yC,qC,qD,qO,qG,zQ,zW]
 gi_wp2
 rw[aI.out];refine jF rfl h1 (gf:=186) (lb:=#[Y9 (K4 ⟨q,0,K3⟩)]) rfl trivial (zb.eo func186)
  HS (nF _ _) (λ_=>rfl) (λk=>k=M) ⟨λe=>aS e,λe=>aO e,λk e=>by subst e;exact .inl ⟨_,_,aC⟩⟩
  (λS U V=>Dh T B M w.heap.size W1.heap.size Y (S.map (·.1)) V/\∀k,U k↔k=M) (λ_ _ _ _=>False) (Dh.st _ _ _ _ _ _) (λ_ _ _ _ _ _ h _ _=>h) (λs U X hs k hk=>by rw[(hs.2 k).1 hk];exact zO hs.1.b4.2.1 hs.1.b4.2.2.2) ?ownR
  ⟨⟨⟨#[],0,λ_=>none,aC,jx.empty,MapKept.stamped_empty 0,λk => .inl ⟨by simp,rfl⟩⟩,b1,aV,aL,aN,aW,zG _⟩,λk=>Iff.rfl⟩ ?act ?assign ?body ?done ?stop
 case ownR =>
  rintro S x _ X Y2 row ⟨e1,e2,y,g,H,I,e6⟩ aE hr;exact⟨e1,e2,y,g,H,qv.pX (B:=W1.heap.size) _ _ _ () X Y2 row I aE hr,VI.pX (B:=W1.heap.size) _ () X Y2 row e6 aE hr⟩
 case assign =>
  intro l1 x V K L;simp only[Tj]
  gi_wp2
  exact L
 case body =>
  rintro l1 S ⟨x1,A6,c6⟩ U V ⟨⟨⟨aB,c2,f2,G,i2,i3,O⟩,i5,i6,Q⟩,hU⟩ ⟨_,_,y,g,H,I,e6⟩;simp only at g I;have k1:=i5.boxed;have H3:=nI g;have H4:=nI H;have HU:=nI hU;clear g H hU
  gi_wp2_with (first
   |(refine IX rfl (.tmp 9) (.tmp 10) (.tmp 11) rfl rfl rfl rfl i2 i3 G ?_;intro aK c7 W7 aQ aP aT F)
   | (refine⟨trivial,?_⟩;fail_if_success (refine callsIn_wide.2 ?_)))
  refine⟨U,vp.refl _ _,yd.grown U F (λr e=>by injection e with e;subst e;exact(HU.out _).2 rfl),⟨⟨aK,c7,_,aQ,aP,aT,?_⟩,i5.pk G F,i6.trans (zo F K5 (λr e=>by injection e with e;omega)),Q.1,Q.2.1,Q.2.2.1,zT Q.2.2.2 F.size⟩,HU.out⟩;rw[qX];exact O.add G F H3.out H4.out I
 case done =>
  rintro D ys U V hD hS ⟨hI,_⟩ L
  gi_wp2
  have j:=hI.row (grownBy_putObj' V D (.deferred none)) (λr e=>by injection e with e;subst e;exact⟨hD,_,L,rfl⟩);obtain⟨⟨aB,c2,f2,G,i2,i3,O⟩,_,i6,_⟩:=j;refine⟨by simp,.inl ⟨D,_,rfl,mV L,?_⟩⟩;refine⟨_,results_none rfl _ _ _,rfl,⟨⟨aB,c2,f2,G,i2,i3,λk => ?_⟩⟩,i6⟩;rw[hS] at O;rcases O k with⟨h2,h3⟩|⟨_,h2⟩
  .refine .inl ⟨h3,?_⟩;cases hY:Y k with
   | none=>rfl
   | some y =>
    have p1:=aJ.out k y hY;have e:((k.toNat:Nat):Int)=k:=K5
    exact absurd e (h2 k.toNat ((aH.out k.toNat).2 (by rw[e,hY];rfl)))
  .exact .inr h2
 case stop =>
  rintro D c S U V _ _ h _;exact h.elim
theorem Pf (V:qt):jB V=Kz (xZ V):=by
 funext k
 apply Option.ext;intro y;rw[jr];exact ZU.symm
theorem Tz (n:Nat)(hn:9<=n)(w:World)(q r many h:Nat)(es:Array nZ)(f:Int->Option Value)(Y:Int->Option Y4)
  (hq:za w q 211 #[Q1 (some r)]) (g:qa w r es h) (A:jx es f) (E:nY es h) (hP:Zw w f Y) (C:ZF f many) (I:many<=40000) :
  mQ nv n Y3 200 #[.func (.func 186) #[] #[Y9 (K4 ⟨q,0,K3⟩)]] w λe w'=>∃M,e=Y0 (Q1 (some M))/\jT w' M Y/\w.heap.size<=M/\nH w.heap.size w w':=by
 have c:nH w.heap.size w (w.alloc (.map #[] 0)):=(nF _ w).alloc (zG _) _;have h1:1<=n:=K5
 have N:=g.lt;have F:=OO (n-1) K5 w (w.alloc (.map #[] 0)) w.heap.size w.heap.size q r many h es f Y (hq.below c hq.lt) (g.below c g.lt) A E (hP.grow c) C I (lD w _) K5 c (zG _) K9;clear g hq A E hP C;refine gy func200 rfl trivial ?_ rfl;simp only[ntmps200,zR,zK,zY,yB,yC,qC,qD,qO,qG,zQ,zW]
 gi_wp2_with (first
  |(refine XI rfl (IP rfl) ?_)
  |(refine⟨trivial,?_⟩;gi_at_call 265;refine F.mono ?_;rintro e L ⟨rfl,H,G⟩)
  | (refine⟨trivial,?_⟩;fail_if_success (refine callsIn_wide.2 ?_)))
 go_ret;exact⟨w.heap.size,rfl,H,zG _,G⟩
theorem NY (n:Nat)(hn:10<=n){W0 W:World}{K:xB}{p:Nat}{v:yj}{st last:qj}{under:Bool}{mk:Value}(h:qx W0 K p v st last under mk W)(T:K.Ok):mQ nv n Y3 126 #[Y9 p] W λe W'=>∃M,e=Y0 (Q1 (some M))/\jT W' M v.D/\W.heap.size<=M/\nH W.heap.size W W':=by
 have hf:∀k x,v.c.V k=some x->x.y.length=512:=h.ca.ro.full;have I:=VD W K.a K.f K.r K.P K.room v.c.now v.c.hh v.c.mm v.c.V h.ca.cs.ca;have C:=Ev h.ca.cs.ca hf
 have F:=C.keys (many:=K.P) (λk y E=>by
  unfold jB at E;cases G:v.c.V k with
  | none=>rw[G] at E;cases E
  | some x=>exact(h.ca.cs.ca.rows k x G).key)
 have Z:=T.P2;have H:∀(X:World) (q s g:Nat) (eo:Array nZ),za X q 211 #[Q1 (some s)]->qa X s eo g->jx eo (xh v.c.V)->nY eo g->nH W.heap.size W X->mQ nv (n-1) Y3 200 #[.func (.func 186) #[] #[Y9 (K4 ⟨q,0,K3⟩)]] X λe w'=>∃M,e=Y0 (Q1 (some M))/\jT w' M v.D/\X.heap.size<=M/\nH X.heap.size X w':=λX q s g eo h1 h2 N O Q=>by have:=Tz (n-1) K5 X q s K.P g eo (xh v.c.V) (jB v.c.V) h1 h2 N O (C.grow Q) F K5;rw[Pf] at this;exact this
 have k19:=h.oD;have h1:1<=n:=K5
 clear C F Z hf;refine gy func126 rfl trivial ?_ rfl;simp only[ntmps126,zR,zK,zY,yB,yC,qC,qD,qO,qG,zQ,zW]
 gi_wp2_with (first
  |(refine⟨trivial,?_⟩;gi_at_call 115;refine(callsIn_wide.2 I).mono ?_;rintro e L ⟨q,s3,eo,g,rfl,hq,aC,aB,aD,A,_,_⟩)
  |(refine⟨trivial,?_⟩;gi_at_call 200;refine(H L q s3 g eo hq aC aB aD A).mono ?_;rintro e W4 ⟨M,rfl,aA,U,S⟩)
  | (refine⟨trivial,?_⟩;fail_if_success (refine callsIn_wide.2 ?_)))
 go_ret;exact⟨M,rfl,aA,zT A.size U,A.trans (S.mono A.size)⟩
end
section
open Go Go.RowKit xq
theorem Qi {w:World}{p:nN}{v:Value}(h:w.cell? p=some v):p.block<w.heap.size:=by
 cases c:w.heap[p.block]? with
 | none=>simp[mv,c] at h
 | some o=>exact(zI.1 c).1
def Hi (x:Int):Y4:=qb 4 (IntKind.u32.wrap x).toNat
def xE (l:List Int):Y4:=(l.map Hi).flatten
theorem kO (l:List Int):(xE l).length=4*l.length:=by
 unfold xE
 induction l with
 | nil=>rfl
 | cons x l ih=>simp only[zL,yE,zH,ih,Hi,yZ,zK];omega
theorem OJ {l:List Int}{k:Nat}(h:k<l.length):xE (l.take (k+1))=xE (l.take k)++Hi l[k]:=by
 unfold xE;rw[zU h,qX,List.flatten_append];simp
theorem Iy {x:Int}(h:0<=x/\x<4294967296):((xH (Hi x):Nat):Int)=x:=by
 have e:IntKind.u32.wrap x=x:=by
  show x%4294967296=x
  omega
 unfold Hi;rw[e,kI (by show x.toNat<256^4;omega)];omega
theorem Zb (w:World)(A:Y5)(c:Nat)(l:List Int)(h:wg w A l)(hl:l.length<=100):nK Y3 114 #[X1 A l.length c] w (yV w (xE l)):=by
 go_enter func114,ntmps114
 go_wp2_with fail
 go_loopw [2,7] (λv i wr=>∃k:Nat,k<=l.length/\i=Y1 Q4 (k:Int)/\yY wr w.heap.size v (xE (l.take k))/\nH w.heap.size w wr) (λ_ i _=>l.length-(intOf i).toNat)
 case atStart=>exact⟨0,ly _,rfl,yY.nil _ _,nF _ _⟩
 case round =>
  obtain⟨k,hk,rfl,E,hB⟩:=hrel;have X:=hB.size
  by_cases q:k<l.length
  .obtain⟨g,o,rfl,hc⟩:=h.pO K5;have Z:=(hB.cell (p:=⟨g,o+k,K3⟩) (Qi (hc k q))).trans (hc k q);have C:=OJ q;have aC:=kO (l.take k);rw[qB] at aC;obtain⟨x,M⟩:=Z9 (l[k]);rw[<-M] at Z C;have H:(((IntKind.u32.wrap x).toNat:Nat):Int)=IntKind.u32.wrap x:=by
    have:0<=IntKind.u32.wrap x:=by
     show 0<=x%4294967296
     omega
    omega
   have Q:∀W,nK Y3 82 #[Y1 Q7 (IntKind.u32.wrap x)] W (yV W (Hi x)):=λW=>by have:=xt (IntKind.u32.wrap x).toNat W;rw[H] at this;exact this
   have I:(Hi x).length=4:=yZ _ _;have T:=nI C;have S:=nI I;have aF:IntKind.i64.wrap ((k:Int)+1)=(k:Int)+1:=zg _;clear hc M H C I h;generalize Hi x=nb at *;generalize hP:xE (l.take k)=aE at *
   go_wp2_with (first
    |(go_at_call 82;refine(Q _).mono ?_;rintro e w4 ⟨v4,rfl,aD,G⟩;obtain⟨O,c4,rfl,aB⟩:=aD.inB;have N:=E.later G;have F:=hB.trans (G.mono X))
    | (refine GF rfl (.tmp 11) (.tmp 14) rfl w.heap.size u2 aE J0 N w4.heap.size O c4 nb J0 aB (by rw[S.out];omega) F.size ?_;intro v' w5 L aA;have U:=N.below F aA))
   rw[<-T.out] at L;exact⟨⟨k+1,by omega,by simp,L,U⟩,by simp[intOf];omega⟩
  .obtain rfl:k=l.length:=K5
   rw[List.take_length] at E;go_wp2;go_ret;exact⟨_,rfl,E,hB⟩
def kY (xs:List Int)(v:Value)(w:World):Prop:=∃b,v=X1 (K4 ⟨b,0,K3⟩) xs.length xs.length/\∀j (h:j<xs.length),w.cell? ⟨b,j,K3⟩=K4 (Y1 Q4 xs[j])
theorem Yg (xs:List Int):∀v w w',kY xs v w->yK w w'->kY xs v w':=by
 rintro v w w' ⟨b,g,h⟩ e;exact⟨b,g,λj c=>(e.cell (p:=⟨b,j,K3⟩) (Qi (h j c))).trans (h j c)⟩
theorem Yo {xs:List Int}{v:Value}{w:World}(h:kY xs v w)(hl:xs.length<=100):nK Y3 114 #[v] w (yV w (xE xs)):=by
 obtain⟨b,rfl,h⟩:=h;exact Zb w _ _ xs ⟨λ_=>⟨b,0,rfl,λj c=>by rw[qA];exact h j c⟩⟩ hl
def Kh (l:Y4):Y4:=l++zP (512-l.length) 0
theorem vK {l:Y4}(h:l.length<=512):(Kh l).length=512:=by unfold Kh;simp;omega
theorem Ll {l:Y4}(h:l.length<=512):yu (zP 512 0) 0 512 l=Kh l:=by
 unfold yu Kh;rw[List.take_zero,zQ,qA,qE K5,Nat.min_eq_left h,List.drop_replicate]
theorem Hb (w:World)(v:Value)(l:Y4)(hl:l.length<=512)(E:∀W,nH w.heap.size w W->nK Y3 185 #[v] W (yV W l)):nK Y3 113 #[v] w (yV w (Kh l)):=by
 go_enter func113,ntmps113
 go_wp2_with (first
  |(refine SY rfl _ _ rfl w.heap.size .i64 .i64 512 rfl rfl K5 (zG _) ?_;intro w1 L G;have c:nH w.heap.size w w1:=zo G (zG _) (λr I=>by cases I);have h:=yY.blk (l:=zP 512 0) L)
  |(go_at_call 185;refine(E w1 c).mono ?_;rintro e g ⟨N,rfl,own2,A⟩;obtain⟨C,c2,rfl,H⟩:=own2.inB;have q:=h.1.below A h.1.lt)
  | (refine Sa rfl (.tmp 5) (.tmp 7) rfl w.heap.size 0 (zP 512 0) l C c2 g.heap.size 512 512 rfl rfl q H K9 ?_;rw[Ll hl]))
 have F:nH w.heap.size w (g.setRow w.heap.size ((Kh l).map b8).toArray):=zf (c.trans (A.mono c.size)) (zG _) _;have b3:=q.setRow ((Kh l).map b8).toArray;have M:yY (g.setRow w.heap.size ((Kh l).map b8).toArray) w.heap.size (X1 w.heap.size 512 512) (Kh l) :=
  ⟨by simp[vK hl],.inr ⟨w.heap.size,512,_,by rw[vK hl],zG _,b3,by rw[vK hl];exact zG _,by decide,by simp[vK hl],by rw[vK hl,yJ,qE (by simp[vK hl])]⟩⟩
 go_ret;exact⟨_,rfl,M,F⟩
theorem UR {w:World}{ls:List Y4}{v:Value}(h:xy ls v w)(c:ls.length<=1000)(hf:ls.flatten.length<=512):nK Y3 113 #[v] w (yV w (Kh ls.flatten)) :=
 Hb w v _ hf λW hB=>jY (xi ls _ _ _ h (by exact hB)) c K5
theorem Hc (w:World):nK Y3 113 #[X1 none 0 0] w (yV w (zP 512 0)) :=
 Hb w _ [] K9 λW hB=>Xv W none 0 [] ⟨zG _,by decide,λh=>absurd h K9⟩ K9
theorem Qj {g:Nat}{T:nS}:∀(c:Y8) (o:Nat) (w:World) (cs:Y8),za w g T cs.toArray->o+c.length<=cs.length->za (w.setCells g o c) g T (cs.take o++c++cs.drop (o+c.length)).toArray
 | [],o,w,cs,h,_=>by
  have e:cs.take o++[]++cs.drop (o+([]:Y8).length)=cs:=by simp
  rw[e];exact h
 | v::r,o,w,cs,h,hl=>by
  simp only[zK] at hl;have h1:=h.set o v;have e:cs.toArray.setIfInBounds o v=(cs.set o v).toArray:=by simp
  rw[e] at h1;have h2:=Qj r (o+1) _ (cs.set o v) h1 (by simp;omega);have q:(cs.set o v).take (o+1)=cs.take o++[v]:=by rw[zU (by simp;omega),List.take_set_of_le (zG _)];simp
  have A:(cs.set o v).drop (o+1+r.length)=cs.drop (o+(r.length+1)):=by rw[List.drop_set_of_lt K5];congr 1;omega
  rw[q,A] at h2;have C:cs.take o++[v]++r++cs.drop (o+(r.length+1))=cs.take o++v::r++cs.drop (o+(v::r).length):=by simp
  rw[C] at h2;exact h2
theorem jM {Mu:Nat->Prop}{g:Nat}(c:Mu g):∀(e:Y8) (o:Nat) (w:World),ze Mu w (w.setCells g o e)
 | [],_,w=>ze.refl _ _
 | v::r,o,w=>(ze.setCell w ⟨g,o,K3⟩ v c).trans (jM c r (o+1) _)
theorem JL {w:World}{g o n:Nat}{T:nS}{cs:Y7}(h:za w g T cs)(hn:o+n<=cs.size):w.there g o n:=λj c=>by
 have hc:w.cell? ⟨g,o+j,K3⟩=some cs[o+j]:=by rw[h.cell];exact Array.getElem?_eq_getElem K5
 have hh:w.heap[g]?=some (Q9 cs T (0,0)):=h;refine⟨by rw[hc];rfl,?_⟩;simp[World.frozen?,hh]
theorem GH (s:qj):∀v∈xR s,v.oneCell'=true:=by
 intro v c;simp only[xR,qN,qR] at c;rcases c with rfl|rfl|rfl|⟨x,_,rfl⟩<;>rfl
theorem QB:yw Y3 125 19:=⟨⟨_,underlying125,rfl⟩,by kernel_rfl⟩
section
variable {s l s' l':qj}{cv mk mk':Value}{u u':Bool}
theorem vf (s l:qj)(cv mk:Value)(u:Bool):VM s cv l u mk=(xR s++cv::(xR l++[X3 u,mk])).toArray:=rfl
theorem US (hs:s.roots.length=16)(hl:l.roots.length=16):(xR s++cv::(xR l++[X3 u,mk])).length=41:=by simp[zq hs,zq hl]
theorem Rz (hs:s.roots.length=16)(hl:l.roots.length=16):(VM s cv l u mk).setIfInBounds 39 (X3 u')=VM s cv l u' mk:=by
 rw[vf,vf,zA,fu _ _ (by rw[zq hs];omega),zq hs,show 39-19=19+1 from rfl,zE,fu _ _ (by rw[zq hl];omega),zq hl];rfl
theorem FA (hs:s.roots.length=16)(hl:l.roots.length=16):(VM s cv l u mk).setIfInBounds 40 mk'=VM s cv l u mk':=by
 rw[vf,vf,zA,fu _ _ (by rw[zq hs];omega),zq hs,show 40-19=20+1 from rfl,zE,fu _ _ (by rw[zq hl];omega),zq hl];rfl
theorem Tk (n:Int):(VM s cv l u mk).setIfInBounds 0 (Y1 Q4 n)=VM {s with size:=n} cv l u mk:=by
 rw[vf,vf,zA];rfl
theorem FB (n:Int):(VM s cv l u mk).setIfInBounds 1 (Y1 Q4 n)=VM {s with first:=n} cv l u mk:=by
 rw[vf,vf,zA];rfl
theorem Tm (n:Int):(VM s cv l u mk).setIfInBounds 2 (Y1 Q4 n)=VM {s with many:=n} cv l u mk:=by
 rw[vf,vf,zA];rfl
theorem Tl (hs:s.roots.length=16){i:Nat}(hi:i<16)(n:Int):(VM s cv l u mk).setIfInBounds (3+i) (Y1 Q4 n)=VM {s with roots:=s.roots.set i n} cv l u mk:=by
 have e:(xR s).set (3+i) (Y1 Q4 n)=xR {s with roots:=s.roots.set i n}:=by unfold xR;rw[show 3+i=i+1+1+1 by omega,zE,zE,zE,List.map_set]
 rw[vf,vf,zA,List.set_append_left _ _ (by rw[zq hs];omega),e]
theorem NV (hs:s.roots.length=16):(xR s++cv::(xR l++[X3 u,mk])).take 0++xR s'++(xR s++cv::(xR l++[X3 u,mk])).drop (0+19)=xR s'++cv::(xR l++[X3 u,mk]):=by
 rw[qA,List.drop_left' (zq hs)];rfl
theorem Bu (hs:s.roots.length=16)(hl:l.roots.length=16):(xR s++cv::(xR l++[X3 u,mk])).take 20++xR l'++(xR s++cv::(xR l++[X3 u,mk])).drop (20+19)=xR s++cv::(xR l'++[X3 u,mk]):=by
 have c:xR s++cv::(xR l++[X3 u,mk])=(xR s++[cv])++(xR l++[X3 u,mk]):=by simp
 have h1:(xR s++[cv]).length=20:=by simp[zq hs]
 rw[c,List.take_left' h1,show 20+19=20+19 from rfl,<-fB,List.drop_left' h1,List.drop_left' (zq hl)];simp
end
section
variable {W0 W:World}{K:xB}{p:Nat}{v:yj}{st last st' last':qj}{under under':Bool}{mk mk':Value}
theorem qx.oo (h:qx W0 K p v st last under mk W):qx W0 K p v st last under' mk (W.setCell ⟨p,39,K3⟩ (X3 under'))/\ze (λk=>k=p) W (W.setCell ⟨p,39,K3⟩ (X3 under')):=by
 have c:ze (λk=>k=p) W (W.setCell ⟨p,39,K3⟩ (X3 under')):=ze.setCell _ _ _ rfl;have e:=h.pb.set 39 (X3 under');rw[Rz h.hs h.hl] at e;exact⟨h.own c e h.hs h.hl,c⟩
theorem qx.oG (h:qx W0 K p v st last under mk W):qx W0 K p v st last under mk' (W.setCell ⟨p,40,K3⟩ mk')/\ze (λk=>k=p) W (W.setCell ⟨p,40,K3⟩ mk'):=by
 have c:ze (λk=>k=p) W (W.setCell ⟨p,40,K3⟩ mk'):=ze.setCell _ _ _ rfl;have e:=h.pb.set 40 mk';rw[FA h.hs h.hl] at e;exact⟨h.own c e h.hs h.hl,c⟩
theorem qx.oe (h:qx W0 K p v st last under mk W)(n:Int):qx W0 K p v {st with first:=n} last under mk (W.setCell ⟨p,1,K3⟩ (Y1 Q4 n))/\ze (λk=>k=p) W (W.setCell ⟨p,1,K3⟩ (Y1 Q4 n)):=by
 have c:ze (λk=>k=p) W (W.setCell ⟨p,1,K3⟩ (Y1 Q4 n)):=ze.setCell _ _ _ rfl;have e:=h.pb.set 1 (Y1 Q4 n);rw[FB] at e;exact⟨h.own c e h.hs h.hl,c⟩
theorem qx.setMany (h:qx W0 K p v st last under mk W)(n:Int):qx W0 K p v {st with many:=n} last under mk (W.setCell ⟨p,2,K3⟩ (Y1 Q4 n))/\ze (λk=>k=p) W (W.setCell ⟨p,2,K3⟩ (Y1 Q4 n)):=by
 have c:ze (λk=>k=p) W (W.setCell ⟨p,2,K3⟩ (Y1 Q4 n)):=ze.setCell _ _ _ rfl;have e:=h.pb.set 2 (Y1 Q4 n);rw[Tm] at e;exact⟨h.own c e h.hs h.hl,c⟩
theorem qx.dI (h:qx W0 K p v st last under mk W){i:Nat}(hi:i<16)(n:Int):qx W0 K p v {st with roots:=st.roots.set i n} last under mk (W.setCell ⟨p,3+i,K3⟩ (Y1 Q4 n))/\ze (λk=>k=p) W (W.setCell ⟨p,3+i,K3⟩ (Y1 Q4 n)):=by
 have c:ze (λk=>k=p) W (W.setCell ⟨p,3+i,K3⟩ (Y1 Q4 n)):=ze.setCell _ _ _ rfl;have e:=h.pb.set (3+i) (Y1 Q4 n);rw[Tl h.hs hi] at e;exact⟨h.own c e (by simpa using h.hs) h.hl,c⟩
theorem qx.setState (h:qx W0 K p v st last under mk W)(hs:st'.roots.length=16):qx W0 K p v st' last under mk (W.setCells p 0 (xR st'))/\ze (λk=>k=p) W (W.setCells p 0 (xR st')):=by
 have c:ze (λk=>k=p) W (W.setCells p 0 (xR st')):=jM (Mu:=λk=>k=p) rfl _ _ _;have e:=Qj (xR st') 0 W _ h.pb (by rw[US h.hs h.hl,zq hs];omega);rw[zq hs,NV h.hs] at e;exact⟨h.own c e hs h.hl,c⟩
theorem qx.dJ (h:qx W0 K p v st last under mk W)(hl:last'.roots.length=16):qx W0 K p v st last' under mk (W.setCells p 20 (xR last'))/\ze (λk=>k=p) W (W.setCells p 20 (xR last')):=by
 have c:ze (λk=>k=p) W (W.setCells p 20 (xR last')):=jM (Mu:=λk=>k=p) rfl _ _ _;have e:=Qj (xR last') 20 W _ h.pb (by rw[US h.hs h.hl,zq hl];omega);rw[zq hl,Bu h.hs h.hl] at e;exact⟨h.own c e h.hs hl,c⟩
theorem qx.pY (h:qx W0 K p v st last under mk W):W.rangeAt p 0 (xR st):=λj x c=>by
 have hl:=(qM.1 c).1;rw[zq h.hs] at hl;rw[qA,h.pb.cell,Xn h.hs hl];exact c
end
def XD (x:Value):Prop:=(∃n,x=Y1 Q4 n)\/(∃m,x=.map m)\/∃A n c,x=X1 A n c
def kX (W:World)(k:Nat):Prop:=∃(T:nS) (cs:Y7),(T=214\/T=999999)/\za W k T cs/\∀(j:Nat) (x:Value),cs[j]?=some x->XD x
section
variable {W W':World}{k o:Nat}
theorem kX.cell (h:kX W k){x:Value}(hc:W.cell? ⟨k,o,K3⟩=some x):XD x:=by
 obtain⟨T,cs,_,c,h⟩:=h;rw[c.cell] at hc;exact h o x hc
theorem kX.u8 (h:kX W k){n:Int}(hc:W.cell? ⟨k,o,K3⟩=K4 (Y1 Q5 n)):False:=by
 rcases h.cell hc with⟨m,e⟩|⟨m,e⟩|⟨_,_,_,e⟩<;>cases e
theorem kX.u64 (h:kX W k){n:Int}(hc:W.cell? ⟨k,o,K3⟩=K4 (Y1 Q6 n)):False:=by
 rcases h.cell hc with⟨m,e⟩|⟨m,e⟩|⟨_,_,_,e⟩<;>cases e
theorem kX.pU (h:kX W k){T:nS}{cs:Y7}(e:za W k T cs)(c:T≠214/\T≠999999):False:=by
 obtain⟨A,cs',q,g,_⟩:=h;rcases q with rfl|rfl
 .exact zh e g c.1 rfl
 .exact zh e g c.2 rfl
theorem kX.oY (h:kX W k){es:Array nZ}{c:Nat}(g:qa W k es c):False:=by
 obtain⟨_,cs',_,e,_⟩:=h;exact g.pf e rfl
theorem qv.pT {Mu:Nat->Prop}{A:Y5}{c:Nat}{l:Y4}(h:qv W W.heap.size A c l)(E:ze Mu W W')(F:∀k,Mu k->kX W k):qv W' W'.heap.size A c l :=
 E.inB h (λg o e C G=>by
  obtain⟨H,o',q,_,hc⟩:=h.pO C;rw[e] at q;injection q with q
  injection q with e1 e2
  subst e1 e2
  exact(F g G).u8 (hc 0 C))
end
section
variable {W0 W W':World}{K:xB}{p:Nat}{v v':yj}{st last st' last':qj}{under under':Bool}{mk mk':Value}
theorem vi.pT {Mu:Nat->Prop}(h:vi W0 K v W)(q:ze Mu W W')(A:∀k,Mu k->kX W k)(H:∀k,Mu k->W0.heap.size<=k):vi W0 K v W':=by
 have hf:=h.cs.fh
 refine⟨⟨⟨hf.up.trans (q.toBelow hf.up.size H),q.blk hf.fb (λe=>(A _ e).pU hf.fb K7)⟩,?_,h.cs.nb,λk u hu hl g o e=>by
  obtain⟨cs,F⟩:=h.cs.ty k u hu hl g o e
  exact⟨cs,q.blk F (λe=>(A _ e).pU F K7)⟩⟩,h.ok,h.ro,h.cn⟩
 .have hc:=h.cs.ca;obtain⟨es,c,E,G,hs⟩:=hc.mp;refine⟨q.blk hc.cb (λe=>(A _ e).pU hc.cb K7),⟨es,c,(q.block _ E.lt (λe=>(A _ e).oY E)).trans E,G,hs⟩,λk v I => ?_,hc.inj,hc.dM⟩;have C:=hc.rows k v I;exact⟨q.blk C.blk (λe=>(A _ e).pU C.blk K7),C.key,C.px.pT q A,C.len,C.om⟩
theorem qx.pT {Mu:Nat->Prop}(h:qx W0 K p v st last under mk W)(c:ze Mu W W')(g:∀k,Mu k->kX W k)(q:∀k,Mu k->W0.heap.size<=k):qx W0 K p v st last under mk W' :=
 ⟨h.ca.pT c g q,c.blk h.pb (λe=>(g _ e).pU h.pb K7),h.np,h.hs,h.hl⟩
theorem Zw.pv {Mu:Nat->Prop}{f:Int->Option Value}{Y:Int->Option Y4}(h:Zw W f Y)(q:ze Mu W W')(E:∀k,Mu k->QY W k):Zw W' f Y:=λk=>by
 rcases h k with h1|⟨A,c,y,h1,h2,e,g⟩
 .exact .inl h1
 .exact .inr ⟨A,c,y,h1,h2,e,g.pq K5 q (λj C=>(E j C).ca)⟩
theorem Zw.pT {Mu:Nat->Prop}{f:Int->Option Value}{Y:Int->Option Y4}(h:Zw W f Y)(q:ze Mu W W')(C:∀k,Mu k->kX W k):Zw W' f Y:=λk=>by
 rcases h k with h1|⟨A,c,y,h1,h2,e,g⟩
 .exact .inl h1
 .exact .inr ⟨A,c,y,h1,h2,e,g.pT q C⟩
theorem jT.lt {M:Nat}{Y:Int->Option Y4}(h:jT W M Y):M<W.heap.size:=by
 obtain⟨es,c,f,h1,_⟩:=h.has;exact h1.lt
theorem jT.pv {Mu:Nat->Prop}{M:Nat}{Y:Int->Option Y4}(h:jT W M Y)(c:ze Mu W W')(C:∀k,Mu k->QY W k)(A:¬ Mu M):jT W' M Y:=by
 obtain⟨es,e,f,h1,h2,g,q⟩:=h.has;exact⟨es,e,f,(c.block M h1.lt A).trans h1,h2,g,q.pv c C⟩
theorem jT.pT {Mu:Nat->Prop}{M:Nat}{Y:Int->Option Y4}(h:jT W M Y)(c:ze Mu W W')(g:∀k,Mu k->kX W k):jT W' M Y:=by
 obtain⟨es,q,f,h1,h2,A,C⟩:=h.has;exact⟨es,q,f,(c.block M h1.lt (λe=>(g M e).oY h1)).trans h1,h2,A,C.pT c g⟩
theorem jT.grow {M:Nat}{Y:Int->Option Y4}(h:jT W M Y)(hB:nH W.heap.size W W'):jT W' M Y :=
 h.pv (Mu:=λ_=>False) (ze.below hB) (λ_ e=>e.elim) (λe=>e.elim)
structure xo where
 s:qj
 m:Nat
 D:Int->Option Y4
def ZI (x:xo):Y8:=xR x.s++[Q1 (some x.m)]
def vR (ms:List xo):Y8:=(ms.map ZI).flatten
theorem Mp (ms:List xo)(x:xo):vR (ms++[x])=vR ms++ZI x:=by simp[vR]
theorem YE {x:xo}(h:x.s.roots.length=16):(ZI x).length=20:=by simp[ZI,zq h]
theorem Zl {ms:List xo}(h:∀x∈ms,x.s.roots.length=16):(vR ms).length=ms.length*20:=by
 induction ms with
 | nil=>rfl
 | cons x r ih =>
  have h1:=ih (λy c=>h y (by simp[c]));have h2:=YE (h x K9);have e:vR (x::r)=ZI x++vR r:=rfl;rw[e,zH,h1,h2,zK];omega
theorem Nj {ms:List xo}(h:∀x∈ms,x.s.roots.length=16){n:Nat}(hn:n<=ms.length):(vR ms).take (n*20)=vR (ms.take n):=by
 have e:vR ms=vR (ms.take n)++vR (ms.drop n):=by unfold vR;rw[<-List.flatten_append,<-qX,qK]
 have hl:(vR (ms.take n)).length=n*20:=by rw[Zl (λx c=>h x (List.mem_of_mem_take c)),qB];congr 1;omega
 rw[e,<-hl,List.take_left]
theorem Nk {ms:List xo}(h:∀x∈ms,x.s.roots.length=16)(j:Nat)(c:j<ms.length):((vR ms).drop (j*20)).take 20=ZI ms[j]:=by
 have e:vR ms=vR (ms.take j)++(ZI ms[j]++vR (ms.drop (j+1))):=by
  have g:ZI ms[j]++vR (ms.drop (j+1))=vR (ms.drop j):=by rw[qS c];rfl
  rw[g];unfold vR;rw[<-List.flatten_append,<-qX,qK]
 have hl:(vR (ms.take j)).length=j*20:=by rw[Zl (λx q=>h x (List.mem_of_mem_take q)),qB];congr 1;omega
 rw[e,<-hl,List.drop_left];have A:=YE (h ms[j] (qJ c));rw[mG K5,qE K5]
theorem Hn (x:xo):∀u∈ZI x,XD u:=by
 intro u hu;simp only[ZI,xR,zW,qN,zZ,qR,gu,or_false] at hu;rcases hu with rfl|rfl|rfl|⟨y,_,rfl⟩|rfl
 .exact .inl ⟨_,rfl⟩
 .exact .inl ⟨_,rfl⟩
 .exact .inl ⟨_,rfl⟩
 .exact .inl ⟨_,rfl⟩
 .exact .inr (.inl ⟨_,rfl⟩)
theorem XD.one {u:Value}(h:XD u):u.oneCell'=true:=by
 rcases h with⟨n,rfl⟩|⟨m,rfl⟩|⟨_,_,_,rfl⟩<;>rfl
def Ut (mk:Value)(k:Nat):Prop:=∃o n c,mk=X1 (K4 ⟨k,o,K3⟩) n c
structure ZM (B:Nat)(W:World)(mk:Value)(ms:List xo):Prop where
 has:∃A c,mk=X1 A ms.length c/\ms.length<=c/\c<=gP/\(A=none->c=0)/\∀a,A=some a->∃(g:Nat) (cur:Y8),a=⟨g,0,K3⟩/\B<=g/\za W g 214 cur.toArray/\(∀u∈cur,XD u)/\c*20<=cur.length/\cur.take (ms.length*20)=vR ms
 dQ:∀x∈ms,x.s.roots.length=16
theorem ZM.nil (B:Nat)(W:World):ZM B W (X1 none 0 0) []:=⟨⟨none,0,rfl,zG _,by unfold gP;omega,λ_=>rfl,λa e=>by cases e⟩,λx c=>by cases c⟩
theorem ZM.blk {B:Nat}{ms:List xo}(h:ZM B W mk ms):∀k,Ut mk k->kX W k/\B<=k:=λk ⟨o,n,c,e⟩=>by
 obtain⟨A,c',C,_,_,_,F⟩:=h.has;rw[e] at C;injection C with e1 _ _
 obtain⟨g,cur,q,hB,G,hc,_⟩:=F _ e1.symm;injection q with q
 subst q;exact⟨⟨_,cur.toArray,.inl rfl,G,λj x E=>hc x (by rw[qP] at E;exact List.mem_of_getElem? E)⟩,hB⟩
theorem ZM.pR {B:Nat}{ms:List xo}{Mu:Nat->Prop}(h:ZM B W mk ms)(G:ze Mu W W')(hn:∀k,Ut mk k->¬ Mu k):ZM B W' mk ms:=by
 obtain⟨A,c,e,h1,h2,E,F⟩:=h.has;refine⟨⟨A,c,e,h1,h2,E,λa C => ?_⟩,h.dQ⟩;obtain⟨g,cur,q,hB,H,hc⟩:=F a C;exact⟨g,cur,q,hB,G.blk H (hn g ⟨0,ms.length,c,by rw[e,C,q]⟩),hc⟩
theorem ZM.grow {B:Nat}{ms:List xo}(h:ZM B W mk ms)(hB:nH W.heap.size W W'):ZM B W' mk ms :=
 h.pR (Mu:=λ_=>False) (ze.below hB) (λ_ _ e=>e)
structure sY (K:xB)(D:Int->Option Y4):Prop where
 key:∀k y,D k=some y->0<=k/\k<(K.P:Int)
 oT:(sT K.P D:Int)<=K.room
structure vg (W0:World)(K:xB)(v:yj)(ms:List xo)(mk:Value)(W:World):Prop where
 row:ZM W0.heap.size W mk ms
 maps:∀x∈ms,jT W x.m x.D/\¬ K.mu v x.m/\sY K x.D
theorem vg.nil (W0:World)(K:xB)(v:yj)(W:World):vg W0 K v [] (X1 none 0 0) W:=⟨ZM.nil _ _,λx c=>by cases c⟩
theorem vg.grow {ms:List xo}(h:vg W0 K v ms mk W)(hB:nH W.heap.size W W'):vg W0 K v ms mk W' :=
 ⟨h.row.grow hB,λx c=>⟨(h.maps x c).1.grow hB,(h.maps x c).2⟩⟩
theorem vi.dj (h:vi W0 K v W){k:Nat}(g:kX W k):¬ K.mu v k:=λq=>by
 obtain⟨T,cs,c,e,_⟩:=g;rcases c with rfl|rfl
 all_goals exact yW.pU h.cs.ca e K7 K7 q
theorem vg.own {ms:List xo}(h:vg W0 K v ms mk W)(c:qx W0 K p v st last under mk' W)(q:ze (λk=>k=p) W W'):vg W0 K v ms mk W' :=
 ⟨h.row.pR q (λk C e=>by subst e;exact(h.row.blk k C).1.pU c.pb K7),λx E=>by
  obtain⟨h1,h2,A⟩:=h.maps x E;refine⟨h1.pv q (λk e=>by subst e;exact c.sm) (λe => ?_),h2,A⟩;obtain⟨es,F,f,g,_⟩:=h1.has;rw[e] at g
  exact g.pf c.pb rfl⟩
theorem vg.take {ms:List xo}(h:vg W0 K v ms mk W){A:Y5}{c n:Nat}(e:mk=X1 A ms.length c)(hn:n<=ms.length):vg W0 K v (ms.take n) (X1 A n n) W:=by
 obtain⟨M,c',E,h1,h2,G,I⟩:=h.row.has;rw[e] at E;injection E with e1 _ q
 subst e1 q;have hl:(ms.take n).length=n:=by simp;omega
 refine⟨⟨⟨A,n,by rw[hl],by omega,by omega,λe=>by have:=G e;omega,λa F => ?_⟩,λx C=>h.row.dQ x (List.mem_of_mem_take C)⟩,λx C=>h.maps x (List.mem_of_mem_take C)⟩;obtain⟨g,cur,q,hB,L,hc,N,H⟩:=I a F;refine⟨g,cur,q,hB,L,hc,by omega,?_⟩;rw[hl,<-Nj h.row.dQ hn,<-H,mU];congr 1;omega
end
def we:Value:=Q0 (xR ⟨0,0,0,zP 16 0⟩++[Value.map none]).toArray
theorem uf:ZQ 126 214 20 160 we:=⟨underlying126,by kernel_rfl,by kernel_rfl,by decide⟩
theorem tZ (n:Nat):∀u∈(la we.cells n).toList,XD u:=by
 intro u hu;have hc:∀x∈we.cells.toList,XD x:=by
  intro x g;have e:we.cells.toList=zP 19 (Y1 Q4 0)++[.map none]:=K6
  rw[e,zZ,List.mem_replicate,qL] at g;rcases g with⟨_,rfl⟩|rfl
  .exact .inl ⟨_,rfl⟩
  .exact .inr (.inl ⟨_,rfl⟩)
 have h:we.cells.size=20:=K6
 unfold la at hu;rw[Array.toList_map,qR] at hu;obtain⟨i,_,rfl⟩:=hu;refine hc _ ?_;have c:i%we.cells.size<we.cells.size:=Nat.mod_lt _ (by rw[h];omega);rw[getElem!_pos we.cells (i%we.cells.size) c];exact Array.mem_toList_iff.2 (Array.getElem_mem c)
section
variable {W:World}{mk:Value}{ms:List xo}{B:Nat}
theorem ZM.append (ty:nS)(h:ZM B W mk ms)(hn:ms.length<=1000)(hB:B<=W.heap.size)(x:xo)(hx:x.s.roots.length=16)(q:Nat)(hq:za W q 214 (ZI x).toArray):∃mk' W',(Builtin.append_ #[126,126] ty #[mk,X1 q 1 1]).run Y3 W=.ok mk' W'/\ZM B W' mk' (ms++[x])/\ze (Ut mk) W W'/\∀k,Ut mk' k->Ut mk k\/W.heap.size<=k:=by
 obtain⟨i,hi,hz,E,aA⟩:=info_parts uf.inf;have G:(ZI x).length=1*i.size:=by rw[E,YE hx]
 have L:(vR ms).length=ms.length*i.size:=by rw[E,Zl h.dQ]
 have U:∀j u,(ZI x)[j]?=some u->W.cell? (Addr.add ⟨q,0,K3⟩ j)=some u:=λj u C=>by rw[mP,hq.cell];simpa using C
 have aD:∀y∈ms++[x],y.s.roots.length=16:=λy I=>by
  rcases zZ.1 I with I|I
  .exact h.dQ y I
  .rw[qL] at I;rw[I];exact hx
 have Z:∀(cs:Y7),ze (Ut mk) W (W.drew.alloc (Q9 cs 214)):=λcs=>ze.below (((nF _ W).drew).alloc (zG _) _)
 have aC:∀(F:Nat) (z:Y7),ms.length+1<=F->F<=gP->z=la we.cells (F-(ms.length+1)) ->
   (∀u∈vR ms,XD u)->ZM B (W.drew.alloc (Q9 ((vR ms).toArray++(ZI x).toArray++z) 214)) (X1 W.heap.size (ms.length+1) F) (ms++[x]):=λF z h1 h2 aF T=>by
  refine⟨⟨some ⟨W.heap.size,0,K3⟩,F,by simp,by simp;omega,h2,(λe=>by cases e),λa e => ?_⟩,aD⟩;injection e with e
  refine⟨W.heap.size,vR ms++ZI x++z.toList,e.symm,hB,?_,λu hu => ?_,?_,?_⟩
  .have:=za.new W.drew 214 ((vR ms).toArray++(ZI x).toArray++z);have e2:(vR ms++ZI x++z.toList).toArray=(vR ms).toArray++(ZI x).toArray++z:=by simp
   rw[e2];exact this
  .rcases zZ.1 hu with hu|hu
   .rcases zZ.1 hu with hu|hu
    .exact T u hu
    .exact Hn x u hu
   .rw[aF] at hu;exact tZ _ u hu
  .have hzl:z.toList.length=(F-(ms.length+1))*20:=by rw[zV,aF,size_zeroCells];rfl
   rw[zH,zH,L,G,hzl,E];omega
  .rw[Mp];have M:(ms++[x]).length*20=(vR ms++ZI x).length:=by rw[show (vR ms++ZI x).length=(vR ms).length+(ZI x).length from zH,L,G,E];simp;omega
   rw[M,List.take_left]
 obtain⟨A,c,rfl,aM,aI,aJ,hA⟩:=h.has;cases A with
 | none =>
  obtain rfl:=aJ rfl;have h0:ms=[]:=qI K5;subst h0;have H:=run_append_nil (P:=Y3) W 126 ty 214 i _ uf.oB hi hz ⟨q,0,K3⟩ 1 1 (ZI x) G U K5 K5 (by rw[aA];omega);have S:=grownCap_ge W 1 0 214;have Q:=grownCap_le_maxLen W 1 0 214 (by unfold gP;omega);refine⟨_,_,H,?_,Z _,λk ⟨o,n,c,e⟩ => ?_⟩
  .have:=aC (grownCap W 1 0 214) _ S Q rfl (λu hu=>by cases hu);simpa[vR] using this
  .injection e with e1 _ _
   injection e1 with e1
   injection e1 with e1
   exact .inr K5
 | some a =>
  obtain⟨g,cur,rfl,aG,N,O,aL,X⟩:=hA a rfl;have T:∀u∈vR ms,XD u:=λu hu=>O u (by rw[<-X] at hu;exact List.mem_of_mem_take hu)
  have holds:∀j u,(vR ms)[j]?=some u->W.cell? ⟨g,0+j,K3⟩=some u:=λj u C=>by rw[N.cell,qA,qP];rw[<-X] at C;have aH:=(qM.1 C).1;rw[List.getElem?_take_of_lt (by simp at aH;omega)] at C;exact C
  by_cases aK:ms.length+1<=c
  .have aB:ms.length*20+(ZI x).length<=cur.length:=by rw[G,E];omega
   have aE:=JL (o:=ms.length*20) (n:=(ZI x).length) N (by simpa using aB);have H:=run_append_room_cells (P:=Y3) W 126 ty 214 i uf.oB hi g 0 ms.length c ⟨q,0,K3⟩ 1 1 (ZI x) G U (λu hu=>(Hn x u hu).one) aK
    (λj C=>by rw[E,qA];exact(aE j C).1) (λj C=>by rw[E,qA];exact(aE j C).2)
   rw[E,qA] at H;refine⟨_,_,H,⟨⟨some ⟨g,0,K3⟩,c,by simp,by simp;omega,aI,(λe=>by cases e),λa e => ?_⟩,aD⟩,jM ⟨0,_,_,rfl⟩ _ _ _,λk ⟨o,n,c',e⟩ => ?_⟩
   .injection e with e
    refine⟨g,_,e.symm,aG,Qj _ _ _ _ N aB,λu hu => ?_,?_,?_⟩
    .rcases zZ.1 hu with hu|hu
     .rcases zZ.1 hu with hu|hu
      .exact O u (List.mem_of_mem_take hu)
      .exact Hn x u hu
     .exact O u (qV hu)
    .simp only[zH,qB,qF];omega
    .rw[Mp,X];have M:(ms++[x]).length*20=(vR ms++ZI x).length:=by rw[show (vR ms++ZI x).length=(vR ms).length+(ZI x).length from zH,L,G,E];simp;omega
     rw[M,List.take_left]
   .left;injection e with e1 _ _
    injection e1 with e1
    injection e1 with e1
    exact⟨0,ms.length,c,by rw[e1]⟩
  .have H:=run_append_grow (P:=Y3) W 126 ty 214 i _ uf.oB hi hz ⟨g,0,K3⟩ ms.length c (vR ms) L (λj u C=>by rw[mP];exact holds j u C) ⟨q,0,K3⟩ 1 1 (ZI x) G U K5 K5 (growslice_fits K5 (by rw[aA];omega));have S:=grownCap_ge W (ms.length+1) c 214;have Q:=grownCap_le_maxLen W (ms.length+1) c 214 (by unfold gP;omega);refine⟨_,_,H,aC _ _ S Q rfl T,Z _,λk ⟨o,n,c,e⟩ => ?_⟩;injection e with e1 _ _
   injection e1 with e1
   injection e1 with e1
   exact .inr K5
end
def VF:List ZN->Int
 | []=>0
 | x::xs=>if x.b then x.er else VF xs
theorem IC:∀(l:List ZN) (k:Nat) (e:k<l.length),l[k].b=true->(∀j (c:j<l.length),j<k->l[j].b=false)->VF l=l[k].er
 | x::l,0,_,h,_=>by
  have h:x.b=true:=h;show (if x.b then x.er else VF l)=x.er
  rw[h];rfl
 | x::l,k+1,e,h,hf=>by
  have g:x.b=false:=hf 0 K9 K5;show (if x.b then x.er else VF l)=_
  rw[g];exact IC l k (by simpa using e) h (λj c q=>hf (j+1) (by simpa using c) K5)
theorem RG:∀(l:List ZN),(∀x∈l,x.b=false)->VF l=0
 | [],_=>rfl
 | x::l,h=>by
  show (if x.b then x.er else VF l)=0
  rw[h x K9];exact RG l (λy c=>h y (by simp[c]))
theorem rH:ZQ 208 156 2 16 (Q0 #[.nilFunc,Y1 Q4 0]):=⟨underlying208,by kernel_rfl,by kernel_rfl,by decide⟩
theorem MD (l:List ZN):(ya l).length=l.length*2:=by
 induction l with
 | nil=>rfl
 | cons x l ih =>
  have e:ya (x::l)=JW x++ya l:=rfl;rw[e,zH,ih,zK];show 2+l.length*2=_
  omega
theorem NZ {l:List ZN}{k:Nat}(h:k<l.length):(ya l)[k*2+1]?=K4 (Y1 Q4 l[k].er):=by
 have e:=Ze l k h;have c:(((ya l).drop (k*2)).take 2)[1]?=(JW l[k])[1]?:=by rw[e]
 rw[yI,if_pos K5,List.getElem?_drop] at c;exact c
theorem FF (w:World)(P:Y5)(n0 b u:Bool)(hn:ZO w 73 #[Y9 P] n0)(hu:n0=false->∃p,P=some ⟨p,0,K3⟩/\w.cell? ⟨p,39,K3⟩=some (X3 b)/\p<w.heap.size)(A:Y5)(c:Nat)(xs:List ZN)(h:yl w w.heap.size 2 A xs.length c (ya xs))(hl:xs.length<=900)(ha:n0=false->∀x∈xs,yi w x):nK Y3 72 #[Y9 P,X3 u,X1 A xs.length c] w λe w'=>e=Y0 (Y1 Q4 (if n0 then 1 else if b != u then 191 else VF xs))/\nH w.heap.size w w':=by
 obtain⟨W0,H⟩:=Z9 ((w.alloc (Q9 #[Y9 P] 45)).alloc (Q9 #[X3 u] 4));have F:nH w.heap.size w W0:=by rw[H];exact((nF _ w).alloc (zG _) _).alloc K9 _
 have s0:W0.heap.size=w.heap.size+1+1:=by rw[H];simp
 have b0:za W0 w.heap.size 45 #[Y9 P]:=by rw[H];exact(za.new w _ _).alloc _
 have b1:za W0 (w.heap.size+1) 4 #[X3 u]:=by have:=za.new (w.alloc (Q9 #[Y9 P] 45)) 4 #[X3 u];rw[nG] at this;rw[H];exact this
 obtain⟨own,E⟩:∃own:List ZN,own=[⟨.func (.func 73) #[Y9 P] #[],1,n0⟩,⟨.func (.func 123) #[] #[Y9 w.heap.size,Y9 (w.heap.size+1:Nat)],191,b != u⟩]:=⟨_,rfl⟩;have hE:VF (own++xs)=if n0 then 1 else if b != u then 191 else VF xs:=by rw[E];rfl
 generalize (if n0 then 1 else if b != u then 191 else VF xs)=R at *;have M:own.length=2:=by rw[E];rfl
 have aF:∀W,nH W0.heap.size W0 W->∀k (C:k<(own++xs).length),(∀j (hj:j<(own++xs).length),j<k->(own++xs)[j].b=false)->yi W (own++xs)[k]:=λW hW k C hf=>by
  refine yi.later ?_ hW
  match k,C,hf with
  | 0,C,_ =>
   have e:(own++xs)[0]=⟨.func (.func 73) #[Y9 P] #[],1,n0⟩:=by simp[E]
   rw[e];exact SF 1 (hn.later F)
  | 1,C,hf =>
   have e:(own++xs)[1]=⟨.func (.func 123) #[] #[Y9 w.heap.size,Y9 (w.heap.size+1:Nat)],191,b != u⟩:=by simp[E]
   have e0:(own++xs)[0].b=n0:=by simp[E]
   obtain⟨p,rfl,aQ,hp⟩:=hu (e0▸hf 0 (by simp[M];omega) K5);rw[e];exact yi.two 191 (wT ((b0.cell 0).trans rfl) ((b1.cell 0).trans rfl) ((F.cell (p:=⟨p,39,K3⟩) hp).trans aQ) b0.lt b1.lt K5)
  | k+2,C,hf =>
   have aH:k<xs.length:=by simp[M] at C;omega
   have e:(own++xs)[k+2]=xs[k]:=by rw[List.getElem_append_right K5];simp[M]
   have e0:(own++xs)[0].b=n0:=by simp[E]
   rw[e];exact yi.later (ha (e0▸hf 0 (by simp[M];omega) K5) _ (qJ aH)) F
 have aK:=(h.below F).more F.size;have aG:ya (own++xs)=ya own++ya xs:=by simp[ya]
 have S:ya own=[.func (.func 73) #[Y9 P] #[],Y1 Q4 1,.func (.func 123) #[] #[Y9 w.heap.size,Y9 (w.heap.size+1:Nat)],Y1 Q4 191]:=by rw[E];rfl
 have aJ:∀v∈ya own++ya xs,v.oneCell'=true:=λv q=>by
  rcases zZ.1 q with q|q
  .rw[S] at q;simp only[qN,gu,or_false] at q;rcases q with rfl|rfl|rfl|rfl<;>rfl
  .exact h.one v q
 obtain⟨O,aB,I,-⟩:=Qp W0 156 #[.func (.func 73) #[Y9 P] #[],Y1 Q4 1,.func (.func 123) #[] #[Y9 w.heap.size,Y9 (w.heap.size+1:Nat)],Y1 Q4 191];have aD:=(aK.below I).more I.size;have U:O.ownsRow W0.heap.size 156 2 (X1 (w.heap.size+1+1:Nat) 2 2) 2 (ya own):=by refine⟨by rw[S];rfl,.inr ⟨w.heap.size+1+1,2,#[.func (.func 73) #[Y9 P] #[],Y1 Q4 1,.func (.func 123) #[] #[Y9 w.heap.size,Y9 (w.heap.size+1:Nat)],Y1 Q4 191],rfl,by omega,?_,zG _,by decide,rfl,by rw[S];rfl⟩⟩;rw[aB,<-s0];exact lD W0 _
 have aN:Hid (((w.alloc (Q9 #[Y9 P] 45)).alloc (Q9 #[X3 u] 4)).alloc (Q9 #[.func (.func 73) #[Y9 P] #[],Y1 Q4 1,.func (.func 123) #[] #[Y9 w.heap.size,Y9 (w.heap.size+1:Nat)],Y1 Q4 191] 156)=O):=nI (by rw[aB,H]);have aR:W0.heap.size<=O.heap.size:=I.size;have aL:=nI aF;have HE:=nI hE;have aE:=nI aG;have aM:=nI aJ;have aO:(2+xs.length)*16<=140737488355328:=K5
 have aP:2+xs.length<=gP:=by unfold gP;omega
 have aI:(own++xs).length=2+xs.length:=by rw[zH,M]
 clear aB aF hE aG S aJ E hu hn ha h H b0 b1 aK
 go_enter func72,ntmps72
 go_wp2_with (first
  |(at_builtin;rw[aN.out];refine xg rfl rH (.tmp 14) (.tmp 15) rfl W0.heap.size (X1 (w.heap.size+1+1:Nat) 2 2) 2 (ya own) rfl U O.heap.size A xs.length c (ya xs) rfl aD aP aO aR ?_;intro v2 W2 own2 aC)
  )
 obtain⟨X,c2,rfl,T⟩:=qq own2 aM.out;have Q:nH W0.heap.size W0 W2:=I.grown aC I.size (λk C=>(fZ U k C).1);have N:=Ry W2 X c2 (own++xs) (by rw[aI,aE.out];exact T) K5 (λk C hf=>aL.out W2 Q k C hf);have e2:(#[X1 X (own++xs).length c2,.func (.func 125) #[] #[]]:Y7)=#[X1 X (2+xs.length) c2,.func (.func 125) #[] #[]]:=by rw[aI]
 rw[e2] at N;clear e2;have G:nH w.heap.size w W2:=F.trans (Q.mono F.size);refine N.mono ?_;rintro e W3 ⟨L,⟨k,C,rfl,hb,hf⟩|⟨rfl,hf⟩⟩
 .have q:=IC (own++xs) k C hb hf;rw[HE.out] at q;obtain⟨g,o,rfl,hg,hr⟩:=T.pO K5;have aS:W3.cell? ⟨g,o+k*2+1,K3⟩=K4 (Y1 Q4 (own++xs)[k].er):=by rw[mg];exact(L.cell (p:=⟨g,o+(k*2+1),K3⟩) hg).trans (hr (k*2+1) _ (by rw[<-aE.out];exact NZ C))
  have aA:nH w.heap.size w W3:=G.trans (L.mono G.size);generalize (own++xs)[k].er=er at *;have Z:=nI q;have aH:k<2+xs.length:=K5
  clear q hb hf hr T N own2 aC U aD L Q G C;go_wp2;go_ret;exact⟨by rw[Z.out];rfl,aA⟩
 .have q:=RG (own++xs) hf;rw[HE.out] at q;have aA:nH w.heap.size w W3:=G.trans (L.mono G.size);have Z:=nI q;clear q hf T N own2 aC U aD L Q G;go_wp2;go_ret;exact⟨by rw[Z.out];rfl,aA⟩
def xU:Y4:=[108,111,117,112,101,48,48,49]
def Af (fi ma:Int)(ro:List Int):Y4:=Kh [xU,xE [fi,ma],xE ro].flatten
def jh (s:qj):Y4:=Af s.first s.many s.roots
theorem DA {c e:Int}{ro:List Int}(h:ro.length=16):[xU,xE [c,e],xE ro].flatten.length=80:=by
 have h1:=kO [c,e];have h2:=kO ro;simp only[zK,zY] at h1;simp only[yE,lQ,zH,zY,h1,h2,h];rfl
theorem JY {s:qj}(h:s.roots.length=16):(jh s).length=512:=vK (by rw[DA h];omega)
theorem Cu {ρ:nO->Value}{o:nh}{w:World}{x:nO}{g:Nat}(c:o.op=.slice 123 x none none none)(h:ρ x=Y9 (K4 ⟨g,3,K3⟩)):(nQ ρ o).run Y3 w=.ok (.value (X1 (K4 ⟨g,3,K3⟩) 16 16)) w:=by
 have ht:=underlying123;simp[nQ,c,h,go_sem,nM,ht]
section
variable {ρ:nO->Value}{o:nh}{W:World}
theorem GC (e:o.op=.buildSlice 129 8 #[(0,.const (Y1 Q5 108)),(1,.const (Y1 Q5 111)),(2,.const (Y1 Q5 117)),(3,.const (Y1 Q5 112)),(4,.const (Y1 Q5 101)),(5,.const (Y1 Q5 48)),(6,.const (Y1 Q5 48)),(7,.const (Y1 Q5 49))])
  (c:∀v,ρ (.const v)=v):(nQ ρ o).run Y3 W=.ok (.value (X1 W.heap.size 8 8)) (W.alloc (Q9 (xU.map b8).toArray 5)):=by
 simp[nQ,e,go_sem,nM,xU,b8,c]
theorem RL {x y:nO}{a b:Int}(c:o.op=.buildSlice 67 2 #[(0,x),(1,y)])(h1:ρ x=Y1 Q4 a)(h2:ρ y=Y1 Q4 b):(nQ ρ o).run Y3 W=.ok (.value (X1 W.heap.size 2 2)) (W.alloc (Q9 #[Y1 Q4 a,Y1 Q4 b] 3)):=by
 simp[nQ,c,h1,h2,go_sem,nM]
theorem Cx {x y z:nO}{A B C:Y5}{n m k a b c:Nat}(g:o.op=.buildSlice 142 3 #[(0,x),(1,y),(2,z)])(h1:ρ x=X1 A n a)(h2:ρ y=X1 B m b)(e:ρ z=X1 C k c):(nQ ρ o).run Y3 W=.ok (.value (X1 W.heap.size 3 3)) (W.alloc (Q9 #[X1 A n a,X1 B m b,X1 C k c] 129)):=by
 simp[nQ,g,h1,h2,e,go_sem,nM]
end
theorem Vf (W:World)(a b:Int):kY [a,b] (X1 W.heap.size 2 2) (W.alloc (Q9 #[Y1 Q4 a,Y1 Q4 b] 3)):=⟨W.heap.size,rfl,λj c=>by
 rw[(za.new W 3 #[Y1 Q4 a,Y1 Q4 b]).cell]
 match j,c with
 | 0,_=>rfl
 | 1,_=>rfl
 | j+2,c=>exact absurd c K9⟩
theorem OT {W:World}{A B C:Y5}{a b c:Nat}{e g h:Y4}(h1:qv W W.heap.size A a e)(h2:qv W W.heap.size B b g)(E:qv W W.heap.size C c h):xy [e,g,h] (X1 W.heap.size 3 3) (W.alloc (Q9 #[X1 A e.length a,X1 B g.length b,X1 C h.length c] 129)) :=
 xy.new (w:=W) [((A,a),e),((B,b),g),((C,c),h)] (by
  intro x q;simp only[qN,gu,or_false] at q;rcases q with rfl|rfl|rfl
  .exact h1
  .exact h2
  .exact E)
theorem kY.cells {xs:List Int}{v:Value}{W W':World}(h:kY xs v W)(hc:∀p v,W.cell? p=some v->W'.cell? p=some v):kY xs v W':=by
 obtain⟨b,e,h⟩:=h;exact⟨b,e,λj c=>hc _ _ (h j c)⟩
theorem qv.cells {W W':World}{A:Y5}{c:Nat}{l:Y4}(h:qv W W.heap.size A c l)(hs:W'.heap.size=W.heap.size)(hc:∀p v,W.cell? p=some v->W'.cell? p=some v):qv W' W'.heap.size A c l:=by
 refine⟨h.le,h.max,h.nil,λq => ?_⟩;obtain⟨g,o,e,E,h⟩:=h.pO q;exact⟨g,o,e,by omega,λj C=>hc _ _ (h j C)⟩
theorem GD {W:World}{g n c:Nat}{cs:Y7}(A:za W g 5 cs):∃W',(∀(ρ:nO->Value) (o:nh) {x:nO},o.op=.convert 129 129 x->ρ x=X1 g n c->(nQ ρ o).run Y3 W=.ok (.value (X1 g n c)) W')/\W'.heap.size=W.heap.size/\(∀p v,W.cell? p=some v->W'.cell? p=some v)/\ze (λk=>k=g) W W':=by
 have hh:W.heap[g]?=some (Q9 cs 5 (0,0)):=A;have F:W.shape? g=some (5,cs.size):=by unfold World.shape?;rw[hh]
 have ht:=underlying129;have C:=underlying5;refine⟨W.freeze ⟨g,cs.size,K3⟩ 1,λρ o x E G => ?_,?_,?_,?_⟩
 .simp[nQ,E,G,convert,gK ht,gK C,markStringish,F,nM,go_sem]
 .simp[ey]
 .intro p v q;have h:(W.freeze ⟨g,cs.size,K3⟩ 1).heap[p.block]?=if p.block=g then some (Q9 cs 5 (cs.size,cs.size+1)) else W.heap[p.block]?:=by
   by_cases e:p.block=g
   .rw[if_pos e,e];simp[ey,mE,hh]
   .rw[if_neg e];simp[ey,mE,Ne.symm e]
  by_cases e:p.block=g
  .rw[if_pos e] at h;rw[<-e] at hh;simp only[mv,hh] at q;simp only[mv,h];exact q
  .rw[if_neg e] at h;rw[World.cell?_of_block h];exact q
 .refine⟨rfl,rfl,rfl,by simp[ey],λk H hn => ?_⟩;have hn:¬ g=k:=λe=>hn e.symm
  simp[ey,mE,hn]
-- THE WALK
theorem Ti (w:World)(s:qj)(aW:s.roots.length=16):nK Y3 66 #[Q0 (xR s).toArray] w λe w'=>∃A c,e=Y0 (X1 A 512 c)/\qv w' w'.heap.size A c (jh s)/\nH w.heap.size w w':=by
 have aV:=JY aW;obtain⟨cs,aM⟩:=Z9 ((xR s).toArray);have a5:cs[1]?=K4 (Y1 Q4 s.first):=by rw[aM];rfl
 have a6:cs[2]?=K4 (Y1 Q4 s.many):=by rw[aM];rfl
 have a7:∀j (h:j<s.roots.length),cs[3+j]?=K4 (Y1 Q4 s.roots[j]):=λj h=>by rw[aM,show 3+j=j+1+1+1 by omega];unfold xR;simp[h]
 rw[<-aM];unfold jh at aV ⊢;generalize s.first=I at *;generalize s.many=M at *;generalize s.roots=ro at *;have a8:∀w u,xy [xU,xE [I,M],xE ro] u w->nK Y3 113 #[u] w (yV w (Af I M ro)):=λw u hu=>UR hu K9 (by rw[DA aW];omega)
 have aT:nH w.heap.size w (w.alloc (Q9 cs 125)):=(nF _ w).alloc (zG _) _;have aL:=za.new w 125 cs;clear aM
 go_enter func66,ntmps66
 go_wp2_with fail
 generalize w.alloc (Q9 cs 125)=H at *;have Q:∀W,nH H.heap.size H W->W.cell? ⟨w.heap.size,1,K3⟩=K4 (Y1 Q4 I)/\W.cell? ⟨w.heap.size,2,K3⟩=K4 (Y1 Q4 M):=λW hg=>⟨(hg.cell (p:=⟨w.heap.size,1,K3⟩) aL.lt).trans (by rw[aL.cell];exact a5),(hg.cell (p:=⟨w.heap.size,2,K3⟩) aL.lt).trans (by rw[aL.cell];exact a6)⟩
 have aP:∀w',nH H.heap.size H w'->nK Y3 114 #[X1 (K4 ⟨w.heap.size,3,K3⟩) 16 16] w' (yV w' (xE ro)):=λw' hg=>by have:=Zb w' (K4 ⟨w.heap.size,3,K3⟩) 16 ro ⟨λ_=>⟨w.heap.size,3,rfl,λj hj=>(hg.cell (p:=⟨w.heap.size,3+j,K3⟩) aL.lt).trans (by rw[aL.cell];exact a7 j hj)⟩⟩ K5;rw[aW] at this;exact this
 have aK:=Q H.drew (nF _ _).drew;have q:nH H.heap.size H H.drew:=(nF _ _).drew;clear aL a7 a5 a6;refine zb.st (λW:World=>W.cell? ⟨w.heap.size,1,K3⟩=K4 (Y1 Q4 I)/\W.cell? ⟨w.heap.size,2,K3⟩=K4 (Y1 Q4 M)) 99 ?_;refine zb.q0 2 (Y9 (K4 ⟨w.heap.size,1,K3⟩)) aK ?_;refine zb.q0 3 (Y1 Q4 I) aK ?_;refine zb.q0 4 (Y9 (K4 ⟨w.heap.size,2,K3⟩)) aK ?_;refine zb.q0 5 (Y1 Q4 M) aK ?_;refine zb.q0 8 (Y9 (K4 ⟨w.heap.size,3,K3⟩)) aK ?_;simp only[Z8];refine zb.t0 9 (X1 (K4 ⟨w.heap.size,3,K3⟩) 16 16) rfl aK (λW ⟨e0,e1⟩=>by exact Cu rfl rfl) ?_;simp only[Z8];clear aK
 -- THE TREE
 refine zb.join (λa W=>∃g0 E N O Z aA,a=⟨#[Q0 cs,Y9 w.heap.size,X1 none 0 0,X1 (K4 ⟨g0,0,K3⟩) 8 8,X1 (K4 ⟨g0,0,K3⟩) 8 8,Y9 (K4 ⟨w.heap.size,1,K3⟩),Y1 Q4 I,Y9 (K4 ⟨w.heap.size,2,K3⟩),Y1 Q4 M,X1 (K4 ⟨E,0,K3⟩) 2 2,X1 N (xE [I,M]).length O,Y9 (K4 ⟨w.heap.size,3,K3⟩),X1 (K4 ⟨w.heap.size,3,K3⟩) 16 16,X1 Z (xE ro).length aA,gQ,gQ],[]⟩/\qv W W.heap.size (K4 ⟨g0,0,K3⟩) 8 xU/\qv W W.heap.size N O (xE [I,M])/\qv W W.heap.size Z aA (xE ro)/\nH H.heap.size H W) 3 #[true,true,true,true,true,true,true,true,true,true,true,false,false,false] ?_ (λa4 => ?_)
 .skip
  clear q;rintro _ W1 ⟨g0,E,N,O,Z,aA,rfl,U,L,aD,q⟩;obtain⟨W2,F⟩:∃W,W=W1.alloc (Q9 #[X1 (K4 ⟨g0,0,K3⟩) 8 8,X1 N (xE [I,M]).length O,X1 Z (xE ro).length aA] 129):=⟨_,rfl⟩;obtain⟨aS,aU⟩:∃g,g=W1.heap.size:=⟨_,rfl⟩;have hL:xy [xU,xE [I,M],xE ro] (X1 aS 3 3) W2:=by rw[F,aU];exact OT U L aD
  replace q:nH H.heap.size H W2:=by rw[F];exact q.alloc q.size _
  refine zb.n 11 (zb.opV (w':=W2) (X1 aS 3 3) rfl rfl (by rw[F,aU];exact Cx rfl rfl rfl rfl) ⟨λ_=>Q _ q,?_⟩);simp only[Z8];refine zb.n 12 ?_;refine zb.oC 113 #[.tmp 14] #[142] #[X1 aS 3 3] ((a8 _ _ hL).mono ?_) (zb.eo func113);rintro e W3 ⟨bJ,rfl,bA,C⟩;obtain⟨aX,aY,rfl,a9⟩:=bA.inB;replace q:=q.trans (C.mono q.size);refine⟨_,rfl,λ_=>Q _ q,?_⟩;simp only[Z8];refine zb.n 13 (zb.opV (w':=W3) (X1 aX (Af I M ro).length aY) rfl rfl K8 ⟨λ_=>Q _ q,zb.dn ?_⟩);simp only[Z8];have bE:=nI (aT.trans (q.mono aT.size));have bD:=nI a9;rw[aV];clear Q aP a8 q U L aD hL F aU bA C a9 aT aV;go_wp2;go_ret;exact⟨aX,aY,rfl,bD.out,bE.out⟩
 refine zb.join (λa W=>∃g0 E N O,a=⟨#[Q0 cs,Y9 w.heap.size,X1 none 0 0,X1 (K4 ⟨g0,0,K3⟩) 8 8,X1 (K4 ⟨g0,0,K3⟩) 8 8,Y9 (K4 ⟨w.heap.size,1,K3⟩),Y1 Q4 I,Y9 (K4 ⟨w.heap.size,2,K3⟩),Y1 Q4 M,X1 (K4 ⟨E,0,K3⟩) 2 2,X1 N (xE [I,M]).length O,Y9 (K4 ⟨w.heap.size,3,K3⟩),X1 (K4 ⟨w.heap.size,3,K3⟩) 16 16,gQ,gQ,gQ],[]⟩/\qv W W.heap.size (K4 ⟨g0,0,K3⟩) 8 xU/\qv W W.heap.size N O (xE [I,M])/\nH H.heap.size H W) 4 #[true,true,true,true,true,true,true,true,true,true,false,false,false,false] ?_ (λa3 => ?_)
 .skip
  clear q;rintro _ W4 ⟨g0,E,N,O,rfl,U,L,q⟩;refine zb.n 10 ?_;refine zb.oC 114 #[.tmp 12] #[67] #[X1 (K4 ⟨w.heap.size,3,K3⟩) 16 16] ((aP _ q).mono ?_) (zb.eo func114);rintro e W5 ⟨bC,rfl,aI,C⟩;obtain⟨Z,aA,rfl,aD⟩:=aI.inB;replace U:=(U.below C).more C.size;replace L:=(L.below C).more C.size;replace q:=q.trans (C.mono q.size);refine⟨_,rfl,λ_=>Q _ q,?_⟩;clear C aI;simp only[Z8];exact a4 _ _ _ _ rfl K6 ⟨g0,E,N,O,Z,aA,rfl,U,L,aD,q⟩
 refine zb.join (λa W=>∃g0 E N O Z aA,a=⟨#[Q0 cs,Y9 w.heap.size,X1 none 0 0,X1 (K4 ⟨g0,0,K3⟩) 8 8,gQ,Y9 (K4 ⟨w.heap.size,1,K3⟩),Y1 Q4 I,Y9 (K4 ⟨w.heap.size,2,K3⟩),Y1 Q4 M,X1 (K4 ⟨E,0,K3⟩) 2 2,X1 N (xE [I,M]).length O,Y9 (K4 ⟨w.heap.size,3,K3⟩),X1 (K4 ⟨w.heap.size,3,K3⟩) 16 16,X1 Z (xE ro).length aA,gQ,gQ],[]⟩/\za W g0 5 (xU.map b8).toArray/\H.heap.size<=g0/\qv W W.heap.size N O (xE [I,M])/\qv W W.heap.size Z aA (xE ro)/\nH H.heap.size H W) 4 #[true,false,true,true,true,true,true,true,true,true,true,false,false,false] ?_ (λa1 => ?_)
 .skip
  clear q;rintro _ W6 ⟨g0,E,N,O,Z,aA,rfl,G,T,L,aD,q⟩;refine zb.n 1 ?_;obtain⟨W7,aG,aC,aB,aE⟩:=GD (W:=W6) (g:=g0) (n:=8) (c:=8) G;have U:qv W7 W7.heap.size (K4 ⟨g0,0,K3⟩) 8 xU:=qv.cells (G.inB _ G.lt K7) aC aB;replace L:=L.cells aC aB;replace aD:=aD.cells aC aB;replace q:=q.trans (aE.toBelow q.size (λk e=>by rw[e];exact T));refine zb.opV (w':=W7) (X1 (K4 ⟨g0,0,K3⟩) 8 8) rfl rfl (aG _ _ rfl rfl) ⟨λ_=>Q _ q,?_⟩;clear aG aC aB aE G T;simp only[Z8];exact a4 _ _ _ _ rfl K6 ⟨g0,E,N,O,Z,aA,rfl,U,L,aD,q⟩
 refine zb.join (λa W=>∃g0 E,a=⟨#[Q0 cs,Y9 w.heap.size,X1 none 0 0,X1 (K4 ⟨g0,0,K3⟩) 8 8,X1 (K4 ⟨g0,0,K3⟩) 8 8,Y9 (K4 ⟨w.heap.size,1,K3⟩),Y1 Q4 I,Y9 (K4 ⟨w.heap.size,2,K3⟩),Y1 Q4 M,X1 (K4 ⟨E,0,K3⟩) 2 2,gQ,Y9 (K4 ⟨w.heap.size,3,K3⟩),X1 (K4 ⟨w.heap.size,3,K3⟩) 16 16,gQ,gQ,gQ],[]⟩/\qv W W.heap.size (K4 ⟨g0,0,K3⟩) 8 xU/\kY [I,M] (X1 (K4 ⟨E,0,K3⟩) 2 2) W/\nH H.heap.size H W) 5 #[true,true,true,true,true,true,true,false,true,true,false,false,false,false] ?_ (λa2 => ?_)
 .skip
  clear q;rintro _ W8 ⟨g0,E,rfl,U,S,q⟩;refine zb.n 7 ?_;refine zb.oC 114 #[.tmp 9] #[67] #[X1 (K4 ⟨E,0,K3⟩) 2 2] ((Yo S K9).mono ?_) (zb.eo func114);rintro e W9 ⟨bB,rfl,aH,C⟩;obtain⟨N,O,rfl,L⟩:=aH.inB;replace U:=(U.below C).more C.size;replace S:=Yg _ _ _ _ S C;replace q:=q.trans (C.mono q.size);refine⟨_,rfl,λ_=>Q _ q,?_⟩;clear C aH;simp only[Z8];exact a3 _ _ _ _ rfl K6 ⟨g0,E,N,O,rfl,U,L,q⟩
 refine zb.join (λa W=>∃g0 E N O,a=⟨#[Q0 cs,Y9 w.heap.size,X1 none 0 0,X1 (K4 ⟨g0,0,K3⟩) 8 8,gQ,Y9 (K4 ⟨w.heap.size,1,K3⟩),Y1 Q4 I,Y9 (K4 ⟨w.heap.size,2,K3⟩),Y1 Q4 M,X1 (K4 ⟨E,0,K3⟩) 2 2,X1 N (xE [I,M]).length O,Y9 (K4 ⟨w.heap.size,3,K3⟩),X1 (K4 ⟨w.heap.size,3,K3⟩) 16 16,gQ,gQ,gQ],[]⟩/\za W g0 5 (xU.map b8).toArray/\H.heap.size<=g0/\qv W W.heap.size N O (xE [I,M])/\nH H.heap.size H W) 5 #[true,false,true,true,true,true,true,true,true,true,false,false,false,false] ?_ (λa0 => ?_)
 .skip
  clear q;rintro _ bF ⟨g0,E,N,O,rfl,G,T,L,q⟩;refine zb.two 1 10 K6 ?_ ?_
  .skip
   obtain⟨aQ,aG,aC,aB,aE⟩:=GD (W:=bF) (g:=g0) (n:=8) (c:=8) G;have U:qv aQ aQ.heap.size (K4 ⟨g0,0,K3⟩) 8 xU:=qv.cells (G.inB _ G.lt K7) aC aB;replace L:=L.cells aC aB;replace q:=q.trans (aE.toBelow q.size (λk e=>by rw[e];exact T));refine zb.opV (w':=aQ) (X1 (K4 ⟨g0,0,K3⟩) 8 8) rfl rfl (aG _ _ rfl rfl) ⟨λ_=>Q _ q,?_⟩;clear aG aC aB aE G T;simp only[Z8];exact a3 _ _ _ _ rfl K6 ⟨g0,E,N,O,rfl,U,L,q⟩
  .skip
   refine zb.oC 114 #[.tmp 12] #[67] #[X1 (K4 ⟨w.heap.size,3,K3⟩) 16 16] ((aP _ q).mono ?_) (zb.eo func114);rintro e bH ⟨bC,rfl,aI,C⟩;obtain⟨Z,aA,rfl,aD⟩:=aI.inB;replace G:=G.below C G.lt;replace L:=(L.below C).more C.size;replace q:=q.trans (C.mono q.size);refine⟨_,rfl,λ_=>Q _ q,?_⟩;clear C aI;simp only[Z8];exact a1 _ _ _ _ rfl K6 ⟨g0,E,N,O,Z,aA,rfl,G,T,L,aD,q⟩
 refine zb.join (λa W=>∃g0 E,a=⟨#[Q0 cs,Y9 w.heap.size,X1 none 0 0,X1 (K4 ⟨g0,0,K3⟩) 8 8,gQ,Y9 (K4 ⟨w.heap.size,1,K3⟩),Y1 Q4 I,Y9 (K4 ⟨w.heap.size,2,K3⟩),Y1 Q4 M,X1 (K4 ⟨E,0,K3⟩) 2 2,gQ,Y9 (K4 ⟨w.heap.size,3,K3⟩),X1 (K4 ⟨w.heap.size,3,K3⟩) 16 16,gQ,gQ,gQ],[]⟩/\za W g0 5 (xU.map b8).toArray/\H.heap.size<=g0/\kY [I,M] (X1 (K4 ⟨E,0,K3⟩) 2 2) W/\nH H.heap.size H W) 6 #[true,false,true,true,true,true,true,false,true,true,false,false,false,false] ?_ (λaZ => ?_)
 .skip
  clear q;rintro _ bG ⟨g0,E,rfl,G,T,S,q⟩;refine zb.two 1 7 K6 ?_ ?_
  .skip
   obtain⟨aR,aG,aC,aB,aE⟩:=GD (W:=bG) (g:=g0) (n:=8) (c:=8) G;have U:qv aR aR.heap.size (K4 ⟨g0,0,K3⟩) 8 xU:=qv.cells (G.inB _ G.lt K7) aC aB;replace S:=S.cells aB;replace q:=q.trans (aE.toBelow q.size (λk e=>by rw[e];exact T));refine zb.opV (w':=aR) (X1 (K4 ⟨g0,0,K3⟩) 8 8) rfl rfl (aG _ _ rfl rfl) ⟨λ_=>Q _ q,?_⟩;clear aG aC aB aE G T;simp only[Z8];exact a2 _ _ _ _ rfl K6 ⟨g0,E,rfl,U,S,q⟩
  .skip
   refine zb.oC 114 #[.tmp 9] #[67] #[X1 (K4 ⟨E,0,K3⟩) 2 2] ((Yo S K9).mono ?_) (zb.eo func114);rintro e bI ⟨bB,rfl,aH,C⟩;obtain⟨N,O,rfl,L⟩:=aH.inB;replace G:=G.below C G.lt;replace S:=Yg _ _ _ _ S C;replace q:=q.trans (C.mono q.size);refine⟨_,rfl,λ_=>Q _ q,?_⟩;clear C aH;simp only[Z8];exact a0 _ _ _ _ rfl K6 ⟨g0,E,N,O,rfl,G,T,L,q⟩
 refine zb.two 0 6 K6 ?_ ?_
 .skip
  obtain⟨W16,F⟩:∃W,W=H.drew.alloc (Q9 (xU.map b8).toArray 5):=⟨_,rfl⟩;obtain⟨g0,X⟩:∃g,g=H.drew.heap.size:=⟨_,rfl⟩;have C:nH H.drew.heap.size H.drew W16:=by rw[F];exact(nF _ _).alloc (zG _) _
  have G:za W16 g0 5 (xU.map b8).toArray:=by rw[F,X];exact za.new _ _ _
  have T:H.heap.size<=g0:=by rw[X];exact q.size
  replace q:=q.trans (C.mono q.size);refine zb.opV (w':=W16) (X1 (K4 ⟨g0,0,K3⟩) 8 8) rfl rfl (by rw[F,X];exact GC rfl (λ_=>rfl)) ⟨λ_=>Q _ q,?_⟩;clear F X C;simp only[Z8];refine zb.two 1 6 K6 ?_ ?_
  .skip
   obtain⟨aJ,aG,aC,aB,aE⟩:=GD (W:=W16) (g:=g0) (n:=8) (c:=8) G;have U:qv aJ aJ.heap.size (K4 ⟨g0,0,K3⟩) 8 xU:=qv.cells (G.inB _ G.lt K7) aC aB;replace q:=q.trans (aE.toBelow q.size (λk e=>by rw[e];exact T));refine zb.opV (w':=aJ) (X1 (K4 ⟨g0,0,K3⟩) 8 8) rfl rfl (aG _ _ rfl rfl) ⟨λ_=>Q _ q,?_⟩;clear aG aC aB aE G T;simp only[Z8];refine zb.n 6 ?_;obtain⟨W18,F⟩:∃W,W=aJ.alloc (Q9 #[Y1 Q4 I,Y1 Q4 M] 3):=⟨_,rfl⟩;obtain⟨E,aF⟩:∃g,g=aJ.heap.size:=⟨_,rfl⟩;have C:nH aJ.heap.size aJ W18:=by rw[F];exact(nF _ _).alloc (zG _) _
   have S:kY [I,M] (X1 (K4 ⟨E,0,K3⟩) 2 2) W18:=by rw[F,aF];exact Vf _ _ _
   replace U:=(U.below C).more C.size;replace q:=q.trans (C.mono q.size);refine zb.opV (w':=W18) (X1 (K4 ⟨E,0,K3⟩) 2 2) rfl rfl (by rw[F,aF];exact RL rfl rfl rfl) ⟨λ_=>Q _ q,?_⟩;clear F aF C;simp only[Z8];exact a2 _ _ _ _ rfl K6 ⟨g0,E,rfl,U,S,q⟩
  .skip
   obtain⟨W19,F⟩:∃W,W=W16.alloc (Q9 #[Y1 Q4 I,Y1 Q4 M] 3):=⟨_,rfl⟩;obtain⟨E,aF⟩:∃g,g=W16.heap.size:=⟨_,rfl⟩;have C:nH W16.heap.size W16 W19:=by rw[F];exact(nF _ _).alloc (zG _) _
   have S:kY [I,M] (X1 (K4 ⟨E,0,K3⟩) 2 2) W19:=by rw[F,aF];exact Vf _ _ _
   replace G:=G.below C G.lt;replace q:=q.trans (C.mono q.size);refine zb.opV (w':=W19) (X1 (K4 ⟨E,0,K3⟩) 2 2) rfl rfl (by rw[F,aF];exact RL rfl rfl rfl) ⟨λ_=>Q _ q,?_⟩;clear F aF C;simp only[Z8];exact aZ _ _ _ _ rfl K6 ⟨g0,E,rfl,G,T,S,q⟩
 .skip
  obtain⟨W20,F⟩:∃W,W=H.drew.alloc (Q9 #[Y1 Q4 I,Y1 Q4 M] 3):=⟨_,rfl⟩;obtain⟨E,aF⟩:∃g,g=H.drew.heap.size:=⟨_,rfl⟩;have C:nH H.drew.heap.size H.drew W20:=by rw[F];exact(nF _ _).alloc (zG _) _
  have S:kY [I,M] (X1 (K4 ⟨E,0,K3⟩) 2 2) W20:=by rw[F,aF];exact Vf _ _ _
  replace q:=q.trans (C.mono q.size);refine zb.opV (w':=W20) (X1 (K4 ⟨E,0,K3⟩) 2 2) rfl rfl (by rw[F,aF];exact RL rfl rfl rfl) ⟨λ_=>Q _ q,?_⟩;clear F aF C;simp only[Z8];refine zb.two 0 7 K6 ?_ ?_
  .skip
   obtain⟨W21,F⟩:∃W,W=W20.alloc (Q9 (xU.map b8).toArray 5):=⟨_,rfl⟩;obtain⟨g0,X⟩:∃g,g=W20.heap.size:=⟨_,rfl⟩;have C:nH W20.heap.size W20 W21:=by rw[F];exact(nF _ _).alloc (zG _) _
   have G:za W21 g0 5 (xU.map b8).toArray:=by rw[F,X];exact za.new _ _ _
   have T:H.heap.size<=g0:=by rw[X];exact q.size
   replace S:=Yg _ _ _ _ S C;replace q:=q.trans (C.mono q.size);refine zb.opV (w':=W21) (X1 (K4 ⟨g0,0,K3⟩) 8 8) rfl rfl (by rw[F,X];exact GC rfl (λ_=>rfl)) ⟨λ_=>Q _ q,?_⟩;clear F X C;simp only[Z8];exact aZ _ _ _ _ rfl K6 ⟨g0,E,rfl,G,T,S,q⟩
  .skip
   refine zb.oC 114 #[.tmp 9] #[67] #[X1 (K4 ⟨E,0,K3⟩) 2 2] ((Yo S K9).mono ?_) (zb.eo func114);rintro e aN ⟨bB,rfl,aH,C⟩;obtain⟨N,O,rfl,L⟩:=aH.inB;replace S:=Yg _ _ _ _ S C;replace q:=q.trans (C.mono q.size);refine⟨_,rfl,λ_=>Q _ q,?_⟩;clear C aH;simp only[Z8];refine zb.two 0 10 K6 ?_ ?_
   .skip
    obtain⟨W23,F⟩:∃W,W=aN.alloc (Q9 (xU.map b8).toArray 5):=⟨_,rfl⟩;obtain⟨g0,X⟩:∃g,g=aN.heap.size:=⟨_,rfl⟩;have C:nH aN.heap.size aN W23:=by rw[F];exact(nF _ _).alloc (zG _) _
    have G:za W23 g0 5 (xU.map b8).toArray:=by rw[F,X];exact za.new _ _ _
    have T:H.heap.size<=g0:=by rw[X];exact q.size
    replace L:=(L.below C).more C.size;replace q:=q.trans (C.mono q.size);refine zb.opV (w':=W23) (X1 (K4 ⟨g0,0,K3⟩) 8 8) rfl rfl (by rw[F,X];exact GC rfl (λ_=>rfl)) ⟨λ_=>Q _ q,?_⟩;clear F X C;simp only[Z8];exact a0 _ _ _ _ rfl K6 ⟨g0,E,N,O,rfl,G,T,L,q⟩
   .skip
    refine zb.oC 114 #[.tmp 12] #[67] #[X1 (K4 ⟨w.heap.size,3,K3⟩) 16 16] ((aP _ q).mono ?_) (zb.eo func114);rintro e aO ⟨bC,rfl,aI,C⟩;obtain⟨Z,aA,rfl,aD⟩:=aI.inB;replace L:=(L.below C).more C.size;replace q:=q.trans (C.mono q.size);refine⟨_,rfl,λ_=>Q _ q,?_⟩;clear C aI;simp only[Z8];refine zb.n 0 ?_;obtain⟨W25,F⟩:∃W,W=aO.alloc (Q9 (xU.map b8).toArray 5):=⟨_,rfl⟩;obtain⟨g0,X⟩:∃g,g=aO.heap.size:=⟨_,rfl⟩;have C:nH aO.heap.size aO W25:=by rw[F];exact(nF _ _).alloc (zG _) _
    have G:za W25 g0 5 (xU.map b8).toArray:=by rw[F,X];exact za.new _ _ _
    have T:H.heap.size<=g0:=by rw[X];exact q.size
    replace L:=(L.below C).more C.size;replace aD:=(aD.below C).more C.size;replace q:=q.trans (C.mono q.size);refine zb.opV (w':=W25) (X1 (K4 ⟨g0,0,K3⟩) 8 8) rfl rfl (by rw[F,X];exact GC rfl (λ_=>rfl)) ⟨λ_=>Q _ q,?_⟩;clear F X C;simp only[Z8];exact a1 _ _ _ _ rfl K6 ⟨g0,E,N,O,Z,aA,rfl,G,T,L,aD,q⟩
theorem YX {w:World}{ops:Array nh}{rest:List nh}{o:nh}{a:Act}{Q:Exit->Act->World->Prop}(e:o.guard=none)(T:nS)(x y:nO)(g:o.op=.store T x y){t:nS}{cs cs':Y7}(q:a.eval x=Y9 w.heap.size)(A:a.eval y=Q0 cs'){n:Nat}(c:yw Y3 T n)(hn:cs.size=n)(hs:cs'.size=cs.size)(h1:∀v∈cs'.toList,v.oneCell'=true)
  (h:∀w',nH w.heap.size w w'->za w' w.heap.size t cs'->wpList Y3 ops Q rest (a.put o.dst gQ) w'):wpList Y3 ops Q (o::rest) a (w.alloc (Q9 cs t)) :=
 zt e T x y g w.heap.size q A c (za.new w t cs) hn hs h1 (h _ (zf ((nF _ w).alloc (zG _) _) (zG _) _) ((za.new w t cs).setRow cs'))
theorem YU.Ok.zero:(⟨0,0,0,λ_=>none⟩:YU).Ok 0:=⟨⟨mo _,mo _⟩,⟨mo _,mo _⟩,⟨mo _,mo _⟩⟩
section
variable {P:Nat}{fr pg rm1 rm2:Int}{G1 G2:Nat->Y4}{S1 S2:JM}{c1 c2 c1' c2':YU}{i j:Nat}
end
theorem Kg (w:World)(P:Y5)(n c:Int):nK Y3 92 #[Y9 P,Y1 Q4 n,Y1 Q4 c] w λe w'=>∃f,e=Y0 (Q0 #[f,Y1 Q4 4])/\f.oneCell'=true/\nH w.heap.size w w'/\∀p size,P=some ⟨p,0,K3⟩->w.cell? ⟨p,0,K3⟩=K4 (Y1 Q4 size)->yi w' ⟨f,4,decide (n<c\/size<=n)⟩:=by
 obtain⟨W0,g⟩:=Z9 (((w.alloc (Q9 #[Y9 P] 45)).alloc (Q9 #[Y1 Q4 n] 3)).alloc (Q9 #[Y1 Q4 c] 3));have h:nH w.heap.size w W0:=by rw[g];exact(((nF _ w).alloc (zG _) _).alloc K9 _).alloc (by simp;omega) _
 have G:W0.heap.size=w.heap.size+1+1+1:=by rw[g];simp
 have q:za W0 w.heap.size 45 #[Y9 P]:=by rw[g];exact((za.new w _ _).alloc _).alloc _
 have b1:za W0 (w.heap.size+1) 3 #[Y1 Q4 n]:=by have:=(za.new (w.alloc (Q9 #[Y9 P] 45)) 3 #[Y1 Q4 n]).alloc (Q9 #[Y1 Q4 c] 3);rw[nG] at this;rw[g];exact this
 have b2:za W0 (w.heap.size+1+1) 3 #[Y1 Q4 c]:=by have:=za.new ((w.alloc (Q9 #[Y9 P] 45)).alloc (Q9 #[Y1 Q4 n] 3)) 3 #[Y1 Q4 c];rw[nG,nG] at this;rw[g];exact this
 obtain⟨f,hf⟩:∃f:Value,f=.func (.func 154) #[] #[Y9 (w.heap.size+1:Nat),Y9 (w.heap.size+1+1:Nat),Y9 w.heap.size]:=⟨_,rfl⟩;have F:f.oneCell'=true:=by rw[hf];rfl
 have C:∀W,nH W0.heap.size W0 W->∀p size,P=some ⟨p,0,K3⟩->w.cell? ⟨p,0,K3⟩=K4 (Y1 Q4 size)->yi W ⟨f,4,decide (n<c\/size<=n)⟩:=λW N p size e hc=>by subst e;rw[hf];exact yi.later (SE 4 (Pv (p:=p) ((b1.cell 0).trans rfl) ((b2.cell 0).trans rfl) ((q.cell 0).trans rfl) ((h.cell (p:=⟨p,0,K3⟩) (Qi hc)).trans hc) b1.lt b2.lt q.lt (zO (Qi hc) h.size))) N
 have H:=nI C;have L:Hid (((w.alloc (Q9 #[Y9 P] 45)).alloc (Q9 #[Y1 Q4 n] 3)).alloc (Q9 #[Y1 Q4 c] 3)=W0):=nI g.symm;have I:=nI hf;have A:=nI G;clear C q b1 b2 g G hf
 go_enter func92,ntmps92
 go_wp2_with (rw[L.out];refine YX rfl 156 (.tmp 6) (.tmp 8) (w:=W0) rfl (cs':=#[f,Y1 Q4 4]) (by rw[A.out];rfl) (by rw[I.out];rfl) Qf rfl rfl (by simp[F];rfl) ?_;intro w4 E b4)
 have M:nH w.heap.size w w4:=h.trans (E.mono h.size);rw[A.out] at b4;refine nu (yL 6 rfl rfl Qf b4 rfl) rfl ⟨f,rfl,F,M,H.out _ E⟩
theorem MA (w:World)(P:Y5)(n:Int):nK Y3 127 #[Y9 P,Y1 Q4 n] w λe w'=>∃f,e=Y0 (Q0 #[f,Y1 Q4 2])/\f.oneCell'=true/\nH w.heap.size w w'/\∀p A len c,P=some ⟨p,0,K3⟩->w.cell? ⟨p,40,K3⟩=some (X1 A len c)->yi w' ⟨f,2,decide (n<0\/(len:Int)<=n)⟩:=by
 obtain⟨W0,g⟩:=Z9 ((w.alloc (Q9 #[Y9 P] 45)).alloc (Q9 #[Y1 Q4 n] 3));have h:nH w.heap.size w W0:=by rw[g];exact((nF _ w).alloc (zG _) _).alloc K9 _
 have H:W0.heap.size=w.heap.size+1+1:=by rw[g];simp
 have q:za W0 w.heap.size 45 #[Y9 P]:=by rw[g];exact(za.new w _ _).alloc _
 have b1:za W0 (w.heap.size+1) 3 #[Y1 Q4 n]:=by have:=za.new (w.alloc (Q9 #[Y9 P] 45)) 3 #[Y1 Q4 n];rw[nG] at this;rw[g];exact this
 obtain⟨f,hf⟩:∃f:Value,f=.func (.func 201) #[] #[Y9 (w.heap.size+1:Nat),Y9 w.heap.size]:=⟨_,rfl⟩;have G:f.oneCell'=true:=by rw[hf];rfl
 have E:∀W,nH W0.heap.size W0 W->∀p A len c,P=some ⟨p,0,K3⟩->w.cell? ⟨p,40,K3⟩=some (X1 A len c)->yi W ⟨f,2,decide (n<0\/(len:Int)<=n)⟩:=λW O p A len c e hc=>by subst e;rw[hf];exact yi.later (yi.two 2 (Ch (p:=p) ((b1.cell 0).trans rfl) ((q.cell 0).trans rfl) ((h.cell (p:=⟨p,40,K3⟩) (Qi hc)).trans hc) b1.lt q.lt (zO (Qi hc) h.size))) O
 have I:=nI E;have M:Hid ((w.alloc (Q9 #[Y9 P] 45)).alloc (Q9 #[Y1 Q4 n] 3)=W0):=nI g.symm;have L:=nI hf;have C:=nI H;clear E q b1 g H hf
 go_enter func127,ntmps127
 go_wp2_with (rw[M.out];refine YX rfl 156 (.tmp 4) (.tmp 6) (w:=W0) rfl (cs':=#[f,Y1 Q4 2]) (by rw[C.out];rfl) (by rw[L.out];rfl) Qf rfl rfl (by simp[G];rfl) ?_;intro w4 F b4)
 have N:nH w.heap.size w w4:=h.trans (F.mono h.size);rw[C.out] at b4;refine nu (yL 4 rfl rfl Qf b4 rfl) rfl ⟨f,rfl,G,N,I.out _ F⟩
section
variable {W0 W:World}{K:xB}{p:Nat}{v:yj}{st last:qj}{under:Bool}{mk:Value}
theorem qx.asked (h:qx W0 K p v st last under mk W)(u:Bool)(A:Y5)(c:Nat)(xs:List ZN)(g:yl W W.heap.size 2 A xs.length c (ya xs))(hl:xs.length<=900)(ha:∀x∈xs,yi W x):nK Y3 72 #[Y9 p,X3 u,X1 A xs.length c] W λe w'=>e=Y0 (Y1 Q4 (if under != u then 191 else VF xs))/\nH W.heap.size W w' :=
 (FF W (K4 ⟨p,0,K3⟩) false under u (ux h.oD h.pb.lt) (λ_=>⟨p,rfl,h.oB,h.pb.lt⟩) A c xs g hl (λ_=>ha)).mono λe w' h=>⟨by rw[h.1];rfl,h.2⟩
theorem AW (W:World)(n sz:Nat):yl W n sz none 0 0 []:=⟨zG _,by decide,λ_=>rfl,by simp,λv c=>absurd c K9,λh=>absurd h K9⟩
theorem qx.oI (h:qx W0 K p v st last under mk W)(u:Bool):nK Y3 72 #[Y9 p,X3 u,X1 none 0 0] W λe w'=>e=Y0 (Y1 Q4 (if under != u then 191 else 0))/\nH W.heap.size W w' :=
 h.asked u none 0 [] (AW _ _ _) K9 (λx c=>absurd c K9)
theorem FE (h:qx W0 K p v st last false mk W):nK Y3 39 #[Y9 p] W λe w'=>e=Y0 (Y1 Q4 0)/\qx W0 K p v st last true mk w'/\ze (λk=>k=p) W w':=by
 have g:=h.oI false
 go_enter func39,ntmps39
 go_wp2_with (go_at_call 72;refine g.mono ?_;rintro e E ⟨rfl,c⟩;have h1:=h.grow c;have A:=h1.oB;have C:=h1.pb.free 39)
 go_ret;obtain⟨h2,q⟩:=h1.oo (under':=true);exact⟨rfl,h2,(ze.below c).trans q⟩
theorem Te (h:qx W0 K p v st last under mk W):nK Y3 40 #[Y9 p] W λe w'=>e=Y0 (Y1 Q4 st.size)/\W=w':=by
 have c:=QI h.oD;have c0:=h.dU
 go_enter func40,ntmps40
 go_wp2_with (go_at_call 73;refine c.mono ?_;rintro e g ⟨rfl,rfl⟩)
 go_ret;exact⟨rfl,rfl⟩
end
theorem Vd (W:World)(xs:List ZN)(h1:∀v∈ya xs,v.oneCell'=true)(T:nS)(hn:xs.length<=1000):yl (W.alloc (Q9 (ya xs).toArray T)) (W.alloc (Q9 (ya xs).toArray T)).heap.size 2 (K4 ⟨W.heap.size,0,K3⟩) xs.length xs.length (ya xs) :=
 ⟨zG _,by omega,(λe=>by cases e),MD xs,h1,λ_=>⟨W.heap.size,0,rfl,by simp,λj v c=>by
  rw[qA,(za.new W T (ya xs).toArray).cell]
  simpa using c⟩⟩
theorem zz.mono {K:xB}{W W':World}{v v':yj}(h:zz K W' v v')(hs:W.heap.size<=W'.heap.size):zz K W v v':=λk c=>(h k c).elim .inl (λe => .inr K5)
structure si (K:xB)(v v':yj)(n:Int)(y:Y4)(x:Int):Prop where
 nn:v'.N=v.N+1
 ii:v'.i=v.i
 yy:v'.Y K=v.Y K
 sz:v'.S.sz=v.S.sz
 dd:(x=0/\v'.D=λj=>if j=n then some y else v.D j)\/(x=160/\Dg K.P K.room v.c.V/\v'.D=v.D)
section
variable {W0 W:World}{K:xB}{p:Nat}{v:yj}{st last:qj}{mk:Value}
theorem Yw (h:qx W0 K p v st last true mk W)(hK:K.Ok)(hN:v.N<=800000)(n:Int)(hn:1<=n/\n<st.size)(hP:n<(K.P:Int))(A:Y5)(c:Nat)(y:Y4)(hy:y.length=512)(aO:qv W W.heap.size A c y):nK Y3 83 #[Y9 p,Y1 Q4 n,X1 A 512 c] W λe w'=>∃x v',e=Y0 (Y1 Q4 x)/\qx W0 K p v' st last true mk w'/\si K v v' n y x/\zz K W v v'/\ze (K.mu v) W w':=by
 obtain⟨W1,aC,E,b1⟩:=Qp W 129 #[X1 A 512 c];have hd:decide (n<1\/st.size<=n)=false:=decide_eq_false K5;have aI:=nI aC.symm;clear aC
 go_enter func83,ntmps83
 go_wp2_with (go_at_call 92;rw[aI.out];refine(Kg W1 (K4 ⟨p,0,K3⟩) n 1).mono ?_;rintro e M ⟨f,rfl,aN,H,aB⟩)
 have h2:=(h.grow E).grow H;have b2:=b1.below H b1.lt;obtain⟨xs,q⟩:∃xs:List ZN,xs=[⟨.func (.func 135) #[] #[Y9 W.heap.size],2,false⟩,⟨f,4,false⟩]:=⟨_,rfl⟩;have aG:∀v∈ya xs,v.oneCell'=true:=λv hv=>by
  rw[q] at hv;simp only[ya,JW,zL,zN,yE,lQ,zW,zQ,qN,gu,or_false] at hv;rcases hv with rfl|rfl|rfl|rfl
  .rfl
  .rfl
  .exact aN
  .rfl
 obtain⟨Q,aA,F,-⟩:=Qp M 156 #[.func (.func 135) #[] #[Y9 W.heap.size],Y1 Q4 2,f,Y1 Q4 4];have aD:yl Q Q.heap.size 2 (K4 ⟨M.heap.size,0,K3⟩) xs.length xs.length (ya xs):=by have:=Vd M xs aG 156 (by rw[q];simp);rw[aA];subst q;exact this
 have S:=h2.grow F;have b3:=b2.below F b2.lt;have ha:∀x∈xs,yi Q x:=λx hx=>by
  rw[q] at hx;simp only[qN,gu,or_false] at hx;rcases hx with rfl|rfl
  .refine yi.one 2 ⟨zb.eo func135,λW4 aM => ?_⟩;refine(TY (bb:=W.heap.size) (len:=512) (c:=c) (A:=A) ((b3.below aM b3.lt).boxed)).mono ?_;rintro e w' ⟨rfl,rfl⟩;exact⟨rfl,nF _ _⟩
  .have:=aB p st.size rfl (h.grow E).dU;rw[hd] at this;exact yi.later this F
 have O:=S.asked true (K4 ⟨M.heap.size,0,K3⟩) xs.length xs aD (by rw[q];simp) ha;have hE:(if (true != true)=true then 191 else VF xs)=0:=by rw[q];rfl
 have aH:xs.length=2:=by rw[q];rfl
 rw[hE,aH] at O;rw[<-aA];refine O.mono ?_;rintro e w4 ⟨rfl,X⟩;have T:=S.grow X;have b4:=b3.below X b3.lt;have I:nH W.heap.size W w4:=((E.trans (H.mono E.size)).trans (F.mono (by have:=E.size;have:=H.size;omega))).trans (X.mono (by have:=E.size;have:=H.size;have:=F.size;omega));have g:w4.drew.cell? ⟨p,19,K3⟩=K4 (Y9 K.a)/\w4.drew.cell? W.heap.size=some (X1 A 512 c):=⟨T.oD,b4.boxed⟩;have aJ:=b4.lt;have aE:=((aO.below I).more I.size).drew;have U:qx W0 K p v st last true mk w4.drew:=T.grow (nF _ _).drew;clear ha aD O hE aH aB aG h2 S b2 b3 F aA q T b1 b4
 go_wp2_with fail
 refine zb.st (λW':World=>W'.cell? ⟨p,19,K3⟩=K4 (Y9 K.a)/\W'.cell? W.heap.size=some (X1 A 512 c)) 9 ?_;refine zb.q0 0 (Y9 p) g ?_;refine zb.q0 1 (Y9 p) g ?_;refine zb.q0 2 (Y9 (K4 ⟨p,19,K3⟩)) g ?_;refine zb.q0 3 (Y9 K.a) g ?_;refine zb.q0 4 (Y1 Q4 n) g ?_;refine zb.q0 5 (X1 A 512 c) g ?_;simp only[Z8];refine zb.n 6 ?_;refine zb.oC 65 #[.tmp 22,.tmp 23,.tmp 24] #[120,3,129] #[Y9 K.a,Y1 Q4 n,X1 A 512 c] ((FW U.ca hK hN n A c y hy aE).mono ?_) (zb.eo func65);rintro e w5 ⟨x,v',rfl,aK,C,e2,e3,e4,hq,aF,L⟩;have h5:=U.pS L aK;have hG:ze (K.mu v) W w5:=(ze.below (I.trans ((nF _ _).drew.mono I.size))).trans L
 have hF:si K v v' n y x:=⟨C,e2,e3,e4,hq.elim (λh => .inl ⟨h.1,h.2.2⟩) (λh => .inr (by
  rcases h.1 with h1|h1
  .omega
  .exact⟨h1.1,h1.2,h.2⟩))⟩
 have aL:zz K W v v':=aF.mono I.size;have Z:w5.cell? ⟨p,19,K3⟩=K4 (Y9 K.a)/\w5.cell? W.heap.size=some (X1 A 512 c):=⟨h5.oD,L.cell g.2 (by show W.heap.size<w4.heap.size;exact aJ) (λhm=>by have:=h.ca.oE _ hm;simp at this)⟩;refine⟨_,rfl,λ_=>Z,?_⟩;simp only[Z8];refine zb.n 7 (zb.opV (w':=w5) (Y1 Q4 x) rfl rfl K8 ⟨λ_=>Z,zb.dn ?_⟩);simp only[Z8];clear Z g aE U hq L aF;go_wp2;go_ret;exact⟨x,v',rfl,h5,hF,aL,hG⟩
end
def kQ (f:Int):Y4:=Kh (xE [f])
theorem Kn (f:Int):(kQ f).length=512:=vK (by have:=kO [f];simp at this;omega)
theorem OU {f:Int}(h:0<=f/\f<4294967296):((xH ((kQ f).take 4):Nat):Int)=f:=by
 have e:(kQ f).take 4=Hi f:=by
  unfold kQ Kh;have g:(Hi f).length=4:=yZ _ _;have c:xE [f]=Hi f:=by simp[xE]
  rw[c,mG K5,qE K5]
 rw[e];exact Iy h
theorem Nt (W:World)(a:Int):kY [a] (X1 W.heap.size 1 1) (W.alloc (Q9 #[Y1 Q4 a] 3)):=⟨W.heap.size,rfl,λj c=>by
 rw[(za.new W 3 #[Y1 Q4 a]).cell]
 match j,c with
 | 0,_=>rfl
 | j+1,c=>exact absurd c K9⟩
section
variable {W0 W:World}{K:xB}{p:Nat}{v v':yj}{st last:qj}{under:Bool}{mk:Value}
theorem KE {W':World}(h:ze (K.mu v) W W'):ze (qi K p v) W W':=h.more λ_ c _ => .inr c
theorem Mx {W':World}(h:ze (λk=>k=p) W W'):ze (qi K p v) W W':=h.more λ_ c _ => .inl c
theorem Tn (h:qx W0 K p v st last true mk W)(hK:K.Ok)(hN:v.N<=800000)(n:Int)(hn:1<=n/\n<st.size)(hP:n<(K.P:Int))(hm:0<=st.many/\st.many<=1000):nK Y3 144 #[Y9 p,Y1 Q4 n] W λe w'=>∃x v',e=Y0 (Y1 Q4 x)/\qx W0 K p v' (if x=0 then {st with first:=n,many:=st.many+1} else st) last true mk w'/\si K v v' n (kQ st.first) x/\zz K W v v'/\ze (qi K p v) W w':=by
 have I:=QI h.oD;have c1:=h.de;have aB:(xE [st.first]).length<=512:=by have:=kO [st.first];simp at this;omega
 have hW:IntKind.i64.wrap (st.many+1)=st.many+1:=zg _
 go_enter func144,ntmps144
 go_wp2_with (first
  |(go_at_call 73;refine I.mono ?_;rintro e w1 ⟨rfl,rfl⟩)
  |(go_at_call 114;refine(Yo (Nt W st.first) K9).mono ?_;rintro e w2 ⟨v2,rfl,own2,O⟩;obtain⟨H,c2,rfl,C⟩:=own2.inB)
  | (revert C;intro C;go_at_call 113;refine(UR (ls:=[xE [st.first]]) (xy.new (w:=w2) [((H,c2),xE [st.first])] (by intro x g;simp only[qN,gu,or_false] at g;subst g;exact C)) K9 (by simpa using aB)).mono ?_;rintro e w3 ⟨v3,rfl,aD,Q⟩;obtain⟨A3,c3,rfl,aA⟩:=aD.inB))
 have E:nH W.heap.size W (W.alloc (Q9 #[Y1 Q4 st.first] 3)):=(nF _ W).alloc (zG _) _;have F:nH W.heap.size W w2:=E.trans (O.mono E.size);have A:nH W.heap.size W w3:=F.trans (((nF _ w2).alloc (zG _) (Q9 #[X1 H (xE [st.first]).length c2] 129)).trans (Q.mono K9) |>.mono F.size);have L:=h.grow A;have aC:(Kh (xE [st.first])).length=512:=Kn st.first;rw[aC];refine(Yw L hK hN n hn hP A3 c3 (kQ st.first) (Kn _) (by simpa[kQ] using aA)).mono ?_;rintro e w4 ⟨x,v',rfl,c,hF,X,S⟩;have Z:=X.mono A.size;have G:ze (qi K p v) W w4:=(ze.below A).trans (KE S);clear aA C own2 aD O Q E F A L aC I c1 h S X aB
 by_cases g:x=0
 .subst g;have c2':=c.mac;have c1':=c.de;have f1:=c.pb.free 1;obtain⟨q,T⟩:=c.oe n;have aE:=q.mac;have f2:=q.pb.free 2;obtain⟨M,U⟩:=q.setMany (st.many+1);have H6:=nI M;have HG:=nI (G.trans ((Mx T).trans (Mx U)));clear c q M T U G;go_wp2;go_ret;exact⟨0,v',rfl,(by rw[if_pos rfl];exact H6.out),hF,Z,HG.out⟩
 .clear hm hW hn;go_wp2;go_ret;exact⟨x,v',rfl,(by rw[if_neg g];exact c),hF,Z,G⟩
end
end
end Go.Proofs.YtohmkffoojdahaaGreat
