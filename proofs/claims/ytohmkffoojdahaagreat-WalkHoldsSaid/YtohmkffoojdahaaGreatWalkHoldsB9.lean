/- Texts that the proof of WalkHolds leans on, part 9. -/
import Derived.Test.YtohmkffoojdahaaGreatWalkHoldsB8
open List renaming replicate->zP
open Nat renaming reduceAdd->yJ,reduceSub->yK
set_option linter.unusedVariables false
set_option linter.unusedSimpArgs false
set_option maxRecDepth 100000
set_option maxHeartbeats 8000000

open Go renaming Calls->pr,Addr->px,TypeId->oD,MapEntry->oJ,maxLen->oo,undef->ou,CallsIn->dw
open Go.Act renaming put->pj
open Go.Builtin renaming zeroCells->gK
open Go.Fence renaming wide->oS
open Go.MapKept renaming Stamped->oH
open Go.RowKit renaming Below->ph
open List renaming range->dv,set_append_right->mO
open Go.Proofs.Tryz renaming prog->Y3
open Go.Proofs.Tryz
namespace Go.Proofs.YtohmkffoojdahaaGreat
section
open Go Go.RowKit vA
section
variable {w:World}{a f r P:Nat}{room now hh mm:Int}{V:qo}
theorem PV (h:yW w a f r P room now hh mm V)(hP:P<=1000)(hn:0<=now/\now<=1000000)(j:2<=room){c:Int}{v:jH}(g:V c=some v):pr Y3 111 #[.pointer (some ⟨a,0,none⟩),.int .i64 c] w λe w'=>e=Y0 (.tuple #[.pointer (some ⟨v.b,0,none⟩),.int .i64 0])/\yW w' a f r P room (now+1) hh mm (xS V c (some {v with at_:=now+1}))/\ze (xJ a r V) w w':=by
 refine(KG w a f r P room now hh mm V h hP hn j c (h.rows c v g).key (λe=>by rw[g] at e;cases e)).mono ?_;rintro e w' ⟨⟨v',h1,rfl,h2⟩|⟨h1,_⟩,i⟩
 ·rw[g] at h1;injection h1 with h1
  subst h1;exact⟨rfl,h2,i⟩
 ·rw[g] at h1;cases h1
def ED (V:qo)(page:Int)(b:Nat)(sz:Nat):Prop:=(∃v,V page=some v/\b=v.b)∨(V page=none/\sz<=b)
theorem ED.mu {c:Int}{b sz:Nat}(h:ED V c b sz):xJ a r V b∨sz<=b:=by
 rcases h with⟨v,h1,h2⟩|⟨_,h3⟩
 ·exact .inl (.inr (.inr ⟨c,v,h1,h2⟩))
 ·exact .inr h3
end
theorem Kp.rR {Mu:Nat->Prop}{W W':World}{A:Y5}{c:Nat}{l:Y4}(q:Kp W A)(E:qq W W.heap.size A c l)(h:64<l.length)(i:ze Mu W W')(j:∀k,Mu k->XI W k):Kp W' A:=λg o e=>by
 obtain⟨cs,C⟩:=q g o e;exact⟨cs,i.blk C (λF=>XI.rD E h e (j g F))⟩
theorem OB (w:World)(a f r P:Nat)(room now hh mm:Int)(V:qo)(h:yW w a f r P room now hh mm V)(hP:P<=1000)(hn:0<=now/\now<=1000000)(T:2<=room)(aA:0<=hh/\hh<=1000000)(g:Int)(v:jH)(H:V g=some v):pr Y3 68 #[.pointer (some ⟨a,0,none⟩),.int .i64 g] w λe w'=>∃A c,e=Y0 (.tuple #[.slice A v.y.length c,.int .i64 0])/\qq w' w'.heap.size A c v.y/\Kp w' A/\yW w' a f r P room (now+1) (hh+1) mm (xS V g (some {v with at_:=now+1}))/\ze (xJ a r V) w w':=by
 have M:=jr h.cb;have k3:w.cell? ⟨a,3,none⟩=some (.map (some r)):=(h.cb.cell _).trans rfl;have j:=OR (w:=w) (a:=⟨a,4,none⟩) (x:=hh) ((h.cb.cell _).trans rfl) (h.cb.free 4) rfl (by omega);obtain⟨h1,G⟩:=h.sP 4 (.int .i64 (hh+1)) (now':=now) (hh':=hh+1) (mm':=mm) rfl (Int.le_refl _);have q:=PV h1 hP hn T H;obtain⟨es,X,S,O,aB⟩:=h.mp;have hl:=Yx H;obtain⟨C,E⟩:=Z9 (w.setCell ⟨a,4,none⟩ (.int .i64 (hh+1)));rw[<-E] at j h1 G q;clear E
 go_enter func68,ntmps68
 go_wp2_with (first
  | (go_at_call 109;refine M.mono ?_;rintro e w' ⟨rfl,rfl⟩)
  | (refine zr rfl (wW O S hl rfl rfl rfl) ?_)
  | (go_at_call 118;refine j.mono ?_;rintro e w' ⟨rfl,rfl⟩)
  | (go_at_call 111;refine q.mono ?_;rintro e I ⟨rfl,h2,N⟩
     have i:=h2.rows g _ (Qh V g _);have k2:I.cell? ⟨v.b,1,none⟩=some (.slice v.A v.y.length v.c):=(i.blk.cell _).trans rfl
     have L:=Xe I v.A v.c v.y i.rV i.short)
  | (go_at_call 112;refine L.mono ?_;rintro e w3 ⟨A,c,rfl,Q,Z,U,F⟩))
 exact bodyPost_ret (results_tmp2 rfl _ _ _) rfl ⟨A,c,rfl,Q,U,h2.below F,((G.more (λk e _ => .inl e)).trans N).trans (ze.below F)⟩
theorem Dl (w:World)(a f l r P:Nat)(fr pg room now hh mm:Int)(V:qo)(h:yW w a f r P room now hh mm V)(hf:za w f 119 (VM l fr pg))(hP:P<=1000)(aK:(P:Int)=pg)(hn:0<=now/\now<=1000000)(aH:2<=room)(g:Int)(aG:0<=g/\g<pg)(A:Y5)(c:Nat)(y:Y4)(F:y.length=512)(aE:qq w w.heap.size A c y)(aD:V g=none->((xL (jT V) P).length:Int)<room):pr Y3 65 #[.pointer (some ⟨a,0,none⟩),.int .i64 g,.slice A 512 c] w λe w'=>∃b H c',ED V g b w.heap.size/\e=Y0 (.int .i64 0)/\yW w' a f r P room (now+1) hh mm (xS V g (some ⟨b,now+1,H,c',y,true⟩))/\Kp w' H/\ze (xJ a r V) w w':=by
 have Z:=jr h.cb;have HP:=YX hf;have k0:w.cell? ⟨a,0,none⟩=some (.pointer (some ⟨f,0,none⟩)):=(h.cb.cell _).trans rfl;have hq:=VH fr pg;have HT:∀W,ph w.heap.size w W->pr Y3 111 #[.pointer (some ⟨a,0,none⟩),.int .i64 g] W λe w'=>∃v1,ED V g v1.b w.heap.size/\v1.at_=now+1/\e=Y0 (.tuple #[.pointer (some ⟨v1.b,0,none⟩),.int .i64 0])/\yW w' a f r P room (now+1) hh mm (xS V g (some v1))/\ze (xJ a r V) W w':=λW hB=>by
  refine(KG W a f r P room now hh mm V (h.below hB) hP hn aH g ⟨aG.1,by omega⟩ aD).mono ?_;rintro e w' ⟨⟨v,C,rfl,h2⟩|⟨C,b,i,rfl,j⟩,N⟩
  ·exact⟨{v with at_:=now+1},.inl ⟨v,C,rfl⟩,rfl,rfl,h2,N⟩
  ·exact⟨⟨b,now+1,none,0,[],false⟩,.inr ⟨C,zT hB.size i⟩,rfl,rfl,j,N⟩
 go_enter func65,ntmps65
 go_wp2_with fail
 refine wp_scope_straight ?_
 go_wp2_with (first
  | (go_at_call 109;refine Z.mono ?_;rintro e w' ⟨rfl,rfl⟩)
  | (go_at_call 110;refine HP.mono ?_;rintro e w1 ⟨rfl,L⟩))
 refine(HT w1 L).mono ?_;rintro e G ⟨v1,T,aC,rfl,h2,aA⟩;have O:=(ze.below (Mu:=xJ a r V) L).trans aA;have aF:qq G G.heap.size A c y:=JQ.rF aE (.inl F) O h.ca;have I:=Xe G A c y aF (by omega);rw[F] at I;have E:=Qh V g (some v1)
 go_wp2_with (first
  | (go_at_call 112;refine I.mono ?_;rintro e U ⟨X,c3,rfl,S,aL,aI,M⟩
     have i:=h2.below M;have q:=i.rows g _ E;have k1:U.cell? ⟨v1.b,1,none⟩=some (.slice v1.A v1.y.length v1.c):=(q.blk.cell _).trans rfl;have k2:=q.blk.free 1;have k3:U.cell? ⟨v1.b,2,none⟩=some (.bool v1.d):=(q.blk.cell _).trans rfl;have k4:=q.blk.free 2
     obtain⟨j,Q⟩:=i.fill E F S))
 go_step3
 go_wp2;simp only[Exit.noGoto];go_ret;rw[Ky,aC] at j;have aJ:=aI.rR S (by omega) Q (λk e=>by subst e;exact i.ca _ (.inr (.inr ⟨g,_,E,rfl⟩)));refine⟨v1.b,X,c3,T,rfl,j,aJ,?_⟩;have aB:=(O.more (Nu:=λk=>xJ a r V k∨w.heap.size<=k) (λk e _ => .inl e)).trans ((ze.below M).trans (Q.more (λk e _=>by rw[e];exact T.mu)));exact aB.more (λk e hk=>by rcases e with e|e;exact e;omega)
end
section
open Go Go.RowKit vA Go.Shelf
attribute [local go_sem] Oper.semAt_some
section
variable {w W W':World}{a f r P:Nat}{room now hh mm:Int}{V:qo}
theorem yW.sO (h:yW W a f r P room now hh mm V){D:Nat}{q:Option (List Deferred)}(g:W.heap[D]?=some (.deferred q)):¬ xJ a r V D:=by
 have hc:∀{T:oD} {cs:Y7} {k:Nat},za W k T cs->D≠k:=λA e=>by subst e;have i:W.heap[D]?=some (.cells _ _ (0,0)):=A;rw[g] at i;cases i
 rintro(e|e|⟨j,v,F,e⟩)
 ·exact hc h.cb e
 ·obtain⟨es,c,C,_⟩:=h.mp;have E:W.heap[r]?=some (.map es c):=C;rw[e,E] at g;cases g
 ·exact hc (h.rows j v F).blk e
theorem yW.pC (h:yW W a f r P room now hh mm V){D:Nat}{i:Option (List Deferred)}(c:W.heap[D]?=some (.deferred i))(o:Obj):yW (W.putObj D o) a f r P room now hh mm V/\ze (λk=>k=D) W (W.putObj D o):=by
 have g:ze (λk=>k=D) W (W.putObj D o):=ze.grown (grownBy_putObj' W D o) (λr e=>by injection e with e;exact .inl e.symm);exact⟨h.rE g (λk e=>by subst e;exact .inr (.inr ⟨_,c⟩)) (λk e=>by subst e;exact h.sO c),g⟩
structure Bt (W:World)(d l:Nat):Prop where
 dk:∃cs,za W d 114 cs/\cs.size<=64/\∀n,cs[0]? ≠ some (.int .u64 n)
 lg:∃cs,za W l 171 cs/\cs.size<=64/\∀n,cs[0]? ≠ some (.int .u64 n)
theorem Bt.grow {d l:Nat}(h:Bt W d l)(hB:ph W.heap.size W W'):Bt W' d l:=by
 obtain⟨⟨c1,c,h1⟩,⟨c2,e,h2⟩⟩:=h;exact⟨⟨c1,c.below hB c.lt,h1⟩,⟨c2,e.below hB e.lt,h2⟩⟩
theorem yW.sq {d l:Nat}(h:yW W a f r P room now hh mm V)(hd:Bt W d l)(i:ze (λk=>k=d∨k=l) W W'):yW W' a f r P room now hh mm V:=by
 obtain⟨⟨c1,e,h1⟩,⟨c2,g,h2⟩⟩:=hd;exact h.rE i (λk c=>by rcases c with rfl|rfl;exact .inr (.inl ⟨_,_,e,h1⟩);exact .inr (.inl ⟨_,_,g,h2⟩)) (λk c=>by rcases c with rfl|rfl;exact h.rI e (by decide) (by decide);exact h.rI g (by decide) (by decide))
theorem Bt.ne {d l k:Nat}{T:oD}{cs:Y7}(h:Bt W d l)(c:za W k T cs)(h1:T≠114)(h2:T≠171):¬ (k=d∨k=l):=by
 obtain⟨⟨c1,g,_⟩,⟨c2,i,_⟩⟩:=h;rintro(e|e)
 ·exact zo c g h1 e
 ·exact zo c i h2 e
theorem Bt.pJ {d l D:Nat}(h:Bt W d l){A:Option (List Deferred)}(i:W.heap[D]?=some (.deferred A)):¬ (D=d∨D=l):=by
 obtain⟨⟨c1,j,_⟩,⟨c2,q,_⟩⟩:=h;have c:W.heap[d]?=some (.cells _ _ (0,0)):=j;have g:W.heap[l]?=some (.cells _ _ (0,0)):=q;rintro(e|e)<;>subst e
 ·rw[i] at c;cases c
 ·rw[i] at g;cases g
theorem LU (n:Nat)(hn:10<=n)(h:yW w a f r P room now hh mm V){d l:Nat}(b1:Bt w d l)(b2:∀k v,V k=some v->v.y.length=512)(cA:P<=1000)(y0:Y4)(cE:y0.length=512)(bF:QN (xY V) P=[(0,y0)])(z:Int)
  (HF:∀W' A k xs,ph w.heap.size w W'->Vc W' w.heap.size A 1 xs (tB [(0,y0)])->pr Y3 117 #[.pointer (some ⟨f,0,none⟩),.int .i64 z,.slice A 1 k] W' λe w'=>e=Y0 (.int .i64 0)/\ze (λk=>k=d∨k=l) W' w') :
  dw oS n Y3 67 #[.pointer (some ⟨a,0,none⟩),.int .i64 z] w λe w'=>e=Y0 (.int .i64 0)/\yW w' a f r P room now hh mm (kP V)/\ze (λk=>xJ a r V k∨(k=d∨k=l)) w w':=by
 have h1:1<=n:=by omega
 obtain⟨W2,aN,aJ,b0⟩:=YK w 197 #[.slice none 0 0];have s2:W2.heap.size=w.heap.size+1:=by rw[aN];simp
 have h2:=h.below aJ;have HN:=jr h.cb;have HD:=Kj W2 a f r P room now hh mm V h2;have a0:∀k y,vu V k=some y->0<=k/\k<(P:Int):=λk y hy=>by
  unfold vu at hy;cases i:V k with
  | none=>rw[i] at hy;cases hy
  | some v=>exact(h.rows k v i).key
 have aM:=Ow h2 b2;have aZ:=aM.keys a0;have aV:=pk aN.symm;clear aN;refine du func67 rfl trivial ?_ rfl;simp only[ntmps67,zR,zL,zY,yJ,yK,qG,qH,qS,qL,zQ,zX]
 gi_wp2_with (first
  | (refine⟨trivial,?_⟩;gi_at_call 109;refine(callsIn_wide.2 HN).mono ?_;rintro e w' ⟨rfl,rfl⟩)
  | (refine⟨trivial,?_⟩;gi_at_call 115;rw[aV.out];refine(callsIn_wide.2 HD).mono ?_;rintro e W4 ⟨q,s4,eo,co,rfl,hq,bE,a9,bH,aE,cD,cC⟩))
 have a4:=aM.grow aE;have b4:=b0.below aE b0.lt;have bJ:ph w.heap.size w W4:=aJ.trans (aE.mono aJ.size);have cF:=aE.size;clear HN HD h2 aM aV b0;refine vz rfl h1 (gf:=186) (lb:=#[.pointer (some ⟨q,0,none⟩)]) rfl trivial (zb.eo func186)
  (Hi (n-1) (by omega) q s4 P co eo (xg V) (vu V) W4 hq bE a9 bH a4 aZ (by omega)) (pf _ _) (λ_=>rfl) (λk=>k=w.heap.size)
  ⟨λe=>by omega,λe=>by omega,λk e=>by subst e;exact .inr ⟨_,_,b4,by show 1<=64;decide⟩⟩
  (λI U X=>Zl w W4.heap.size (vu V) I U X) (λ_ _ _ _=>False) (Zl.st _ _ _) (λ_ _ _ _ _ _ h _ _=>h) (λs U X hs=>hs.rZ) ?ownR
  ⟨⟨none,0,b4,World.ownsRow_nil _ _ _ _,λk=>⟨λe => .inl e,λe=>e.elim id (λe=>by cases e)⟩⟩,(λx hx=>by cases hx),bJ,by omega,zG _⟩ ?act ?assign ?body ?done ?stop
 case ownR =>
  rintro I x _ X Y row ⟨C,e2,y,e3,e4,e5,e6⟩ bD hr;exact⟨C,e2,y,e3,e4,qq.rL (B:=W4.heap.size) _ _ _ () X Y row e5 bD hr,Kp.rL (B:=W4.heap.size) _ () X Y row e6 bD hr⟩
 case assign =>
  intro l1 x V K hK;simp only[Sh]
  gi_wp2
  exact hK
 case body =>
  rintro l1 I ⟨M,F,G⟩ U X H ⟨C,_,y,e3,e4,e5,e6⟩;have cB:I.length<=1000:=by have h3:=(qQ.1 C).1;have h4:=Zv (xg V) P;omega
  obtain⟨S,T,hb,own,hU⟩:=H.has;have k1:=hb.boxed;have aF:ph X.heap.size X (X.alloc (.cells #[.int .i64 (M:Int),.slice F 512 G] 200)):=(pf _ X).alloc (zG _) _;have bL:=qw own aF;have b7:yp (X.alloc (.cells #[.int .i64 (M:Int),.slice F 512 G] 200)) (X.alloc (.cells #[.int .i64 (M:Int),.slice F 512 G] 200)).heap.size 2 (some ⟨X.heap.size,0,none⟩) 1 1 (SX (PA (M,F,G))) :=
   ⟨zG _,by omega,(λe=>by cases e),rfl,(by intro v i;simp[SX,PA] at i;rcases i with rfl|rfl<;>rfl),λ_=>⟨X.heap.size,0,rfl,by simp,λj v hj=>by
    rw[(za.new X 200 #[.int .i64 (M:Int),.slice F 512 G]).cell,qC]
    simpa[SX,PA] using hj⟩⟩
  have bW:=H.b4;have bX:W4.heap.size<=(X.alloc (.cells #[.int .i64 (M:Int),.slice F 512 G] 200)).heap.size:=by have:=aF.size;omega
  have b6:=zh bL;have bV:=λ(v5:Value) (w5:World) o5 g5 bQ=>H.next (x:=(M,F,G)) hb own hU ⟨y,e3,e4,e5,e6⟩ aF (v5:=v5) (w5:=w5) o5 g5 bQ
  have bP:=hb.below aF hb.lt;clear C e3 e4 e5 e6
  gi_wp2_with (gi_at_builtin;refine PE rfl ti (.tmp 19) (.tmp 23) rfl W4.heap.size (.slice S I.length T) I.length (JC (I.map PA)) rfl bL _ _ 1 1 (SX (PA (M,F,G))) rfl b7 (by omega) (by unfold oo;omega) (by omega) bX ?_;intro v5 w5 bK bA b8;obtain⟨A5,k5,rfl,_⟩:=qn bK (λv i=>(qA.1 i).elim (Ga _ v) (AP _ v));have b5:=bP.grown bA (λe=>by have:=b6 _ e.symm;omega);have c5:=b5.boxed;have f5:=b5.free 0)
  exact bV _ _ bK bA b8
 case done =>
  rintro D ys U X hD a5 H hK;obtain⟨L,hL⟩:=Z9 (QN (xY V) P);have a3:ys.map (·.1)=L.map (·.1):=by rw[a5,hL,UI]
  have a2:∀x∈L,vu V (x.1:Int)=some x.2:=λx hx=>by rw[hL] at hx;exact ZD.1 (Hh.1 hx).2
  obtain⟨S,T,Z,HA⟩:=H.args L a3 a2;have bU:L.length=1:=by rw[hL,bF];rfl
  rw[hL.trans bF] at HA;rw[bU] at Z;have aA:=H.up;have hV:=h.below aA;have a8:=b1.grow aA;have bR:=(zK.1 hK).1;have bW:=H.b4;have aU:=HF X.drew S T _ (aA.trans ((pf _ _).drew.mono aA.size)) (HA.grow (pf _ _).drew |> λq=>⟨λg o e=>by have:=q.ge g o e;omega,q.row,q.rV,q.tys⟩);clear a5 H a3 a2 hL a4 aZ a0 hq bE a9 bH b4 bJ HA;have k1:=Z.boxed;have Q:=Z.boxed;have O:X.drew.cell? ⟨a,0,none⟩=some (.pointer (some ⟨f,0,none⟩)):=(hV.cb.cell 0).trans rfl;have aX:=hV.below (pf _ _).drew;have aG:=a8.grow (pf _ _).drew;have aI:=Z.below (pf _ _).drew Z.lt
  gi_wp2_with fail
  refine wpIn_wide.2 ?_;refine wp_region_noPanic ?_;refine zb.st (λW:World=>W.cell? ⟨a,0,none⟩=some (.pointer (some ⟨f,0,none⟩))/\W.cell? ⟨w.heap.size,0,none⟩=some (.slice S 1 T)) 99 ?_;refine zb.t0 0 (.pointer (some ⟨a,0,none⟩)) rfl ⟨O,Q⟩ (λW ⟨e0,C⟩=>by go_simp) ?_;refine zb.t0 1 (.pointer (some ⟨a,0,none⟩)) rfl ⟨O,Q⟩ (λW ⟨e0,C⟩=>by go_simp) ?_;refine zb.t0 2 (.pointer (some ⟨a,0,none⟩)) rfl ⟨O,Q⟩ (λW ⟨e0,C⟩=>by go_simp) ?_;refine zb.t0 3 (.pointer (some ⟨f,0,none⟩)) rfl ⟨O,Q⟩ (λW ⟨e0,C⟩=>by go_simp) ?_;refine zb.t0 4 (.int .i64 z) rfl ⟨O,Q⟩ (λW ⟨e0,C⟩=>by go_simp) ?_;refine zb.t0 5 (.slice S 1 T) rfl ⟨O,Q⟩ (λW ⟨e0,C⟩=>by go_simp) ?_;simp only[Z8];refine zb.n 6 ?_;refine zb.oC 117 #[.tmp 50,.tmp 51,.tmp 52] #[79,3,197] #[.pointer (some ⟨f,0,none⟩),.int .i64 z,.slice S 1 T] (aU.mono ?_) (zb.eo func117);rintro e w9 ⟨rfl,aB⟩;have N:=aX.sq aG aB;have aW:=aB.blk aI (aG.ne aI (by decide) (by decide));have aT:=aW.boxed;have aS:w9.cell? ⟨a,0,none⟩=some (.pointer (some ⟨f,0,none⟩)):=(N.cb.cell 0).trans rfl;have aL:X.drew.heap[D]?=some (.deferred (some [])):=hK;have aK:=(aB.block D bR (aG.pJ aL)).trans aL;have bT:ze (λk=>xJ a r V k∨(k=d∨k=l)) w w9:=(ze.below (aA.trans ((pf _ X).drew.mono aA.size))).trans (aB.more (λk e _ => .inr e));clear aX aI Q aU aG aL aB aW O a8 hV Z k1;refine⟨_,rfl,λ_=>⟨aS,aT⟩,?_⟩;simp only[Z8];refine zb.n 7 (zb.opV (w':=w9) (.int .i64 0) rfl rfl (by go_simp) ⟨λ_=>⟨aS,aT⟩,zb.dn ?_⟩);simp only[Z8];simp only[NoPanic];have bS:=(zK.1 aK).1;obtain⟨es,clock,aP,he,bI⟩:=N.mp;have cG:w9.cell? ⟨a,3,none⟩=some (.map (some r)):=(N.cb.cell 3).trans rfl;have bY:∀x∈es.toList,x.born<clock:=((MapKept.stamped_iff es clock).1 bI).1;have aR:=aP.lt;obtain⟨W10,aC⟩:=Z9 (w9.alloc (.mapIter (some r) clock #[] clock));have aD:ph w9.heap.size w9 W10:=by rw[aC];exact(pf _ _).alloc (zG _) _
  have bO:Yd w9 w9.heap.size r clock es a f P room now hh mm V #[] (λ_=>false) W10:=⟨⟨clock,by rw[aC];exact nO w9 _,zG _⟩,vx.start es,by rw[Dn];exact N.below aD,aP.below aD aR,ze.below aD,by rw[aC];simp⟩;have bN:=pk aC.symm;clear aC aD aS aT
  gi_wp2_with (refine Yr rfl (OX aP underlying178 rfl rfl) ?_;rw[bN.out])
  simp only[pj,zA,zF,zE]
  gi_loopw [61] (λ_ wr=>∃aH pd,Yd w9 w9.heap.size r clock es a f P room now hh mm V aH pd wr) (λ_ wr=>wr.rangeLeft r w9.heap.size)
  case atStart=>exact⟨_,_,bO⟩
  case round =>
   obtain⟨aH,pd,E⟩:=hrel;rcases we 0 E.it E.mp he bI bY (zG _) aR E.sz E.sn with⟨hall,hrun⟩|⟨k,xv,b,w4,hk,hpk,hrun,hit4,hB4',hdec,hent,hsn4⟩
   ·have a7:=Th hall;have a6:=E.ca;rw[a7] at a6;have bB:=E.gb;have a1:wr.heap[D]?=some (.deferred (some [])):=(bB.block D bS (N.sO aK)).trans aK;clear a7 hall
    gi_wp2_with (refine Yr rfl (GA hrun rfl) ?_)
    refine⟨by simp,.inl ⟨D,_,rfl,dt a1,?_⟩⟩;obtain⟨t1,t2⟩:=a6.pC a1 (.deferred none);have b3:=((bT.more (Nu:=λk=>(xJ a r V k∨(k=d∨k=l))∨w.heap.size<=k) (λk e _ => .inl e)).trans (bB.more (λk e _ => .inl (.inl e)))).trans (t2.more (λk e _ => .inr (by omega)));exact⟨_,results_tmp rfl _ _ _,rfl,t1,b3.more (λk e hk=>e.elim id (λe=>by omega))⟩
   ·obtain⟨v,i,rfl⟩:=KM hk;have b9:=(N.rows k v i).blk.lt;obtain⟨aO,bC⟩:=E.iter N hB4';obtain⟨aY,bG⟩:=E.next i hpk b9 aR hit4 hB4' (.inr trivial) hsn4 aO bC;have aQ:=aO.rows k v (UL i hpk);have k24:w4.cell? ⟨v.b,2,none⟩=some (.bool v.d):=(aQ.blk.cell 2).trans rfl;have f24:=aQ.blk.free 2;have bZ:(w4.setCell ⟨v.b,2,none⟩ (.bool false)).rangeLeft r w9.heap.size<wr.rangeLeft r w9.heap.size:=by rw[bG];exact hdec
    have bM:Hid (∃aH pd,Yd w9 w9.heap.size r clock es a f P room now hh mm V aH pd (w4.setCell ⟨v.b,2,none⟩ (.bool false))):=pk ⟨_,_,aY⟩;clear aO bC aY bG aQ E
    gi_wp2_with (first
     | (refine Yr rfl (GA hrun rfl) ?_)
     | (refine Yr rfl (Md hent rfl) ?_))
    go_roundw
    case rel=>exact bM.out
    case measure=>exact bZ
 case stop =>
  rintro D c I U V _ _ h _;exact h.elim
end
end
section
open Go Go.RowKit vA
structure FM (w:World)(l d many:Nat)(fr pg:Int)(sr ep:Nat)(sz:Int):Prop where
 dk:∃g,yR w d many g [] 0 false
 lg:za w l 171 (Xj (some ⟨d,0,none⟩) fr pg sr ep sz none 0 0)
section
variable {w w':World}{l d many:Nat}{fr pg:Int}{sr ep:Nat}{sz:Int}
theorem FM.grow (h:FM w l d many fr pg sr ep sz)(hB:ph w.heap.size w w'):FM w' l d many fr pg sr ep sz:=by
 obtain⟨⟨g,h1⟩,h2⟩:=h;exact⟨⟨g,h1.grow hB⟩,h2.below hB h2.lt⟩
theorem FM.dl (h:FM w l d many fr pg sr ep sz):Bt w d l:=by
 obtain⟨⟨g,h1⟩,h2⟩:=h;obtain⟨r,A,n,c,i⟩:=FT h1;exact⟨⟨_,i,by show 5<=64;decide,λn e=>by cases e⟩,⟨_,h2,by show 7<=64;decide,λn e=>by cases e⟩⟩
theorem FM.ne (h:FM w l d many fr pg sr ep sz):l≠d:=by
 obtain⟨⟨g,h1⟩,h2⟩:=h;obtain⟨r,A,n,c,e⟩:=FT h1;exact zo h2 e (by decide)
theorem Cm {f B:Nat}(Q:za w f 119 (VM l fr pg))(O:FM w l d many fr pg sr ep sz)(F:Y5)(c:Nat)(xs:Nat->Int×Y5×Nat)(y:Y4)(M:Vc w B F 1 xs (tB [(0,y)]))(z:Int)(hz:0<=z/\z<=pg)(aK:xB fr pg=true)(aJ:0<pg)(aM:vf sz 1=true)(aH:11<=many)(aI:many<=1000000)(aL:sr+1<18446744073709551616):pr Y3 117 #[.pointer (some ⟨f,0,none⟩),.int .i64 z,.slice F 1 c] w λe w'=>e=Y0 (.int .i64 0)/\ze (λk=>k=d∨k=l) w w':=by
 obtain⟨W3,C⟩:=Z9 (((w.alloc (.cells #[.pointer (some ⟨f,0,none⟩)] 79)).alloc (.cells #[.int .i64 z] 3)).alloc (.cells #[.slice F 1 c] 197));have N:ph w.heap.size w W3:=by rw[C];exact(((pf _ w).alloc (zG _) _).alloc (by simp) _).alloc (by simp;omega) _
 have G:za W3 w.heap.size 79 #[.pointer (some ⟨f,0,none⟩)]:=by rw[C];exact((za.new w _ _).alloc _).alloc _
 have I:za W3 (w.heap.size+1) 3 #[.int .i64 z]:=by have:=za.new (w.alloc (.cells #[.pointer (some ⟨f,0,none⟩)] 79)) 3 #[.int .i64 z];rw[pq] at this;rw[C];exact this.alloc _
 have L:za W3 (w.heap.size+1+1) 197 #[.slice F 1 c]:=by have:=za.new ((w.alloc (.cells #[.pointer (some ⟨f,0,none⟩)] 79)).alloc (.cells #[.int .i64 z] 3)) 197 #[.slice F 1 c];rw[pq,pq] at this;rw[C];exact this
 have H:=Q.below N Q.lt;have c0:W3.cell? ⟨w.heap.size,0,none⟩=some (.pointer (some ⟨f,0,none⟩)):=G.boxed;have U:=YY H;have aA:ph W3.heap.size W3 W3.drew:=(pf _ _).drew;have E:ph w.heap.size w W3.drew:=N.trans (aA.mono N.size);obtain⟨g,o,rfl,hx,aG⟩:=M.row (zG 1);obtain⟨e0,e1,e2⟩:=M.rV 0 (by decide);have S:=hx 0 (by decide);rw[Nat.zero_mul,Nat.add_zero,<-e0] at S;obtain⟨⟨gd,hD⟩,aC⟩:=O.grow E;have T:=OK W3.drew l d many gd [] 0 fr pg sr ep sz hD (by decide) (by decide) (by decide) aC O.ne g o c (0:Int) (xs 0).2.1 (xs 0).2.2 y (by have:=E.size;omega) (λj v hj=>(E.cell (p:=⟨g,o+j,none⟩) aG).trans (S j v hj)) ((e2.below E).more E.size) e1 aK (by decide) aJ z hz.1 hz.2 aM aH aI aL;have X:∀W,ph W3.heap.size W3 W->W.cell? ⟨w.heap.size,0,none⟩=some (.pointer (some ⟨f,0,none⟩)):=λW i=>(G.below i G.lt).boxed
 have Z:∀W,ph W3.heap.size W3 W->W.cell? ⟨w.heap.size+1,0,none⟩=some (.int .i64 z):=λW i=>(I.below i I.lt).boxed
 have T2:∀W,ph W3.heap.size W3 W->W.cell? ⟨w.heap.size+1+1,0,none⟩=some (.slice (some ⟨g,o,none⟩) 1 c):=λW i=>(L.below i L.lt).boxed
 have TF:∀W,ph W3.heap.size W3 W->W.cell? ⟨f,0,none⟩=some (.pointer (some ⟨l,0,none⟩)):=λW i=>by rw[(H.below i H.lt).cell];rfl
 go_enter func117,ntmps117
 rw[C] at c0;have aD:=pk C;clear C
 go_wp2_with (go_at_call 107;rw[<-aD.out];refine U.mono ?_;rintro e w' ⟨rfl,rfl⟩)
 have A:ph W3.heap.size W3 W3.drew:=aA;refine jY.start (λW=>ph W3.heap.size W3 W) [6,7] (by kernel_rfl) ?_;refine jY.k1 0 (.pointer (some ⟨f,0,none⟩)) rfl A (zb.yld rfl (λW i=>by have q:=X W i;go_simp)) ?_;simp only[zD,zB,pj,zA,zF,zE];refine jY.k1 1 (.pointer (some ⟨f,0,none⟩)) rfl A (zb.yld rfl (λW i=>by go_simp)) ?_;simp only[Z8];refine jY.k1 2 (.pointer (some ⟨f,0,none⟩)) rfl A (zb.yld rfl (λW i=>by go_simp)) ?_;simp only[Z8];refine jY.k1 3 (.pointer (some ⟨l,0,none⟩)) rfl A (zb.yld rfl (λW i=>by have q:=TF W i;go_simp)) ?_;simp only[Z8];refine jY.k1 4 (.int .i64 z) rfl A (zb.yld rfl (λW i=>by have q:=Z W i;go_simp)) ?_;simp only[Z8];refine jY.k1 5 (.slice (some ⟨g,o,none⟩) 1 c) rfl A (zb.yld rfl (λW i=>by have q:=T2 W i;go_simp)) ?_;simp only[Z8];refine jY.one 6 (by kernel_rfl) ?_;refine zb.oC 190 #[.tmp 13,.tmp 14,.tmp 15] #[115,3,197] #[.pointer (some ⟨l,0,none⟩),.int .i64 z,.slice (some ⟨g,o,none⟩) 1 c] (T.mono ?_) (zb.eo func190);rintro e w4 ⟨rfl,_,_,aB⟩;refine⟨_,rfl,λh=>(by cases h),?_⟩;simp only[Z8];refine jY.one 7 (by kernel_rfl) (zb.opV (w':=w4) (.int .i64 0) rfl rfl (by go_simp) ⟨λh=>(by cases h),jY.done (by kernel_rfl) ?_⟩);simp only[Z8];have aF:ze (λk=>k=d∨k=l) w w4:=(ze.below E).trans aB;clear Q O M H G I L T U c0 hx S hD aC e2 X Z T2 TF aB A
 go_wp2_with fail
 go_quiet (fail)
 go_wp2;go_ret;have aE:ph w4.heap.size w4 (w4.drewN nq):=⟨rfl,rfl,rfl,zG _,λ_ _=>rfl⟩;exact⟨rfl,aF.trans (ze.below aE)⟩
end
def Kf (R:kR)(p:Int):Option Y4:=match R p with|some (b,true)=>some b|_=>none
theorem jq {R:kR}{p:Int}{b:Y4}:Kf R p=some b↔R p=some (b,true):=by
 unfold Kf;cases h:R p with
 | none=>simp
 | some x =>
  obtain⟨y,d⟩:=x;cases d<;>simp
theorem BK (R:kR)(p:Int)(y:Y4):Kf (XR R p (y,true))=λj=>if j=p then some y else Kf R j:=by
 funext j
 unfold Kf XR
 by_cases e:j=p<;>simp[e]
theorem NG {R:kR}(h:∀p b,¬ R p=some (b,true)):Kf R=λ_=>none:=by
 funext p
 cases e:Kf R p with
 | none=>rfl
 | some b=>exact absurd (jq.1 e) (h p b)
theorem PL (Y:Nat->Y4)(R:kR)(p:Nat):Fp Y R p=(Kf R (p:Int)).getD (Y p):=by
 unfold Fp Kf;split<;>simp_all
structure xH where
 d:Nat
 f:Nat
 l:Nat
 a:Nat
 r:Nat
 many:Nat
 P:Nat
 fr:Int
 pg:Int
 room:Int
structure SzL where
 sz:Int
structure yz where
 G:Nat->Y4
 S:SzL
 c:YM
 i:Nat
 N:Nat
structure xH.Ok (K:xH):Prop where
 hP:(K.P:Int)=K.pg
 P2:K.P<=900
 rm:2<=K.room/\K.room<=2000
 rp:(K.P:Int)<=K.room
def yz.Y (_:xH)(v:yz):Nat->Y4:=v.G
def yz.R (v:yz):kR:=xY v.c.V
def yz.view (K:xH)(v:yz)(p:Nat):Y4:=Fp (v.Y K) v.R p
def yz.D (v:yz):Int->Option Y4:=Kf v.R
theorem ju (K:xH)(v:yz)(p:Nat):v.view K p=(v.D (p:Int)).getD (v.Y K p):=PL _ _ _
def xH.mu (K:xH)(v:yz)(k:Nat):Prop:=xJ K.a K.r v.c.V k
structure FhL (W0:World)(f l:Nat)(fr pg:Int)(W:World):Prop where
 up:ph W0.heap.size W0 W
 fb:za W f 119 (VM l fr pg)
structure EG (W0:World)(K:xH)(c:YM)(W:World):Prop where
 fh:FhL W0 K.f K.l K.fr K.pg W
 ca:yW W K.a K.f K.r K.P K.room c.now c.hh c.mm c.V
 nb:∀k,xJ K.a K.r c.V k->W0.heap.size<=k
 ty:∀k u,c.V k=some u->u.y.length=512->Kp W u.A
structure ve (W0:World)(K:xH)(v:yz)(W:World):Prop where
 cs:EG W0 K v.c W
 ok:v.c.Ok v.N
 ro:jN K.P (v.Y K) v.R
 cn:(Xt K.P v.c.V:Int)<=K.room
def qa (K:xH)(W:World)(v v':yz):Prop:=∀k,K.mu v' k->K.mu v k∨W.heap.size<=k
theorem MX {P:Nat}{V:qo}{k:Int}(g:0<=k/\k<(P:Int))(e:V k=none):Xt P V+1<=P:=by
 have:=Qj (l:=k.toNat::xL (jT V) P) (m:=dv P) (List.nodup_cons.2 ⟨(λh=>by
  rw[ka,show ((k.toNat:Nat):Int)=k by omega,e] at h
  exact absurd h.2 (by simp)),YU _ _⟩) (λx c=>by
  rw[qM,ka] at c;rw[List.mem_range];rcases c with rfl|c
  ·omega
  ·exact c.1)
 simpa[Xt] using this
section
variable {W0 W W':World}{K:xH}{v v':yz}
theorem EG.grow {c:YM}(h:EG W0 K c W)(hB:ph W.heap.size W W'):EG W0 K c W':=⟨⟨h.fh.up.trans (hB.mono h.fh.up.size),h.fh.fb.below hB h.fh.fb.lt⟩,h.ca.below hB,h.nb,λk u hu hl=>(h.ty k u hu hl).grow hB⟩
theorem EG.nf {c:YM}(h:EG W0 K c W):¬ xJ K.a K.r c.V K.f:=h.ca.rI h.fh.fb (by decide) (by decide)
theorem EG.rH {c c':YM}(h:EG W0 K c W)(g:ze (xJ K.a K.r c.V) W W')(i:yW W' K.a K.f K.r K.P K.room c'.now c'.hh c'.mm c'.V)(j:∀k,xJ K.a K.r c'.V k->xJ K.a K.r c.V k∨W.heap.size<=k)(q:∀k u,c'.V k=some u->u.y.length=512->Kp W' u.A):EG W0 K c' W' :=
 ⟨⟨h.fh.up.trans (g.toBelow h.fh.up.size h.nb),g.blk h.fh.fb h.nf⟩,i,λk C=>(j k C).elim (h.nb k) (λe=>zT h.fh.up.size e),q⟩
theorem EG.tyK {Mu:Nat->Prop}{c:YM}(h:EG W0 K c W)(e:ze Mu W W')(g:∀k,Mu k->XI W k):∀k u,c.V k=some u->u.y.length=512->Kp W' u.A:=λk u hu hl=>(h.ty k u hu hl).rR (h.ca.rows k u hu).rV (by omega) e g
theorem EG.tyU {Mu:Nat->Prop}{c:YM}(h:EG W0 K c W)(e:ze Mu W W')(g:∀k,Mu k->XI W k){j:Int}{x:jH}(i:x.y.length=512->Kp W' x.A):∀k u,xS c.V j (some x) k=some u->u.y.length=512->Kp W' u.A:=λk u hu hl=>by
 unfold xS at hu;split at hu
 ·injection hu with hu
  subst hu;exact i hl
 ·exact h.tyK e g k u hu hl
theorem ve.grow (h:ve W0 K v W)(hB:ph W.heap.size W W'):ve W0 K v W':=⟨EG.grow h.cs hB,h.ok,h.ro,h.cn⟩
theorem ve.rE {Mu:Nat->Prop}(h:ve W0 K v W)(g:ze Mu W W')(i:∀k,Mu k->QS W k)(j:∀k,Mu k->W0.heap.size<=k)(hn:∀k,Mu k->¬ K.mu v k/\k≠K.f):ve W0 K v W' :=
 ⟨⟨⟨h.cs.fh.up.trans (g.toBelow h.cs.fh.up.size j),g.blk h.cs.fh.fb (λe=>(hn _ e).2 rfl)⟩,h.cs.ca.rE g (λk c=>(i k c).ca) (λk c=>(hn k c).1),h.cs.nb,h.cs.tyK g (λk c=>(i k c).ca)⟩,h.ok,h.ro,h.cn⟩
theorem td (h:ve W0 K v W)(e:v.N<=900000):v.c.Ok 900000:=h.ok.more e
theorem wg (h:ve W0 K v W)(F:K.Ok)(X:v.N<=800000)(g:Int)(y:Y4)(T:v.D g=some y):pr Y3 68 #[.pointer (some ⟨K.a,0,none⟩),.int .i64 g] W λe w'=>∃v',tQ (.inr y) e w'/\y.length=512/\(0<=g/\g<(K.P:Int))/\ve W0 K v' w'/\v'.N=v.N+1/\v'.i=v.i/\v'.Y K=v.Y K/\v'.S.sz=v.S.sz/\v'.D=v.D/\qa K W v v'/\ze (K.mu v) W w':=by
 have Z:=F.P2;have E:=h.ok;have q:=jq.1 T;obtain⟨u,hu,rfl,aE⟩:∃u,v.c.V g=some u/\u.y=y/\u.d=true:=by
  unfold yz.R xY at q;cases I:v.c.V g with
  | none=>rw[I] at q;cases q
  | some u =>
   rw[I,Option.map_some] at q;injection q with q
   injection q with h1 h2
   exact⟨u,rfl,h1,h2⟩
 have U:=(h.ro g u.y u.d (vo hu)).2.1;have O:=(h.ro g u.y u.d (vo hu)).1;have aD:=E.now;have aC:=E.hh;refine(OB W K.a K.f K.r K.P K.room v.c.now v.c.hh v.c.mm v.c.V h.cs.ca (by omega) ⟨by omega,by omega⟩ F.rm.1 ⟨by omega,by omega⟩ g u hu).mono ?_;rintro e w' ⟨A,c,rfl,M,Q,L,C⟩;have hs:xY (xS v.c.V g (some {u with at_:=v.c.now+1}))=xY v.c.V:=by
  rw[VB]
  funext j
  unfold XR;split
  ·next e=>rw[e];exact(vo hu).symm
  ·rfl
 have aA:=MW (P:=K.P) (v:={u with at_:=v.c.now+1}) hu;have aB:=h.cn;have H:∀k,xJ K.a K.r (xS v.c.V g (some {u with at_:=v.c.now+1})) k->xJ K.a K.r v.c.V k∨W.heap.size<=k:=Hp (λk u h=>h) rfl (.inl ⟨u,hu,rfl⟩);refine⟨⟨v.G,v.S,⟨v.c.now+1,v.c.hh+1,v.c.mm,xS v.c.V g (some {u with at_:=v.c.now+1})⟩,v.i,v.N+1⟩,⟨A,c,rfl,M,Q⟩,U,O,⟨h.cs.rH (c':=⟨v.c.now+1,v.c.hh+1,v.c.mm,xS v.c.V g (some {u with at_:=v.c.now+1})⟩) C L H (h.cs.tyU C h.cs.ca.ca (λhl=>(h.cs.ty g u hu hl).rR (h.cs.ca.rows g u hu).rV (by omega) C h.cs.ca.ca)),⟨⟨by show 0<=v.c.now+1;omega,by show v.c.now+1<=((v.N+1:Nat):Int);omega⟩,⟨by show 0<=v.c.hh+1;omega,by show v.c.hh+1<=((v.N+1:Nat):Int);omega⟩,⟨E.mm.1,by have:=E.mm.2;show v.c.mm<=((v.N+1:Nat):Int);omega⟩⟩,?_,by show (Xt K.P (xS v.c.V g (some {u with at_:=v.c.now+1})):Int)<=K.room;omega⟩,rfl,rfl,rfl,rfl,?_,H,C⟩
 ·show jN K.P v.G (xY (xS v.c.V g (some {u with at_:=v.c.now+1})))
  rw[hs];exact h.ro
 ·show Kf (xY (xS v.c.V g (some {u with at_:=v.c.now+1})))=Kf (xY v.c.V)
  rw[hs]
theorem Rb (h:ve W0 K v W)(E:K.Ok)(hN:v.N<=800000)(g:Int)(A:Y5)(k:Nat)(y:Y4)(L:y.length=512)(Q:qq W W.heap.size A k y):pr Y3 65 #[.pointer (some ⟨K.a,0,none⟩),.int .i64 g,.slice A 512 k] W λe w'=>∃x v',e=Y0 (.int .i64 x)/\ve W0 K v' w'/\v'.N=v.N+1/\v'.i=v.i/\v'.Y K=v.Y K/\v'.S.sz=v.S.sz/\((x=0/\(0<=g/\g<(K.P:Int))/\v'.D=λj=>if j=g then some y else v.D j)∨((x=4/\(g<0∨(K.P:Int)<=g)∨x=160/\DD K.P K.room v.c.V)/\v'.D=v.D))/\qa K W v v'/\ze (K.mu v) W w':=by
 have aA:=E.P2;have hP:=E.hP;have aC:=E.rp;have C:=h.ok;have aB:=C.now
 by_cases U:g<0∨K.pg<=g
 ·refine(Rv W K.a K.f K.l K.r K.fr K.pg K.room v.c.now v.c.hh v.c.mm h.cs.ca.cb h.cs.fh.fb g A k U).mono ?_;rintro e w' ⟨rfl,hB⟩;exact⟨4,⟨v.G,v.S,v.c,v.i,v.N+1⟩,rfl,⟨h.cs.grow hB,C.more (Nat.le_succ _),h.ro,h.cn⟩,rfl,rfl,rfl,rfl,.inr ⟨.inl ⟨rfl,by omega⟩,rfl⟩,λk T => .inl T,ze.below hB⟩
 ·refine(Dl W K.a K.f K.l K.r K.P K.fr K.pg K.room v.c.now v.c.hh v.c.mm v.c.V h.cs.ca h.cs.fh.fb (by omega) hP ⟨by omega,by omega⟩ E.rm.1 g (by omega) A k y L Q (λe=>by have:=MX (P:=K.P) (k:=g) ⟨by omega,by omega⟩ e;show (Xt K.P v.c.V:Int)<K.room;omega)).mono ?_;rintro e w' ⟨b,q,c1,I,rfl,M,X,F⟩;have H:∀k,xJ K.a K.r (xS v.c.V g (some ⟨b,v.c.now+1,q,c1,y,true⟩)) k->xJ K.a K.r v.c.V k∨W.heap.size<=k:=by
   rcases I with⟨u,hu,hb⟩|⟨_,hb⟩
   ·exact Hp (λk u h=>h) rfl (.inl ⟨u,hu,hb⟩)
   ·exact Hp (λk u h=>h) rfl (.inr hb)
  have O:(Xt K.P (xS v.c.V g (some ⟨b,v.c.now+1,q,c1,y,true⟩)):Int)<=K.room:=by
   have Z:=h.cn;rcases I with⟨u,hu,_⟩|⟨hu,_⟩
   ·have:=MW (P:=K.P) (v:=⟨b,v.c.now+1,q,c1,y,true⟩) hu;omega
   ·have h1:=MX (P:=K.P) (k:=g) ⟨by omega,by omega⟩ hu;have h2:=BR K.P v.c.V g ⟨b,v.c.now+1,q,c1,y,true⟩;omega
  refine⟨0,⟨v.G,v.S,⟨v.c.now+1,v.c.hh,v.c.mm,xS v.c.V g (some ⟨b,v.c.now+1,q,c1,y,true⟩)⟩,v.i,v.N+1⟩,rfl,⟨h.cs.rH (c':=⟨v.c.now+1,v.c.hh,v.c.mm,xS v.c.V g (some ⟨b,v.c.now+1,q,c1,y,true⟩)⟩) F M H (h.cs.tyU F h.cs.ca.ca (λ_=>X)),⟨⟨by show 0<=v.c.now+1;omega,by show v.c.now+1<=((v.N+1:Nat):Int);omega⟩,⟨C.hh.1,by have:=C.hh.2;show v.c.hh<=((v.N+1:Nat):Int);omega⟩,⟨C.mm.1,by have:=C.mm.2;show v.c.mm<=((v.N+1:Nat):Int);omega⟩⟩,?_,O⟩,rfl,rfl,rfl,rfl,.inl ⟨rfl,by omega,?_⟩,H,F⟩
  ·show jN K.P v.G (xY (xS v.c.V g (some ⟨b,v.c.now+1,q,c1,y,true⟩)))
   rw[VB];exact jN.put h.ro (by omega) L (λe=>by cases e)
  ·show Kf (xY (xS v.c.V g (some ⟨b,v.c.now+1,q,c1,y,true⟩)))=_
   rw[VB];exact BK _ _ _
end
section
variable {ρ:Operand->Value}{w:World}{o:Oper}{x y z m:Operand}
theorem uG {g p n c a:Nat}(G:o.op=.slice 129 x (some y) (some z) (some m))(h1:ρ x=.slice (some ⟨g,p,none⟩) n c)(h2:ρ y=.int .i64 (a:Int))(q:ρ z=.int .i64 ((a:Int)+4))(C:ρ m=.int .i64 ((a:Int)+4))(H:a+4<=n)(hn:n<=c):(execOp ρ o).run Y3 w=.ok (.value (.slice (some ⟨g,p+a,none⟩) 4 4)) w:=by
 have ht:Y3.underlying 129=some (.slice (Y3.elem 129)):=by kernel_rfl
 have j:(⟨g,p,none⟩:px).add a=⟨g,p+a,none⟩:=by cases a<;>simp[Addr.add]
 have A:ρ z=.int .i64 ((a+4:Nat):Int):=by rw[q];simp
 have E:ρ m=.int .i64 ((a+4:Nat):Int):=by rw[C];simp
 generalize I:a+4=b at *;have e:a<=b:=by omega
 have h:b-a=4:=by omega
 have L:b<=c:=by omega
 have F:(b:Int)<=(c:Int):=by omega
 have i:¬ b=a:=by omega
 simp[execOp,G,h1,h2,A,E,go_sem,run_sliceAt_slice _ _ _ _ _ _ ht,Result.andThen,e,F,h,i,j]
end
theorem DW (w:World)(A:Y5)(c a:Nat)(y:Y4)(h:qq w w.heap.size A c y)(N:y.length=512)(ha:a+4<=512):pr Y3 69 #[.slice A 512 c,.int .i64 (a:Int)] w λe w'=>e=Y0 (.int .i64 (xI ((y.drop a).take 4):Int))/\ph w.heap.size w w':=by
 obtain⟨g,o,rfl,C,hc⟩:=h.rC (by omega);have G:=h.le;have i:qq w w.heap.size (some ⟨g,o+a,none⟩) 4 ((y.drop a).take 4):=by
  have hl:((y.drop a).take 4).length=4:=by simp;omega
  refine⟨by omega,by omega,(λe=>by cases e),λ_=>⟨g,o+a,rfl,C,λj F => ?_⟩⟩;have:=hc (a+j) (by omega);rw[dq,this];simp
 have E:((y.drop a).take 4).length=4:=by simp;omega
 have H:=Qw w _ _ _ i;rw[E] at H;unfold VO at H;rw[if_neg (by omega)] at H;have q:((y.drop a).take 4).take 4=(y.drop a).take 4:=by rw[db];simp
 rw[q] at H;have I:xI ((y.drop a).take 4)<4294967296:=Qv _;generalize xI ((y.drop a).take 4)=R at *;have L:IntKind.i64.wrap ((a:Int)+4)=(a:Int)+4:=zg _;have M:IntKind.i64.wrap (R:Int)=(R:Int):=zg _;clear i h hc
 go_enter func69,ntmps69
 go_wp2_with (first
  | (refine zr rfl (uG (a:=a) rfl rfl rfl rfl rfl (by omega) (by omega)) ?_)
  | (go_at_call 120;refine H.mono ?_;rintro e w' ⟨rfl,hB⟩))
 go_ret;exact⟨rfl,hB⟩
theorem Dd {w:World}{j q p:Nat}{b u:Bool}(A:w.cell? ⟨j,0,none⟩=some (.pointer (some ⟨p,0,none⟩)))(h1:w.cell? ⟨q,0,none⟩=some (.bool u))(h2:w.cell? ⟨p,39,none⟩=some (.bool b)):pr Y3 123 #[.pointer (some ⟨j,0,none⟩),.pointer (some ⟨q,0,none⟩)] w λe w'=>e=Y0 (.bool (b != u))/\ph w.heap.size w w':=by
 have c:w.drew.cell? ⟨j,0,none⟩=some (.pointer (some ⟨p,0,none⟩))/\w.drew.cell? ⟨q,0,none⟩=some (.bool u)/\w.drew.cell? ⟨p,39,none⟩=some (.bool b):=⟨A,h1,h2⟩
 go_enter func123,ntmps123
 go_wp2_with fail
 refine zb.st (λW:World=>W.cell? ⟨j,0,none⟩=some (.pointer (some ⟨p,0,none⟩))/\W.cell? ⟨q,0,none⟩=some (.bool u)/\W.cell? ⟨p,39,none⟩=some (.bool b)) 99 ?_;refine zb.q0 0 (.pointer (some ⟨p,0,none⟩)) c ?_;refine zb.q0 1 (.pointer (some ⟨p,0,none⟩)) c ?_;refine zb.q0 2 (.pointer (some ⟨p,39,none⟩)) c ?_;refine zb.q0 3 (.bool b) c ?_;refine zb.q0 4 (.bool u) c ?_;refine zb.t0 5 (.bool (b != u)) rfl c (λW ⟨g,h,i⟩=>by go_simp;cases b<;>cases u<;>rfl) ?_;simp only[Z8];refine zb.n 6 (zb.opV (w':=w.drew) (.bool (b != u)) rfl rfl (by go_simp) ⟨λ_=>c,zb.dn ?_⟩);simp only[Z8];clear c;go_wp2;go_ret;exact⟨rfl,(pf _ _).drew⟩
theorem DU {w:World}{E C F p:Nat}{n A size:Int}(G:w.cell? ⟨E,0,none⟩=some (.int .i64 n))(h1:w.cell? ⟨C,0,none⟩=some (.int .i64 A))(h2:w.cell? ⟨F,0,none⟩=some (.pointer (some ⟨p,0,none⟩)))(H:w.cell? ⟨p,0,none⟩=some (.int .i64 size)):pr Y3 154 #[.pointer (some ⟨E,0,none⟩),.pointer (some ⟨C,0,none⟩),.pointer (some ⟨F,0,none⟩)] w λe w'=>e=Y0 (.bool (decide (n<A∨size<=n)))/\ph w.heap.size w w':=by
 have c:w.drew.cell? ⟨E,0,none⟩=some (.int .i64 n)/\w.drew.cell? ⟨C,0,none⟩=some (.int .i64 A)/\w.drew.cell? ⟨F,0,none⟩=some (.pointer (some ⟨p,0,none⟩))/\w.drew.cell? ⟨p,0,none⟩=some (.int .i64 size):=⟨G,h1,h2,H⟩
 by_cases hl:n<A
 ·have hd:decide (n<A∨size<=n)=true:=by simp[hl]
  rw[hd]
  go_enter func154,ntmps154
  go_wp2_with fail
  refine zb.st (λW:World=>W.cell? ⟨E,0,none⟩=some (.int .i64 n)/\W.cell? ⟨C,0,none⟩=some (.int .i64 A)/\W.cell? ⟨F,0,none⟩=some (.pointer (some ⟨p,0,none⟩))/\W.cell? ⟨p,0,none⟩=some (.int .i64 size)) 99 ?_;refine zb.q0 0 (.int .i64 n) c ?_;refine zb.q0 1 (.int .i64 A) c ?_;refine zb.q0 2 (.bool true) c ?_;refine zb.q0 3 (.bool true) c ?_;simp only[Z8];refine zb.k0 4 ou rfl c (.inr ⟨by rfl,rfl⟩) ?_;simp only[Z8];refine zb.k0 5 ou rfl c (.inr ⟨by rfl,rfl⟩) ?_;simp only[Z8];refine zb.k0 6 ou rfl c (.inr ⟨by rfl,rfl⟩) ?_;simp only[Z8];refine zb.k0 7 ou rfl c (.inr ⟨by rfl,rfl⟩) ?_;simp only[Z8];refine zb.k0 8 ou rfl c (.inr ⟨by rfl,rfl⟩) ?_;simp only[Z8];refine zb.k0 9 ou rfl c (.inr ⟨by rfl,rfl⟩) ?_;simp only[Z8];refine zb.k0 10 ou rfl c (.inr ⟨by rfl,rfl⟩) ?_;refine zb.q0 11 (.bool true) c ?_;simp only[Z8];refine zb.n 12 (zb.opV (w':=w.drew) (.bool true) rfl rfl (by go_simp) ⟨λ_=>c,zb.dn ?_⟩);simp only[Z8];clear c;go_wp2;go_ret;exact⟨rfl,(pf _ _).drew⟩
 ·have hd:decide (n<A∨size<=n)=decide (size<=n):=by simp[hl]
  rw[hd]
  go_enter func154,ntmps154
  go_wp2_with fail
  refine zb.st (λW:World=>W.cell? ⟨E,0,none⟩=some (.int .i64 n)/\W.cell? ⟨C,0,none⟩=some (.int .i64 A)/\W.cell? ⟨F,0,none⟩=some (.pointer (some ⟨p,0,none⟩))/\W.cell? ⟨p,0,none⟩=some (.int .i64 size)) 99 ?_;refine zb.q0 0 (.int .i64 n) c ?_;refine zb.q0 1 (.int .i64 A) c ?_;refine zb.q0 2 (.bool false) c ?_;refine zb.q0 3 (.bool false) c ?_;simp only[Z8];refine zb.k0 4 (.int .i64 n) rfl c (zb.yldG (by rfl) (λW q=>by obtain⟨g,h,i,j⟩:=q;go_simp)) ?_;simp only[Z8];refine zb.k0 5 (.pointer (some ⟨p,0,none⟩)) rfl c (zb.yldG (by rfl) (λW q=>by obtain⟨g,h,i,j⟩:=q;go_simp)) ?_;simp only[Z8];refine zb.k0 6 (.pointer (some ⟨p,0,none⟩)) rfl c (zb.yldG (by rfl) (λW q=>by obtain⟨g,h,i,j⟩:=q;go_simp)) ?_;simp only[Z8];refine zb.k0 7 (.pointer (some ⟨p,0,none⟩)) rfl c (zb.yldG (by rfl) (λW q=>by obtain⟨g,h,i,j⟩:=q;go_simp)) ?_;simp only[Z8];refine zb.k0 8 (.pointer (some ⟨p,0,none⟩)) rfl c (zb.yldG (by rfl) (λW q=>by obtain⟨g,h,i,j⟩:=q;go_simp)) ?_;simp only[Z8];refine zb.k0 9 (.int .i64 size) rfl c (zb.yldG (by rfl) (λW q=>by obtain⟨g,h,i,j⟩:=q;go_simp)) ?_;simp only[Z8];refine zb.k0 10 (.bool (decide (size<=n))) rfl c (zb.yldG (by rfl) (λW q=>by obtain⟨g,h,i,j⟩:=q;go_simp)) ?_;refine zb.q0 11 (.bool (decide (size<=n))) c ?_;simp only[Z8];refine zb.n 12 (zb.opV (w':=w.drew) (.bool (decide (size<=n))) rfl rfl (by go_simp) ⟨λ_=>c,zb.dn ?_⟩);simp only[Z8];clear c;go_wp2;go_ret;exact⟨rfl,(pf _ _).drew⟩
theorem Ge {w:World}{E F p len c:Nat}{A:Y5}{n:Int}(G:w.cell? ⟨E,0,none⟩=some (.int .i64 n))(h1:w.cell? ⟨F,0,none⟩=some (.pointer (some ⟨p,0,none⟩)))(h2:w.cell? ⟨p,40,none⟩=some (.slice A len c)):pr Y3 201 #[.pointer (some ⟨E,0,none⟩),.pointer (some ⟨F,0,none⟩)] w λe w'=>e=Y0 (.bool (decide (n<0∨(len:Int)<=n)))/\ph w.heap.size w w':=by
 have g:w.drew.cell? ⟨E,0,none⟩=some (.int .i64 n)/\w.drew.cell? ⟨F,0,none⟩=some (.pointer (some ⟨p,0,none⟩))/\w.drew.cell? ⟨p,40,none⟩=some (.slice A len c):=⟨G,h1,h2⟩
 by_cases hl:n<0
 ·have hd:decide (n<0∨(len:Int)<=n)=true:=by simp[hl]
  rw[hd]
  go_enter func201,ntmps201
  go_wp2_with fail
  refine zb.st (λW:World=>W.cell? ⟨E,0,none⟩=some (.int .i64 n)/\W.cell? ⟨F,0,none⟩=some (.pointer (some ⟨p,0,none⟩))/\W.cell? ⟨p,40,none⟩=some (.slice A len c)) 99 ?_;refine zb.q0 0 (.int .i64 n) g ?_;refine zb.q0 1 (.bool true) g ?_;refine zb.q0 2 (.bool true) g ?_;simp only[Z8];refine zb.k0 3 ou rfl g (.inr ⟨by rfl,rfl⟩) ?_;simp only[Z8];refine zb.k0 4 ou rfl g (.inr ⟨by rfl,rfl⟩) ?_;simp only[Z8];refine zb.k0 5 ou rfl g (.inr ⟨by rfl,rfl⟩) ?_;simp only[Z8];refine zb.k0 6 ou rfl g (.inr ⟨by rfl,rfl⟩) ?_;simp only[Z8];refine zb.k0 7 ou rfl g (.inr ⟨by rfl,rfl⟩) ?_;simp only[Z8];refine zb.k0 8 ou rfl g (.inr ⟨by rfl,rfl⟩) ?_;simp only[Z8];refine zb.k0 9 ou rfl g (.inr ⟨by rfl,rfl⟩) ?_;refine zb.q0 10 (.bool true) g ?_;simp only[Z8];refine zb.n 11 (zb.opV (w':=w.drew) (.bool true) rfl rfl (by go_simp) ⟨λ_=>g,zb.dn ?_⟩);simp only[Z8];clear g;go_wp2;go_ret;exact⟨rfl,(pf _ _).drew⟩
 ·have hd:decide (n<0∨(len:Int)<=n)=decide ((len:Int)<=n):=by simp[hl]
  rw[hd]
  go_enter func201,ntmps201
  go_wp2_with fail
  refine zb.st (λW:World=>W.cell? ⟨E,0,none⟩=some (.int .i64 n)/\W.cell? ⟨F,0,none⟩=some (.pointer (some ⟨p,0,none⟩))/\W.cell? ⟨p,40,none⟩=some (.slice A len c)) 99 ?_;refine zb.q0 0 (.int .i64 n) g ?_;refine zb.q0 1 (.bool false) g ?_;refine zb.q0 2 (.bool false) g ?_;simp only[Z8];refine zb.k0 3 (.int .i64 n) rfl g (zb.yldG (by rfl) (λW C=>by obtain⟨i,j,q⟩:=C;go_simp)) ?_;simp only[Z8];refine zb.k0 4 (.pointer (some ⟨p,0,none⟩)) rfl g (zb.yldG (by rfl) (λW C=>by obtain⟨i,j,q⟩:=C;go_simp)) ?_;simp only[Z8];refine zb.k0 5 (.pointer (some ⟨p,0,none⟩)) rfl g (zb.yldG (by rfl) (λW C=>by obtain⟨i,j,q⟩:=C;go_simp)) ?_;simp only[Z8];refine zb.k0 6 (.pointer (some ⟨p,40,none⟩)) rfl g (zb.yldG (by rfl) (λW C=>by obtain⟨i,j,q⟩:=C;go_simp)) ?_;simp only[Z8];refine zb.k0 7 (.slice A len c) rfl g (zb.yldG (by rfl) (λW C=>by obtain⟨i,j,q⟩:=C;go_simp)) ?_;simp only[Z8];refine zb.k0 8 (.int .i64 (len:Int)) rfl g (zb.yldG (by rfl) (λW C=>by obtain⟨i,j,q⟩:=C;go_simp)) ?_;simp only[Z8];refine zb.take0 9 (.bool (decide ((len:Int)<=n))) rfl (by kernel_rfl) (by kernel_rfl) (by kernel_rfl) rfl (λ_ _ _ h=>h) g (zb.yldG (by rfl) (λW C=>by obtain⟨i,j,q⟩:=C;go_simp)) ?_;refine zb.t0 10 (.bool (decide ((len:Int)<=n))) rfl g (λW ⟨i,j,q⟩=>by go_simp) ?_;simp only[Z8];refine zb.n 11 (zb.opV (w':=w.drew) (.bool (decide ((len:Int)<=n))) rfl rfl (by go_simp) ⟨λ_=>g,zb.dn ?_⟩);simp only[Z8];clear g;go_wp2;go_ret;exact⟨rfl,(pf _ _).drew⟩
theorem SV {w:World}{bb len c:Nat}{A:Y5}(g:w.cell? ⟨bb,0,none⟩=some (.slice A len c)):pr Y3 135 #[.pointer (some ⟨bb,0,none⟩)] w λe w'=>e=Y0 (.bool ((len:Int) != 512))/\w=w':=by
 go_enter func135,ntmps135
 go_wp2;go_ret;exact⟨rfl,rfl⟩
theorem DV {w:World}{bi:Nat}{i:Int}(g:w.cell? ⟨bi,0,none⟩=some (.int .i64 i)):pr Y3 91 #[.pointer (some ⟨bi,0,none⟩)] w λe w'=>e=Y0 (.bool (decide (i<0∨16<=i)))/\w=w':=by
 by_cases hl:i<0
 ·have hd:decide (i<0∨16<=i)=true:=by simp[hl]
  rw[hd]
  go_enter func91,ntmps91
  go_wp2;go_ret;exact⟨rfl,rfl⟩
 ·by_cases c:16<=i
  ·have hd:decide (i<0∨16<=i)=true:=by simp[c]
   rw[hd]
   go_enter func91,ntmps91
   go_wp2;go_ret;exact⟨rfl,rfl⟩
  ·have hd:decide (i<0∨16<=i)=false:=by simp[hl,c]
   rw[hd]
   go_enter func91,ntmps91
   go_wp2;go_ret;exact⟨rfl,rfl⟩
structure Xw (w:World)(fn:Nat)(xs:Y7)(b:Bool):Prop where
 enters:∀args w,(callFunc fn args).run Y3 w=.ok (.enter fn args) w
 sM:∀W,ph w.heap.size w W->pr Y3 fn xs W λe w'=>e=Y0 (.bool b)/\ph W.heap.size W w'
theorem Xw.later {w w':World}{fn:Nat}{xs:Y7}{b:Bool}(h:Xw w fn xs b)(hB:ph w.heap.size w w'):Xw w' fn xs b:=⟨h.enters,λW c=>h.sM W (hB.trans (c.mono hB.size))⟩
theorem Dc {w:World}{fn:Nat}{x:Value}{er:Int}{b:Bool}(h:Xw w fn #[x] b):pr Y3 125 #[.agg #[.func (.func fn) #[x] #[],.int .i64 er]] w λe w'=>e=Y0 (.bool b)/\ph w.heap.size w w':=by
 have c:ph w.heap.size w (w.alloc (.cells #[.func (.func fn) #[x] #[],.int .i64 er] 156)):=(pf _ w).alloc (zG _) _;have H:=h.sM _ c;have i:=h.enters;have g:=c.size;clear h
 go_enter func125,ntmps125
 go_wp2_with fail
 refine H.mono ?_;rintro e w' ⟨rfl,hB⟩;go_wp2;go_ret;exact⟨rfl,c.trans (hB.mono g)⟩
theorem Sq {w:World}{fn:Nat}{x:Value}{er:Int}{b:Bool}(h:Xw w fn #[x] b):pr Y3 125 #[.agg #[.func (.func fn) #[] #[x],.int .i64 er]] w λe w'=>e=Y0 (.bool b)/\ph w.heap.size w w':=by
 have c:ph w.heap.size w (w.alloc (.cells #[.func (.func fn) #[] #[x],.int .i64 er] 156)):=(pf _ w).alloc (zG _) _;have H:=h.sM _ c;have i:=h.enters;have g:=c.size;clear h
 go_enter func125,ntmps125
 go_wp2_with fail
 refine H.mono ?_;rintro e w' ⟨rfl,hB⟩;go_wp2;go_ret;exact⟨rfl,c.trans (hB.mono g)⟩
theorem Sn {w:World}{fn:Nat}{x y:Value}{er:Int}{b:Bool}(h:Xw w fn #[x,y] b):pr Y3 125 #[.agg #[.func (.func fn) #[] #[x,y],.int .i64 er]] w λe w'=>e=Y0 (.bool b)/\ph w.heap.size w w':=by
 have c:ph w.heap.size w (w.alloc (.cells #[.func (.func fn) #[] #[x,y],.int .i64 er] 156)):=(pf _ w).alloc (zG _) _;have H:=h.sM _ c;have i:=h.enters;have g:=c.size;clear h
 go_enter func125,ntmps125
 go_wp2_with fail
 refine H.mono ?_;rintro e w' ⟨rfl,hB⟩;go_wp2;go_ret;exact⟨rfl,c.trans (hB.mono g)⟩
theorem Db {w:World}{fn:Nat}{x y z:Value}{er:Int}{b:Bool}(h:Xw w fn #[x,y,z] b):pr Y3 125 #[.agg #[.func (.func fn) #[] #[x,y,z],.int .i64 er]] w λe w'=>e=Y0 (.bool b)/\ph w.heap.size w w':=by
 have c:ph w.heap.size w (w.alloc (.cells #[.func (.func fn) #[] #[x,y,z],.int .i64 er] 156)):=(pf _ w).alloc (zG _) _;have H:=h.sM _ c;have i:=h.enters;have g:=c.size;clear h
 go_enter func125,ntmps125
 go_wp2_with fail
 refine H.mono ?_;rintro e w' ⟨rfl,hB⟩;go_wp2;go_ret;exact⟨rfl,c.trans (hB.mono g)⟩
theorem QY:yx Y3 156 2:=⟨⟨_,underlying156,rfl⟩,by kernel_rfl⟩
structure Xv where
 f:Value
 er:Int
 b:Bool
  deriving Inhabited
def JK (x:Xv):Y8:=[x.f,.int .i64 x.er]
def yd (l:List Xv):Y8:=(l.map JK).flatten
theorem ZN:∀(xs:List Xv) (j:Nat) (h:j<xs.length),((yd xs).drop (j*2)).take 2=JK xs[j]
 | x::xs,0,_=>by have e:yd (x::xs)=JK x++yd xs:=rfl;rw[e];rfl
 | x::xs,j+1,h=>by have e:yd (x::xs)=JK x++yd xs:=rfl;rw[e,show (j+1)*2=2+j*2 by omega,<-gT];exact ZN xs j (by simpa using h)
def yl (w:World)(x:Xv):Prop:=∀W,ph w.heap.size w W->pr Y3 125 #[.agg #[x.f,.int .i64 x.er]] W λe w'=>e=Y0 (.bool x.b)/\ph W.heap.size W w'
theorem RI (w:World)(A:Y5)(c:Nat)(xs:List Xv)(h:yp w w.heap.size 2 A xs.length c (yd xs))(hl:xs.length<=1000)(ha:∀k (O:k<xs.length),(∀j (q:j<xs.length),j<k->xs[j].b=false)->yl w xs[k]):pr Y3 124 #[.slice A xs.length c,.func (.func 125) #[] #[]] w λe w'=>ph w.heap.size w w'/\((∃k,∃O:k<xs.length,e=Y0 (.int .i64 (k:Int))/\xs[k].b=true/\∀j (q:j<xs.length),j<k->xs[j].b=false)∨(e=Y0 (.int .i64 (-1))/\∀x∈xs,x.b=false)):=by
 go_enter func124,ntmps124
 go_wp2_with fail
 go_loopw [8] (λi wr=>∃k:Nat,k<=xs.length/\i=.int .i64 (k:Int)/\Hid (∀j (q:j<xs.length),j<k->xs[j].b=false)/\ph w.heap.size w wr) (λi _=>xs.length-(intOf i).toNat)
 case atStart=>exact⟨0,gP _,rfl,pk (λj _ h=>by omega),pf _ _⟩
 case round =>
  obtain⟨k,O,rfl,E,hB⟩:=hrel
  by_cases F:k<xs.length
  ·obtain⟨g,o,rfl,S,_⟩:=h.rC (by omega);have G:=h.elem k F;rw[ZN xs k F] at G;have C:=ha k F E.out wr hB;obtain⟨x,I⟩:=Z9 (xs[k]);rw[<-I] at G C;have L:=pk I;have N:wr.rangeAt g (o+k*2) (JK x):=λj v q=>(hB.cell (p:=⟨g,o+k*2+j,none⟩) S).trans (G j v q)
   have U:IntKind.i64.wrap ((k:Int)+1)=(k:Int)+1:=zg _;have M:=hB.size;obtain⟨f,er,b⟩:=x;clear G I ha h;cases b
   ·have Q:Hid (∀j (q:j<xs.length),j<k+1->xs[j].b=false):=pk (λj q h1=>by
     by_cases e:j=k
     ·subst e;rw[<-L.out]
     ·exact E.out j q (by omega))
    go_wp2_with (first
     | (refine zr rfl (yX QY N rfl rfl rfl) ?_)
     | (go_at_call 125;refine C.mono ?_;rintro e T ⟨rfl,H⟩))
    exact⟨⟨k+1,by omega,by simp,Q,hB.trans (H.mono M)⟩,by simp[intOf];omega⟩
   ·go_wp2_with (first
     | (refine zr rfl (yX QY N rfl rfl rfl) ?_)
     | (go_at_call 125;refine C.mono ?_;rintro e T ⟨rfl,H⟩))
    go_ret;exact⟨hB.trans (H.mono M),.inl ⟨k,F,rfl,by rw[<-L.out],E.out⟩⟩
  ·obtain rfl:k=xs.length:=by omega
   clear ha h;go_wp2;go_ret;refine⟨hB,.inr ⟨rfl,λx C => ?_⟩⟩;obtain⟨j,q,rfl⟩:=yG C;exact E.out j q q
theorem wG {w:World}{p a:Nat}(hc:w.cell? ⟨p,19,none⟩=some (.pointer (some ⟨a,0,none⟩)))(g:p<w.heap.size):Xw w 73 #[.pointer (some ⟨p,0,none⟩)] false :=
 ⟨zb.eo func73,λW c=>by
  refine(QD ((c.cell (p:=⟨p,19,none⟩) g).trans hc)).mono ?_;rintro e w' ⟨rfl,rfl⟩
  exact⟨rfl,pf _ _⟩⟩
theorem Bg {w:World}{c e p:Nat}{b u:Bool}(h:w.cell? ⟨c,0,none⟩=some (.pointer (some ⟨p,0,none⟩)))(h1:w.cell? ⟨e,0,none⟩=some (.bool u))(h2:w.cell? ⟨p,39,none⟩=some (.bool b))(i:c<w.heap.size)(j:e<w.heap.size)(q:p<w.heap.size):Xw w 123 #[.pointer (some ⟨c,0,none⟩),.pointer (some ⟨e,0,none⟩)] (b != u) :=
 ⟨zb.eo func123,λW g=>Dd ((g.cell (p:=⟨c,0,none⟩) i).trans h) ((g.cell (p:=⟨e,0,none⟩) j).trans h1) ((g.cell (p:=⟨p,39,none⟩) q).trans h2)⟩
theorem Tr {w:World}{e c g p:Nat}{n i size:Int}(j:w.cell? ⟨e,0,none⟩=some (.int .i64 n))(h1:w.cell? ⟨c,0,none⟩=some (.int .i64 i))(h2:w.cell? ⟨g,0,none⟩=some (.pointer (some ⟨p,0,none⟩)))(q:w.cell? ⟨p,0,none⟩=some (.int .i64 size))(A:e<w.heap.size)(C:c<w.heap.size)(E:g<w.heap.size)(F:p<w.heap.size):Xw w 154 #[.pointer (some ⟨e,0,none⟩),.pointer (some ⟨c,0,none⟩),.pointer (some ⟨g,0,none⟩)] (decide (n<i∨size<=n)) :=
 ⟨zb.eo func154,λW h=>DU ((h.cell (p:=⟨e,0,none⟩) A).trans j) ((h.cell (p:=⟨c,0,none⟩) C).trans h1) ((h.cell (p:=⟨g,0,none⟩) E).trans h2) ((h.cell (p:=⟨p,0,none⟩) F).trans q)⟩
theorem NZ {w:World}{e g p len c:Nat}{A:Y5}{n:Int}(i:w.cell? ⟨e,0,none⟩=some (.int .i64 n))(h1:w.cell? ⟨g,0,none⟩=some (.pointer (some ⟨p,0,none⟩)))(h2:w.cell? ⟨p,40,none⟩=some (.slice A len c))(j:e<w.heap.size)(q:g<w.heap.size)(C:p<w.heap.size):Xw w 201 #[.pointer (some ⟨e,0,none⟩),.pointer (some ⟨g,0,none⟩)] (decide (n<0∨(len:Int)<=n)) :=
 ⟨zb.eo func201,λW h=>Ge ((h.cell (p:=⟨e,0,none⟩) j).trans i) ((h.cell (p:=⟨g,0,none⟩) q).trans h1) ((h.cell (p:=⟨p,40,none⟩) C).trans h2)⟩
theorem FL {w:World}{fn:Nat}{x:Value}{b:Bool}(er:Int)(h:Xw w fn #[x] b):yl w ⟨.func (.func fn) #[x] #[],er,b⟩:=λ_ c=>Dc (h.later c)
theorem yl.one {w:World}{fn:Nat}{x:Value}{b:Bool}(er:Int)(h:Xw w fn #[x] b):yl w ⟨.func (.func fn) #[] #[x],er,b⟩:=λ_ c=>Sq (h.later c)
theorem yl.two {w:World}{fn:Nat}{x y:Value}{b:Bool}(er:Int)(h:Xw w fn #[x,y] b):yl w ⟨.func (.func fn) #[] #[x,y],er,b⟩:=λ_ c=>Sn (h.later c)
theorem FK {w:World}{fn:Nat}{x y z:Value}{b:Bool}(er:Int)(h:Xw w fn #[x,y,z] b):yl w ⟨.func (.func fn) #[] #[x,y,z],er,b⟩:=λ_ c=>Db (h.later c)
theorem yl.later {w w':World}{x:Xv}(h:yl w x)(hB:ph w.heap.size w w'):yl w' x:=λW c=>h W (hB.trans (c.mono hB.size))
theorem kY {s l:qm}{cv mk:Value}{under:Bool}(hs:s.roots.length=16)(hl:l.roots.length=16):(Ku s cv l under mk).size=41:=by
 unfold Ku;simp[zp hs,zp hl]
structure qv (W0:World)(K:xH)(p:Nat)(v:yz)(st last:qm)(under:Bool)(mk:Value)(W:World):Prop where
 ca:ve W0 K v W
 pb:za W p 128 (Ku st (.pointer (some ⟨K.a,0,none⟩)) last under mk)
 np:W0.heap.size<=p
 hs:st.roots.length=16
 hl:last.roots.length=16
def tO (P:Nat)(D:Int->Option Y4):Nat:=((dv P).filter λk:Nat=>(D (k:Int)).isSome).length
def qp (K:xH)(p:Nat)(v:yz)(k:Nat):Prop:=k=p∨K.mu v k
section
variable {W0 W W':World}{K:xH}{p:Nat}{v v':yz}{st last st' last':qm}{under under':Bool}{mk mk':Value}
theorem ve.sm (h:ve W0 K v W):∀k,K.mu v k->QS W k:=yW.sm h.cs.ca
theorem ve.rZ (h:ve W0 K v W):∀k,K.mu v k->k<W.heap.size:=yW.rZ h.cs.ca
theorem qv.sm (h:qv W0 K p v st last under mk W):QS W p :=
 ⟨.inr (.inl ⟨_,_,h.pb,by rw[kY h.hs h.hl];decide,λn e=>by cases e⟩),.inr (.inl ⟨_,_,h.pb,by rw[kY h.hs h.hl];decide⟩)⟩
theorem qv.sms (h:qv W0 K p v st last under mk W):∀k,qp K p v k->QS W k:=λk c=>by
 rcases c with rfl|c
 ·exact h.sm
 ·exact h.ca.sm k c
theorem ve.se (h:ve W0 K v W){cs:Y7}(c:za W p 128 cs):¬ K.mu v p/\p≠K.f:=by
 exact⟨yW.rI h.cs.ca c (by decide) (by decide),λe=>zo c h.cs.fh.fb (by decide) e⟩
theorem qv.grow (h:qv W0 K p v st last under mk W)(hB:ph W.heap.size W W'):qv W0 K p v st last under mk W':=⟨h.ca.grow hB,h.pb.below hB h.pb.lt,h.np,h.hs,h.hl⟩
theorem qv.rH (h:qv W0 K p v st last under mk W)(e:ze (K.mu v) W W')(c:ve W0 K v' W'):qv W0 K p v' st last under mk W':=⟨c,e.blk h.pb (h.ca.se h.pb).1,h.np,h.hs,h.hl⟩
theorem qv.own (h:qv W0 K p v st last under mk W)(c:ze (λk=>k=p) W W')(g:za W' p 128 (Ku st' (.pointer (some ⟨K.a,0,none⟩)) last' under' mk'))(hs:st'.roots.length=16)(hl:last'.roots.length=16):qv W0 K p v st' last' under' mk' W' :=
 ⟨h.ca.rE c (λk e=>by subst e;exact h.sm) (λk e=>by subst e;exact h.np) (λk e=>by subst e;exact h.ca.se h.pb),g,h.np,hs,hl⟩
theorem qv.rY (h:qv W0 K p v st last under mk W):W.cell? ⟨p,19,none⟩=some (.pointer (some ⟨K.a,0,none⟩)):=by rw[h.pb.cell];exact tD h.hs
theorem qv.rX (h:qv W0 K p v st last under mk W):W.cell? ⟨p,39,none⟩=some (.bool under):=by rw[h.pb.cell];exact II h.hs h.hl
theorem qv.pE (h:qv W0 K p v st last under mk W):W.cell? ⟨p,40,none⟩=some mk:=by rw[h.pb.cell];exact IK h.hs h.hl
theorem qv.sv (h:qv W0 K p v st last under mk W):W.cell? ⟨p,0,none⟩=some (.int .i64 st.size):=by rw[h.pb.cell];exact Ca h.hs
theorem qv.pI (h:qv W0 K p v st last under mk W):W.cell? ⟨p,1,none⟩=some (.int .i64 st.first):=by rw[h.pb.cell];exact IL h.hs
theorem qv.mac (h:qv W0 K p v st last under mk W):W.cell? ⟨p,2,none⟩=some (.int .i64 st.many):=by rw[h.pb.cell];exact Cb h.hs
end
end
section
open Go Go.RowKit vA Go.Shelf
attribute [local go_sem] Oper.semAt_some
structure jP (W:World)(M:Nat)(Y:Int->Option Y4):Prop where
 has:∃es co f,zw W M es co/\jv es f/\oH es co/\Zf W f Y
structure DE (w0:World)(B M b B4:Nat)(Y:Int->Option Y4)(ks:List Nat)(V:World):Prop where
 mp:∃es co f,zw V M es co/\jv es f/\oH es co/\DC V f Y ks
 bx:za V b 211 #[.map (some M)]
 up:ph B w0 V
 b4:B<=M/\M<B4/\b<B4/\B4<=V.heap.size
theorem DC.abC {B:Nat}{X Z:World}{row:Option Nat}{e:Int->Option Value}{Y:Int->Option Y4}{ks:List Nat}(h:DC X e Y ks)(q:X.grownBy Z row)(C:∀r,row=some r->B<=r/\∃o:Obj,X.heap[r]?=some o/\o.isCells=false):DC Z e Y ks:=λk=>by
 rcases h k with h1|⟨h1,A,c,y,h2,g,i,j⟩
 ·exact .inl h1
 ·exact .inr ⟨h1,A,c,y,h2,g,i,qq.rL (B:=B) _ _ _ () X Z row j q C⟩
theorem DE.row {A X Z:World}{B M b c:Nat}{Y:Int->Option Y4}{ks:List Nat}{row:Option Nat}(h:DE A B M b c Y ks X)(g:X.grownBy Z row)(i:∀r,row=some r->c<=r/\∃o:Obj,X.heap[r]?=some o/\o.isCells=false):DE A B M b c Y ks Z:=by
 obtain⟨⟨es,C,f,h1,h2,F,G⟩,H,I,L,j,q,E⟩:=h;exact⟨⟨es,C,f,h1.rh (B:=c) j g (λr e=>(i r e).1),h2,F,G.abC (B:=c) g i⟩,H.pR (B:=c) q g (λr e=>(i r e).1),I.trans (zl g (by omega) (λr e=>by have:=(i r e).1;omega)),L,j,q,zT E g.size⟩
theorem DE.st (j:World)(B M b c:Nat)(Y:Int->Option Y4):wk c (λ(i:List (Nat×(Y5×Nat))) U V=>DE j B M b c Y (i.map (·.1)) V/\∀k,U k↔k=M):=λ_ _ _ _ _ h e g=>⟨h.1.row e g,h.2⟩
theorem LM (n:Nat)(hn:8<=n)(S w:World)(B M q r many T:Nat)(es:Array oJ)(f:Int->Option Value)(Y:Int->Option Y4)
  (hq:za w q 211 #[.map (some r)]) (hm:zw w r es T) (he:jv es f) (aF:oH es T) (hP:Zf w f Y) (L:Xn f many) (aQ:many<=40000) (C:zw w M #[] 0) (aN:r≠M) (aT:ph B S w) (aK:B<=M) (aL:B<=w.heap.size) :
  dw oS n Y3 265 #[.map (some M),.func (.func 186) #[] #[.pointer (some ⟨q,0,none⟩)]] w λe w'=>e=Y0 (.tuple #[])/\jP w' M Y/\ph B S w':=by
 have h1:1<=n:=by omega
 obtain⟨W1,Z,i,b1⟩:=YK w 211 #[.map (some M)];have s1:W1.heap.size=w.heap.size+1:=by rw[Z];simp
 have aR:q≠M:=λe=>by subst e;have h1:w.heap[q]?=some (.map #[] 0):=C;have h2:w.heap[q]?=some (.cells #[.map (some r)] 211 (0,0)):=hq;rw[h1] at h2;cases h2
 have aB:=C.below i C.lt;have aU:ph B S W1:=aT.trans (i.mono aL);have aW:=C.lt;have HS:=Hi (n-1) (by omega) q r many T es f Y W1 (hq.below i hq.lt) (hm.below i hm.lt) he aF (hP.grow i) L aQ;have aE:∀k:Nat,k∈xL f many↔(Y (k:Int)).isSome=true:=λk=>by
  rw[jD];rcases hP (k:Int) with⟨h2,h3⟩|⟨A,c,y,h2,h3,_⟩
  ·rw[h2,h3];simp
  ·rw[h2,h3];have:=L _ _ h2;simp;omega
 have aC:∀k y,Y k=some y->0<=k:=λk y hy=>by
  rcases hP k with⟨_,h3⟩|⟨A,c,y,h2,_⟩
  ·rw[h3] at hy;cases hy
  ·exact(L _ _ h2).1
 have aG:=pk aE;have aI:=pk aC;have aH:=pk Z.symm;have aM:M<W1.heap.size:=by omega
 have aV:w.heap.size<W1.heap.size:=by omega
 clear hm hq he aF hP L C aE aC Z s1;refine du func265 rfl trivial ?_ rfl;simp only[ntmps265,zR,zL,zY,yJ,yK,qG,qH,qS,qL,zQ,zX]
 gi_wp2
 rw[aH.out];refine vz rfl h1 (gf:=186) (lb:=#[.pointer (some ⟨q,0,none⟩)]) rfl trivial (zb.eo func186)
  HS (pf _ _) (λ_=>rfl) (λk=>k=M) ⟨λe=>aR e,λe=>aN e,λk e=>by subst e;exact .inl ⟨_,_,aB⟩⟩
  (λQ U V=>DE S B M w.heap.size W1.heap.size Y (Q.map (·.1)) V/\∀k,U k↔k=M) (λ_ _ _ _=>False) (DE.st _ _ _ _ _ _) (λ_ _ _ _ _ _ h _ _=>h) (λs U X hs k hk=>by rw[(hs.2 k).1 hk];exact zO hs.1.b4.2.1 hs.1.b4.2.2.2) ?ownR
  ⟨⟨⟨#[],0,λ_=>none,aB,jv.empty,MapKept.stamped_empty 0,λk => .inl ⟨by simp,rfl⟩⟩,b1,aU,aK,aM,aV,zG _⟩,λk=>Iff.rfl⟩ ?act ?assign ?body ?done ?stop
 case ownR =>
  rintro Q x _ X Y2 row ⟨e1,e2,y,g,G,H,e6⟩ aD hr;exact⟨e1,e2,y,g,G,qq.rL (B:=W1.heap.size) _ _ _ () X Y2 row H aD hr,Kp.rL (B:=W1.heap.size) _ () X Y2 row e6 aD hr⟩
 case assign =>
  intro l1 x V K I;simp only[Sh]
  gi_wp2
  exact I
 case body =>
  rintro l1 Q ⟨x1,A6,c6⟩ U V ⟨⟨⟨aA,c2,f2,F,i2,i3,N⟩,i5,i6,O⟩,hU⟩ ⟨_,_,y,g,G,H,e6⟩;simp only at g H;have k1:=i5.boxed;have H3:=pk g;have H4:=pk G;have HU:=pk hU;clear g G hU
  gi_wp2_with (first
   | (refine EU rfl (.tmp 9) (.tmp 10) (.tmp 11) rfl rfl rfl rfl i2 i3 F ?_;intro aJ c7 W7 aP aO aS E)
   | (refine⟨trivial,?_⟩;fail_if_success (refine callsIn_wide.2 ?_)))
  refine⟨U,vh.refl _ _,yg.grown U E (λr e=>by injection e with e;subst e;exact(HU.out _).2 rfl),⟨⟨aJ,c7,_,aP,aO,aS,?_⟩,i5.rS F E,i6.trans (zl E (by omega) (λr e=>by injection e with e;omega)),O.1,O.2.1,O.2.2.1,zT O.2.2.2 E.size⟩,HU.out⟩;rw[qW];exact N.add F E H3.out H4.out H
 case done =>
  rintro D ys U V hD hS ⟨hI,_⟩ I
  gi_wp2
  have j:=hI.row (grownBy_putObj' V D (.deferred none)) (λr e=>by injection e with e;subst e;exact⟨hD,_,I,rfl⟩);obtain⟨⟨aA,c2,f2,F,i2,i3,N⟩,_,i6,_⟩:=j;refine⟨by simp,.inl ⟨D,_,rfl,dt I,?_⟩⟩;refine⟨_,results_none rfl _ _ _,rfl,⟨⟨aA,c2,f2,F,i2,i3,λk => ?_⟩⟩,i6⟩;rw[hS] at N;rcases N k with⟨h2,h3⟩|⟨_,h2⟩
  ·refine .inl ⟨h3,?_⟩;cases hY:Y k with
   | none=>rfl
   | some y =>
    have p1:=aI.out k y hY;have e:((k.toNat:Nat):Int)=k:=by omega
    exact absurd e (h2 k.toNat ((aG.out k.toNat).2 (by rw[e,hY];rfl)))
  ·exact .inr h2
 case stop =>
  rintro D c Q U V _ _ h _;exact h.elim
theorem Te (V:qo):vu V=Kf (xY V):=by
 funext k
 apply Option.ext;intro y;rw[jq];exact ZD.symm
theorem Sy (n:Nat)(hn:9<=n)(w:World)(q r many h:Nat)(es:Array oJ)(f:Int->Option Value)(Y:Int->Option Y4)
  (hq:za w q 211 #[.map (some r)]) (g:zw w r es h) (i:jv es f) (A:oH es h) (hP:Zf w f Y) (j:Xn f many) (G:many<=40000) :
  dw oS n Y3 200 #[.func (.func 186) #[] #[.pointer (some ⟨q,0,none⟩)]] w λe w'=>∃M,e=Y0 (.map (some M))/\jP w' M Y/\w.heap.size<=M/\ph w.heap.size w w':=by
 have c:ph w.heap.size w (w.alloc (.map #[] 0)):=(pf _ w).alloc (zG _) _;have h1:1<=n:=by omega
 have I:=g.lt;have C:=LM (n-1) (by omega) w (w.alloc (.map #[] 0)) w.heap.size w.heap.size q r many h es f Y (hq.below c hq.lt) (g.below c g.lt) i A (hP.grow c) j G (nO w _) (by omega) c (zG _) (by simp);clear g hq i A hP j;refine dN func200 rfl trivial ?_ rfl;simp only[ntmps200,zR,zL,zY,yJ,yK,qG,qH,qS,qL,zQ,zX]
 gi_wp2_with (first
  | (refine Yr rfl (EM rfl) ?_)
  | (refine⟨trivial,?_⟩;gi_at_call 265;refine C.mono ?_;rintro e H ⟨rfl,F,E⟩)
  | (refine⟨trivial,?_⟩;fail_if_success (refine callsIn_wide.2 ?_)))
 go_ret;exact⟨w.heap.size,rfl,F,zG _,E⟩
theorem IM (n:Nat)(hn:10<=n){W0 W:World}{K:xH}{p:Nat}{v:yz}{st last:qm}{under:Bool}{mk:Value}(h:qv W0 K p v st last under mk W)(Q:K.Ok):dw oS n Y3 126 #[.pointer (some ⟨p,0,none⟩)] W λe W'=>∃M,e=Y0 (.map (some M))/\jP W' M v.D/\W.heap.size<=M/\ph W.heap.size W W':=by
 have hf:∀k x,v.c.V k=some x->x.y.length=512:=h.ca.ro.full;have G:=Kj W K.a K.f K.r K.P K.room v.c.now v.c.hh v.c.mm v.c.V h.ca.cs.ca;have j:=Ow h.ca.cs.ca hf
 have C:=j.keys (many:=K.P) (λk y A=>by
  unfold vu at A;cases E:v.c.V k with
  | none=>rw[E] at A;cases A
  | some x=>exact(h.ca.cs.ca.rows k x E).key)
 have T:=Q.P2;have F:∀(X:World) (q s g:Nat) (eo:Array oJ),za X q 211 #[.map (some s)]->zw X s eo g->jv eo (xg v.c.V)->oH eo g->ph W.heap.size W X->dw oS (n-1) Y3 200 #[.func (.func 186) #[] #[.pointer (some ⟨q,0,none⟩)]] X λe w'=>∃M,e=Y0 (.map (some M))/\jP w' M v.D/\X.heap.size<=M/\ph X.heap.size X w':=λX q s g eo h1 h2 I L N=>by have:=Sy (n-1) (by omega) X q s K.P g eo (xg v.c.V) (vu v.c.V) h1 h2 I L (j.grow N) C (by omega);rw[Te] at this;exact this
 have k19:=h.rY;have h1:1<=n:=by omega
 clear j C T hf;refine dN func126 rfl trivial ?_ rfl;simp only[ntmps126,zR,zL,zY,yJ,yK,qG,qH,qS,qL,zQ,zX]
 gi_wp2_with (first
  | (refine⟨trivial,?_⟩;gi_at_call 115;refine(callsIn_wide.2 G).mono ?_;rintro e H ⟨q,s3,eo,g,rfl,hq,aA,Z,aB,i,_,_⟩)
  | (refine⟨trivial,?_⟩;gi_at_call 200;refine(F H q s3 g eo hq aA Z aB i).mono ?_;rintro e W4 ⟨M,rfl,U,S,O⟩)
  | (refine⟨trivial,?_⟩;fail_if_success (refine callsIn_wide.2 ?_)))
 go_ret;exact⟨M,rfl,U,zT i.size S,i.trans (O.mono i.size)⟩
end
section
open Go Go.RowKit vA
theorem Qb {w:World}{p:px}{v:Value}(h:w.cell? p=some v):p.block<w.heap.size:=by
 cases c:w.heap[p.block]? with
 | none=>simp[World.cell?,c] at h
 | some o=>exact(zK.1 c).1
def Gj (x:Int):Y4:=zx 4 (IntKind.u32.wrap x).toNat
def qy (l:List Int):Y4:=(l.map Gj).flatten
theorem kK (l:List Int):(qy l).length=4*l.length:=by
 unfold qy
 induction l with
 | nil=>rfl
 | cons x l ih=>simp only[zJ,qZ,zH,ih,Gj,ya,zL];omega
theorem LG {l:List Int}{k:Nat}(h:k<l.length):qy (l.take (k+1))=qy (l.take k)++Gj l[k]:=by
 unfold qy;rw[zU h,qW,yF];simp
theorem Eo {x:Int}(h:0<=x/\x<4294967296):((xI (Gj x):Nat):Int)=x:=by
 have e:IntKind.u32.wrap x=x:=by
  show x%4294967296=x
  omega
 unfold Gj;rw[e,kF (by show x.toNat<256^4;omega)];omega
theorem ZL (w:World)(A:Y5)(c:Nat)(l:List Int)(h:Br w A l)(hl:l.length<=100):pr Y3 114 #[.slice A l.length c] w (yU w (qy l)):=by
 go_enter func114,ntmps114
 go_wp2_with fail
 go_loopw [2,7] (λv i wr=>∃k:Nat,k<=l.length/\i=.int .i64 (k:Int)/\yZ wr w.heap.size v (qy (l.take k))/\ph w.heap.size w wr) (λ_ i _=>l.length-(intOf i).toNat)
 case atStart=>exact⟨0,gP _,rfl,yZ.nil _ _,pf _ _⟩
 case round =>
  obtain⟨k,hk,rfl,C,hB⟩:=hrel;have X:=hB.size
  by_cases j:k<l.length
  ·obtain⟨g,o,rfl,hc⟩:=h.rC (by omega);have Z:=(hB.cell (p:=⟨g,o+k,none⟩) (Qb (hc k j))).trans (hc k j);have q:=LG j;have aC:=kK (l.take k);rw[zZ] at aC;obtain⟨x,L⟩:=Z9 (l[k]);rw[<-L] at Z q;have G:(((IntKind.u32.wrap x).toNat:Nat):Int)=IntKind.u32.wrap x:=by
    have:0<=IntKind.u32.wrap x:=by
     show 0<=x%4294967296
     omega
    omega
   have O:∀W,pr Y3 82 #[.int .u32 (IntKind.u32.wrap x)] W (yU W (Gj x)):=λW=>by have:=xt (IntKind.u32.wrap x).toNat W;rw[G] at this;exact this
   have H:(Gj x).length=4:=ya _ _;have S:=pk q;have Q:=pk H;have aF:IntKind.i64.wrap ((k:Int)+1)=(k:Int)+1:=zg _;clear hc L G q H h;generalize Gj x=nb at *;generalize hP:qy (l.take k)=aE at *
   go_wp2_with (first
    | (go_at_call 82;refine(O _).mono ?_;rintro e w4 ⟨v4,rfl,aD,F⟩;obtain⟨N,T,rfl,aB⟩:=aD.inB;have M:=C.later F;have E:=hB.trans (F.mono X))
    | (refine Ug rfl (.tmp 11) (.tmp 14) rfl w.heap.size u2 aE (by rfl) M w4.heap.size N T nb (by rfl) aB (by rw[Q.out];omega) E.size ?_;intro v' w5 I aA;have U:=M.below E aA))
   rw[<-S.out] at I;exact⟨⟨k+1,by omega,by simp,I,U⟩,by simp[intOf];omega⟩
  ·obtain rfl:k=l.length:=by omega
   rw[List.take_length] at C;go_wp2;go_ret;exact⟨_,rfl,C,hB⟩
def kS (xs:List Int)(v:Value)(w:World):Prop:=∃b,v=.slice (some ⟨b,0,none⟩) xs.length xs.length/\∀j (h:j<xs.length),w.cell? ⟨b,j,none⟩=some (.int .i64 xs[j])
theorem yO (xs:List Int):∀v w w',kS xs v w->qz w w'->kS xs v w':=by
 rintro v w w' ⟨b,g,h⟩ e;exact⟨b,g,λj c=>(e.cell (p:=⟨b,j,none⟩) (Qb (h j c))).trans (h j c)⟩
theorem vy {xs:List Int}{v:Value}{w:World}(h:kS xs v w)(hl:xs.length<=100):pr Y3 114 #[v] w (yU w (qy xs)):=by
 obtain⟨b,rfl,h⟩:=h;exact ZL w _ _ xs ⟨λ_=>⟨b,0,rfl,λj c=>by rw[qC];exact h j c⟩⟩ hl
def KO (l:Y4):Y4:=l++zP (512-l.length) 0
theorem vH {l:Y4}(h:l.length<=512):(KO l).length=512:=by unfold KO;simp;omega
theorem Pe {l:Y4}(h:l.length<=512):yv (zP 512 0) 0 512 l=KO l:=by
 unfold yv KO;rw[List.take_zero,zQ,qC,qB (by omega),Nat.min_eq_left h,List.drop_replicate]
theorem Gc (w:World)(v:Value)(l:Y4)(hl:l.length<=512)(A:∀W,ph w.heap.size w W->pr Y3 185 #[v] W (yU W l)):pr Y3 113 #[v] w (yU w (KO l)):=by
 go_enter func113,ntmps113
 go_wp2_with (first
  | (refine Fe rfl _ _ rfl w.heap.size .i64 .i64 512 rfl rfl (by omega) (zG _) ?_;intro w1 H E;have c:ph w.heap.size w w1:=zl E (zG _) (λr G=>by cases G);have h:=yZ.blk (l:=zP 512 0) H)
  | (go_at_call 185;refine(A w1 c).mono ?_;rintro e g ⟨L,rfl,own2,j⟩;obtain⟨q,c2,rfl,F⟩:=own2.inB;have i:=h.1.below j h.1.lt)
  | (refine Fg rfl (.tmp 5) (.tmp 7) rfl w.heap.size 0 (zP 512 0) l q c2 g.heap.size 512 512 rfl rfl i F (by simp) ?_;rw[Pe hl]))
 have C:ph w.heap.size w (g.setRow w.heap.size ((KO l).map b8).toArray):=zf (c.trans (j.mono c.size)) (zG _) _;have b3:=i.setRow ((KO l).map b8).toArray;have I:yZ (g.setRow w.heap.size ((KO l).map b8).toArray) w.heap.size (.slice (some ⟨w.heap.size,0,none⟩) 512 512) (KO l) :=
  ⟨by simp[vH hl],.inr ⟨w.heap.size,512,_,by rw[vH hl],zG _,b3,by rw[vH hl];exact zG _,by decide,by simp[vH hl],by rw[vH hl,yL,qB (by simp[vH hl])]⟩⟩
 go_ret;exact⟨_,rfl,I,C⟩
theorem Vw {w:World}{ls:List Y4}{v:Value}(h:xN ls v w)(c:ls.length<=1000)(hf:ls.flatten.length<=512):pr Y3 113 #[v] w (yU w (KO ls.flatten)) :=
 Gc w v _ hf λW hB=>jV (xi ls _ _ _ h (by exact hB)) c (by omega)
theorem Gd (w:World):pr Y3 113 #[.slice none 0 0] w (yU w (zP 512 0)) :=
 Gc w _ [] (by simp) λW hB=>Xd W none 0 [] ⟨zG _,by decide,λh=>absurd h (by simp)⟩ (by simp)
theorem Qc {g:Nat}{T:oD}:∀(c:Y8) (o:Nat) (w:World) (cs:Y8),za w g T cs.toArray->o+c.length<=cs.length->za (w.setCells g o c) g T (cs.take o++c++cs.drop (o+c.length)).toArray
 | [],o,w,cs,h,_=>by
  have e:cs.take o++[]++cs.drop (o+([]:Y8).length)=cs:=by simp
  rw[e];exact h
 | v::r,o,w,cs,h,hl=>by
  simp only[zL] at hl;have h1:=h.set o v;have e:cs.toArray.setIfInBounds o v=(cs.set o v).toArray:=by simp
  rw[e] at h1;have h2:=Qc r (o+1) _ (cs.set o v) h1 (by simp;omega);have i:(cs.set o v).take (o+1)=cs.take o++[v]:=by rw[zU (by simp;omega),List.take_set_of_le (zG _)];simp
  have j:(cs.set o v).drop (o+1+r.length)=cs.drop (o+(r.length+1)):=by rw[List.drop_set_of_lt (by omega)];congr 1;omega
  rw[i,j] at h2;have q:cs.take o++[v]++r++cs.drop (o+(r.length+1))=cs.take o++v::r++cs.drop (o+(v::r).length):=by simp
  rw[q] at h2;exact h2
theorem jG {Mu:Nat->Prop}{g:Nat}(c:Mu g):∀(e:Y8) (o:Nat) (w:World),ze Mu w (w.setCells g o e)
 | [],_,w=>ze.refl _ _
 | v::r,o,w=>(ze.setCell w ⟨g,o,none⟩ v c).trans (jG c r (o+1) _)
theorem Zy {w:World}{g o n:Nat}{T:oD}{cs:Y7}(h:za w g T cs)(hn:o+n<=cs.size):w.there g o n:=λj c=>by
 have hc:w.cell? ⟨g,o+j,none⟩=some cs[o+j]:=by rw[h.cell];exact Array.getElem?_eq_getElem (by omega)
 have hh:w.heap[g]?=some (.cells cs T (0,0)):=h;refine⟨by rw[hc];rfl,?_⟩;simp[World.frozen?,hh]
theorem Ui (s:qm):∀v∈xR s,v.oneCell'=true:=by
 intro v c;simp only[xR,qM,qP] at c;rcases c with rfl|rfl|rfl|⟨x,_,rfl⟩<;>rfl
theorem kq:yx Y3 125 19:=⟨⟨_,underlying125,rfl⟩,by kernel_rfl⟩
section
variable {s l s' l':qm}{cv mk mk':Value}{u u':Bool}
theorem vZ (s l:qm)(cv mk:Value)(u:Bool):Ku s cv l u mk=(xR s++cv::(xR l++[.bool u,mk])).toArray:=rfl
theorem Vx (hs:s.roots.length=16)(hl:l.roots.length=16):(xR s++cv::(xR l++[.bool u,mk])).length=41:=by simp[zp hs,zp hl]
theorem RJ (hs:s.roots.length=16)(hl:l.roots.length=16):(Ku s cv l u mk).setIfInBounds 39 (.bool u')=Ku s cv l u' mk:=by
 rw[vZ,vZ,zA,mO _ _ (by rw[zp hs];omega),zp hs,show 39-19=19+1 from rfl,zE,mO _ _ (by rw[zp hl];omega),zp hl];rfl
theorem RK (hs:s.roots.length=16)(hl:l.roots.length=16):(Ku s cv l u mk).setIfInBounds 40 mk'=Ku s cv l u mk':=by
 rw[vZ,vZ,zA,mO _ _ (by rw[zp hs];omega),zp hs,show 40-19=20+1 from rfl,zE,mO _ _ (by rw[zp hl];omega),zp hl];rfl
theorem Si (n:Int):(Ku s cv l u mk).setIfInBounds 0 (.int .i64 n)=Ku {s with size:=n} cv l u mk:=by
 rw[vZ,vZ,zA];rfl
theorem RL (n:Int):(Ku s cv l u mk).setIfInBounds 1 (.int .i64 n)=Ku {s with first:=n} cv l u mk:=by
 rw[vZ,vZ,zA];rfl
theorem Sk (n:Int):(Ku s cv l u mk).setIfInBounds 2 (.int .i64 n)=Ku {s with many:=n} cv l u mk:=by
 rw[vZ,vZ,zA];rfl
theorem Sj (hs:s.roots.length=16){i:Nat}(c:i<16)(n:Int):(Ku s cv l u mk).setIfInBounds (3+i) (.int .i64 n)=Ku {s with roots:=s.roots.set i n} cv l u mk:=by
 have e:(xR s).set (3+i) (.int .i64 n)=xR {s with roots:=s.roots.set i n}:=by unfold xR;rw[show 3+i=i+1+1+1 by omega,zE,zE,zE,List.map_set]
 rw[vZ,vZ,zA,List.set_append_left _ _ (by rw[zp hs];omega),e]
theorem IJ (hs:s.roots.length=16):(xR s++cv::(xR l++[.bool u,mk])).take 0++xR s'++(xR s++cv::(xR l++[.bool u,mk])).drop (0+19)=xR s'++cv::(xR l++[.bool u,mk]):=by
 rw[qC,List.drop_left' (zp hs)];rfl
theorem Cc (hs:s.roots.length=16)(hl:l.roots.length=16):(xR s++cv::(xR l++[.bool u,mk])).take 20++xR l'++(xR s++cv::(xR l++[.bool u,mk])).drop (20+19)=xR s++cv::(xR l'++[.bool u,mk]):=by
 have c:xR s++cv::(xR l++[.bool u,mk])=(xR s++[cv])++(xR l++[.bool u,mk]):=by simp
 have h1:(xR s++[cv]).length=20:=by simp[zp hs]
 rw[c,List.take_left' h1,show 20+19=20+19 from rfl,<-gT,List.drop_left' h1,List.drop_left' (zp hl)];simp
end
section
variable {W0 W:World}{K:xH}{p:Nat}{v:yz}{st last st' last':qm}{under under':Bool}{mk mk':Value}
theorem qv.sE (h:qv W0 K p v st last under mk W):qv W0 K p v st last under' mk (W.setCell ⟨p,39,none⟩ (.bool under'))/\ze (λk=>k=p) W (W.setCell ⟨p,39,none⟩ (.bool under')):=by
 have c:ze (λk=>k=p) W (W.setCell ⟨p,39,none⟩ (.bool under')):=ze.setCell _ _ _ rfl;have e:=h.pb.set 39 (.bool under');rw[RJ h.hs h.hl] at e;exact⟨h.own c e h.hs h.hl,c⟩
theorem qv.re (h:qv W0 K p v st last under mk W):qv W0 K p v st last under mk' (W.setCell ⟨p,40,none⟩ mk')/\ze (λk=>k=p) W (W.setCell ⟨p,40,none⟩ mk'):=by
 have c:ze (λk=>k=p) W (W.setCell ⟨p,40,none⟩ mk'):=ze.setCell _ _ _ rfl;have e:=h.pb.set 40 mk';rw[RK h.hs h.hl] at e;exact⟨h.own c e h.hs h.hl,c⟩
theorem qv.sG (h:qv W0 K p v st last under mk W)(n:Int):qv W0 K p v {st with first:=n} last under mk (W.setCell ⟨p,1,none⟩ (.int .i64 n))/\ze (λk=>k=p) W (W.setCell ⟨p,1,none⟩ (.int .i64 n)):=by
 have c:ze (λk=>k=p) W (W.setCell ⟨p,1,none⟩ (.int .i64 n)):=ze.setCell _ _ _ rfl;have e:=h.pb.set 1 (.int .i64 n);rw[RL] at e;exact⟨h.own c e h.hs h.hl,c⟩
theorem qv.setMany (h:qv W0 K p v st last under mk W)(n:Int):qv W0 K p v {st with many:=n} last under mk (W.setCell ⟨p,2,none⟩ (.int .i64 n))/\ze (λk=>k=p) W (W.setCell ⟨p,2,none⟩ (.int .i64 n)):=by
 have c:ze (λk=>k=p) W (W.setCell ⟨p,2,none⟩ (.int .i64 n)):=ze.setCell _ _ _ rfl;have e:=h.pb.set 2 (.int .i64 n);rw[Sk] at e;exact⟨h.own c e h.hs h.hl,c⟩
theorem qv.sY (h:qv W0 K p v st last under mk W){i:Nat}(g:i<16)(n:Int):qv W0 K p v {st with roots:=st.roots.set i n} last under mk (W.setCell ⟨p,3+i,none⟩ (.int .i64 n))/\ze (λk=>k=p) W (W.setCell ⟨p,3+i,none⟩ (.int .i64 n)):=by
 have c:ze (λk=>k=p) W (W.setCell ⟨p,3+i,none⟩ (.int .i64 n)):=ze.setCell _ _ _ rfl;have e:=h.pb.set (3+i) (.int .i64 n);rw[Sj h.hs g] at e;exact⟨h.own c e (by simpa using h.hs) h.hl,c⟩
theorem qv.setState (h:qv W0 K p v st last under mk W)(hs:st'.roots.length=16):qv W0 K p v st' last under mk (W.setCells p 0 (xR st'))/\ze (λk=>k=p) W (W.setCells p 0 (xR st')):=by
 have c:ze (λk=>k=p) W (W.setCells p 0 (xR st')):=jG (Mu:=λk=>k=p) rfl _ _ _;have e:=Qc (xR st') 0 W _ h.pb (by rw[Vx h.hs h.hl,zp hs];omega);rw[zp hs,IJ h.hs] at e;exact⟨h.own c e hs h.hl,c⟩
theorem qv.sd (h:qv W0 K p v st last under mk W)(hl:last'.roots.length=16):qv W0 K p v st last' under mk (W.setCells p 20 (xR last'))/\ze (λk=>k=p) W (W.setCells p 20 (xR last')):=by
 have c:ze (λk=>k=p) W (W.setCells p 20 (xR last')):=jG (Mu:=λk=>k=p) rfl _ _ _;have e:=Qc (xR last') 20 W _ h.pb (by rw[Vx h.hs h.hl,zp hl];omega);rw[zp hl,Cc h.hs h.hl] at e;exact⟨h.own c e h.hs hl,c⟩
theorem qv.rM (h:qv W0 K p v st last under mk W):W.rangeAt p 0 (xR st):=λj x c=>by
 have hl:=(qQ.1 c).1;rw[zp h.hs] at hl;rw[qC,h.pb.cell,XV h.hs hl];exact c
end
def Yn (x:Value):Prop:=(∃n,x=.int .i64 n)∨(∃m,x=.map m)∨∃A n c,x=.slice A n c
def kW (W:World)(k:Nat):Prop:=∃(T:oD) (cs:Y7),(T=214∨T=999999)/\za W k T cs/\∀(j:Nat) (x:Value),cs[j]?=some x->Yn x
section
variable {W W':World}{k o:Nat}
theorem kW.cell (h:kW W k){x:Value}(hc:W.cell? ⟨k,o,none⟩=some x):Yn x:=by
 obtain⟨T,cs,_,c,h⟩:=h;rw[c.cell] at hc;exact h o x hc
theorem kW.u8 (h:kW W k){n:Int}(hc:W.cell? ⟨k,o,none⟩=some (.int .u8 n)):False:=by
 rcases h.cell hc with⟨m,e⟩|⟨m,e⟩|⟨_,_,_,e⟩<;>cases e
theorem kW.u64 (h:kW W k){n:Int}(hc:W.cell? ⟨k,o,none⟩=some (.int .u64 n)):False:=by
 rcases h.cell hc with⟨m,e⟩|⟨m,e⟩|⟨_,_,_,e⟩<;>cases e
theorem kW.rI (h:kW W k){T:oD}{cs:Y7}(e:za W k T cs)(c:T≠214/\T≠999999):False:=by
 obtain⟨j,cs',i,g,_⟩:=h;rcases i with rfl|rfl
 ·exact zo e g c.1 rfl
 ·exact zo e g c.2 rfl
theorem kW.sJ (h:kW W k){es:Array oJ}{c:Nat}(g:zw W k es c):False:=by
 obtain⟨_,cs',_,e,_⟩:=h;exact g.rO e rfl
theorem qq.rG {Mu:Nat->Prop}{A:Y5}{c:Nat}{l:Y4}(h:qq W W.heap.size A c l)(q:ze Mu W W')(C:∀k,Mu k->kW W k):qq W' W'.heap.size A c l :=
 q.inB h (λg o e j E=>by
  obtain⟨F,o',i,_,hc⟩:=h.rC j;rw[e] at i;injection i with i
  injection i with e1 e2
  subst e1 e2
  exact(C g E).u8 (hc 0 j))
end
section
variable {W0 W W':World}{K:xH}{p:Nat}{v v':yz}{st last st' last':qm}{under under':Bool}{mk mk':Value}
theorem ve.rG {Mu:Nat->Prop}(h:ve W0 K v W)(i:ze Mu W W')(j:∀k,Mu k->kW W k)(F:∀k,Mu k->W0.heap.size<=k):ve W0 K v W':=by
 have hf:=h.cs.fh
 refine⟨⟨⟨hf.up.trans (i.toBelow hf.up.size F),i.blk hf.fb (λe=>(j _ e).rI hf.fb (by decide))⟩,?_,h.cs.nb,λk u hu hl g o e=>by
  obtain⟨cs,C⟩:=h.cs.ty k u hu hl g o e
  exact⟨cs,i.blk C (λe=>(j _ e).rI C (by decide))⟩⟩,h.ok,h.ro,h.cn⟩
 ·have hc:=h.cs.ca;obtain⟨es,c,A,E,hs⟩:=hc.mp;refine⟨i.blk hc.cb (λe=>(j _ e).rI hc.cb (by decide)),⟨es,c,(i.block _ A.lt (λe=>(j _ e).sJ A)).trans A,E,hs⟩,λk v G => ?_,hc.inj,hc.sf⟩;have q:=hc.rows k v G;exact⟨i.blk q.blk (λe=>(j _ e).rI q.blk (by decide)),q.key,q.rV.rG i j,q.len,q.sH⟩
theorem qv.rG {Mu:Nat->Prop}(h:qv W0 K p v st last under mk W)(c:ze Mu W W')(g:∀k,Mu k->kW W k)(i:∀k,Mu k->W0.heap.size<=k):qv W0 K p v st last under mk W' :=
 ⟨h.ca.rG c g i,c.blk h.pb (λe=>(g _ e).rI h.pb (by decide)),h.np,h.hs,h.hl⟩
theorem Zf.rU {Mu:Nat->Prop}{f:Int->Option Value}{Y:Int->Option Y4}(h:Zf W f Y)(i:ze Mu W W')(C:∀k,Mu k->QS W k):Zf W' f Y:=λk=>by
 rcases h k with h1|⟨A,c,y,h1,h2,e,g⟩
 ·exact .inl h1
 ·exact .inr ⟨A,c,y,h1,h2,e,g.rR (by omega) i (λj q=>(C j q).ca)⟩
theorem Zf.rG {Mu:Nat->Prop}{f:Int->Option Value}{Y:Int->Option Y4}(h:Zf W f Y)(i:ze Mu W W')(j:∀k,Mu k->kW W k):Zf W' f Y:=λk=>by
 rcases h k with h1|⟨A,c,y,h1,h2,e,g⟩
 ·exact .inl h1
 ·exact .inr ⟨A,c,y,h1,h2,e,g.rG i j⟩
theorem jP.lt {M:Nat}{Y:Int->Option Y4}(h:jP W M Y):M<W.heap.size:=by
 obtain⟨es,c,f,h1,_⟩:=h.has;exact h1.lt
theorem jP.rU {Mu:Nat->Prop}{M:Nat}{Y:Int->Option Y4}(h:jP W M Y)(c:ze Mu W W')(q:∀k,Mu k->QS W k)(j:¬ Mu M):jP W' M Y:=by
 obtain⟨es,e,f,h1,h2,g,i⟩:=h.has;exact⟨es,e,f,(c.block M h1.lt j).trans h1,h2,g,i.rU c q⟩
theorem jP.rG {Mu:Nat->Prop}{M:Nat}{Y:Int->Option Y4}(h:jP W M Y)(c:ze Mu W W')(g:∀k,Mu k->kW W k):jP W' M Y:=by
 obtain⟨es,i,f,h1,h2,j,q⟩:=h.has;exact⟨es,i,f,(c.block M h1.lt (λe=>(g M e).sJ h1)).trans h1,h2,j,q.rG c g⟩
theorem jP.grow {M:Nat}{Y:Int->Option Y4}(h:jP W M Y)(hB:ph W.heap.size W W'):jP W' M Y :=
 h.rU (Mu:=λ_=>False) (ze.below hB) (λ_ e=>e.elim) (λe=>e.elim)
structure vK where
 s:qm
 m:Nat
 D:Int->Option Y4
def Xq (x:vK):Y8:=xR x.s++[.map (some x.m)]
def vO (ms:List vK):Y8:=(ms.map Xq).flatten
theorem MI (ms:List vK)(x:vK):vO (ms++[x])=vO ms++Xq x:=by simp[vO]
theorem Qz {x:vK}(h:x.s.roots.length=16):(Xq x).length=20:=by simp[Xq,zp h]
theorem ZS {ms:List vK}(h:∀x∈ms,x.s.roots.length=16):(vO ms).length=ms.length*20:=by
 induction ms with
 | nil=>rfl
 | cons x r ih =>
  have h1:=ih (λy c=>h y (by simp[c]));have h2:=Qz (h x (by simp));have e:vO (x::r)=Xq x++vO r:=rfl;rw[e,zH,h1,h2,zL];omega
theorem IY {ms:List vK}(h:∀x∈ms,x.s.roots.length=16){n:Nat}(hn:n<=ms.length):(vO ms).take (n*20)=vO (ms.take n):=by
 have e:vO ms=vO (ms.take n)++vO (ms.drop n):=by unfold vO;rw[<-yF,<-qW,qJ]
 have hl:(vO (ms.take n)).length=n*20:=by rw[ZS (λx c=>h x (yI c)),zZ];congr 1;omega
 rw[e,<-hl,List.take_left]
theorem IZ {ms:List vK}(h:∀x∈ms,x.s.roots.length=16)(j:Nat)(c:j<ms.length):((vO ms).drop (j*20)).take 20=Xq ms[j]:=by
 have e:vO ms=vO (ms.take j)++(Xq ms[j]++vO (ms.drop (j+1))):=by
  have g:Xq ms[j]++vO (ms.drop (j+1))=vO (ms.drop j):=by rw[qR c];rfl
  rw[g];unfold vO;rw[<-yF,<-qW,qJ]
 have hl:(vO (ms.take j)).length=j*20:=by rw[ZS (λx i=>h x (yI i)),zZ];congr 1;omega
 rw[e,<-hl,List.drop_left];have q:=Qz (h ms[j] (qI c));rw[List.take_append_of_le_length (by omega),qB (by omega)]
theorem Gm (x:vK):∀u∈Xq x,Yn u:=by
 intro u hu;simp only[Xq,xR,zX,qM,qA,qP,dG,or_false] at hu;rcases hu with rfl|rfl|rfl|⟨y,_,rfl⟩|rfl
 ·exact .inl ⟨_,rfl⟩
 ·exact .inl ⟨_,rfl⟩
 ·exact .inl ⟨_,rfl⟩
 ·exact .inl ⟨_,rfl⟩
 ·exact .inr (.inl ⟨_,rfl⟩)
theorem Yn.one {u:Value}(h:Yn u):u.oneCell'=true:=by
 rcases h with⟨n,rfl⟩|⟨m,rfl⟩|⟨_,_,_,rfl⟩<;>rfl
def UX (mk:Value)(k:Nat):Prop:=∃o n c,mk=.slice (some ⟨k,o,none⟩) n c
structure Xu (B:Nat)(W:World)(mk:Value)(ms:List vK):Prop where
 has:∃A c,mk=.slice A ms.length c/\ms.length<=c/\c<=oo/\(A=none->c=0)/\∀a,A=some a->∃(g:Nat) (cur:Y8),a=⟨g,0,none⟩/\B<=g/\za W g 214 cur.toArray/\(∀u∈cur,Yn u)/\c*20<=cur.length/\cur.take (ms.length*20)=vO ms
 sy:∀x∈ms,x.s.roots.length=16
theorem Xu.nil (B:Nat)(W:World):Xu B W (.slice none 0 0) []:=⟨⟨none,0,rfl,zG _,by unfold oo;omega,λ_=>rfl,λa e=>by cases e⟩,λx c=>by cases c⟩
theorem Xu.blk {B:Nat}{ms:List vK}(h:Xu B W mk ms):∀k,UX mk k->kW W k/\B<=k:=λk ⟨o,n,c,e⟩=>by
 obtain⟨A,c',q,_,_,_,E⟩:=h.has;rw[e] at q;injection q with e1 _ _
 obtain⟨g,cur,i,hB,F,hc,_⟩:=E _ e1.symm;injection i with i
 subst i;exact⟨⟨_,cur.toArray,.inl rfl,F,λj x C=>hc x (by rw[qN] at C;exact List.mem_of_getElem? C)⟩,hB⟩
theorem Xu.rE {B:Nat}{ms:List vK}{Mu:Nat->Prop}(h:Xu B W mk ms)(E:ze Mu W W')(hn:∀k,UX mk k->¬ Mu k):Xu B W' mk ms:=by
 obtain⟨A,c,e,h1,h2,q,C⟩:=h.has;refine⟨⟨A,c,e,h1,h2,q,λa j => ?_⟩,h.sy⟩;obtain⟨g,cur,i,hB,F,hc⟩:=C a j;exact⟨g,cur,i,hB,E.blk F (hn g ⟨0,ms.length,c,by rw[e,j,i]⟩),hc⟩
theorem Xu.grow {B:Nat}{ms:List vK}(h:Xu B W mk ms)(hB:ph W.heap.size W W'):Xu B W' mk ms :=
 h.rE (Mu:=λ_=>False) (ze.below hB) (λ_ _ e=>e)
structure tT (K:xH)(D:Int->Option Y4):Prop where
 key:∀k y,D k=some y->0<=k/\k<(K.P:Int)
 sD:(tO K.P D:Int)<=K.room
structure vc (W0:World)(K:xH)(v:yz)(ms:List vK)(mk:Value)(W:World):Prop where
 row:Xu W0.heap.size W mk ms
 maps:∀x∈ms,jP W x.m x.D/\¬ K.mu v x.m/\tT K x.D
theorem vc.nil (W0:World)(K:xH)(v:yz)(W:World):vc W0 K v [] (.slice none 0 0) W:=⟨Xu.nil _ _,λx c=>by cases c⟩
theorem vc.grow {ms:List vK}(h:vc W0 K v ms mk W)(hB:ph W.heap.size W W'):vc W0 K v ms mk W' :=
 ⟨h.row.grow hB,λx c=>⟨(h.maps x c).1.grow hB,(h.maps x c).2⟩⟩
theorem ve.pK (h:ve W0 K v W){k:Nat}(g:kW W k):¬ K.mu v k:=λi=>by
 obtain⟨T,cs,c,e,_⟩:=g;rcases c with rfl|rfl
 all_goals exact yW.rI h.cs.ca e (by decide) (by decide) i
theorem vc.own {ms:List vK}(h:vc W0 K v ms mk W)(c:qv W0 K p v st last under mk' W)(i:ze (λk=>k=p) W W'):vc W0 K v ms mk W' :=
 ⟨h.row.rE i (λk q e=>by subst e;exact(h.row.blk k q).1.rI c.pb (by decide)),λx A=>by
  obtain⟨h1,h2,j⟩:=h.maps x A;refine⟨h1.rU i (λk e=>by subst e;exact c.sm) (λe => ?_),h2,j⟩;obtain⟨es,C,f,g,_⟩:=h1.has;rw[e] at g
  exact g.rO c.pb rfl⟩
theorem vc.take {ms:List vK}(h:vc W0 K v ms mk W){A:Y5}{c n:Nat}(e:mk=.slice A ms.length c)(hn:n<=ms.length):vc W0 K v (ms.take n) (.slice A n n) W:=by
 obtain⟨I,c',q,h1,h2,E,G⟩:=h.row.has;rw[e] at q;injection q with e1 _ i
 subst e1 i;have hl:(ms.take n).length=n:=by simp;omega
 refine⟨⟨⟨A,n,by rw[hl],by omega,by omega,λe=>by have:=E e;omega,λa C => ?_⟩,λx j=>h.row.sy x (yI j)⟩,λx j=>h.maps x (yI j)⟩;obtain⟨g,cur,i,hB,H,hc,L,F⟩:=G a C;refine⟨g,cur,i,hB,H,hc,by omega,?_⟩;rw[hl,<-IY h.row.sy hn,<-F,db];congr 1;omega
end
def Bo:Value:=.agg (xR ⟨0,0,0,zP 16 0⟩++[Value.map none]).toArray
theorem Ao:Zj 126 214 20 160 Bo:=⟨underlying126,by kernel_rfl,by kernel_rfl,by decide⟩
theorem wu (n:Nat):∀u∈(gK Bo.cells n).toList,Yn u:=by
 intro u hu;have hc:∀x∈Bo.cells.toList,Yn x:=by
  intro x g;have e:Bo.cells.toList=zP 19 (.int .i64 0)++[.map none]:=by kernel_rfl
  rw[e,qA,List.mem_replicate,qK] at g;rcases g with⟨_,rfl⟩|rfl
  ·exact .inl ⟨_,rfl⟩
  ·exact .inr (.inl ⟨_,rfl⟩)
 have h:Bo.cells.size=20:=by kernel_rfl
 unfold gK at hu;rw[Array.toList_map,qP] at hu;obtain⟨i,_,rfl⟩:=hu;refine hc _ ?_;have c:i%Bo.cells.size<Bo.cells.size:=Nat.mod_lt _ (by rw[h];omega);rw[getElem!_pos Bo.cells (i%Bo.cells.size) c];exact Array.mem_toList_iff.2 (Array.getElem_mem c)
section
variable {W:World}{mk:Value}{ms:List vK}{B:Nat}
theorem Xu.append (ty:oD)(h:Xu B W mk ms)(hn:ms.length<=1000)(hB:B<=W.heap.size)(x:vK)(hx:x.s.roots.length=16)(q:Nat)(hq:za W q 214 (Xq x).toArray):∃mk' W',(Builtin.append_ #[126,126] ty #[mk,.slice (some ⟨q,0,none⟩) 1 1]).run Y3 W=.ok mk' W'/\Xu B W' mk' (ms++[x])/\ze (UX mk) W W'/\∀k,UX mk' k->UX mk k∨W.heap.size<=k:=by
 obtain⟨i,T,hz,E,aB⟩:=info_parts Ao.inf;have G:(Xq x).length=1*i.size:=by rw[E,Qz hx]
 have L:(vO ms).length=ms.length*i.size:=by rw[E,ZS h.sy]
 have X:∀j u,(Xq x)[j]?=some u->W.cell? (Addr.add ⟨q,0,none⟩ j)=some u:=λj u C=>by rw[dX,hq.cell];simpa using C
 have aE:∀y∈ms++[x],y.s.roots.length=16:=λy I=>by
  rcases qA.1 I with I|I
  ·exact h.sy y I
  ·rw[qK] at I;rw[I];exact hx
 have aA:∀(cs:Y7),ze (UX mk) W (W.drew.alloc (.cells cs 214)):=λcs=>ze.below (((pf _ W).drew).alloc (zG _) _)
 have aD:∀(F:Nat) (z:Y7),ms.length+1<=F->F<=oo->z=gK Bo.cells (F-(ms.length+1)) ->
   (∀u∈vO ms,Yn u)->Xu B (W.drew.alloc (.cells ((vO ms).toArray++(Xq x).toArray++z) 214)) (.slice (some ⟨W.heap.size,0,none⟩) (ms.length+1) F) (ms++[x]):=λF z h1 h2 aG U=>by
  refine⟨⟨some ⟨W.heap.size,0,none⟩,F,by simp,by simp;omega,h2,(λe=>by cases e),λa e => ?_⟩,aE⟩;injection e with e
  refine⟨W.heap.size,vO ms++Xq x++z.toList,e.symm,hB,?_,λu hu => ?_,?_,?_⟩
  ·have:=za.new W.drew 214 ((vO ms).toArray++(Xq x).toArray++z);have e2:(vO ms++Xq x++z.toList).toArray=(vO ms).toArray++(Xq x).toArray++z:=by simp
   rw[e2];exact this
  ·rcases qA.1 hu with hu|hu
   ·rcases qA.1 hu with hu|hu
    ·exact U u hu
    ·exact Gm x u hu
   ·rw[aG] at hu;exact wu _ u hu
  ·have hzl:z.toList.length=(F-(ms.length+1))*20:=by rw[zW,aG,size_zeroCells];rfl
   rw[zH,zH,L,G,hzl,E];omega
  ·rw[MI];have M:(ms++[x]).length*20=(vO ms++Xq x).length:=by rw[show (vO ms++Xq x).length=(vO ms).length+(Xq x).length from zH,L,G,E];simp;omega
   rw[M,List.take_left]
 obtain⟨A,c,rfl,aN,aJ,aK,hA⟩:=h.has;cases A with
 | none =>
  obtain rfl:=aK rfl;have h0:ms=[]:=qF (by omega);subst h0;have H:=run_append_nil (P:=Y3) W 126 ty 214 i _ Ao.rX T hz ⟨q,0,none⟩ 1 1 (Xq x) G X (by omega) (by omega) (by rw[aB];omega);have S:=grownCap_ge W 1 0 214;have Q:=grownCap_le_maxLen W 1 0 214 (by unfold oo;omega);refine⟨_,_,H,?_,aA _,λk ⟨o,n,c,e⟩ => ?_⟩
  ·have:=aD (grownCap W 1 0 214) _ S Q rfl (λu hu=>by cases hu);simpa[vO] using this
  ·injection e with e1 _ _
   injection e1 with e1
   injection e1 with e1
   exact .inr (by omega)
 | some a =>
  obtain⟨g,cur,rfl,aH,N,O,aM,Z⟩:=hA a rfl;have U:∀u∈vO ms,Yn u:=λu hu=>O u (by rw[<-Z] at hu;exact yI hu)
  have holds:∀j u,(vO ms)[j]?=some u->W.cell? ⟨g,0+j,none⟩=some u:=λj u C=>by rw[N.cell,qC,qN];rw[<-Z] at C;have aI:=(qQ.1 C).1;rw[List.getElem?_take_of_lt (by simp at aI;omega)] at C;exact C
  by_cases aL:ms.length+1<=c
  ·have aC:ms.length*20+(Xq x).length<=cur.length:=by rw[G,E];omega
   have aF:=Zy (o:=ms.length*20) (n:=(Xq x).length) N (by simpa using aC);have H:=run_append_room_cells (P:=Y3) W 126 ty 214 i Ao.rX T g 0 ms.length c ⟨q,0,none⟩ 1 1 (Xq x) G X (λu hu=>(Gm x u hu).one) aL
    (λj C=>by rw[E,qC];exact(aF j C).1) (λj C=>by rw[E,qC];exact(aF j C).2)
   rw[E,qC] at H;refine⟨_,_,H,⟨⟨some ⟨g,0,none⟩,c,by simp,by simp;omega,aJ,(λe=>by cases e),λa e => ?_⟩,aE⟩,jG ⟨0,_,_,rfl⟩ _ _ _,λk ⟨o,n,c',e⟩ => ?_⟩
   ·injection e with e
    refine⟨g,_,e.symm,aH,Qc _ _ _ _ N aC,λu hu => ?_,?_,?_⟩
    ·rcases qA.1 hu with hu|hu
     ·rcases qA.1 hu with hu|hu
      ·exact O u (yI hu)
      ·exact Gm x u hu
     ·exact O u (qV hu)
    ·simp only[zH,zZ,qD];omega
    ·rw[MI,Z];have M:(ms++[x]).length*20=(vO ms++Xq x).length:=by rw[show (vO ms++Xq x).length=(vO ms).length+(Xq x).length from zH,L,G,E];simp;omega
     rw[M,List.take_left]
   ·left;injection e with e1 _ _
    injection e1 with e1
    injection e1 with e1
    exact⟨0,ms.length,c,by rw[e1]⟩
  ·have H:=run_append_grow (P:=Y3) W 126 ty 214 i _ Ao.rX T hz ⟨g,0,none⟩ ms.length c (vO ms) L (λj u C=>by rw[dX];exact holds j u C) ⟨q,0,none⟩ 1 1 (Xq x) G X (by omega) (by omega) (growslice_fits (by omega) (by rw[aB];omega));have S:=grownCap_ge W (ms.length+1) c 214;have Q:=grownCap_le_maxLen W (ms.length+1) c 214 (by unfold oo;omega);refine⟨_,_,H,aD _ _ S Q rfl U,aA _,λk ⟨o,n,c,e⟩ => ?_⟩;injection e with e1 _ _
   injection e1 with e1
   injection e1 with e1
   exact .inr (by omega)
end
def Kl:List Xv->Int
 | []=>0
 | x::xs=>if x.b then x.er else Kl xs
theorem EC:∀(l:List Xv) (k:Nat) (e:k<l.length),l[k].b=true->(∀j (c:j<l.length),j<k->l[j].b=false)->Kl l=l[k].er
 | x::l,0,_,h,_=>by
  have h:x.b=true:=h;show (if x.b then x.er else Kl l)=x.er
  rw[h];rfl
 | x::l,k+1,e,h,hf=>by
  have g:x.b=false:=hf 0 (by simp) (by omega);show (if x.b then x.er else Kl l)=_
  rw[g];exact EC l k (by simpa using e) h (λj c i=>hf (j+1) (by simpa using c) (by omega))
theorem MY:∀(l:List Xv),(∀x∈l,x.b=false)->Kl l=0
 | [],_=>rfl
 | x::l,h=>by
  show (if x.b then x.er else Kl l)=0
  rw[h x (by simp)];exact MY l (λy c=>h y (by simp[c]))
theorem uY:Zj 208 156 2 16 (.agg #[.nilFunc,.int .i64 0]):=⟨underlying208,by kernel_rfl,by kernel_rfl,by decide⟩
theorem Da (l:List Xv):(yd l).length=l.length*2:=by
 induction l with
 | nil=>rfl
 | cons x l ih =>
  have e:yd (x::l)=JK x++yd l:=rfl;rw[e,zH,ih,zL];show 2+l.length*2=_
  omega
theorem IN {l:List Xv}{k:Nat}(h:k<l.length):(yd l)[k*2+1]?=some (.int .i64 l[k].er):=by
 have e:=ZN l k h;have c:(((yd l).drop (k*2)).take 2)[1]?=(JK l[k])[1]?:=by rw[e]
 rw[yH,if_pos (by omega),List.getElem?_drop] at c;exact c
theorem RN (w:World)(P:Y5)(n0 b u:Bool)(hn:Xw w 73 #[.pointer P] n0)(hu:n0=false->∃p,P=some ⟨p,0,none⟩/\w.cell? ⟨p,39,none⟩=some (.bool b)/\p<w.heap.size)(A:Y5)(c:Nat)(xs:List Xv)(h:yp w w.heap.size 2 A xs.length c (yd xs))(hl:xs.length<=900)(ha:n0=false->∀x∈xs,yl w x):pr Y3 72 #[.pointer P,.bool u,.slice A xs.length c] w λe w'=>e=Y0 (.int .i64 (if n0 then 1 else if b != u then 191 else Kl xs))/\ph w.heap.size w w':=by
 obtain⟨W0,G⟩:=Z9 ((w.alloc (.cells #[.pointer P] 45)).alloc (.cells #[.bool u] 4));have E:ph w.heap.size w W0:=by rw[G];exact((pf _ w).alloc (zG _) _).alloc (by simp) _
 have s0:W0.heap.size=w.heap.size+1+1:=by rw[G];simp
 have Z:za W0 w.heap.size 45 #[.pointer P]:=by rw[G];exact(za.new w _ _).alloc _
 have b1:za W0 (w.heap.size+1) 4 #[.bool u]:=by have:=za.new (w.alloc (.cells #[.pointer P] 45)) 4 #[.bool u];rw[pq] at this;rw[G];exact this
 obtain⟨own,C⟩:∃own:List Xv,own=[⟨.func (.func 73) #[.pointer P] #[],1,n0⟩,⟨.func (.func 123) #[] #[.pointer (some ⟨w.heap.size,0,none⟩),.pointer (some ⟨w.heap.size+1,0,none⟩)],191,b != u⟩]:=⟨_,rfl⟩;have hE:Kl (own++xs)=if n0 then 1 else if b != u then 191 else Kl xs:=by rw[C];rfl
 generalize (if n0 then 1 else if b != u then 191 else Kl xs)=R at *;have L:own.length=2:=by rw[C];rfl
 have aF:∀W,ph W0.heap.size W0 W->∀k (q:k<(own++xs).length),(∀j (hj:j<(own++xs).length),j<k->(own++xs)[j].b=false)->yl W (own++xs)[k]:=λW hW k q hf=>by
  refine yl.later ?_ hW
  match k,q,hf with
  | 0,q,_ =>
   have e:(own++xs)[0]=⟨.func (.func 73) #[.pointer P] #[],1,n0⟩:=by simp[C]
   rw[e];exact FL 1 (hn.later E)
  | 1,q,hf =>
   have e:(own++xs)[1]=⟨.func (.func 123) #[] #[.pointer (some ⟨w.heap.size,0,none⟩),.pointer (some ⟨w.heap.size+1,0,none⟩)],191,b != u⟩:=by simp[C]
   have e0:(own++xs)[0].b=n0:=by simp[C]
   obtain⟨p,rfl,aQ,hp⟩:=hu (e0▸hf 0 (by simp[L];omega) (by omega));rw[e];exact yl.two 191 (Bg ((Z.cell 0).trans rfl) ((b1.cell 0).trans rfl) ((E.cell (p:=⟨p,39,none⟩) hp).trans aQ) Z.lt b1.lt (by omega))
  | k+2,q,hf =>
   have aH:k<xs.length:=by simp[L] at q;omega
   have e:(own++xs)[k+2]=xs[k]:=by rw[List.getElem_append_right (by omega)];simp[L]
   have e0:(own++xs)[0].b=n0:=by simp[C]
   rw[e];exact yl.later (ha (e0▸hf 0 (by simp[L];omega) (by omega)) _ (qI aH)) E
 have aK:=(h.below E).more E.size;have aG:yd (own++xs)=yd own++yd xs:=by simp[yd]
 have Q:yd own=[.func (.func 73) #[.pointer P] #[],.int .i64 1,.func (.func 123) #[] #[.pointer (some ⟨w.heap.size,0,none⟩),.pointer (some ⟨w.heap.size+1,0,none⟩)],.int .i64 191]:=by rw[C];rfl
 have aJ:∀v∈yd own++yd xs,v.oneCell'=true:=λv i=>by
  rcases qA.1 i with i|i
  ·rw[Q] at i;simp only[qM,dG,or_false] at i;rcases i with rfl|rfl|rfl|rfl<;>rfl
  ·exact h.one v i
 obtain⟨N,aB,H,-⟩:=YK W0 156 #[.func (.func 73) #[.pointer P] #[],.int .i64 1,.func (.func 123) #[] #[.pointer (some ⟨w.heap.size,0,none⟩),.pointer (some ⟨w.heap.size+1,0,none⟩)],.int .i64 191];have aD:=(aK.below H).more H.size;have T:N.ownsRow W0.heap.size 156 2 (.slice (some ⟨w.heap.size+1+1,0,none⟩) 2 2) 2 (yd own):=by refine⟨by rw[Q];rfl,.inr ⟨w.heap.size+1+1,2,#[.func (.func 73) #[.pointer P] #[],.int .i64 1,.func (.func 123) #[] #[.pointer (some ⟨w.heap.size,0,none⟩),.pointer (some ⟨w.heap.size+1,0,none⟩)],.int .i64 191],rfl,by omega,?_,zG _,by decide,rfl,by rw[Q];rfl⟩⟩;rw[aB,<-s0];exact nO W0 _
 have aN:Hid (((w.alloc (.cells #[.pointer P] 45)).alloc (.cells #[.bool u] 4)).alloc (.cells #[.func (.func 73) #[.pointer P] #[],.int .i64 1,.func (.func 123) #[] #[.pointer (some ⟨w.heap.size,0,none⟩),.pointer (some ⟨w.heap.size+1,0,none⟩)],.int .i64 191] 156)=N):=pk (by rw[aB,G]);have aR:W0.heap.size<=N.heap.size:=H.size;have aL:=pk aF;have HE:=pk hE;have aE:=pk aG;have aM:=pk aJ;have aO:(2+xs.length)*16<=140737488355328:=by omega
 have aP:2+xs.length<=oo:=by unfold oo;omega
 have aI:(own++xs).length=2+xs.length:=by rw[zH,L]
 clear aB aF hE aG Q aJ C hu hn ha h G Z b1 aK
 go_enter func72,ntmps72
 go_wp2_with (first
  | (at_builtin;rw[aN.out];refine xy rfl uY (.tmp 14) (.tmp 15) rfl W0.heap.size (.slice (some ⟨w.heap.size+1+1,0,none⟩) 2 2) 2 (yd own) rfl T N.heap.size A xs.length c (yd xs) rfl aD aP aO aR ?_;intro v2 W2 own2 aC)
  )
 obtain⟨U,c2,rfl,S⟩:=qn own2 aM.out;have O:ph W0.heap.size W0 W2:=H.grown aC H.size (λk q=>(mH T k q).1);have M:=RI W2 U c2 (own++xs) (by rw[aI,aE.out];exact S) (by omega) (λk q hf=>aL.out W2 O k q hf);have e2:(#[.slice U (own++xs).length c2,.func (.func 125) #[] #[]]:Y7)=#[.slice U (2+xs.length) c2,.func (.func 125) #[] #[]]:=by rw[aI]
 rw[e2] at M;clear e2;have F:ph w.heap.size w W2:=E.trans (O.mono E.size);refine M.mono ?_;rintro e W3 ⟨I,⟨k,q,rfl,hb,hf⟩|⟨rfl,hf⟩⟩
 ·have i:=EC (own++xs) k q hb hf;rw[HE.out] at i;obtain⟨g,o,rfl,hg,hr⟩:=S.rC (by omega);have aS:W3.cell? ⟨g,o+k*2+1,none⟩=some (.int .i64 (own++xs)[k].er):=by rw[dq];exact(I.cell (p:=⟨g,o+(k*2+1),none⟩) hg).trans (hr (k*2+1) _ (by rw[<-aE.out];exact IN q))
  have aA:ph w.heap.size w W3:=F.trans (I.mono F.size);generalize (own++xs)[k].er=er at *;have X:=pk i;have aH:k<2+xs.length:=by omega
  clear i hb hf hr S M own2 aC T aD I O F q;go_wp2;go_ret;exact⟨by rw[X.out];rfl,aA⟩
 ·have i:=MY (own++xs) hf;rw[HE.out] at i;have aA:ph w.heap.size w W3:=F.trans (I.mono F.size);have X:=pk i;clear i hf S M own2 aC T aD I O F;go_wp2;go_ret;exact⟨by rw[X.out];rfl,aA⟩
end
end Go.Proofs.YtohmkffoojdahaaGreat
