/- Texts that the proof of WalkRanges leans on, part 6. -/
import Derived.Recover
import Derived.Deep.RegionLaw
import Derived.Deep.Upon
import Derived.Lib.Overlaps
import Derived.Test.YtohmkffoojdahaaGreatWalkRangesB5
open List renaming replicate->zP
set_option linter.unusedVariables false
set_option linter.unusedSimpArgs false
set_option maxRecDepth 100000
set_option maxHeartbeats 8000000

open ByteArray renaming empty->nX
open Go renaming Calls->nK,Addr->nN,Operand->nO,execOp->nQ,TypeId->nS,maxLen->gP,Ending->mH,results->lh
open Go.Act renaming put->nJ
open Go.Builtin renaming copy_->gw,zeroCells->la
open Go.Deferred renaming ofValue->lP
open Go.Result renaming andThen->nM
open Go.RowKit renaming Below->nH
open Go.Value renaming slice->mN
open Go.World renaming setRow->gM,setCell->gT
open Go.Proofs.Tryz renaming prog->Y3
open Go.Proofs.Tryz
open Go.Value renaming int->Y1,pointer->Y9,slice->X1,bool->X3,string->X9,agg->Q0,tuple->Q2
open Go.IntKind renaming i64->Q4,u8->Q5
open Go.Obj renaming cells->Q9
open Option renaming none->K3,some->K4
namespace Go.Proofs.YtohmkffoojdahaaGreat
section
open Go Go.RowKit xq
theorem QL (p f:Value)(w:World):CallsD Y3 149 #[p,f] .returning w λe d w'=>e=Y0 (Q2 #[])/\d=.returning/\w'=w:=by
 refine callsD_of_wpS func149 rfl λc cs hu => ?_
 apply wpS_seq;apply wpS_region;simp[wpOpsS,go_sem,recoverD,hu,ntmps149,Exit.thenS];apply wpS_seq;apply wpS_region;simp[wpOpsS,go_sem,Exit.thenS];refine wpS_cond (t:=false) (by simp[Act.eval,Array.replicate]) ?_;simp only[nV,if_false];refine wpS_of_wp (wp_skip ?_);cases c
 simp_all [bodyPostS,lh,Tryz.results149]
theorem Pq (w:World)(x:ym)(Ac:Y5)(cc:Nat)(Ak:Y5)(ck:Nat)(Ai:Y5)(ci:Nat)(h:XX w w.heap.size x Ac cc Ak ck Ai ci)(hl:x.cells.length<=1000)(H:x.keys.length<=1000)(I:x.kids.length<=1001)(F:yh x):nK Y3 136 #[Q0 (zx x Ac cc Ak ck Ai ci)] w λe w'=>e=Y0 (Q2 #[Y1 Q4 ((qg x).length:Int),Y1 Q4 0])/\nH w.heap.size w w':=by
 have A:∀W,nH w.heap.size w W->nK Y3 151 #[Q0 (zx x Ac cc Ak ck Ai ci)] W (yV W (qg x)):=λW G=>Yd W x Ac cc Ak ck Ai ci (h.grow G) hl H I F
 generalize qg x=lb at *;have u:=za.new w 69 (zx x Ac cc Ak ck Ai ci);unfold zx at *;obtain⟨W1,c⟩:=Z9 (((w.alloc (Q9 #[X3 x.leaf,X1 Ac x.cells.length cc,X1 Ak x.keys.length ck,X1 Ai x.kids.length ci] 69)).alloc (Q9 #[Y1 Q4 0] 3)).alloc (Q9 #[Y1 Q4 0] 27));have b1:za W1 w.heap.size 69 #[X3 x.leaf,X1 Ac x.cells.length cc,X1 Ak x.keys.length ck,X1 Ai x.kids.length ci]:=by rw[c];exact(u.alloc _).alloc _
 have b2:za W1 (w.heap.size+1) 3 #[Y1 Q4 0]:=by have:=za.new (w.alloc (Q9 #[X3 x.leaf,X1 Ac x.cells.length cc,X1 Ak x.keys.length ck,X1 Ai x.kids.length ci] 69)) 3 #[Y1 Q4 0];rw[nG] at this;rw[c];exact this.alloc _
 have b3:za W1 (w.heap.size+1+1) 27 #[Y1 Q4 0]:=by have:=za.new ((w.alloc (Q9 #[X3 x.leaf,X1 Ac x.cells.length cc,X1 Ak x.keys.length ck,X1 Ai x.kids.length ci] 69)).alloc (Q9 #[Y1 Q4 0] 3)) 27 #[Y1 Q4 0];rw[nG,nG] at this;rw[c];exact this
 have k:nH w.heap.size w W1:=by rw[c];exact(((nF _ w).alloc (zG _) _).alloc K9 _).alloc (by simp;omega) _
 have C:=nI c;clear c u
 go_enter_defers func136,ntmps136
 go_wp2_with (first
  |(rw[<-C.out];refine yp zm b1 ?_)
  |(go_at_call 151;refine(A _ k).mono ?_;rintro e d ⟨v,rfl,own,r⟩;obtain⟨M,c2,rfl,P⟩:=own.inB;have g:=b2.below r b2.lt;have j:=b3.below r b3.lt;have k2:=g.boxed;have k3:=j.boxed;have N:=g.free 0;have O:=j.free 0))
 refine leaves_cons (f:=149) (args:=#[Y9 (w.heap.size+1+1:Nat),.func (.func 206) #[] #[Y9 (w.heap.size+1:Nat)]]) K9 (by simp[go_sem]) ?_;refine(QL _ _ _).mono ?_;rintro e U X ⟨rfl,rfl,rfl⟩;have q2:((d.setCell (w.heap.size+1:Nat) (Y1 Q4 (lb.length:Int))).setCell (w.heap.size+1+1:Nat) (Y1 Q4 0)).cell? (w.heap.size+1:Nat)=K4 (Y1 Q4 (lb.length:Int)):=((g.set 0 _).other (p:=⟨w.heap.size+1+1,0,K3⟩) K9 _).boxed;have L:((d.setCell (w.heap.size+1:Nat) (Y1 Q4 (lb.length:Int))).setCell (w.heap.size+1+1:Nat) (Y1 Q4 0)).cell? (w.heap.size+1+1:Nat)=K4 (Y1 Q4 0):=((j.other (p:=⟨w.heap.size+1,0,K3⟩) K9 _).set 0 _).boxed;have E:nH w.heap.size w ((d.setCell (w.heap.size+1:Nat) (Y1 Q4 (lb.length:Int))).setCell (w.heap.size+1+1:Nat) (Y1 Q4 0)):=((k.trans (r.mono k.size)).setCell K9 _).setCell (by simp;omega) _;generalize (d.setCell (w.heap.size+1:Nat) (Y1 Q4 (lb.length:Int))).setCell (w.heap.size+1+1:Nat) (Y1 Q4 0)=V at *;simp[Leaves,settle,lh,Tryz.results136,go_sem,q2,L];exact E
theorem wk (w:World)(n:Nat)(hn:n<=1000000):(Instr.makeSlice 129 (Y1 Q4 (n:Int)) (Y1 Q4 (n:Int))).run Y3 w=.ok (X1 w.heap.size n n) (w.alloc (Q9 ((zP n (0:UInt8)).map b8).toArray 5)):=by
 have h:=run_make_row' (P:=Y3) 129 5 (Y1 Q5 0) 1 underlying129 Yy rfl .i64 .i64 n K5 K5 w;have e:madeCells #[Value.int .u8 0] n=((zP n (0:UInt8)).map b8).toArray:=by apply Array.toList_inj.1;rw[toList_madeCells_one];simp[b8]
 rw[e] at h;exact h
theorem Hh {w:World}{base r:Nat}{v:Value}{l:Y4}(h:yY w base v l)(d:r<base)(i:Nat)(u:Value):yY (w.setCell ⟨r,i,K3⟩ u) base v l :=
 World.ownsRow.kept h (jA w r i u) (by
  cases c:v.ownBlock with
  | none=>exact .inl rfl
  | some b=>exact .inr (λe=>by injection e with e;have:=h.oh b c;omega))
def SL (w:World)(lb:Y4)(e:mH)(w':World):Prop:=∃A c,e=Y0 (Q2 #[X1 A 512 c,Y1 Q4 0])/\qv w' w'.heap.size A c (lb++zP (512-lb.length) 0)/\nH w.heap.size w w'
theorem RB (w:World)(x:ym)(Ac:Y5)(cc:Nat)(Ak:Y5)(ck:Nat)(Ai:Y5)(ci:Nat)(h:XX w w.heap.size x Ac cc Ak ck Ai ci)(hl:x.cells.length<=1000)(aP:x.keys.length<=1000)(aQ:x.kids.length<=1001)(hR:yh x)(aV:(qg x).length<=512):nK Y3 90 #[Q0 (zx x Ac cc Ak ck Ai ci)] w (SL w (qg x)):=by
 have HL:∀W,nH w.heap.size w W->nK Y3 151 #[Q0 (zx x Ac cc Ak ck Ai ci)] W (yV W (qg x)):=λW E=>Yd W x Ac cc Ak ck Ai ci (h.grow E) hl aP aQ hR
 generalize qg x=lb at *;have b0:=za.new w 69 (zx x Ac cc Ak ck Ai ci);unfold zx at *;obtain⟨W1,r⟩:=Z9 (((w.alloc (Q9 #[X3 x.leaf,X1 Ac x.cells.length cc,X1 Ak x.keys.length ck,X1 Ai x.kids.length ci] 69)).alloc (Q9 #[X1 none 0 0] 129)).alloc (Q9 #[Y1 Q4 0] 27));have b1:za W1 w.heap.size 69 #[X3 x.leaf,X1 Ac x.cells.length cc,X1 Ak x.keys.length ck,X1 Ai x.kids.length ci]:=by rw[r];exact(b0.alloc _).alloc _
 have b2:za W1 (w.heap.size+1) 129 #[X1 none 0 0]:=by have:=za.new (w.alloc (Q9 #[X3 x.leaf,X1 Ac x.cells.length cc,X1 Ak x.keys.length ck,X1 Ai x.kids.length ci] 69)) 129 #[X1 none 0 0];rw[nG] at this;rw[r];exact this.alloc _
 have b3:za W1 (w.heap.size+1+1) 27 #[Y1 Q4 0]:=by have:=za.new ((w.alloc (Q9 #[X3 x.leaf,X1 Ac x.cells.length cc,X1 Ak x.keys.length ck,X1 Ai x.kids.length ci] 69)).alloc (Q9 #[X1 none 0 0] 129)) 27 #[Y1 Q4 0];rw[nG,nG] at this;rw[r];exact this
 have N:nH w.heap.size w W1:=by rw[r];exact(((nF _ w).alloc (zG _) _).alloc K9 _).alloc (by simp;omega) _
 have aB:=nI r;clear r b0
 go_enter_defers func90,ntmps90
 have aR:(lb.length:Int)<=512:=K5
 have aS:IntKind.i64.wrap (512-(lb.length:Int))=((512-lb.length:Nat):Int):=by rw[xX _];omega
 go_wp2_with (first
  |(rw[<-aB.out];refine yp zm b1 ?_)
  |(go_at_call 151;refine(HL _ N).mono ?_;rintro e w2 ⟨v,rfl,own,O⟩;obtain⟨c,c2,rfl,aW⟩:=own.inB;have I:=b2.below O b2.lt;have L:=b3.below O b3.lt;have k2:=I.boxed;have k3:=L.boxed;have f2:=I.free 0;have f3:=L.free 0)
  |(go_at_call 152;refine(GN _ _).mono ?_;rintro e w7 ⟨⟨v7,rfl⟩,rfl⟩))
 have aX:W1.heap.size=w.heap.size+3:=by rw[aB.out,nG,nG,nG]
 have aK:=N.trans (O.mono N.size);have own2:yY (w2.setCell (w.heap.size+1:Nat) (X1 c lb.length c2)) W1.heap.size (X1 c lb.length c2) lb :=
  Hh own K5 0 _
 have G:=I.set 0 (X1 c lb.length c2);have v3:=L.other (p:=⟨w.heap.size+1,0,K3⟩) K9 (X1 c lb.length c2);have aC:nH w.heap.size w (w2.setCell (w.heap.size+1:Nat) (X1 c lb.length c2)):=aK.setCell K9 _;generalize w2.setCell (w.heap.size+1:Nat) (X1 c lb.length c2)=V at *;obtain⟨aU,aI,aJ,aO⟩:=own2.inB;injection aJ with e21 e22 e23
 subst e21 e23;obtain⟨m,X⟩:=Z9 (512-lb.length);rw[<-X] at aS;have A:∀W,nH V.heap.size V W->W.cell? (w.heap.size+1:Nat)=some (X1 c lb.length c2)/\W.cell? (w.heap.size+1+1:Nat)=K4 (Y1 Q4 0)/\W.frozen? (w.heap.size+1:Nat)=false/\W.frozen? (w.heap.size+1+1:Nat)=false:=λW E=>by have x2:=G.below E G.lt;have x3:=v3.below E v3.lt;exact⟨by rw[x2.cell];rfl,by rw[x3.cell];rfl,x2.free 0,x3.free 0⟩
 have U:nH V.heap.size V V.drew:=(nF _ V).drew;have qd:=A _ U;obtain⟨W5,u⟩:=Z9 (V.drew.alloc (Q9 ((zP m (0:UInt8)).map b8).toArray 5));have P:nH V.heap.size V W5:=by rw[u];exact U.alloc U.size _
 have q5:=A _ P;have aE:qv W5 W5.heap.size (K4 ⟨V.heap.size,0,K3⟩) (zP m (0:UInt8)).length (zP m (0:UInt8)):=by have h:=(za.new V.drew 5 ((zP m (0:UInt8)).map b8).toArray).inB (l:=zP m (0:UInt8)) W5.heap.size (by rw[u,nG];exact Nat.lt_succ_self _) (by simp;omega);rw[<-u] at h;exact h
 have H:=Hu (aO.drew) aE (by rw[u];exact(nF _ V.drew).alloc (zG _) _) (show [lb,zP m (0:UInt8)].flatten=lb++zP m 0 by simp) (by simp;omega);rw[mO] at H aE;have aD:(lb++zP m (0:UInt8)).length=512:=by rw[zH,mO];omega
 have aH:Hid (lb++zP (512-lb.length) (0:UInt8)=lb++zP m (0:UInt8)):=nI (by rw[<-X]);generalize lb++zP m (0:UInt8)=full at *;have aF:=wk V.drew m K5;rw[<-u] at aF;have aA:V.drew.heap.size=V.heap.size:=rfl;rw[aA] at aF;have aG:=nI aD;have j:=P.alloc P.size (Q9 #[X1 c lb.length c2,X1 V.heap.size m m] 129);have q6:=A _ j;clear u X aA aD;obtain⟨d1,d2,d3,d4⟩:=qd;obtain⟨c1,aI,c3,c4⟩:=q5;obtain⟨r1,r2,r3,r4⟩:=q6;refine wp_region_noPanic ?_
 go_region_law (first
  |(go_at_call 153;refine H.mono ?_;rintro e k ⟨v7,rfl,F,C⟩;obtain⟨y1,y2,y3,y4⟩:=A _ (j.trans (C.mono j.size));obtain⟨d,g,rfl,aM⟩:=F.inB)
  |(go_simp;go_at_call 153;refine H.mono ?_;rintro e k ⟨v7,rfl,F,C⟩;obtain⟨y1,y2,y3,y4⟩:=A _ (j.trans (C.mono j.size));obtain⟨d,g,rfl,aM⟩:=F.inB))
 all_goals
  refine el ?_;go_wp2;refine leaves_cons (f:=149) (args:=#[Y9 (w.heap.size+1+1:Nat),.func (.func 150) #[] #[Y9 (w.heap.size+1:Nat)]]) K9 (by simp[go_sem]) ?_;refine(QL _ _ _).mono ?_;rintro e u' aY ⟨rfl,rfl,rfl⟩;have M:=j.trans (C.mono j.size);have z2:=G.below M G.lt;have z3:=v3.below M v3.lt;have q2:((k.setCell (w.heap.size+1:Nat) (X1 d full.length g)).setCell (w.heap.size+1+1:Nat) (Y1 Q4 0)).cell? (w.heap.size+1:Nat)=some (X1 d full.length g):=((z2.set 0 _).other (p:=⟨w.heap.size+1+1,0,K3⟩) K9 _).boxed;have q3:((k.setCell (w.heap.size+1:Nat) (X1 d full.length g)).setCell (w.heap.size+1+1:Nat) (Y1 Q4 0)).cell? (w.heap.size+1+1:Nat)=K4 (Y1 Q4 0):=((z3.other (p:=⟨w.heap.size+1,0,K3⟩) K9 _).set 0 _).boxed;have aR:W1.heap.size<=V.heap.size:=by have:=v3.lt;omega
  have aA:V.heap.size<=(W5.alloc (Q9 #[X1 c lb.length c2,X1 V.heap.size m m] 129)).heap.size:=j.size;have aT:yY ((k.setCell (w.heap.size+1:Nat) (X1 d full.length g)).setCell (w.heap.size+1+1:Nat) (Y1 Q4 0)) (W5.alloc (Q9 #[X1 c lb.length c2,X1 V.heap.size m m] 129)).heap.size (X1 d full.length g) full :=
   Hh (Hh F K5 0 _) K5 0 _
  have aL:nH w.heap.size w ((k.setCell (w.heap.size+1:Nat) (X1 d full.length g)).setCell (w.heap.size+1+1:Nat) (Y1 Q4 0)):=((aC.trans (M.mono aC.size)).setCell K9 _).setCell (by simp;omega) _;obtain⟨A9,c9,e9,aN⟩:=aT.inB;injection e9 with e91 e92 e93
  subst e91 e93;generalize (k.setCell (w.heap.size+1:Nat) (X1 d full.length g)).setCell (w.heap.size+1+1:Nat) (Y1 Q4 0)=Z at *;simp[Leaves,settle,lh,Tryz.results90,go_sem,q2,q3];rw[aG.out];exact⟨d,g,rfl,by rw[aH.out];exact aN,aL⟩
def PR (e:Int)(r:Bool):PanicEntry:={v:=.iface 27 (Y1 Q4 e),recovered:=r}
theorem uU (w:World)(e:Int):nK Y3 152 #[X3 false,Y1 Q4 e] w λc w'=>c=.panicked [PR e false]/\w=w':=by
 go_enter func152,ntmps152
 go_wp2;exact⟨rfl,rfl,rfl⟩
@[local go_sem] theorem Db (v:Value) (w:World):(Instr.typeAssert (.iface 27 v) 20 27 false).run Y3 w=.ok v w:=by kernel_rfl

theorem Qk {w w':World}(h:nH w.heap.size w w')(r:Nat):w.grownBy w' (some r):=⟨h.os,h.tape,h.output,h.size,λk c _=>h.block k c⟩
theorem jL {a b c:World}{row:Option Nat}(h1:a.grownBy b row)(h2:b.grownBy c row):a.grownBy c row :=
 ⟨h2.os.trans h1.os,h2.tape.trans h1.tape,h2.output.trans h1.output,zT h1.size h2.size,λk d f=>(h2.block k (zO d h1.size) f).trans (h1.block k d f)⟩
theorem yt (w:World)(b:Bool)(n:Int):nK Y3 152 #[X3 b,Y1 Q4 n] w λe w'=>w=w'/\(b=true->∃v,e=Y0 v)/\(b=false->e=.panicked [PR n false]):=by
 cases b with
 | true=>exact(GN w n).mono λe w' h=>⟨h.2,λ_=>h.1,(λe=>by cases e)⟩
 | false=>exact(uU w n).mono λe w' h=>⟨h.2,(λe=>by cases e),λ_=>h.1⟩
def jS (w:World)(q B:Nat)(l:Y4):Prop:=∃A c,za w q 298 #[X1 A l.length c]/\qv w B A c l
theorem qv.rest {w:World}{B g o c:Nat}{l:Y4}(h:qv w B (K4 ⟨g,o,K3⟩) c l)(k:Nat)(u:k<l.length):qv w B (K4 ⟨g,o+k,K3⟩) (l.length-k) (l.drop k):=by
 have h1:=h.le;have h2:=h.max;refine⟨by rw[qF];exact zG _,by omega,(λe=>by cases e),λ_ => ?_⟩;obtain⟨r,o',e,d,hc⟩:=h.pO K5;injection e with e
 injection e with e1 e2
 subst e1 e2;refine⟨g,o+k,rfl,d,λj f => ?_⟩;rw[qF] at f;rw[mg,hc (k+j) K5,List.getElem_drop]
theorem MU {w:World}{B g o:Nat}:qv w B (K4 ⟨g,o,K3⟩) 0 []:=⟨zG _,by omega,(λe=>by cases e),λh=>by cases h⟩
theorem Au (w:World)(q:Nat)(k e:Int)(f:¬ e=0):nK Y3 314 #[Y9 q,Y1 Q4 k,Y1 Q4 e] w λc w'=>c=.panicked [PR 220 false]/\w=w':=by
 go_enter func314,ntmps314
 go_wp2_with (go_at_call 152;refine(yt _ _ _).mono ?_;rintro e g ⟨rfl,d⟩;obtain rfl:=d.2 (by simp[f]))
 exact⟨rfl,rfl,rfl⟩
theorem Ar (w:World)(q B:Nat)(l:Y4)(h:jS w q B l)(hq:B<=q)(k:Nat)(P:k<=l.length)(hl:0<l.length):nK Y3 314 #[Y9 q,Y1 Q4 (k:Int),Y1 Q4 0] w λF w'=>(∃v,F=.returned v)/\jS w' q B (l.drop k)/\w.grownBy w' (some q):=by
 obtain⟨A,c,u,r⟩:=h;obtain⟨g,o,rfl,O,_⟩:=r.pO hl;have U:=r.le;have c0:=u.boxed;have G:=u.free 0;have X:(0:Int)<=(k:Int):=K5
 have Z:(k:Int)<=(l.length:Int):=K5
 have i3:(l.length:Int)<=(c:Int):=K5
 have i5:¬ c<k:=K5
 have i6:k<=c:=K5
 obtain⟨ok,j⟩:=Z9 (if l.length=k then o else o+k)
 have N:∀W:World,W.cell? q=some (X1 (K4 ⟨g,o,K3⟩) l.length c)->W.cell? q=some (X1 (K4 ⟨g,o,K3⟩) l.length c):=λ_ h=>h
 have E:=nI r;have C:=nI j;clear r
 go_enter func314,ntmps314
 go_wp2_with (go_at_call 152;refine(yt _ _ _).mono ?_;rintro e w7 ⟨rfl,H⟩;obtain⟨v7,rfl⟩:=H.1 K9)
 have d:w.drew.cell? q=some (X1 (K4 ⟨g,o,K3⟩) l.length c):=c0;clear c0 j;refine zb.st (λW=>W.cell? q=some (X1 (K4 ⟨g,o,K3⟩) l.length c)) 19 ?_;refine zb.q 0 (Y9 q) d ?_;refine zb.q 1 (Y9 q) d ?_;refine zb.q 2 (Y9 q) d ?_;refine zb.q 3 (Y9 q) d ?_;refine zb.q 4 (X1 (K4 ⟨g,o,K3⟩) l.length c) d ?_;refine zb.q 5 (Y1 Q4 (k:Int)) d ?_;refine zb.q 6 (Y9 q) d ?_;refine zb.q 7 (Y9 q) d ?_;refine zb.q 8 (Y9 q) d ?_;refine zb.q 9 (X1 (K4 ⟨g,o,K3⟩) l.length c) d ?_;refine zb.q 10 (Y1 Q4 (l.length:Int)) d ?_;refine zb.q 11 (Y9 q) d ?_;refine zb.q 12 (Y9 q) d ?_;refine zb.q 13 (Y9 q) d ?_;refine zb.q 14 (X1 (K4 ⟨g,o,K3⟩) l.length c) d ?_;refine zb.q 15 (Y1 Q4 (l.length:Int)) d ?_;refine zb.t 16 (X1 (K4 ⟨g,ok,K3⟩) (l.length-k) (l.length-k)) rfl d (λW f=>by have j:=C.out;by_cases L:l.length=k<;>simp only[L,if_true,if_false] at j<;>subst j<;>go_simp) ?_;simp only[Z8];refine zb.n 17 ?_;refine zb.opV (Y9 q) rfl rfl K8 ⟨λ_=>d,?_⟩;simp only[Z8];refine zb.n 18 ?_;refine zb.opV (Y9 q) rfl rfl K8 ⟨λ_=>d,?_⟩;simp only[Z8];have c0:w.drew.cell? q=some (X1 (K4 ⟨g,o,K3⟩) l.length c):=d;have M:w.drew.frozen? q=false:=G;refine zb.n 19 ?_;refine zb.opS (w':=gT w.drew ⟨q,0,K3⟩ (X1 (K4 ⟨g,ok,K3⟩) (l.length-k) (l.length-k))) rfl rfl K8 ⟨λh=>absurd rfl h,?_⟩;simp only[zD,zC,zB,nJ];refine zb.dn ?_;go_wp2;go_end0;refine⟨⟨_,rfl⟩,⟨some ⟨g,ok,K3⟩,l.length-k,?_,?_⟩,?_⟩
 .rw[qF];exact u.drew.set 0 _
 .have r:=E.out;have j:=C.out;have I:qv w B (K4 ⟨g,ok,K3⟩) (l.length-k) (l.drop k):=by
   by_cases e:l.length=k
   .rw[if_pos e] at j;subst j;rw[<-e,List.drop_length,Nat.sub_self];exact MU
   .rw[if_neg e] at j;subst j;exact r.rest k K5
  exact I.pR λp V=>Below.cell (B:=q) ((nF q w).drew.setCell K9 _) K5
 .exact jL (Qk (nF _ w).drew q) (jA _ q 0 _)
def QN {α : Type}(val : α -> Value)(r:Option (α × Y4))(q B:Nat)(w:World)(e:mH)(w':World):Prop :=
 w.grownBy w' (some q)/\match r with
  | some (a,l)=>e=Y0 (val a)/\jS w' q B l
  | none=>e=.panicked [PR 220 false]
theorem Gy {l:Y4}{n k:Nat}(h:rd l=some (n,k))(hn:n<=100000):xN l=some (n,l.drop k):=by unfold xN;rw[h];simp only;rw[if_pos hn]
theorem ND {l:Y4}{n k:Nat}(h:rd l=some (n,k))(hn:¬ n<=100000):xN l=none:=by unfold xN;rw[h];simp only;rw[if_neg hn]
theorem Lx {l:Y4}(h:rd l=none):xN l=none:=by unfold xN;rw[h]
theorem tu {l:Y4}{n k:Nat}(h:rd l=some (n,k)):0<l.length:=by have:=XP h;omega
theorem vx (w:World)(q B:Nat)(l:Y4)(h:jS w q B l)(hq:B<=q):nK Y3 275 #[Y9 (K4 ⟨q,0,K3⟩)] w (QN (λn:Nat => Y1 Q4 (n:Int)) (xN l) q B w):=by
 have G:=h;obtain⟨A,c,g,j⟩:=G;have f:=XO w B A c l j;have c0:=g.boxed;unfold QN;have H:=Qk (nF w.heap.size w) q;cases d:rd l with
 | none =>
  rw[Kd d] at f;rw[Lx d];clear d j g h
  go_enter func275,ntmps275
  go_wp2_with (first
   |(go_at_call 313;refine f.mono ?_;rintro e W ⟨rfl,rfl⟩)
   |(go_at_call 314;refine(Au _ q _ 130 K7).mono ?_;rintro e W ⟨rfl,rfl⟩))
  exact⟨rfl,H,rfl⟩
 | some y =>
  obtain⟨n,k⟩:=y;have hl:=tu d;have u:=XP d;rw[Gv d] at f;have C:=Ar w q B l h hq k u.2.2 hl
  by_cases hn:n<=100000
  .rw[Gy d hn];have F:(n:Int)<=100000:=K5
   have N:IntKind.i64.wrap (n:Int)=(n:Int):=xX _;clear d j g h hn u hl
   go_enter func275,ntmps275
   go_wp2_with (first
    |(go_at_call 313;refine f.mono ?_;rintro e W ⟨rfl,rfl⟩)
    |(go_at_call 314;refine C.mono ?_;rintro e L ⟨⟨I,rfl⟩,E,v⟩)
    |(go_at_call 152;refine(yt _ _ _).mono ?_;rintro e M ⟨rfl,r⟩;obtain⟨O,rfl⟩:=r.1 (by simp[F])))
   go_ret;exact⟨v,rfl,E⟩
  .rw[ND d hn];have F:¬ (n:Int)<=100000:=K5
   clear d j g h u hl
   go_enter func275,ntmps275
   go_wp2_with (first
    |(go_at_call 313;refine f.mono ?_;rintro e W ⟨rfl,rfl⟩)
    |(go_at_call 314;refine C.mono ?_;rintro e L ⟨⟨I,rfl⟩,E,v⟩)
    |(go_at_call 152;refine(yt _ _ _).mono ?_;rintro e M ⟨rfl,r⟩;obtain rfl:=r.2 (decide_eq_false K5)))
   exact⟨rfl,v,rfl⟩
theorem Lu {l:Y4}(h:Lv l=none):jo l=none:=by unfold jo;rw[h]
theorem Gw {l:Y4}{s:Y4}{k:Nat}(h:Lv l=some (s,k)):jo l=some (KQ s,l.drop k):=by unfold jo;rw[h]
theorem NA {l:Y4}{s:Y4}{k:Nat}(h:Lv l=some (s,k)):k<=l.length/\0<l.length:=by
 unfold Lv at h;cases e:rd l with
 | none=>rw[e] at h;cases h
 | some y =>
  obtain⟨m,j⟩:=y;rw[e] at h;simp only at h;have c:=XP e;split at h
  .simp only[gO,Prod.mk.injEq] at h;omega
  .cases h
theorem NC {l:Y4}(h:Lv l=none):Gx l=Q2 #[.string (KQ []),Y1 Q4 0,Y1 Q4 130]:=by unfold Gx;rw[h]
theorem NB {l:Y4}{s:Y4}{k:Nat}(h:Lv l=some (s,k)):Gx l=Q2 #[.string (KQ s),Y1 Q4 (k:Int),Y1 Q4 0]:=by unfold Gx;rw[h]
theorem ZT (w:World)(q B:Nat)(l:Y4)(h:jS w q B l)(hq:B<=q):nK Y3 277 #[Y9 (K4 ⟨q,0,K3⟩)] w (QN Value.string (jo l) q B w):=by
 have E:=h;obtain⟨A,c,g,u⟩:=E;have H:=g.lt;have r:=VX w A c l (u.more K5);have c0:=g.boxed;unfold QN;cases f:Lv l with
 | none =>
  rw[NC f] at r;rw[Lu f];clear f u g h
  go_enter func277,ntmps277
  go_wp2_with (first
   |(go_at_call 315;refine r.mono ?_;rintro e j ⟨rfl,d⟩)
   |(go_at_call 314;refine(Au _ q _ 130 K7).mono ?_;rintro e W ⟨rfl,rfl⟩))
  exact⟨rfl,Qk d q,rfl⟩
 | some y =>
  obtain⟨s,k⟩:=y;have v:=NA f;rw[NB f] at r;rw[Gw f];have C:∀j,nH w.heap.size w j->_:=λj d=>Ar j q B l ⟨A,c,g.below d g.lt,u.below (d.mono K5)⟩ hq k v.1 v.2
  clear f u g h
  go_enter func277,ntmps277
  go_wp2_with (first
   |(go_at_call 315;refine r.mono ?_;rintro e j ⟨rfl,d⟩)
   |(go_at_call 314;refine(C _ d).mono ?_;rintro e L ⟨⟨I,rfl⟩,F,G⟩))
  go_ret;exact⟨jL (Qk d q) G,rfl,F⟩
structure Bq (n q:Nat)(w w':World):Prop where
 os:w'.os=w.os
 tape:w'.tape=w.tape
 output:w'.output=w.output
 size:w.heap.size<=w'.heap.size
 block:∀k,k<n->k≠q->w'.heap[k]?=w.heap[k]?
theorem Bq.of {n q:Nat}{w w':World}(h:nH n w w'):Bq n q w w':=⟨h.os,h.tape,h.output,h.size,λk c _=>h.block k c⟩
theorem Bq.trans {n q:Nat}{a b c:World}(h:Bq n q a b)(k:Bq n q b c):Bq n q a c:=⟨k.os.trans h.os,k.tape.trans h.tape,k.output.trans h.output,zT h.size k.size,λj h1 h2=>(k.block j h1 h2).trans (h.block j h1 h2)⟩
theorem Bq.call {n q:Nat}{a b c:World}(h:Bq n q a b)(hn:n<=b.heap.size)(d:b.grownBy c (some q)):Bq n q a c :=
 h.trans ⟨d.os,d.tape,d.output,d.size,λj h1 h2=>d.block j K5 (λe=>h2 (by injection e))⟩
theorem Bq.setRow {n q:Nat}{a b:World}(h:Bq n q a b){g:Nat}(c:n<=g)(cs:Y7):Bq n q a (b.setRow g cs):=h.trans (.of (zf (nF n b) c cs))
theorem Bq.grown {q:Nat}{w w':World}(h:Bq w.heap.size q w w'):w.grownBy w' (some q):=⟨h.os,h.tape,h.output,h.size,λk c d=>h.block k c (λe=>d (by rw[e]))⟩
theorem jS.pV {w w':World}{q B n:Nat}{l:Y4}(h:jS w q B l)(hB:nH n w w')(hq:q<n)(d:B<=n):jS w' q B l:=by
 obtain⟨A,c,h1,h2⟩:=h;exact⟨A,c,h1.below hB hq,h2.below (hB.mono d)⟩
theorem jS.lt {w:World}{q B:Nat}{l:Y4}(h:jS w q B l):q<w.heap.size:=by
 obtain⟨A,c,h1,_⟩:=h;exact h1.lt
theorem VC (w:World)(cs:Y7):∃W,((w.alloc (Q9 #[X9 {data:=#[]},X9 {data:=#[]},Y1 Q4 0,Y1 Q4 0] 94)).setRow w.heap.size cs)=W/\za W w.heap.size 94 cs/\nH w.heap.size w W :=
 ⟨_,rfl,(za.new w 94 #[X9 {data:=#[]},X9 {data:=#[]},Y1 Q4 0,Y1 Q4 0]).setRow cs,zf ((nF _ w).alloc (zG _) _) (zG _) cs⟩
theorem zw {v0 v1 d v3:Value}(f:v0.oneCell'=true)(h1:v1.oneCell'=true)(h2:d.oneCell'=true)(g:v3.oneCell'=true):∀v∈(#[v0,v1,d,v3]:Y7).toList,v.oneCell'=true:=by
 intro v c;simp at c;rcases c with rfl|rfl|rfl|rfl<;>assumption
theorem TW (w:World)(q B:Nat)(l:Y4)(h:jS w q B l)(hq:B<=q):nK Y3 276 #[Y9 (K4 ⟨q,0,K3⟩)] w (QN (λc:xG => Q0 (zl c).toArray) (kK l) q B w):=by
 have aG:=h.lt;have U:nH w.heap.size w (w.alloc (Q9 #[X9 {data:=#[]},X9 {data:=#[]},Y1 Q4 0,Y1 Q4 0] 94)):=(nF _ w).alloc (zG _) _;have p1:=za.new w 94 #[X9 {data:=#[]},X9 {data:=#[]},Y1 Q4 0,Y1 Q4 0];have h1:=h.pV U aG K5;have g1:Bq w.heap.size q w (w.alloc (Q9 #[X9 {data:=#[]},X9 {data:=#[]},Y1 Q4 0,Y1 Q4 0] 94)):=.of U;have s1:=nG w (Q9 #[X9 {data:=#[]},X9 {data:=#[]},Y1 Q4 0,Y1 Q4 0] 94);have F:=ZT _ q B l h1 hq;unfold QN at F ⊢;unfold kK;cases P:jo l with
 | none =>
  rw[P] at F;simp only at F ⊢;clear P s1
  go_enter func276,ntmps276
  go_wp2_with fail
  refine F.mono ?_;rintro e w2 ⟨k,rfl⟩;exact⟨rfl,(g1.call U.size k).grown,rfl⟩
 | some y =>
  obtain⟨s,r⟩:=y;rw[P] at F;simp only at F ⊢;have M:=λW (hW:jS W q B r)=>vx W q B r hW hq
  unfold QN at M;cases V:xN r with
  | none =>
   rw[V] at M;simp only at M ⊢;clear P V s1
   go_enter func276,ntmps276
   go_wp2_with fail
   refine F.mono ?_;rintro e w2 ⟨k,rfl,h2⟩
   go_wp2_with fail
   refine(M _ h2).mono ?_;rintro e d ⟨E,rfl⟩;have C:=g1.call U.size k;exact⟨rfl,(C.call C.size E).grown,rfl⟩
  | some z =>
   obtain⟨p,r2⟩:=z;rw[V] at M;simp only at M ⊢;have HE:∀(v:ByteArray) (z:Int) (W:World) (e:mH) (r3:Y4),e=Y0 (Q0 #[X9 s,X9 v,Y1 Q4 (p:Int),Y1 Q4 z])->jS W q B r3->(e=Y0 (Q0 (zl ⟨s,v,p,z⟩).toArray)/\jS W q B r3):=λv z W e r3 he hr=>⟨he,hr⟩
   by_cases hp:p=0
   case pos =>
    subst hp;simp only[if_true];have f:=λW (hW:jS W q B r2)=>ZT W q B r2 hW hq
    unfold QN at f;cases N:jo r2 with
    | none =>
     rw[N] at f;simp only at f ⊢;clear P V N
     go_enter func276,ntmps276
     go_wp2_with fail
     refine F.mono ?_;rintro e w2 ⟨k,rfl,h2⟩
     go_wp2_with fail
     refine(M _ h2).mono ?_;rintro e d ⟨E,rfl,g⟩;have C:=g1.call U.size k;have G:=C.call C.size E;have aA:=jL k E;have A:za d w.heap.size 94 #[X9 {data:=#[]},X9 {data:=#[]},Y1 Q4 0,Y1 Q4 0]:=p1.grown aA (λe=>by injection e;omega);have n3:=za.new d 94 #[X9 {data:=#[]},X9 {data:=#[]},Y1 Q4 0,Y1 Q4 0];have aB:w.heap.size<d.heap.size:=A.lt;have aE:¬ w.heap.size=d.heap.size:=K5
     go_wp2_with (first
      |(refine zt rfl 94 (.tmp 3) (.tmp 8) rfl d.heap.size rfl rfl ql n3 rfl rfl (zw rfl rfl rfl rfl) ?_;obtain⟨W4,I,O,j⟩:=VC d #[X9 s,X9 {data:=#[]},Y1 Q4 0,Y1 Q4 0];rw[I];clear I;have aH:W4.cell? ⟨d.heap.size,2,K3⟩=K4 (Y1 Q4 0):=(by rw[O.cell];rfl);have X:=g.pV j g.lt (by have:=g.lt;omega);have aC:=A.below j A.lt;have H:Bq w.heap.size q w W4:=G.trans (.of (j.mono G.size))))
     refine(f _ X).mono ?_;rintro e w5 ⟨L,rfl⟩;exact⟨rfl,(H.call H.size L).grown,rfl⟩
    | some u =>
     obtain⟨v,r3⟩:=u;rw[N] at f;simp only at f ⊢;clear P V N
     go_enter func276,ntmps276
     go_wp2_with fail
     refine F.mono ?_;rintro e w2 ⟨k,rfl,h2⟩
     go_wp2_with fail
     refine(M _ h2).mono ?_;rintro e d ⟨E,rfl,g⟩;have C:=g1.call U.size k;have G:=C.call C.size E;have aA:=jL k E;have A:za d w.heap.size 94 #[X9 {data:=#[]},X9 {data:=#[]},Y1 Q4 0,Y1 Q4 0]:=p1.grown aA (λe=>by injection e;omega);have n3:=za.new d 94 #[X9 {data:=#[]},X9 {data:=#[]},Y1 Q4 0,Y1 Q4 0];have aB:w.heap.size<d.heap.size:=A.lt;have aE:¬ w.heap.size=d.heap.size:=K5
     go_wp2_with (first
      |(refine zt rfl 94 (.tmp 3) (.tmp 8) rfl d.heap.size rfl rfl ql n3 rfl rfl (zw rfl rfl rfl rfl) ?_;obtain⟨W4,I,O,j⟩:=VC d #[X9 s,X9 {data:=#[]},Y1 Q4 0,Y1 Q4 0];rw[I];clear I;have aH:W4.cell? ⟨d.heap.size,2,K3⟩=K4 (Y1 Q4 0):=(by rw[O.cell];rfl);have X:=g.pV j g.lt (by have:=g.lt;omega);have aC:=A.below j A.lt;have H:Bq w.heap.size q w W4:=G.trans (.of (j.mono G.size))))
     refine(f _ X).mono ?_;rintro e w5 ⟨L,rfl,h5⟩;have aF:q<d.heap.size:=K5
     have n5:=O.grown L (λe=>by injection e;omega);have aI:=aC.grown L (λe=>by injection e;omega);have g5:=H.call H.size L;have c5:w5.cell? ⟨d.heap.size,1,K3⟩=some (X9 {data:=#[]}):=by rw[n5.cell];rfl
     have f5:=n5.free 1;have n6:=n5.set 1 (X9 v);have Z:nH d.heap.size w5 (w5.setCell ⟨d.heap.size,1,K3⟩ (X9 v)):=(nF _ w5).setCell K9 _;have aD:=aI.below Z aB;have h6:=h5.pV Z aF K5;have g6:Bq w.heap.size q w (w5.setCell ⟨d.heap.size,1,K3⟩ (X9 v)):=g5.trans (.of (Z.mono K5));simp only[zA,zF,zE] at n6;have b7:=aD.setRow #[X9 s,X9 v,Y1 Q4 0,Y1 Q4 0];have g7:=g6.setRow (zG w.heap.size) #[X9 s,X9 v,Y1 Q4 0,Y1 Q4 0];have h7:=h6.pV (zf (nF w.heap.size _) (zG _) #[X9 s,X9 v,Y1 Q4 0,Y1 Q4 0]) aG K5
     go_wp2_with (first
      |(refine yp ql n6 ?_)
      |(refine zt rfl 94 (.tmp 2) (.tmp 18) rfl w.heap.size rfl rfl ql aD rfl rfl (zw rfl rfl rfl rfl) ?_))
     exact nT (yL 2 rfl rfl ql b7 rfl) rfl ⟨g7.grown,rfl,h7⟩
   case neg =>
    simp only[if_neg hp];have aJ:¬ (p:Int)=0:=K5
    have f:=λW (hW:jS W q B r2)=>vx W q B r2 hW hq
    unfold QN at f;cases N:xN r2 with
    | none =>
     rw[N] at f;simp only at f ⊢;clear P V N
     go_enter func276,ntmps276
     go_wp2_with fail
     refine F.mono ?_;rintro e w2 ⟨k,rfl,h2⟩
     go_wp2_with fail
     refine(M _ h2).mono ?_;rintro e d ⟨E,rfl,g⟩;have C:=g1.call U.size k;have G:=C.call C.size E;have aA:=jL k E;have A:za d w.heap.size 94 #[X9 {data:=#[]},X9 {data:=#[]},Y1 Q4 0,Y1 Q4 0]:=p1.grown aA (λe=>by injection e;omega);have n3:=za.new d 94 #[X9 {data:=#[]},X9 {data:=#[]},Y1 Q4 0,Y1 Q4 0];have aB:w.heap.size<d.heap.size:=A.lt;have aE:¬ w.heap.size=d.heap.size:=K5
     go_wp2_with (first
      |(refine zt rfl 94 (.tmp 3) (.tmp 8) rfl d.heap.size rfl rfl ql n3 rfl rfl (zw rfl rfl rfl rfl) ?_;obtain⟨W4,I,O,j⟩:=VC d #[X9 s,X9 {data:=#[]},Y1 Q4 (p:Int),Y1 Q4 0];rw[I];clear I;have aH:W4.cell? ⟨d.heap.size,2,K3⟩=K4 (Y1 Q4 (p:Int)):=(by rw[O.cell];rfl);have X:=g.pV j g.lt (by have:=g.lt;omega);have aC:=A.below j A.lt;have H:Bq w.heap.size q w W4:=G.trans (.of (j.mono G.size))))
     refine(f _ X).mono ?_;rintro e w5 ⟨L,rfl⟩;exact⟨rfl,(H.call H.size L).grown,rfl⟩
    | some u =>
     obtain⟨v,r3⟩:=u;rw[N] at f;simp only at f ⊢;clear P V N
     go_enter func276,ntmps276
     go_wp2_with fail
     refine F.mono ?_;rintro e w2 ⟨k,rfl,h2⟩
     go_wp2_with fail
     refine(M _ h2).mono ?_;rintro e d ⟨E,rfl,g⟩;have C:=g1.call U.size k;have G:=C.call C.size E;have aA:=jL k E;have A:za d w.heap.size 94 #[X9 {data:=#[]},X9 {data:=#[]},Y1 Q4 0,Y1 Q4 0]:=p1.grown aA (λe=>by injection e;omega);have n3:=za.new d 94 #[X9 {data:=#[]},X9 {data:=#[]},Y1 Q4 0,Y1 Q4 0];have aB:w.heap.size<d.heap.size:=A.lt;have aE:¬ w.heap.size=d.heap.size:=K5
     go_wp2_with (first
      |(refine zt rfl 94 (.tmp 3) (.tmp 8) rfl d.heap.size rfl rfl ql n3 rfl rfl (zw rfl rfl rfl rfl) ?_;obtain⟨W4,I,O,j⟩:=VC d #[X9 s,X9 {data:=#[]},Y1 Q4 (p:Int),Y1 Q4 0];rw[I];clear I;have aH:W4.cell? ⟨d.heap.size,2,K3⟩=K4 (Y1 Q4 (p:Int)):=(by rw[O.cell];rfl);have X:=g.pV j g.lt (by have:=g.lt;omega);have aC:=A.below j A.lt;have H:Bq w.heap.size q w W4:=G.trans (.of (j.mono G.size))))
     refine(f _ X).mono ?_;rintro e w5 ⟨L,rfl,h5⟩;have aF:q<d.heap.size:=K5
     have n5:=O.grown L (λe=>by injection e;omega);have aI:=aC.grown L (λe=>by injection e;omega);have g5:=H.call H.size L;have c5:w5.cell? ⟨d.heap.size,3,K3⟩=K4 (Y1 Q4 0):=by rw[n5.cell];rfl
     have f5:=n5.free 3;have n6:=n5.set 3 (Y1 Q4 (v:Int));have Z:nH d.heap.size w5 (w5.setCell ⟨d.heap.size,3,K3⟩ (Y1 Q4 (v:Int))):=(nF _ w5).setCell K9 _;have aD:=aI.below Z aB;have h6:=h5.pV Z aF K5;have g6:Bq w.heap.size q w (w5.setCell ⟨d.heap.size,3,K3⟩ (Y1 Q4 (v:Int))):=g5.trans (.of (Z.mono K5));simp only[zA,zF,zE] at n6;have b7:=aD.setRow #[X9 s,X9 {data:=#[]},Y1 Q4 (p:Int),Y1 Q4 (v:Int)];have g7:=g6.setRow (zG w.heap.size) #[X9 s,X9 {data:=#[]},Y1 Q4 (p:Int),Y1 Q4 (v:Int)];have h7:=h6.pV (zf (nF w.heap.size _) (zG _) #[X9 s,X9 {data:=#[]},Y1 Q4 (p:Int),Y1 Q4 (v:Int)]) aG K5
     go_wp2_with (first
      |(refine yp ql n6 ?_)
      |(refine zt rfl 94 (.tmp 2) (.tmp 18) rfl w.heap.size rfl rfl ql aD rfl rfl (zw rfl rfl rfl rfl) ?_))
     exact nT (yL 2 rfl rfl ql b7 rfl) rfl ⟨g7.grown,rfl,h7⟩
end
section
open Go Go.RowKit xq Go.Shelf
def GU (w:World)(l:List xG)(e:mH)(w':World):Prop:=∃A c,e=Y0 (X1 A l.length c)/\w'.ownsRow w.heap.size 94 4 (X1 A l.length c) l.length (vY l)/\nH w.heap.size w w'
theorem Ap:ZQ 65 94 4 48 (Q0 #[X9 nX,X9 nX,Y1 Q4 0,Y1 Q4 0]):=⟨underlying65,by kernel_rfl,by kernel_rfl,by decide⟩
theorem Xx (w:World)(A:Y5)(c:Nat)(l:List xG)(h:yl w w.heap.size 4 A l.length c (vY l))(hl:l.length<=1000000):nK Y3 146 #[X1 A l.length c] w (GU w l):=by
 rcases A with _|k
 .have hc:=h.nil rfl;subst hc;have u:=h.le;obtain rfl:l=[]:=qI K5;have hq:=λW=>jk (P:=Y3) W 65 94 none 0 0 underlying65
  go_enter func146,ntmps146
  go_wp2;go_ret;exact⟨none,0,rfl,gU _ _ _ _,nF _ _⟩
 .have g:(w.alloc (Q9 #[] 94)).ownsRow w.heap.size 94 4 (X1 w.heap.size 0 0) 0 []:=lA w #[] 0 (zG _) (by unfold gP;omega) rfl;have d:nH w.heap.size w (w.alloc (Q9 #[] 94)):=(nF _ w).alloc (zG _) _;have hq:=λW=>jk (P:=Y3) W 65 94 (some k) l.length c underlying65
  go_enter func146,ntmps146
  go_wp2_with (at_builtin;refine xg rfl Ap (.tmp 5) (.tmp 6) rfl w.heap.size (X1 w.heap.size 0 0) 0 [] rfl g _ _ l.length c (vY l) rfl (h.grow d) (by unfold gP;omega) K5 d.size ?_;intro v5 w5 f r)
  go_ret;rw[qA,zQ] at f;obtain⟨j,c5,rfl,_⟩:=qq f (Ym _);exact⟨j,c5,rfl,f,d.trans (zo r d.size (zj g))⟩
def GS (w:World)(l:List Int)(e:mH)(w':World):Prop:=∃A c,e=Y0 (X1 A l.length c)/\w'.ownsRow w.heap.size 3 1 (X1 A l.length c) l.length (ZJ l)/\nH w.heap.size w w'
theorem Fg:ZQ 67 3 1 8 (Y1 Q4 0):=⟨underlying67,by kernel_rfl,by kernel_rfl,by decide⟩
theorem Xq (w:World)(A:Y5)(c:Nat)(l:List Int)(h:yl w w.heap.size 1 A l.length c (ZJ l))(hl:l.length<=1000000):nK Y3 211 #[X1 A l.length c] w (GS w l):=by
 rcases A with _|k
 .have hc:=h.nil rfl;subst hc;have u:=h.le;obtain rfl:l=[]:=qI K5;have hq:=λW=>jk (P:=Y3) W 67 3 none 0 0 underlying67
  go_enter func211,ntmps211
  go_wp2;go_ret;exact⟨none,0,rfl,gU _ _ _ _,nF _ _⟩
 .have g:(w.alloc (Q9 #[] 3)).ownsRow w.heap.size 3 1 (X1 w.heap.size 0 0) 0 []:=lA w #[] 0 (zG _) (by unfold gP;omega) rfl;have d:nH w.heap.size w (w.alloc (Q9 #[] 3)):=(nF _ w).alloc (zG _) _;have hq:=λW=>jk (P:=Y3) W 67 3 (some k) l.length c underlying67
  go_enter func211,ntmps211
  go_wp2_with (at_builtin;refine xg rfl Fg (.tmp 5) (.tmp 6) rfl w.heap.size (X1 w.heap.size 0 0) 0 [] rfl g _ _ l.length c (ZJ l) rfl (h.grow d) (by unfold gP;omega) K5 d.size ?_;intro v5 w5 f r)
  go_ret;rw[qA,zQ] at f;obtain⟨j,c5,rfl,_⟩:=qq f (Yh _);exact⟨j,c5,rfl,f,d.trans (zo r d.size (zj g))⟩
end
section
open Go Go.RowKit xq
section
variable {w:World}{ops:Array Oper}{i:Nat}{o:Oper}{a:Act}{Q:Exit->Act->World->Prop}{K:Act->World->Prop}
theorem Jt (F:ops[i]?=some o)(u:o.guard=none){S T:nS}{sz by_:Nat}{z:Value}(j:ZQ S T sz by_ z)(s x:nO)(hc:o.op=.call {callee:=.builtin .append,args:=#[s,x],argTypes:=#[S,S]})
  (base:Nat) (v:Value) (n:Nat) (cs:Y8) (hs:a.eval s=v) (G:w.ownsRow base T sz v n cs) (B:Nat) (A:Y5) (m c:Nat) (f:Y8) (I:a.eval x=X1 A m c) (C:yl w B sz A m c f)
  (E:n+m<=gP) (r:(n+m)*by_<=140737488355328) (k:base<=w.heap.size)
  (h:∀d w',w'.ownsRow base T sz d (n+m) (cs++f)->w.grownBy w' v.ownBlock->K (a.put o.dst d) w'):wpOp Y3 ops Q i K a w:=by
 obtain⟨d,w',H,h2,g⟩:=Gt (w:=w) o.type j base v n cs G B A m c f C E r k;refine zb.opV d F u (w':=w') ?_ (h d w' h2 g);unfold nQ;simp only[hc,resolve,invoke,builtin,gJ,ny,nc,zJ,zL,zN,hs,I,H]
theorem FI (f:FuncId)(xs:Array nO)(A:Array nS)(r:ops[i]?=some o)(k:o.guard=none)(hc:o.op=.call {callee:=.value (.func f),args:=xs,argTypes:=A})
  (j:∀args w,(callFunc f args).run Y3 w=.ok (.enter f args) w) (args:Y7) (ha:xs.map a.eval=args) (h:nK Y3 f args w λe w'=>(∃v,e=Y0 v/\K (a.put o.dst v) w')\/∃ch,e=.panicked ch/\Q (.panic ch) a w'):wpOp Y3 ops Q i K a w:=by
 unfold wpOp;simp only[r];rw[if_pos (by simp[Region.wanted,k])];left;have u:(nQ a.eval o).run Y3 w=.ok (.enter f args) w:=by have c:a.eval (.func f)=.func (.func f) #[] #[]:=rfl;simp[nQ,hc,resolve,ha,c,lP,invoke,j args w]
 unfold Oper.wp;rw[u,Oper.upon_enter];refine h.mono ?_;rintro e w' (⟨v,rfl,d⟩|⟨ch,rfl,g⟩)
 .exact d
 .exact g
end
structure NS (w wr:World)(q B p:Nat)(lf:Bool)(cs:List xG)(ks:List ByteArray)(is:List Int)(l:Y4)(Ac:Y5)(cc:Nat)(Ak:Y5)(ck:Nat)(Ai:Y5)(ci:Nat):Prop where
 b:za wr p 69 #[X3 lf,X1 Ac cs.length cc,X1 Ak ks.length ck,X1 Ai is.length ci]
 c:wr.ownsRow (p+1) 94 4 (X1 Ac cs.length cc) cs.length (vY cs)
 k:wr.ownsRow (p+1) 9 1 (X1 Ak ks.length ck) ks.length (Xa ks)
 i:wr.ownsRow (p+1) 3 1 (X1 Ai is.length ci) is.length (ZJ is)
 r:jS wr q B l
 g:Bq p q w wr
 hq:q<p
 hB:B<=q
section
variable {w wr w':World}{q B p:Nat}{lf:Bool}{cs:List xG}{ks:List ByteArray}{is:List Int}{l l':Y4}{Ac:Y5}{cc:Nat}{Ak:Y5}{ck:Nat}{Ai:Y5}{ci:Nat}
theorem Hg {wr w':World}{q p:Nat}{T:nS}{sz n:Nat}{v:Value}{cs:Y8}(h:wr.ownsRow (p+1) T sz v n cs)(d:wr.grownBy w' (some q))(hq:q<p):w'.ownsRow (p+1) T sz v n cs :=
 qp h λr c=>d.block r (kM h r c) (λe=>by have:=zj h r c;injection e;omega)
theorem NS.call (h:NS w wr q B p lf cs ks is l Ac cc Ak ck Ai ci)(d:wr.grownBy w' (some q))(f:jS w' q B l'):NS w w' q B p lf cs ks is l' Ac cc Ak ck Ai ci :=
 ⟨h.b.grown d (λe=>by have:=h.hq;injection e;omega),Hg h.c d h.hq,Hg h.k d h.hq,Hg h.i d h.hq,f,h.g.call (mL h.b.lt) d,h.hq,h.hB⟩
theorem NS.pV (h:NS w wr q B p lf cs ks is l Ac cc Ak ck Ai ci)(hB:nH wr.heap.size wr w'):NS w w' q B p lf cs ks is l Ac cc Ak ck Ai ci :=
 ⟨h.b.below hB h.b.lt,qn h.c hB,qn h.k hB,qn h.i hB,h.r.pV hB h.r.lt (by have:=h.hB;have:=h.r.lt;omega),h.g.trans (.of (hB.mono (mL h.b.lt))),h.hq,h.hB⟩
theorem NS.drew (h:NS w wr q B p lf cs ks is l Ac cc Ak ck Ai ci):NS w wr.drew q B p lf cs ks is l Ac cc Ak ck Ai ci:=h.pV (nF _ wr).drew
theorem OK {T:nS}{sz n m f:Nat}{v:Value}{c:Y5}{c':Nat}{old new:Y8}{h:Y7}(k:za wr p 69 h)(g:jS wr q B l)(E:Bq p q w wr)(hq:q<p)(hB:B<=q)
  (own:wr.ownsRow (p+1) T sz v n old) (C:wr.grownBy w' v.ownBlock) (u:w'.ownsRow (p+1) T sz (X1 c m c') m new) :
  za (w'.setCell ⟨p,f,K3⟩ (X1 c m c')) p 69 (h.setIfInBounds f (X1 c m c'))/\jS (w'.setCell ⟨p,f,K3⟩ (X1 c m c')) q B l/\Bq p q w (w'.setCell ⟨p,f,K3⟩ (X1 c m c'))/\(w'.setCell ⟨p,f,K3⟩ (X1 c m c')).ownsRow (p+1) T sz (X1 c m c') m new:=by
 have G:=k.lt;have d:nH (p+1) wr w':=zo C K5 (zj own);have A:=k.below d K5;have F:=g.pV d K5 K5;have j:nH p w' (w'.setCell ⟨p,f,K3⟩ (X1 c m c')):=(nF _ w').setCell K9 _;refine⟨A.set f _,F.pV j hq K5,(E.trans (.of (d.mono K5))).trans (.of j),qp u λr g=>nU w' ⟨p,f,K3⟩ _ r (λe=>by have:=zj u r g;simp at e;omega)⟩
theorem Qh {w':World}{p f:Nat}{u v:Value}{T:nS}{sz n:Nat}{xs:Y8}(h:w'.ownsRow (p+1) T sz v n xs):(w'.setCell ⟨p,f,K3⟩ u).ownsRow (p+1) T sz v n xs :=
 qp h λr c=>nU w' ⟨p,f,K3⟩ u r (λe=>by have:=zj h r c;simp at e;omega)
theorem wG (cs:List xG)(c:xG):vY (cs++[c])=vY cs++zl c:=by unfold vY;simp
theorem BT (ks:List ByteArray)(k:ByteArray):Xa (ks++[k])=Xa ks++[X9 k]:=by unfold Xa;simp
theorem AX (is:List Int)(i:Int):ZJ (is++[i])=ZJ is++[Y1 Q4 i]:=by unfold ZJ;simp
theorem NS.nC (h:NS w wr q B p lf cs ks is l Ac cc Ak ck Ai ci){c:xG}{d:Y5}{c':Nat}(A:w'.ownsRow (p+1) 94 4 (X1 d (cs.length+1) c') (cs.length+1) (vY cs++zl c))(j:wr.grownBy w' (mN Ac cs.length cc).ownBlock):NS w (w'.setCell ⟨p,1,K3⟩ (X1 d (cs.length+1) c')) q B p lf (cs++[c]) ks is l d c' Ak ck Ai ci:=by
 obtain⟨h1,h2,u,v⟩:=OK (f:=1) h.b h.r h.g h.hq h.hB h.c j A;have e:(cs++[c]).length=cs.length+1:=by simp
 refine⟨by rw[e];exact h1,by rw[e,wG];exact v,Qh (QJ h.c h.k K7 j),Qh (QJ h.c h.i K7 j),h2,u,h.hq,h.hB⟩
theorem NS.dY (h:NS w wr q B p lf cs ks is l Ac cc Ak ck Ai ci){s:ByteArray}{d:Y5}{c':Nat}(A:w'.ownsRow (p+1) 9 1 (X1 d (ks.length+1) c') (ks.length+1) (Xa ks++[X9 s]))(j:wr.grownBy w' (mN Ak ks.length ck).ownBlock):NS w (w'.setCell ⟨p,2,K3⟩ (X1 d (ks.length+1) c')) q B p lf cs (ks++[s]) is l Ac cc d c' Ai ci:=by
 obtain⟨h1,h2,u,v⟩:=OK (f:=2) h.b h.r h.g h.hq h.hB h.k j A;have e:(ks++[s]).length=ks.length+1:=by simp
 refine⟨by rw[e];exact h1,Qh (QJ h.k h.c K7 j),by rw[e,BT];exact v,Qh (QJ h.k h.i K7 j),h2,u,h.hq,h.hB⟩
theorem NS.dp (h:NS w wr q B p lf cs ks is l Ac cc Ak ck Ai ci){s:Int}{d:Y5}{c':Nat}(A:w'.ownsRow (p+1) 3 1 (X1 d (is.length+1) c') (is.length+1) (ZJ is++[Y1 Q4 s]))(j:wr.grownBy w' (mN Ai is.length ci).ownBlock):NS w (w'.setCell ⟨p,3,K3⟩ (X1 d (is.length+1) c')) q B p lf cs ks (is++[s]) l Ac cc Ak ck d c':=by
 obtain⟨h1,h2,u,v⟩:=OK (f:=3) h.b h.r h.g h.hq h.hB h.i j A;have e:(is++[s]).length=is.length+1:=by simp
 refine⟨by rw[e];exact h1,Qh (QJ h.i h.c K7 j),Qh (QJ h.i h.k K7 j),by rw[e,AX];exact v,h2,u,h.hq,h.hB⟩
theorem NS.nis (h:NS w wr q B p lf cs ks is l Ac cc Ak ck Ai ci):XX wr wr.heap.size ⟨lf,cs,ks,is⟩ Ac cc Ak ck Ai ci:=by
 obtain⟨_,_,d,h1⟩:=qq h.c (Ym _);obtain⟨_,_,f,h2⟩:=qq h.k (jd _);obtain⟨_,_,g,j⟩:=qq h.i (Yh _);injection d with e11 e12 e13
 injection f with e21 e22 e23
 injection g with e31 e32 e33
 subst e11 e13 e21 e23 e31 e33;exact⟨h1,h2,j⟩
theorem NS.start {w:World}{q B:Nat}{l:Y4}(c:jS w q B l)(hB:B<=q):NS w (w.alloc (Q9 #[X3 false,X1 none 0 0,X1 none 0 0,X1 none 0 0] 69)) q B w.heap.size false [] [] [] l none 0 none 0 none 0:=by
 have d:nH w.heap.size w (w.alloc (Q9 #[X3 false,X1 none 0 0,X1 none 0 0,X1 none 0 0] 69)):=(nF _ w).alloc (zG _) _;exact⟨za.new w _ _,gU _ _ _ _,gU _ _ _ _,gU _ _ _ _,c.pV d c.lt (by have:=c.lt;omega),.of d,c.lt,hB⟩
theorem NS.leaf (h:NS w wr q B p lf cs ks is l Ac cc Ak ck Ai ci)(b:Bool):NS w (wr.setCell p (X3 b)) q B p b cs ks is l Ac cc Ak ck Ai ci:=by
 have hB:nH p wr (wr.setCell p (X3 b)):=(nF _ wr).setCell K9 _;exact⟨h.b.set 0 _,Qh h.c,Qh h.k,Qh h.i,h.r.pV hB h.hq (by have:=h.hB;have:=h.hq;omega),h.g.trans (.of hB),h.hq,h.hB⟩
end
theorem XN (w:World)(T:nS)(sz:Nat)(cs:Y8)(hn:cs.length=sz)(h1:∀v∈cs,v.oneCell'=true):yl (w.alloc (Q9 cs.toArray T)) (w.alloc (Q9 cs.toArray T)).heap.size sz (K4 ⟨w.heap.size,0,K3⟩) 1 1 cs :=
 ⟨zG _,by omega,(λe=>by cases e),by omega,h1,λ_=>⟨w.heap.size,0,rfl,by simp,λj v c=>by
  rw[(za.new w T cs.toArray).cell,qA]
  simpa using c⟩⟩
theorem LG {w:World}{o:Oper}{ρ:nO->Value}{x:nO}(c:xG)(d:o.op=.buildSlice 65 1 #[(0,x)])(h1:ρ x=Q0 (zl c).toArray):(nQ ρ o).run Y3 w=.ok (.value (X1 w.heap.size 1 1)) (w.alloc (Q9 (zl c).toArray 94)):=by
 simp[nQ,d,h1,go_sem,zl,nM]
theorem NS.same {w wr:World}{q B p:Nat}{lf:Bool}{cs:List xG}{ks:List ByteArray}{is:List Int}{l:Y4}{Ac:Y5}{cc:Nat}{Ak:Y5}{ck:Nat}{Ai:Y5}{ci:Nat}(h:NS w wr q B p lf cs ks is l Ac cc Ak ck Ai ci):NS w (wr.setRow p #[X3 lf,X1 Ac cs.length cc,X1 Ak ks.length ck,X1 Ai is.length ci]) q B p lf cs ks is l Ac cc Ak ck Ai ci:=by
 have hB:nH p wr (wr.setRow p #[X3 lf,X1 Ac cs.length cc,X1 Ak ks.length ck,X1 Ai is.length ci]):=zf (nF _ wr) (zG _) _;have d:∀{T:nS} {sz n:Nat} {v:Value} {xs:Y8},wr.ownsRow (p+1) T sz v n xs->(wr.setRow p #[X3 lf,X1 Ac cs.length cc,X1 Ak ks.length ck,X1 Ai is.length ci]).ownsRow (p+1) T sz v n xs:=λh=>qp h λr f=>ng _ _ r _ (by have:=zj h r f;omega)
 exact⟨h.b.setRow _,d h.c,d h.k,d h.i,h.r.pV hB h.hq (by have:=h.hB;have:=h.hq;omega),h.g.trans (.of hB),h.hq,h.hB⟩
def Py (n:Nat)(Ac Ak Ai:Y5):Prop:=∀g o,(Ac=some ⟨g,o,K3⟩\/Ak=some ⟨g,o,K3⟩\/Ai=some ⟨g,o,K3⟩)->n<=g
structure xm (w:World)(n:Nat)(x:ym)(Ac:Y5)(cc:Nat)(Ak:Y5)(ck:Nat)(Ai:Y5)(ci:Nat):Prop where
 c:w.ownsRow n 94 4 (X1 Ac x.cells.length cc) x.cells.length (vY x.cells)
 k:w.ownsRow n 9 1 (X1 Ak x.keys.length ck) x.keys.length (Xa x.keys)
 i:w.ownsRow n 3 1 (X1 Ai x.kids.length ci) x.kids.length (ZJ x.kids)
theorem xm.rows {w:World}{n:Nat}{x:ym}{Ac:Y5}{cc:Nat}{Ak:Y5}{ck:Nat}{Ai:Y5}{ci:Nat}(h:xm w n x Ac cc Ak ck Ai ci):Py n Ac Ak Ai:=by
 rintro g o (rfl|rfl|rfl)
 .exact zj h.c g rfl
 .exact zj h.k g rfl
 .exact zj h.i g rfl
theorem xm.pW {w w':World}{n:Nat}{x:ym}{Ac:Y5}{cc:Nat}{Ak:Y5}{ck:Nat}{Ai:Y5}{ci:Nat}(h:xm w n x Ac cc Ak ck Ai ci)(f:∀r,n<=r->r<w.heap.size->w'.heap[r]?=w.heap[r]?):xm w' n x Ac cc Ak ck Ai ci :=
 ⟨qp h.c λr d=>f r (zj h.c r d) (kM h.c r d),qp h.k λr d=>f r (zj h.k r d) (kM h.k r d),qp h.i λr d=>f r (zj h.i r d) (kM h.i r d)⟩
theorem xm.base {w:World}{n m:Nat}{x:ym}{Ac:Y5}{cc:Nat}{Ak:Y5}{ck:Nat}{Ai:Y5}{ci:Nat}(h:xm w n x Ac cc Ak ck Ai ci)(d:m<=n):xm w m x Ac cc Ak ck Ai ci:=⟨yR h.c d,yR h.k d,yR h.i d⟩
theorem NS.own {w wr:World}{q B p:Nat}{lf:Bool}{cs:List xG}{ks:List ByteArray}{is:List Int}{l:Y4}{Ac:Y5}{cc:Nat}{Ak:Y5}{ck:Nat}{Ai:Y5}{ci:Nat}(h:NS w wr q B p lf cs ks is l Ac cc Ak ck Ai ci):xm wr p ⟨lf,cs,ks,is⟩ Ac cc Ak ck Ai ci:=⟨yR h.c (lY p),yR h.k (lY p),yR h.i (lY p)⟩
def xn (r:Option ym)(q:Nat)(w:World)(e:mH)(w':World):Prop :=
 w.grownBy w' (some q)/\match r with
  | some x=>∃Ac cc Ak ck Ai ci,e=Y0 (Q0 (zx x Ac cc Ak ck Ai ci))/\XX w' w'.heap.size x Ac cc Ak ck Ai ci/\xm w' w.heap.size x Ac cc Ak ck Ai ci
  | none=>e=.panicked [PR 220 false]
theorem Xl {r:Option ym}(h:r=none)(q:Nat)(w:World):∀w',w.grownBy w' (some q)->xn r q w (.panicked [PR 220 false]) w':=λw' c=>by subst h;exact⟨c,rfl⟩
theorem TJ {r:Option ym}{x:ym}(h:r=some x)(q:Nat)(w w':World)(c:w.grownBy w' (some q))(Ac:Y5)(cc:Nat)(Ak:Y5)(ck:Nat)(Ai:Y5)(ci:Nat)(hn:XX w' w'.heap.size x Ac cc Ak ck Ai ci)(hf:xm w' w.heap.size x Ac cc Ak ck Ai ci):xn r q w (.returned (Q0 (zx x Ac cc Ak ck Ai ci))) w':=by
 subst h;exact⟨c,Ac,cc,Ak,ck,Ai,ci,rfl,hn,hf⟩
theorem Lr (w:World)(q B:Nat)(l r:Y4)(h:jS w q B l)(hq:B<=q)(e1:xN l=some (1,r)):nK Y3 215 #[Y9 (K4 ⟨q,0,K3⟩)] w (xn (yn true r) q w):=by
 have aM:=h.lt;have n1:=NS.start h hq;have N:=vx _ q B l n1.r hq;unfold QN at N;rw[e1] at N;simp only at N;have X:=λW lx (f:jS W q B lx)=>vx W q B lx f hq
 unfold QN at X;have H:=λW (f:jS W q B r)=>X W r f
 clear e1 h;cases I:xN r with
 | none =>
  rw[I] at H;simp only at H;have HP:=Xl (r:=yn true r) (by unfold yn;rw[I]) q w;generalize xn (yn true r) q w=PO at *;clear I X
  go_enter func215,ntmps215
  go_wp2_with fail
  refine N.mono ?_;rintro e w2 ⟨Z,rfl,h2⟩;have E:=n1.call Z h2;have c2:w2.cell? w.heap.size=some (X3 false):=by rw[E.b.cell];rfl
  have f2:=E.b.free 0
  go_wp2_with (go_at_call 152;refine(yt _ _ _).mono ?_;rintro e U ⟨rfl,h7⟩;obtain⟨v7,rfl⟩:=h7.1 rfl)
  have L:=E.leaf true;refine(H _ L.r).mono ?_;rintro e w4 ⟨aA,rfl⟩;exact⟨rfl,HP _ (L.g.call (mL L.b.lt) aA).grown⟩
 | some y =>
  obtain⟨many,F⟩:=y;rw[I] at H;simp only at H;have aX:many<=100000:=(vy I).2;have aD:yn true r=match yX kK many F with|none=>none|some (cs,_)=>some ⟨true,cs,[],[]⟩:=by unfold yn;rw[I];rfl
  have aG:=λhr=>Xl (r:=yn true r) hr q w
  have aH:=λx (hr:yn true r=some x)=>TJ hr q w
  have aI:∀k cs d,k<many->yX kK k F=some (cs,d)->kK d=none->∀w',w.grownBy w' (some q)->xn (yn true r) q w (.panicked [PR 220 false]) w':=λk cs d hk j hf=>aG (by
   rw[aD];have:=UP kK F cs d k j hf (many-k-1);rw[show k+1+(many-k-1)=many from by omega] at this
   rw[this])
  have aJ:∀cs d,yX kK many F=some (cs,d)->∀w' A c,w.grownBy w' (some q)->XX w' w'.heap.size ⟨true,cs,[],[]⟩ A c none 0 none 0->xm w' w.heap.size ⟨true,cs,[],[]⟩ A c none 0 none 0->xn (yn true r) q w (.returned (Q0 #[X3 true,X1 A cs.length c,X1 none 0 0,X1 none 0 0])) w':=λcs d j w' A c hg hn hf=>aH ⟨true,cs,[],[]⟩ (by rw[aD,j]) w' hg A c none 0 none 0 hn hf
  generalize xn (yn true r) q w=PO at *;have aP:=nI aI;have aR:=nI aJ;clear I X aD aG aH aI aJ
  go_enter func215,ntmps215
  go_wp2_with fail
  refine N.mono ?_;rintro e w2 ⟨Z,rfl,h2⟩;have E:=n1.call Z h2;have c2:w2.cell? w.heap.size=some (X3 false):=by rw[E.b.cell];rfl
  have f2:=E.b.free 0
  go_wp2_with (go_at_call 152;refine(yt _ _ _).mono ?_;rintro e U ⟨rfl,h7⟩;obtain⟨v7,rfl⟩:=h7.1 rfl)
  have L:=E.leaf true;refine(H _ L.r).mono ?_;rintro e w4 ⟨aA,rfl,h4⟩;have n4:=L.call aA h4;have c4:w4.cell? w.heap.size=some (X3 true):=by rw[n4.b.cell];rfl
  clear n1 E L Z h2 c2 f2 aA h4 N H
  go_wp2_with fail
  go_loopw [30] (λi wr=>∃(k:Nat) (cs:List xG) (d:Y4) (Ac:Y5) (cc:Nat),k<=many/\i=Y1 Q4 k/\yX kK k F=some (cs,d)/\NS w wr q B w.heap.size true cs [] [] d Ac cc none 0 none 0) (λi _=>many-(intOf i).toNat)
  case atStart=>exact⟨0,[],F,none,0,by omega,rfl,rfl,n4⟩
  case round =>
   obtain⟨k,cs,d,Ac,cc,hk,rfl,j,P⟩:=hrel;clear n4 c4;have c0:wr.cell? w.heap.size=some (X3 true):=by rw[P.b.cell];rfl
   have aL:=Yv kK k F cs d j
   by_cases aM:k<many
   .have aW:(k:Int)<(many:Int):=K5
    have aV:cs.length<=100000:=K5
    have aY:IntKind.i64.wrap ((k:Int)+1)=(k:Int)+1:=xX _;have G:=λW (f:jS W q B d)=>TW W q B d f hq
    unfold QN at G;have V:=nI j;clear j aL;cases O:kK d with
    | none =>
     rw[O] at G;simp only at G;have aQ:=aP.out k cs d aM V.out O;clear O
     go_wp2_with fail
     have u:=P.drew;have C:za wr.drew w.heap.size 69 #[X3 true,X1 Ac cs.length cc,X1 none 0 0,X1 none 0 0]:=u.b;refine zb.st (λW=>za W w.heap.size 69 #[X3 true,X1 Ac cs.length cc,X1 none 0 0,X1 none 0 0]) 7 ?_;refine zb.q 0 (Y9 (K4 ⟨w.heap.size,1,K3⟩)) C ?_;refine zb.t 1 (X1 Ac cs.length cc) rfl C (λW f=>by have e:W.cell? ⟨w.heap.size,1,K3⟩=some (X1 Ac cs.length cc):=(by rw[f.cell];rfl);go_simp) ?_;refine zb.q 2 (Y9 (K4 ⟨q,0,K3⟩)) C ?_;simp only[Z8];refine zb.n 3 ?_;refine FI 276 #[.tmp 36] #[294] rfl rfl rfl (zb.eo func276) #[Y9 (K4 ⟨q,0,K3⟩)] (by simp only[zJ,zL,zN];rfl) ((G _ u.r).mono ?_);rintro e w5 ⟨aB,rfl⟩;refine .inr ⟨_,rfl,?_⟩;exact⟨rfl,aQ _ (u.g.call (mL u.b.lt) aB).grown⟩
    | some y3 =>
     obtain⟨c,aN⟩:=y3;rw[O] at G;simp only at G;have aO:=nI (ZW kK k F cs d c aN V.out O);clear O
     go_wp2_with fail
     have u:=P.drew;have C:za wr.drew w.heap.size 69 #[X3 true,X1 Ac cs.length cc,X1 none 0 0,X1 none 0 0]:=u.b;refine zb.st (λW=>za W w.heap.size 69 #[X3 true,X1 Ac cs.length cc,X1 none 0 0,X1 none 0 0]) 7 ?_;refine zb.q 0 (Y9 (K4 ⟨w.heap.size,1,K3⟩)) C ?_;refine zb.t 1 (X1 Ac cs.length cc) rfl C (λW f=>by have e:W.cell? ⟨w.heap.size,1,K3⟩=some (X1 Ac cs.length cc):=(by rw[f.cell];rfl);go_simp) ?_;refine zb.q 2 (Y9 (K4 ⟨q,0,K3⟩)) C ?_;simp only[Z8];refine zb.n 3 ?_;refine FI 276 #[.tmp 36] #[294] rfl rfl rfl (zb.eo func276) #[Y9 (K4 ⟨q,0,K3⟩)] (by simp only[zJ,zL,zN];rfl) ((G _ u.r).mono ?_);rintro e w5 ⟨aB,rfl,h5⟩;have aE:=u.call aB h5;refine .inl ⟨_,rfl,λ_=>aE.b,?_⟩;simp only[Z8];have aK:nH w5.heap.size w5 (w5.alloc (Q9 (zl c).toArray 94)):=(nF _ w5).alloc (zG _) _;have M:=aE.pV aK;refine zb.n 4 ?_;refine zb.opV (w':=w5.alloc (Q9 (zl c).toArray 94)) (X1 w5.heap.size 1 1) rfl rfl (LG c rfl rfl) ⟨λ_=>M.b,?_⟩;simp only[Z8];refine zb.n 5 ?_;refine Jt rfl rfl Ap (.tmp 35) (.tmp 38) rfl (w.heap.size+1) (X1 Ac cs.length cc) cs.length (vY cs) rfl M.c _ _ 1 1 (zl c) rfl (XN w5 94 4 (zl c) rfl (Zs _)) (by unfold gP;omega) K5 (by have:=M.b.lt;omega) ?_;intro v7 U aF aC;obtain⟨A7,c7,rfl,_⟩:=qq aF (λv hv=>by rcases zZ.1 hv with h|h;exact Ym _ v h;exact Zs _ v h);have aU:=M.nC aF aC;have b7:za U w.heap.size 69 #[X3 true,X1 Ac cs.length cc,X1 none 0 0,X1 none 0 0]:=M.b.grown aC (λe=>by have:=zj M.c w.heap.size e.symm;omega);refine⟨λ_=>b7,?_⟩;simp only[Z8];have aS:U.cell? ⟨w.heap.size,1,K3⟩=some (X1 Ac cs.length cc):=by rw[b7.cell];rfl
     have aT:=b7.free 1;refine zb.n 6 ?_;refine zb.opV (Y9 (K4 ⟨w.heap.size,1,K3⟩)) rfl rfl K8 ⟨λ_=>b7,?_⟩;simp only[Z8];refine zb.n 7 ?_;refine zb.opS (w':=U.setCell ⟨w.heap.size,1,K3⟩ (X1 A7 (cs.length+1) c7)) rfl rfl K8 ⟨λh=>absurd rfl h,?_⟩;simp only[zD,zC,zB,nJ];refine zb.dn ?_;clear aS aT b7 aF aC M aE aK C u aB h5;go_wp2;exact⟨⟨k+1,cs++[c],aN,A7,c7,by omega,by simp,aO.out,aU⟩,by simp[intOf];omega⟩
   .obtain rfl:k=many:=K5
    have V:=nI j;clear j aL;have ns:=P.same
    go_wp2_with (first
     |(refine yp (g:=w.heap.size) zm P.b ?_)
     |(refine zt rfl 69 (.tmp 2) (.tmp 56) rfl w.heap.size rfl rfl zm P.b J0 J0 (zw rfl rfl rfl rfl) ?_))
    exact nT (yL 2 rfl rfl zm ns.b J0) rfl (aR.out cs d V.out _ Ac cc ns.g.grown ns.nis ns.own)
theorem uN {l:Y4}(h:jo l=none):jO l=none:=by unfold jO;rw[h]
theorem uM {l r:Y4}{s:ByteArray}(h:jo l=some (s,r))(h2:xN r=none):jO l=none:=by unfold jO;rw[h];simp only;rw[h2]
theorem uK {l r c:Y4}{s:ByteArray}{n:Nat}(h:jo l=some (s,r))(h2:xN r=some (n,c)):jO l=some ((s,(n:Int)),c):=by unfold jO;rw[h];simp only;rw[h2]
theorem TH (w:World)(q B:Nat)(l r:Y4)(h:jS w q B l)(hq:B<=q)(e1:xN l=some (2,r)):nK Y3 215 #[Y9 (K4 ⟨q,0,K3⟩)] w (xn (yn false r) q w):=by
 have aS:=h.lt;have n1:=NS.start h hq;have H1:=vx _ q B l n1.r hq;unfold QN at H1;rw[e1] at H1;simp only at H1;have X:=λW lx (d:jS W q B lx)=>vx W q B lx d hq
 unfold QN at X;have Z:=λW (d:jS W q B r)=>X W r d
 clear e1 h;cases N:xN r with
 | none =>
  rw[N] at Z;simp only at Z;have HP:=Xl (r:=yn false r) (by unfold yn;rw[N]) q w;generalize xn (yn false r) q w=PO at *;clear N X
  go_enter func215,ntmps215
  go_wp2_with fail
  refine H1.mono ?_;rintro e w2 ⟨aD,rfl,h2⟩;have M:=n1.call aD h2;have c2:w2.cell? w.heap.size=some (X3 false):=by rw[M.b.cell];rfl
  have f2:=M.b.free 0
  go_wp2_with (go_at_call 152;refine(yt _ _ _).mono ?_;rintro e j ⟨rfl,h7⟩;obtain⟨v7,rfl⟩:=h7.1 rfl)
  have V:=M.leaf false;refine(Z _ V.r).mono ?_;rintro e w4 ⟨aE,rfl⟩;exact⟨rfl,HP _ (V.g.call (mL V.b.lt) aE).grown⟩
 | some y =>
  obtain⟨many,r1⟩:=y;rw[N] at Z;simp only at Z;have bO:many<=100000:=(vy N).2;have aC:=λW (d:jS W q B r1)=>X W r1 d
  cases e4:xN r1 with
  | none =>
   rw[e4] at aC;simp only at aC;have aO:=Xl (r:=yn false r) (by unfold yn;rw[N];simp only[nV,if_false];rw[e4]) q w;generalize xn (yn false r) q w=PO at *;clear N e4 X
   go_enter func215,ntmps215
   go_wp2_with fail
   refine H1.mono ?_;rintro e w2 ⟨aD,rfl,h2⟩;have M:=n1.call aD h2;have c2:w2.cell? w.heap.size=some (X3 false):=by rw[M.b.cell];rfl
   have f2:=M.b.free 0
   go_wp2_with (go_at_call 152;refine(yt _ _ _).mono ?_;rintro e j ⟨rfl,h7⟩;obtain⟨v7,rfl⟩:=h7.1 rfl)
   have V:=M.leaf false;refine(Z _ V.r).mono ?_;rintro e w4 ⟨aE,rfl,h4⟩;obtain⟨ks,is,Ak,ck,Ai,ci,a9,a6,n4⟩:∃(ks:List ByteArray) (is:List Int) (Ak:Y5) (ck:Nat) (Ai:Y5) (ci:Nat),ks.length<=0/\is.length<=0/\NS w w4 q B w.heap.size false [] ks is r1 none 0 Ak ck Ai ci:=⟨[],[],none,0,none,0,by simp,by simp,V.call aE h4⟩;have c4:w4.cell? w.heap.size=some (X3 false):=by rw[n4.b.cell];rfl
   clear n1 M V aD h2 c2 f2 aE h4 H1 Z
   go_wp2_with fail
   have aA:=n4.drew;have f:za w4.drew w.heap.size 69 #[X3 false,X1 none 0 0,X1 Ak ks.length ck,X1 Ai is.length ci]:=aA.b;refine zb.st (λW=>za W w.heap.size 69 #[X3 false,X1 none 0 0,X1 Ak ks.length ck,X1 Ai is.length ci]) 7 ?_;refine zb.q 0 (Y9 (K4 ⟨w.heap.size,3,K3⟩)) f ?_;refine zb.t 1 (X1 Ai is.length ci) rfl f (λW d=>by have e:W.cell? ⟨w.heap.size,3,K3⟩=some (X1 Ai is.length ci):=(by rw[d.cell];rfl);go_simp) ?_;refine zb.q 2 (Y9 (K4 ⟨q,0,K3⟩)) f ?_;simp only[Z8];refine zb.n 3 ?_;refine FI 275 #[.tmp 24] #[294] rfl rfl rfl (zb.eo func275) #[Y9 (K4 ⟨q,0,K3⟩)] (by simp only[zJ,zL,zN];rfl) ((aC _ aA.r).mono ?_);rintro e w5 ⟨C,rfl⟩;refine .inr ⟨_,rfl,?_⟩;exact⟨rfl,aO _ (aA.g.call (mL aA.b.lt) C).grown⟩
  | some y4 =>
   obtain⟨U,r2⟩:=y4;rw[e4] at aC;simp only at aC;have aT:yn false r=match yX jO many r2 with|none=>none|some (ks,_)=>some ⟨false,[],ks.map (·.1),(U:Int)::ks.map (·.2)⟩:=by unfold yn;rw[N];simp only[nV,if_false];rw[e4];rfl
   have a0:=λhr=>Xl (r:=yn false r) hr q w
   have a1:=λx (hr:yn false r=some x)=>TJ hr q w
   have a2:∀k cs u,k<many->yX jO k r2=some (cs,u)->jO u=none->∀w',w.grownBy w' (some q)->xn (yn false r) q w (.panicked [PR 220 false]) w':=λk cs u hk hm hf=>a0 (by
    rw[aT];have:=UP jO r2 cs u k hm hf (many-k-1);rw[show k+1+(many-k-1)=many from by omega] at this
    rw[this])
   have a3:∀E u,yX jO many r2=some (E,u)->∀(ks:List ByteArray) (is:List Int) w' A c A' c',ks=E.map (·.1)->is=(U:Int)::E.map (·.2)->w.grownBy w' (some q)->XX w' w'.heap.size ⟨false,[],ks,is⟩ none 0 A c A' c'->xm w' w.heap.size ⟨false,[],ks,is⟩ none 0 A c A' c'->xn (yn false r) q w (.returned (Q0 #[X3 false,X1 none 0 0,X1 A ks.length c,X1 A' is.length c'])) w':=λE u hm ks is w' A c A' c' e1 N hg hn hf=>a1 ⟨false,[],ks,is⟩ (by rw[aT,hm,e1,N]) w' hg none 0 A c A' c' hn hf
   generalize xn (yn false r) q w=PO at *;have aZ:=nI a2;have bF:=nI a3;clear N e4 aT a0 a1 a2 a3
   go_enter func215,ntmps215
   go_wp2_with fail
   refine H1.mono ?_;rintro e w2 ⟨aD,rfl,h2⟩;have M:=n1.call aD h2;have c2:w2.cell? w.heap.size=some (X3 false):=by rw[M.b.cell];rfl
   have f2:=M.b.free 0
   go_wp2_with (go_at_call 152;refine(yt _ _ _).mono ?_;rintro e j ⟨rfl,h7⟩;obtain⟨v7,rfl⟩:=h7.1 rfl)
   have V:=M.leaf false;refine(Z _ V.r).mono ?_;rintro e w4 ⟨aE,rfl,h4⟩;obtain⟨ks,is,Ak,ck,Ai,ci,a9,a6,aY,aX,n4⟩:∃(ks:List ByteArray) (is:List Int) (Ak:Y5) (ck:Nat) (Ai:Y5) (ci:Nat),ks.length<=0/\is.length<=0/\Hid (ks=[])/\Hid (is=[])/\NS w w4 q B w.heap.size false [] ks is r1 none 0 Ak ck Ai ci:=⟨[],[],none,0,none,0,by simp,by simp,nI rfl,nI rfl,V.call aE h4⟩;have c4:w4.cell? w.heap.size=some (X3 false):=by rw[n4.b.cell];rfl
   clear n1 M V aD h2 c2 f2 aE h4 H1 Z
   go_wp2_with fail
   have aA:=n4.drew;have f:za w4.drew w.heap.size 69 #[X3 false,X1 none 0 0,X1 Ak ks.length ck,X1 Ai is.length ci]:=aA.b;refine zb.st (λW=>za W w.heap.size 69 #[X3 false,X1 none 0 0,X1 Ak ks.length ck,X1 Ai is.length ci]) 7 ?_;refine zb.q 0 (Y9 (K4 ⟨w.heap.size,3,K3⟩)) f ?_;refine zb.t 1 (X1 Ai is.length ci) rfl f (λW d=>by have e:W.cell? ⟨w.heap.size,3,K3⟩=some (X1 Ai is.length ci):=(by rw[d.cell];rfl);go_simp) ?_;refine zb.q 2 (Y9 (K4 ⟨q,0,K3⟩)) f ?_;simp only[Z8];refine zb.n 3 ?_;refine FI 275 #[.tmp 24] #[294] rfl rfl rfl (zb.eo func275) #[Y9 (K4 ⟨q,0,K3⟩)] (by simp only[zJ,zL,zN];rfl) ((aC _ aA.r).mono ?_);rintro e w5 ⟨C,rfl,O⟩;have aV:=aA.call C O;refine .inl ⟨_,rfl,λ_=>aV.b,?_⟩;simp only[Z8];have P:nH w5.heap.size w5 (w5.alloc (Q9 #[Y1 Q4 (U:Int)] 3)):=(nF _ w5).alloc (zG _) _;have aK:=aV.pV P;refine zb.n 4 ?_;refine zb.opV (w':=w5.alloc (Q9 #[Y1 Q4 (U:Int)] 3)) (X1 w5.heap.size 1 1) rfl rfl K8 ⟨λ_=>aK.b,?_⟩;simp only[Z8];refine zb.n 5 ?_;refine Jt rfl rfl Fg (.tmp 23) (.tmp 26) rfl (w.heap.size+1) (X1 Ai is.length ci) is.length (ZJ is) rfl aK.i _ _ 1 1 [Y1 Q4 (U:Int)] rfl (XN w5 3 1 [Y1 Q4 (U:Int)] rfl (λv G=>by obtain rfl:=qL.1 G;rfl)) (by unfold gP;omega) K5 (by have:=aK.b.lt;omega) ?_;intro v7 j I F;obtain⟨A7,c7,rfl,_⟩:=qq I (λv G=>by rcases zZ.1 G with h|h;exact Yh _ v h;obtain rfl:=qL.1 h;rfl);have bD:=aK.dp I F;have b7:za j w.heap.size 69 #[X3 false,X1 none 0 0,X1 Ak ks.length ck,X1 Ai is.length ci]:=aK.b.grown F (λe=>by have:=zj aK.i w.heap.size e.symm;omega);refine⟨λ_=>b7,?_⟩;simp only[Z8];have aG:j.cell? ⟨w.heap.size,3,K3⟩=some (X1 Ai is.length ci):=by rw[b7.cell];rfl
   have aH:=b7.free 3;refine zb.n 6 ?_;refine zb.opV (Y9 (K4 ⟨w.heap.size,3,K3⟩)) rfl rfl K8 ⟨λ_=>b7,?_⟩;simp only[Z8];refine zb.n 7 ?_;refine zb.opS (w':=j.setCell ⟨w.heap.size,3,K3⟩ (X1 A7 (is.length+1) c7)) rfl rfl K8 ⟨λh=>absurd rfl h,?_⟩;simp only[zD,zC,zB,nJ];refine zb.dn ?_;clear aG aH b7 I F aK aV P f aA C O;have bA:Hid (ks=(([]:List (ByteArray×Int)).map (·.1))):=nI (by rw[aY.out];rfl);have a7:Hid (is++[(U:Int)]=(U:Int)::(([]:List (ByteArray×Int)).map (·.2))):=nI (by rw[aX.out];rfl);generalize a8:is++[(U:Int)]=bB at *;have bI:is.length+1=bB.length:=by rw[<-a8,zH];rfl
   clear a8 bI aC n4 c4
   go_wp2_with fail
   go_loopw [30] (λi wr=>∃(k:Nat) (E:List (ByteArray×Int)) (u:Y4) (ks:List ByteArray) (is:List Int) (Ak:Y5) (ck:Nat) (Ai:Y5) (ci:Nat),k<=many/\i=Y1 Q4 k/\yX jO k r2=some (E,u)/\Hid (ks=E.map (·.1))/\Hid (is=(U:Int)::E.map (·.2))/\NS w wr q B w.heap.size false [] ks is u none 0 Ak ck Ai ci) (λi _=>many-(intOf i).toNat)
   case atStart=>exact⟨0,[],r2,ks,bB,Ak,ck,A7,c7,by omega,rfl,rfl,bA,a7,bD⟩
   case round =>
    clear bD bA a7 a9 a6 aY aX;obtain⟨k,E,u,ks,is,Ak,ck,Ai,ci,hk,rfl,hm,aQ,aP,nr⟩:=hrel;have c0:wr.cell? w.heap.size=some (X3 false):=by rw[nr.b.cell];rfl
    have bJ:=Yv jO k r2 E u hm;have bM:ks.length<=100000:=by rw[aQ.out,qH];omega
    have bL:is.length<=100001:=by rw[aP.out,zK,qH];omega
    have HM:=nI hm;clear hm bJ
    by_cases aS:k<many
    .have bN:(k:Int)<(many:Int):=K5
     have bP:IntKind.i64.wrap ((k:Int)+1)=(k:Int)+1:=xX _;have HT:=λW (d:jS W q B u)=>ZT W q B u d hq
     unfold QN at HT;cases e3:jo u with
     | none =>
      rw[e3] at HT;simp only at HT;have aO:=aZ.out k E u aS HM.out (uN e3);clear e3 X
      go_wp2_with fail
      have L:=nr.drew;have f:za wr.drew w.heap.size 69 #[X3 false,X1 none 0 0,X1 Ak ks.length ck,X1 Ai is.length ci]:=L.b;refine zb.st (λW=>za W w.heap.size 69 #[X3 false,X1 none 0 0,X1 Ak ks.length ck,X1 Ai is.length ci]) 7 ?_;refine zb.q 0 (Y9 (K4 ⟨w.heap.size,2,K3⟩)) f ?_;refine zb.t 1 (X1 Ak ks.length ck) rfl f (λW d=>by have e:W.cell? ⟨w.heap.size,2,K3⟩=some (X1 Ak ks.length ck):=(by rw[d.cell];rfl);go_simp) ?_;refine zb.q 2 (Y9 (K4 ⟨q,0,K3⟩)) f ?_;simp only[Z8];refine zb.n 3 ?_;refine FI 277 #[.tmp 43] #[294] rfl rfl rfl (zb.eo func277) #[Y9 (K4 ⟨q,0,K3⟩)] (by simp only[zJ,zL,zN];rfl) ((HT _ L.r).mono ?_);rintro e w5 ⟨C,rfl⟩;refine .inr ⟨_,rfl,?_⟩;exact⟨rfl,aO _ (L.g.call (mL L.b.lt) C).grown⟩
     | some y3 =>
      obtain⟨s,aU⟩:=y3;rw[e3] at HT;simp only at HT;have aM:=λW (d:jS W q B aU)=>X W aU d
      cases e5:xN aU with
      | none =>
       rw[e5] at aM;simp only at aM;have aO:=aZ.out k E u aS HM.out (uM e3 e5);clear e3 e5 X
       go_wp2_with fail
       have L:=nr.drew;have f:za wr.drew w.heap.size 69 #[X3 false,X1 none 0 0,X1 Ak ks.length ck,X1 Ai is.length ci]:=L.b;refine zb.st (λW=>za W w.heap.size 69 #[X3 false,X1 none 0 0,X1 Ak ks.length ck,X1 Ai is.length ci]) 7 ?_;refine zb.q 0 (Y9 (K4 ⟨w.heap.size,2,K3⟩)) f ?_;refine zb.t 1 (X1 Ak ks.length ck) rfl f (λW d=>by have e:W.cell? ⟨w.heap.size,2,K3⟩=some (X1 Ak ks.length ck):=(by rw[d.cell];rfl);go_simp) ?_;refine zb.q 2 (Y9 (K4 ⟨q,0,K3⟩)) f ?_;simp only[Z8];refine zb.n 3 ?_;refine FI 277 #[.tmp 43] #[294] rfl rfl rfl (zb.eo func277) #[Y9 (K4 ⟨q,0,K3⟩)] (by simp only[zJ,zL,zN];rfl) ((HT _ L.r).mono ?_);rintro e w5 ⟨C,rfl,O⟩;have aJ:=L.call C O;refine .inl ⟨_,rfl,λ_=>aJ.b,?_⟩;simp only[Z8];have P:nH w5.heap.size w5 (w5.alloc (Q9 #[X9 s] 9)):=(nF _ w5).alloc (zG _) _;have H:=aJ.pV P;refine zb.n 4 ?_;refine zb.opV (w':=w5.alloc (Q9 #[X9 s] 9)) (X1 w5.heap.size 1 1) rfl rfl K8 ⟨λ_=>H.b,?_⟩;simp only[Z8];refine zb.n 5 ?_;refine Jt rfl rfl Eu (.tmp 42) (.tmp 45) rfl (w.heap.size+1) (X1 Ak ks.length ck) ks.length (Xa ks) rfl H.k _ _ 1 1 [X9 s] rfl (XN w5 9 1 [X9 s] rfl (λv G=>by obtain rfl:=qL.1 G;rfl)) (by unfold gP;omega) K5 (by have:=H.b.lt;omega) ?_;intro v7 j I F;obtain⟨A7,c7,rfl,_⟩:=qq I (λv G=>by rcases zZ.1 G with h|h;exact jd _ v h;obtain rfl:=qL.1 h;rfl);have aN:=H.dY I F;have b7:za j w.heap.size 69 #[X3 false,X1 none 0 0,X1 Ak ks.length ck,X1 Ai is.length ci]:=H.b.grown F (λe=>by have:=zj H.k w.heap.size e.symm;omega);refine⟨λ_=>b7,?_⟩;simp only[Z8];have aG:j.cell? ⟨w.heap.size,2,K3⟩=some (X1 Ak ks.length ck):=by rw[b7.cell];rfl
       have aH:=b7.free 2;refine zb.n 6 ?_;refine zb.opV (Y9 (K4 ⟨w.heap.size,2,K3⟩)) rfl rfl K8 ⟨λ_=>b7,?_⟩;simp only[Z8];refine zb.n 7 ?_;refine zb.opS (w':=j.setCell ⟨w.heap.size,2,K3⟩ (X1 A7 (ks.length+1) c7)) rfl rfl K8 ⟨λh=>absurd rfl h,?_⟩;simp only[zD,zC,zB,nJ];refine zb.dn ?_;clear aG aH b7 I F H aJ P f L C O;generalize aR:ks++[s]=aI at *;obtain⟨wy,aF⟩:∃W,j.setCell ⟨w.heap.size,2,K3⟩ (X1 A7 (ks.length+1) c7)=W:=⟨_,rfl⟩;rw[aF] at aN;rw[aF];clear aR aF nr c0
       go_wp2_with fail
       have aB:=aN.drew;have f:za wy.drew w.heap.size 69 #[X3 false,X1 none 0 0,X1 A7 aI.length c7,X1 Ai is.length ci]:=aB.b;refine zb.st (λW=>za W w.heap.size 69 #[X3 false,X1 none 0 0,X1 A7 aI.length c7,X1 Ai is.length ci]) 7 ?_;refine zb.q 0 (Y9 (K4 ⟨w.heap.size,3,K3⟩)) f ?_;refine zb.t 1 (X1 Ai is.length ci) rfl f (λW d=>by have e:W.cell? ⟨w.heap.size,3,K3⟩=some (X1 Ai is.length ci):=(by rw[d.cell];rfl);go_simp) ?_;refine zb.q 2 (Y9 (K4 ⟨q,0,K3⟩)) f ?_;simp only[Z8];refine zb.n 3 ?_;refine FI 275 #[.tmp 50] #[294] rfl rfl rfl (zb.eo func275) #[Y9 (K4 ⟨q,0,K3⟩)] (by simp only[zJ,zL,zN];rfl) ((aM _ aB.r).mono ?_);rintro e w5 ⟨C,rfl⟩;refine .inr ⟨_,rfl,?_⟩;exact⟨rfl,aO _ (aB.g.call (mL aB.b.lt) C).grown⟩
      | some y5 =>
       obtain⟨pg,bC⟩:=y5;rw[e5] at aM;simp only at aM;have bE:=nI (ZW jO k r2 E u (s,(pg:Int)) bC HM.out (uK e3 e5));clear e3 e5 X
       go_wp2_with fail
       have L:=nr.drew;have f:za wr.drew w.heap.size 69 #[X3 false,X1 none 0 0,X1 Ak ks.length ck,X1 Ai is.length ci]:=L.b;refine zb.st (λW=>za W w.heap.size 69 #[X3 false,X1 none 0 0,X1 Ak ks.length ck,X1 Ai is.length ci]) 7 ?_;refine zb.q 0 (Y9 (K4 ⟨w.heap.size,2,K3⟩)) f ?_;refine zb.t 1 (X1 Ak ks.length ck) rfl f (λW d=>by have e:W.cell? ⟨w.heap.size,2,K3⟩=some (X1 Ak ks.length ck):=(by rw[d.cell];rfl);go_simp) ?_;refine zb.q 2 (Y9 (K4 ⟨q,0,K3⟩)) f ?_;simp only[Z8];refine zb.n 3 ?_;refine FI 277 #[.tmp 43] #[294] rfl rfl rfl (zb.eo func277) #[Y9 (K4 ⟨q,0,K3⟩)] (by simp only[zJ,zL,zN];rfl) ((HT _ L.r).mono ?_);rintro e w5 ⟨C,rfl,O⟩;have aJ:=L.call C O;refine .inl ⟨_,rfl,λ_=>aJ.b,?_⟩;simp only[Z8];have P:nH w5.heap.size w5 (w5.alloc (Q9 #[X9 s] 9)):=(nF _ w5).alloc (zG _) _;have H:=aJ.pV P;refine zb.n 4 ?_;refine zb.opV (w':=w5.alloc (Q9 #[X9 s] 9)) (X1 w5.heap.size 1 1) rfl rfl K8 ⟨λ_=>H.b,?_⟩;simp only[Z8];refine zb.n 5 ?_;refine Jt rfl rfl Eu (.tmp 42) (.tmp 45) rfl (w.heap.size+1) (X1 Ak ks.length ck) ks.length (Xa ks) rfl H.k _ _ 1 1 [X9 s] rfl (XN w5 9 1 [X9 s] rfl (λv G=>by obtain rfl:=qL.1 G;rfl)) (by unfold gP;omega) K5 (by have:=H.b.lt;omega) ?_;intro v7 j I F;obtain⟨A7,c7,rfl,_⟩:=qq I (λv G=>by rcases zZ.1 G with h|h;exact jd _ v h;obtain rfl:=qL.1 h;rfl);have aN:=H.dY I F;have b7:za j w.heap.size 69 #[X3 false,X1 none 0 0,X1 Ak ks.length ck,X1 Ai is.length ci]:=H.b.grown F (λe=>by have:=zj H.k w.heap.size e.symm;omega);refine⟨λ_=>b7,?_⟩;simp only[Z8];have aG:j.cell? ⟨w.heap.size,2,K3⟩=some (X1 Ak ks.length ck):=by rw[b7.cell];rfl
       have aH:=b7.free 2;refine zb.n 6 ?_;refine zb.opV (Y9 (K4 ⟨w.heap.size,2,K3⟩)) rfl rfl K8 ⟨λ_=>b7,?_⟩;simp only[Z8];refine zb.n 7 ?_;refine zb.opS (w':=j.setCell ⟨w.heap.size,2,K3⟩ (X1 A7 (ks.length+1) c7)) rfl rfl K8 ⟨λh=>absurd rfl h,?_⟩;simp only[zD,zC,zB,nJ];refine zb.dn ?_;clear aG aH b7 I F H aJ P f L C O;have bH:Hid (ks++[s]=(E++[(s,(pg:Int))]).map (·.1)):=nI (by rw[aQ.out,qX];rfl);generalize aR:ks++[s]=aI at *;obtain⟨wy,aF⟩:∃W,j.setCell ⟨w.heap.size,2,K3⟩ (X1 A7 (ks.length+1) c7)=W:=⟨_,rfl⟩;rw[aF] at aN;rw[aF];clear aR aF nr c0;obtain⟨Ak,a4⟩:∃A,A=A7:=⟨_,rfl⟩;obtain⟨ck,a5⟩:∃c,c=c7:=⟨_,rfl⟩;rw[<-a4,<-a5] at aN;clear a4 a5
       go_wp2_with fail
       have aB:=aN.drew;have f:za wy.drew w.heap.size 69 #[X3 false,X1 none 0 0,X1 Ak aI.length ck,X1 Ai is.length ci]:=aB.b;refine zb.st (λW=>za W w.heap.size 69 #[X3 false,X1 none 0 0,X1 Ak aI.length ck,X1 Ai is.length ci]) 7 ?_;refine zb.q 0 (Y9 (K4 ⟨w.heap.size,3,K3⟩)) f ?_;refine zb.t 1 (X1 Ai is.length ci) rfl f (λW d=>by have e:W.cell? ⟨w.heap.size,3,K3⟩=some (X1 Ai is.length ci):=(by rw[d.cell];rfl);go_simp) ?_;refine zb.q 2 (Y9 (K4 ⟨q,0,K3⟩)) f ?_;simp only[Z8];refine zb.n 3 ?_;refine FI 275 #[.tmp 50] #[294] rfl rfl rfl (zb.eo func275) #[Y9 (K4 ⟨q,0,K3⟩)] (by simp only[zJ,zL,zN];rfl) ((aM _ aB.r).mono ?_);rintro e w5 ⟨C,rfl,O⟩;have aW:=aB.call C O;refine .inl ⟨_,rfl,λ_=>aW.b,?_⟩;simp only[Z8];have P:nH w5.heap.size w5 (w5.alloc (Q9 #[Y1 Q4 (pg:Int)] 3)):=(nF _ w5).alloc (zG _) _;have aL:=aW.pV P;refine zb.n 4 ?_;refine zb.opV (w':=w5.alloc (Q9 #[Y1 Q4 (pg:Int)] 3)) (X1 w5.heap.size 1 1) rfl rfl K8 ⟨λ_=>aL.b,?_⟩;simp only[Z8];refine zb.n 5 ?_;refine Jt rfl rfl Fg (.tmp 49) (.tmp 52) rfl (w.heap.size+1) (X1 Ai is.length ci) is.length (ZJ is) rfl aL.i _ _ 1 1 [Y1 Q4 (pg:Int)] rfl (XN w5 3 1 [Y1 Q4 (pg:Int)] rfl (λv G=>by obtain rfl:=qL.1 G;rfl)) (by unfold gP;omega) K5 (by have:=aL.b.lt;omega) ?_;intro v7 j I F;obtain⟨A7,c7,rfl,_⟩:=qq I (λv G=>by rcases zZ.1 G with h|h;exact Yh _ v h;obtain rfl:=qL.1 h;rfl);have bK:=aL.dp I F;have b7:za j w.heap.size 69 #[X3 false,X1 none 0 0,X1 Ak aI.length ck,X1 Ai is.length ci]:=aL.b.grown F (λe=>by have:=zj aL.i w.heap.size e.symm;omega);refine⟨λ_=>b7,?_⟩;simp only[Z8];have aG:j.cell? ⟨w.heap.size,3,K3⟩=some (X1 Ai is.length ci):=by rw[b7.cell];rfl
       have aH:=b7.free 3;refine zb.n 6 ?_;refine zb.opV (Y9 (K4 ⟨w.heap.size,3,K3⟩)) rfl rfl K8 ⟨λ_=>b7,?_⟩;simp only[Z8];refine zb.n 7 ?_;refine zb.opS (w':=j.setCell ⟨w.heap.size,3,K3⟩ (X1 A7 (is.length+1) c7)) rfl rfl K8 ⟨λh=>absurd rfl h,?_⟩;simp only[zD,zC,zB,nJ];refine zb.dn ?_;clear aG aH b7 I F aL aW P f aB C O;have bG:Hid (is++[(pg:Int)]=(U:Int)::(E++[(s,(pg:Int))]).map (·.2)):=nI (by rw[aP.out,qX];rfl);go_wp2;exact⟨⟨k+1,E++[(s,(pg:Int))],bC,aI,is++[(pg:Int)],Ak,ck,A7,c7,by omega,by simp,bE.out,bH,bG,bK⟩,by simp[intOf];omega⟩
    .obtain rfl:k=many:=K5
     have ns:=nr.same
     go_wp2_with (first
      |(refine yp (g:=w.heap.size) zm nr.b ?_)
      |(refine zt rfl 69 (.tmp 2) (.tmp 56) rfl w.heap.size rfl rfl zm nr.b J0 J0 (zw rfl rfl rfl rfl) ?_))
     exact nT (yL 2 rfl rfl zm ns.b J0) rfl (bF.out E u HM.out ks is _ Ak ck Ai ci aQ.out aP.out ns.g.grown ns.nis ns.own)

attribute [local go_sem] Db
theorem TI (w:World)(q B:Nat)(l:Y4)(h:jS w q B l)(hq:B<=q):nK Y3 215 #[Y9 q] w (xn (kJ l) q w):=by
 cases c:xN l with
 | none =>
  have k:=Xl (r:=kJ l) (by unfold kJ;rw[c]) q w;generalize xn (kJ l) q w=C at *;have j:=NS.start h hq;have d:=vx _ q B l j.r hq;unfold QN at d;rw[c] at d;simp only at d;clear c h
  go_enter func215,ntmps215
  go_wp2_with fail
  refine d.mono ?_;rintro e H ⟨A,rfl⟩;exact⟨rfl,k _ (j.g.call (mL j.b.lt) A).grown⟩
 | some y =>
  obtain⟨f,r⟩:=y
  by_cases u:f=1
  .subst u;have e:kJ l=yn true r:=by unfold kJ;rw[c];rfl
   rw[e];exact Lr w q B l r h hq c
  .by_cases v:f=2
   .subst v;have e:kJ l=yn false r:=by unfold kJ;rw[c];rfl
    rw[e];exact TH w q B l r h hq c
   .have k:=Xl (r:=kJ l) (by unfold kJ;rw[c];simp only;rw[if_neg u,if_neg v]) q w;generalize xn (kJ l) q w=C at *;have j:=NS.start h hq;have d:=vx _ q B l j.r hq;unfold QN at d;rw[c] at d;simp only at d;have F:¬ (f:Int)=1:=K5
    have G:¬ (f:Int)=2:=K5
    clear c h u v
    go_enter func215,ntmps215
    go_wp2_with fail
    refine d.mono ?_;rintro e H ⟨A,rfl,h2⟩
    go_wp2_with (go_at_call 152;refine(yt _ _ _).mono ?_;rintro e I ⟨rfl,E⟩;obtain rfl:=E.2 (by simp[F,G]))
    exact⟨rfl,k _ (j.g.call (mL j.b.lt) A).grown⟩
theorem OM (w:World)(A v:Y5)(c c':Nat)(l l':Y4)(h:qv w w.heap.size A c l)(r:qv w w.heap.size v c' l'):nK Y3 71 #[X1 A l.length c,X1 v l'.length c'] w λe w'=>e=Y0 (X3 (decide (l=l')))/\nH w.heap.size w w':=by
 have X:=h.le;have aA:=h.max
 by_cases hl:l.length=l'.length
 .have Z:l'.length<=9223372036854775807:=by have:=r.le;have:=r.max;omega
  rw[<-hl];have C:=nI hl;clear hl
  go_enter func71,ntmps71
  go_wp2
  go_loopw [13] (λi wr=>∃k:Nat,k<=l.length/\i=Y1 Q4 k/\Hid (l.take k=l'.take k)/\nH w.heap.size w wr) (λi _=>l.length-(intOf i).toNat)
  case atStart=>exact⟨0,by omega,rfl,nI K9,nF _ _⟩
  case round =>
   obtain⟨k,V,rfl,E,hB⟩:=hrel
   by_cases G:k<l.length
   .have H:k<l'.length:=by have:=C.out;omega
    obtain⟨g,o,rfl,M,hc⟩:=h.pO K5;obtain⟨j,o',rfl,N,u⟩:=r.pO K5;have d0:wr.cell? ⟨g,o+k,K3⟩=K4 (Y1 Q5 (l[k].toNat:Int)):=(hB.cell (p:=⟨g,o+k,K3⟩) M).trans (hc k G);have F:wr.cell? ⟨j,o'+k,K3⟩=K4 (Y1 Q5 (l'[k].toNat:Int)):=(hB.cell (p:=⟨j,o'+k,K3⟩) N).trans (u k H);have P:wr.drew.cell? ⟨g,o+k,K3⟩=K4 (Y1 Q5 (l[k].toNat:Int)):=d0;have L:wr.drew.cell? ⟨j,o'+k,K3⟩=K4 (Y1 Q5 (l'[k].toNat:Int)):=F;have j1:(k:Int)<(l.length:Int):=K5
    have j2:(0:Int)<=(k:Int):=K5
    have aB:IntKind.i64.wrap ((k:Int)+1)=(k:Int)+1:=xX _
    by_cases d:l[k]=l'[k]
    .have O:Hid (l.take (k+1)=l'.take (k+1)):=nI (by rw[zU G,zU H,E.out,d]);rw[<-d] at F L;generalize l[k]=b at *;clear d hc u;go_wp2
     go_region
     go_wp2;exact⟨⟨k+1,by omega,by simp,O,hB.drew⟩,by simp[intOf];omega⟩
    .have f:¬ l=l':=λe=>d (by subst e;rfl)
     have U:¬ (l[k].toNat:Int)=(l'[k].toNat:Int):=λe=>d (UInt8.toNat_inj.1 K5)
     generalize (l[k].toNat:Int)=x at *;generalize (l'[k].toNat:Int)=y at *;have I:=nI f;clear d hc u f;go_wp2
     go_region
     go_wp2;go_ret;exact⟨by simp[I.out],hB.drew⟩
   .obtain rfl:k=l.length:=K5
    have d:Hid (l=l'):=nI (by
     have h1:=E.out;rw[List.take_length,C.out,List.take_length] at h1
     exact h1)
    go_wp2;go_ret;exact⟨by simp[d.out],hB⟩
 .have W:¬ (l.length:Int)=(l'.length:Int):=K5
  have f:¬ l=l':=λe=>hl (by rw[e])
  go_enter func71,ntmps71
  go_wp2;go_ret;exact⟨by simp[f],nF _ _⟩
end
section
open Go Go.RowKit xq
def VH (w:World)(ls:List Y4)(last:Nat)(e:mH)(w':World):Prop:=∃k:Nat,e=Y0 (Y1 Q4 (k:Int))/\kz ls last k/\nH w.heap.size w w'
theorem BO (ls:List Y4)(k:Nat):kC ls k<=ls.flatten.length:=by
 have:=Ji ls k;omega
theorem Vy (w:World)(base:Nat)(A:Y5)(c:Nat)(ls:List Y4)(vs:Y8)(h:Zx w base (X1 A ls.length c) ls vs)(hf:ls.flatten.length<=1000000)(hm:ls.length<=1000000)(last:Nat)(aF:last<=ls.length):nK Y3 209 #[X1 A ls.length c,Y1 Q4 (last:Int)] w (VH w ls last):=by
 have N:=Yx h K5;obtain⟨A',c',P,X⟩:=qq h.own h.one;injection P with e1 e2 e3
 subst e1 e3;unfold VH;have u:∀k,kC ls k<=ls.flatten.length:=BO ls;have E:∀k,k<=last->(∀j,j<k->2*kC ls j<=ls.flatten.length)->(k=last\/ls.flatten.length<2*kC ls k)->kz ls last k:=λk h1 h2 U=>⟨h1,h2,U⟩
 generalize ls.flatten=r at *
 go_enter func209,ntmps209
 go_wp2_with (go_at_call 153;refine N.mono ?_;rintro e w2 ⟨v,rfl,own,hB⟩;obtain⟨A2,c2,rfl,aD⟩:=own.inB)
 have aB:kC ls 0=0:=by simp[kC]
 go_loopw [4,6] (λi v wr=>∃(k s:Nat),k<=last/\i=Y1 Q4 k/\v=Y1 Q4 s/\s=kC ls k/\(∀j,j<k->2*kC ls j<=r.length)/\wr=w2) (λi _ _=>last-(intOf i).toNat)
 case atStart=>exact⟨0,0,by omega,rfl,rfl,aB.symm,λj Z=>by omega,rfl⟩
 case round =>
  obtain⟨k,s,hk,rfl,rfl,hs,d,rfl⟩:=hrel;have aI:=u k;have F:=nI (E k hk);have aL:IntKind.i64.wrap ((k:Int)+1)=(k:Int)+1:=xX _;have aK:IntKind.i64.wrap (2*(s:Int))=2*(s:Int):=xX _
  by_cases aG:k<last
  .by_cases aC:2*s<=r.length
   .obtain⟨M,O,G,_⟩:=h.at_ k K5;obtain⟨g,o,rfl,V,I⟩:=X.pO K5;have d0:wr.cell? ⟨g,o+k,K3⟩=some (X1 M ls[k].length O):=(hB.cell (p:=⟨g,o+k,K3⟩) V).trans (I k _ G);have hn:=Jj ls k K5;have aJ:=u (k+1);have W:2*(s:Int)<=(r.length:Int):=K5
    have aH:(k:Int)<(ls.length:Int):=K5
    have aA:(k:Int)<(last:Int):=K5
    have aE:(0:Int)<=(k:Int):=K5
    have H:∀j,j<k+1->2*kC ls j<=r.length:=λj Z=>by
     by_cases e:j=k
     .subst e;omega
     .exact d j K5
    have L:s+ls[k].length=kC ls (k+1):=K5
    have aM:IntKind.i64.wrap ((s:Int)+(ls[k].length:Int))=((s+ls[k].length:Nat):Int):=by rw[xX _];omega
    generalize ls[k].length=m at *;have C:=nI L;have f:=nI H;clear L H d hs hn G I h E u;go_wp2;exact⟨⟨k+1,s+m,by omega,by simp,by simp,C.out,f.out,by simp⟩,by simp[intOf];omega⟩
   .have W:¬ 2*(s:Int)<=(r.length:Int):=K5
    have aA:(k:Int)<(last:Int):=K5
    have C:=nI hs;have f:=nI d;clear hs d h E u;go_wp2;go_ret;exact⟨k,rfl,F.out f.out (.inr (by rw[<-C.out];omega)),hB⟩
  .obtain rfl:k=last:=K5
   have hn:¬ (k:Int)<(k:Int):=K5
   have C:=nI hs;have f:=nI d;clear hs d h E u;go_wp2;go_ret;exact⟨k,by simp,F.out f.out (.inl K9),hB⟩
attribute [local go_sem] Db
def YV:Y7:=#[X3 false,X1 none 0 0,X1 none 0 0,X1 none 0 0]
theorem JC:∀v∈YV.toList,v.oneCell'=true:=by
 intro v c;simp[YV] at c;rcases c with rfl|rfl|rfl|rfl<;>rfl
structure Bx (w0 w:World)(p:Nat)(a b:Y7)(s e:Value):Prop where
 a:za w (p+1) 69 a
 b:za w (p+1+1) 69 b
 s:za w (p+1+1+1) 9 #[s]
 e:za w (p+1+1+1+1) 27 #[e]
 h:nH (p+1) w0 w
section
variable {w0 w w':World}{p:Nat}{a b:Y7}{s e:Value}
theorem Bx.pV (h:Bx w0 w p a b s e)(hB:nH w.heap.size w w'):Bx w0 w' p a b s e :=
 ⟨h.a.below hB h.a.lt,h.b.below hB h.b.lt,h.s.below hB h.s.lt,h.e.below hB h.e.lt,h.h.trans (hB.mono (mL h.a.lt))⟩
theorem Bx.base (h:Bx w0 w p a b s e):Bx w w p a b s e:=⟨h.a,h.b,h.s,h.e,nF _ w⟩
theorem Bx.drew (h:Bx w0 w p a b s e):Bx w0 w.drew p a b s e:=h.pV (nF _ w).drew
theorem Bx.oJ (h:Bx w0 w p a b s e)(i:Nat)(v:Value):Bx w0 (w.setCell ⟨p+1,i,K3⟩ v) p (a.setIfInBounds i v) b s e :=
 ⟨h.a.set i v,h.b.other (by simp<;>omega) v,h.s.other (by simp<;>omega) v,h.e.other (by simp<;>omega) v,h.h.setCell (by simp<;>omega) v⟩
theorem Bx.oK (h:Bx w0 w p a b s e)(i:Nat)(v:Value):Bx w0 (w.setCell ⟨p+1+1,i,K3⟩ v) p a (b.setIfInBounds i v) s e :=
 ⟨h.a.other (by simp<;>omega) v,h.b.set i v,h.s.other (by simp<;>omega) v,h.e.other (by simp<;>omega) v,h.h.setCell (by simp<;>omega) v⟩
theorem Bx.dF (h:Bx w0 w p a b s e)(v:Value):Bx w0 (w.setCell (p+1+1+1:Nat) v) p a b v e :=
 ⟨h.a.other (by simp<;>omega) v,h.b.other (by simp<;>omega) v,h.s.set 0 v,h.e.other (by simp<;>omega) v,h.h.setCell (by simp<;>omega) v⟩
theorem Bx.dh (h:Bx w0 w p a b s e)(v:Value):Bx w0 (w.setCell (p+1+1+1+1:Nat) v) p a b s v :=
 ⟨h.a.other (by simp<;>omega) v,h.b.other (by simp<;>omega) v,h.s.other (by simp<;>omega) v,h.e.set 0 v,h.h.setCell (by simp<;>omega) v⟩
theorem Bx.oS (h:Bx w0 w p a b s e)(cs:Y7):Bx w0 (w.setRow (p+1) cs) p cs b s e :=
 ⟨h.a.setRow cs,h.b.pN (by simp<;>omega) cs,h.s.pN (by simp<;>omega) cs,h.e.pN (by simp<;>omega) cs,zf h.h (by simp<;>omega) cs⟩
theorem Bx.oR (h:Bx w0 w p a b s e)(cs:Y7):Bx w0 (w.setRow (p+1+1) cs) p a cs s e :=
 ⟨h.a.pN (by simp<;>omega) cs,h.b.setRow cs,h.s.pN (by simp<;>omega) cs,h.e.pN (by simp<;>omega) cs,zf h.h (by simp<;>omega) cs⟩
end
def uk (w:World)(cs:Y7):World:=((((w.alloc (Q9 cs 69)).alloc (Q9 #[X3 false,X1 none 0 0,X1 none 0 0,X1 none 0 0] 69)).alloc (Q9 #[X3 false,X1 none 0 0,X1 none 0 0,X1 none 0 0] 69)).alloc (Q9 #[X9 {data:=#[]}] 9)).alloc (Q9 #[Y1 Q4 0] 27)
theorem wK (w:World)(cs:Y7):za (uk w cs) w.heap.size 69 cs/\Bx (uk w cs) (uk w cs) w.heap.size YV YV (X9 {data:=#[]}) (Y1 Q4 0)/\nH w.heap.size w (uk w cs):=by
 have c:=nG w (Q9 cs 69);have a0:=za.new w 69 cs;have b1:nH w.heap.size w (w.alloc (Q9 cs 69)):=(nF _ w).alloc (zG _) _;unfold uk YV;generalize w.alloc (Q9 cs 69)=f at *;have d:=nG f (Q9 #[X3 false,X1 none 0 0,X1 none 0 0,X1 none 0 0] 69);have C:=za.new f 69 #[X3 false,X1 none 0 0,X1 none 0 0,X1 none 0 0];have u:=a0.alloc (Q9 #[X3 false,X1 none 0 0,X1 none 0 0,X1 none 0 0] 69);have b2:=b1.alloc K5 (Q9 #[X3 false,X1 none 0 0,X1 none 0 0,X1 none 0 0] 69);generalize f.alloc (Q9 #[X3 false,X1 none 0 0,X1 none 0 0,X1 none 0 0] 69)=g at *;have r:=nG g (Q9 #[X3 false,X1 none 0 0,X1 none 0 0,X1 none 0 0] 69);have F:=za.new g 69 #[X3 false,X1 none 0 0,X1 none 0 0,X1 none 0 0];have v:=u.alloc (Q9 #[X3 false,X1 none 0 0,X1 none 0 0,X1 none 0 0] 69);have E:=C.alloc (Q9 #[X3 false,X1 none 0 0,X1 none 0 0,X1 none 0 0] 69);have b3:=b2.alloc K5 (Q9 #[X3 false,X1 none 0 0,X1 none 0 0,X1 none 0 0] 69);generalize g.alloc (Q9 #[X3 false,X1 none 0 0,X1 none 0 0,X1 none 0 0] 69)=h at *;have G:=nG h (Q9 #[X9 {data:=#[]}] 9);have a3:=za.new h 9 #[X9 {data:=#[]}];have A:=v.alloc (Q9 #[X9 {data:=#[]}] 9);have j:=E.alloc (Q9 #[X9 {data:=#[]}] 9);have k:=F.alloc (Q9 #[X9 {data:=#[]}] 9);have b4:=b3.alloc K5 (Q9 #[X9 {data:=#[]}] 9);generalize h.alloc (Q9 #[X9 {data:=#[]}] 9)=H at *;have a4:=za.new H 27 #[Y1 Q4 0];have b5:=b4.alloc K5 (Q9 #[Y1 Q4 0] 27);rw[G,r,d,c] at a4;rw[r,d,c] at a3;rw[d,c] at k;rw[c] at j;exact⟨A.alloc _,⟨j.alloc _,k.alloc _,a3.alloc _,a4,nF _ _⟩,b5⟩
theorem wM {w:World}{g:Nat}{t:nS}{v0 v1 c v3:Value}(h:za w g t #[v0,v1,c,v3]):w.cell? g=some v0/\w.cell? ⟨g,1,K3⟩=some v1/\w.cell? ⟨g,2,K3⟩=some c/\w.cell? ⟨g,3,K3⟩=some v3 :=
 ⟨by rw[h.cell];rfl,by rw[h.cell];rfl,by rw[h.cell];rfl,by rw[h.cell];rfl⟩
end
section
open Go Go.RowKit xq
attribute [local go_sem] Db
theorem OA {c l:Y4}{k:Nat}{cs:List xG}(h:yX kK k c=some (cs,l)):cs.length<=c.length:=by have:=ZX (f:=kK) (λ_ _ _ h=>OD h) k c cs l h;omega
theorem Ly {c l:Y4}{k:Nat}{cs:List (ByteArray×Int)}(h:yX jO k c=some (cs,l)):cs.length<=c.length:=by have:=ZX (f:=jO) (λ_ _ _ h=>OB h) k c cs l h;omega
theorem Ke {lf:Bool}{r:Y4}{x:ym}(h:yn lf r=some x):x.leaf=lf/\x.cells.length<=r.length/\x.keys.length<=r.length/\x.kids.length<=r.length+1:=by
 unfold yn at h;cases d:xN r with
 | none=>rw[d] at h;cases h
 | some z =>
  obtain⟨many,g⟩:=z;have b2:=(vy d).1;rw[d] at h;simp only at h;cases lf with
  | true =>
   simp only[if_true] at h;cases c:yX kK many g with
   | none=>rw[c] at h;cases h
   | some u =>
    obtain⟨cs,j⟩:=u;rw[c] at h;simp only[gO] at h;subst h;have:=OA c;exact⟨rfl,by show cs.length<=_;omega,by show 0<=_;omega,by show 0<=_;omega⟩
  | false =>
   simp only[nV,if_false] at h;cases c:xN g with
   | none=>rw[c] at h;cases h
   | some v =>
    obtain⟨k,j⟩:=v;have b3:=(vy c).1;rw[c] at h;simp only at h;cases f:yX jO many j with
    | none=>rw[f] at h;cases h
    | some u =>
     obtain⟨cs,A⟩:=u;rw[f] at h;simp only[gO] at h;subst h;have:=Ly f;exact⟨rfl,by show 0<=_;omega,by show (cs.map _).length<=_;rw[qH];omega,by show (_::cs.map _).length<=_;rw[zK,qH];omega⟩
theorem TU {b:Y4}{x:ym}(h:kJ b=some x):x.cells.length<=b.length/\x.keys.length<=b.length/\x.kids.length<=b.length+1:=by
 unfold kJ at h;cases c:xN b with
 | none=>rw[c] at h;cases h
 | some y =>
  obtain⟨f,r⟩:=y;have b1:=(vy c).1;rw[c] at h;simp only at h;split at h
  .have:=Ke h;omega
  .split at h
   .have:=Ke h;omega
   .cases h
theorem yl.pW {w w':World}{B d sz n c:Nat}{A:Y5}{cs:Y8}(h:yl w B sz A n c cs)(hB:B<=d)(r:∀g o,A=some ⟨g,o,K3⟩->w'.heap[g]?=w.heap[g]?):yl w' d sz A n c cs:=by
 refine⟨h.le,h.max,h.nil,h.len,h.one,λf => ?_⟩;obtain⟨g,o,e,C,u⟩:=h.pO f;refine⟨g,o,e,by omega,λj v k => ?_⟩;rw[<-u j v k];exact World.cell?_of_block (w:=w) (r g o e)
theorem XX.pW {w w':World}{x:ym}{n:Nat}{Ac Ak Ai:Y5}{cc ck ci:Nat}(h:XX w w.heap.size x Ac cc Ak ck Ai ci)(hf:Py n Ac Ak Ai)(hs:w.heap.size<=w'.heap.size)(d:∀r,n<=r->w'.heap[r]?=w.heap[r]?):XX w' w'.heap.size x Ac cc Ak ck Ai ci :=
 ⟨h.c.pW hs λg o e=>d g (hf g o (.inl e)),h.k.pW hs λg o e=>d g (hf g o (.inr (.inl e))),h.i.pW hs λg o e=>d g (hf g o (.inr (.inr e)))⟩
end
section
open Go Go.RowKit xq
def EA (w:World):World:=(w.alloc (Q9 #[X3 false,X1 none 0 0,X1 none 0 0,X1 none 0 0] 69)).alloc (Q9 #[Y1 Q4 0] 27)
theorem ui (w:World):za (EA w) w.heap.size 69 YV/\za (EA w) (w.heap.size+1) 27 #[Y1 Q4 0]/\nH w.heap.size w (EA w)/\(EA w).heap.size=w.heap.size+1+1:=by
 have c:=za.new w 69 YV;have b2:=za.new (w.alloc (Q9 YV 69)) 27 #[Y1 Q4 0];rw[nG] at b2;exact⟨c.alloc _,b2,((nF _ w).alloc (zG _) _).alloc K9 _,by unfold EA;rw[nG,nG]⟩
def GY (w:World)(x:ym)(e:mH)(w':World):Prop:=∃Ac cc Ak ck Ai ci,e=Y0 (Q2 #[Q0 (zx x Ac cc Ak ck Ai ci),Y1 Q4 0])/\XX w' w'.heap.size x Ac cc Ak ck Ai ci/\nH w.heap.size w w'/\xm w' w.heap.size x Ac cc Ak ck Ai ci
theorem uh (w:World)(A:Y5)(c:Nat)(b:Y4)(h:qv w w.heap.size A c b)(hl:b.length=512)(x:ym)(d:kJ b=some x)(lb:Y4)(aL:(lb++zP (512-lb.length) (0:UInt8)).length=512)(HE:∀W Ac cc Ak ck Ai ci,XX W W.heap.size x Ac cc Ak ck Ai ci->nK Y3 90 #[Q0 (zx x Ac cc Ak ck Ai ci)] W (SL W lb))(he:lb++zP (512-lb.length) (0:UInt8)=b):nK Y3 140 #[X1 A b.length c] w (GY w x):=by
 obtain⟨b1,b2,G,Z⟩:=ui w;obtain⟨g,P⟩:=Z9 (EA w);rw[<-P] at b1 b2 G Z;unfold EA at P;have aD:=za.new g 298 #[X1 A b.length c];have H:nH g.heap.size g (g.alloc (Q9 #[X1 A b.length c] 298)):=(nF _ g).alloc (zG _) _;have hR:jS (g.alloc (Q9 #[X1 A b.length c] 298)) (w.heap.size+1+1) w.heap.size b:=by rw[<-Z];exact⟨A,c,aD,h.below (G.trans (H.mono G.size))⟩
 have F:=TI _ _ _ b hR K5;unfold xn at F;have aH:=G.trans (H.mono G.size);have aE:=b1.below H b1.lt;have aG:=b2.below H b2.lt;have L:(g.alloc (Q9 #[X1 A b.length c] 298)).heap.size=w.heap.size+1+1+1:=by rw[nG,Z]
 obtain⟨W2,U⟩:=Z9 (g.alloc (Q9 #[X1 A b.length c] 298));rw[<-U] at F aH aE aG L;rw[P] at U;have aP:=nI U;have u:=nI L;clear P U hR aD H Z L;have aW:(b.length:Int)=512:=K5
 rw[d] at F;simp only at F;unfold SL at HE;generalize lb++zP (512-lb.length) (0:UInt8)=full at *;have EQ:∀W E c5,qv W W.heap.size E c5 full->qv W W.heap.size A c b->nK Y3 71 #[X1 E 512 c5,X1 A b.length c] W λe w'=>e=Y0 (X3 (decide (full=b)))/\nH W.heap.size W w':=λW E c5 h1 h2=>by have:=OM W E A c5 c full b h1 h2;rw[aL] at this;exact this
 clear aL;have aO:=nI he;clear he;clear hl d;unfold GY
 go_enter_defers func140,ntmps140
 go_wp2_with (first
  |(go_at_call 152;refine(yt _ _ _).mono ?_;rintro e w7 ⟨rfl,h7⟩;obtain⟨v7,rfl⟩:=h7.1 rfl)
  |(go_at_call 215;rw[<-aP.out];refine F.mono ?_;rintro e w3 ⟨aC,Ac,cc,Ak,ck,Ai,ci,rfl,n3,aM⟩;have hf:=aM.rows;have L:=u.out;have aF:=aE.grown aC (λe=>by injection e;omega);have aQ:=aG.grown aC (λe=>by injection e;omega);have aS:nH w.heap.size w w3:=aH.grown aC K5 (λk e=>by injection e;omega);clear L)
  |(unfold zx;refine zt rfl 69 (.tmp 2) (.tmp 17) rfl w.heap.size rfl rfl zm aF rfl rfl (zw rfl rfl rfl rfl) ?_;have n4:=n3.pW (w':=w3.setRow w.heap.size (zx x Ac cc Ak ck Ai ci)) hf (by simp[gM]) (λr d=>ng _ _ r _ (by have:=u.out;omega));have o4:=aM.pW (w':=w3.setRow w.heap.size (zx x Ac cc Ak ck Ai ci)) (λr d _=>ng _ _ r _ (by have:=u.out;omega));have v:=aF.setRow (zx x Ac cc Ak ck Ai ci);have N:=aQ.pN (k:=w.heap.size) K5 (zx x Ac cc Ak ck Ai ci);have C:=zf aS (zG w.heap.size) (zx x Ac cc Ak ck Ai ci);obtain⟨W4,V⟩:∃W,w3.setRow w.heap.size (zx x Ac cc Ak ck Ai ci)=W:=⟨_,rfl⟩;rw[V] at n4 o4 v N C;unfold zx at V v;rw[V];clear V)
  |(refine yp zm v ?_)
  |(go_at_call 90;refine(HE _ _ _ _ _ _ _ n4).mono ?_;rintro e w5 ⟨E,c5,rfl,aU,j⟩;have aV:qv w5 w5.heap.size A c b:=(h.below (C.trans (j.mono C.size))).more (by have:=C.size;have:=j.size;omega))
  |(go_at_call 71;refine(EQ _ _ _ aU aV).mono ?_;rintro e w6 ⟨rfl,I⟩;have aA:=(v.below j v.lt).below I (zO v.lt j.size);have aR:=(N.below j N.lt).below I (zO N.lt j.size);have aI:=C.trans (j.mono C.size);have aT:=aI.trans (I.mono aI.size);have n6:=(n4.grow j).grow I;have o6:=(o4.pW (w':=w5) (λr _ d=>j.block r d)).pW (w':=w6) (λr _ d=>I.block r d))
  |(go_at_call 152;refine(yt _ _ _).mono ?_;rintro e w7 ⟨rfl,h7⟩;obtain⟨v7,rfl⟩:=h7.1 (decide_eq_true aO.out))
  |(refine yp zm aA ?_)
  |(refine zt rfl 69 (.tmp 2) (.tmp 31) rfl w.heap.size rfl rfl zm aA rfl rfl (zw rfl rfl rfl rfl) ?_;have n7:=n6.pW (w':=w6.setRow w.heap.size (zx x Ac cc Ak ck Ai ci)) hf (by simp[gM]) (λr d=>ng _ _ r _ (by have:=u.out;omega));have o7:=o6.pW (w':=w6.setRow w.heap.size (zx x Ac cc Ak ck Ai ci)) (λr d _=>ng _ _ r _ (by have:=u.out;omega));have aB:=aA.setRow (zx x Ac cc Ak ck Ai ci);have O:=aR.pN (k:=w.heap.size) K5 (zx x Ac cc Ak ck Ai ci);have aJ:=zf aT (zG w.heap.size) (zx x Ac cc Ak ck Ai ci);obtain⟨M,X⟩:∃W,w6.setRow w.heap.size (zx x Ac cc Ak ck Ai ci)=W:=⟨_,rfl⟩;rw[X] at n7 o7 aB O aJ;unfold zx at X aB;rw[X];clear X;have k7:=O.boxed;have f7:=O.free 0))
 refine leaves_cons (f:=149) (args:=#[Y9 (w.heap.size+1:Nat),.func (.func 214) #[] #[Y9 w.heap.size]]) K9 (by simp[go_sem]) ?_;refine(QL _ _ _).mono ?_;rintro e u' wz ⟨rfl,rfl,aN⟩;have y1:=aB.other (p:=⟨w.heap.size+1,0,K3⟩) K9 (Y1 Q4 0);have y2:=O.set 0 (Y1 Q4 0);have aK:=aJ.setCell (p:=⟨w.heap.size+1,0,K3⟩) K9 (Y1 Q4 0);have n8:=n7.pW (w':=M.setCell (w.heap.size+1:Nat) (Y1 Q4 0)) hf (by simp[gT]) (λr d=>nU M ⟨w.heap.size+1,0,K3⟩ _ r (by have:=u.out;show r≠w.heap.size+1;omega));have o8:=o7.pW (w':=M.setCell (w.heap.size+1:Nat) (Y1 Q4 0)) (λr d _=>nU M ⟨w.heap.size+1,0,K3⟩ _ r (by have:=u.out;show r≠w.heap.size+1;omega));rw[<-aN] at y1 y2 aK n8 o8;clear aN;obtain⟨a0,a1,a2,a3⟩:=wM y1;have q3:wz.cell? (w.heap.size+1:Nat)=K4 (Y1 Q4 0):=y2.boxed;simp[Leaves,settle,lh,Tryz.results140,go_sem,a0,a1,a2,a3,q3];exact⟨Ac,cc,Ak,ck,Ai,ci,rfl,n8,aK,o8.base (by have:=u.out;omega)⟩
theorem UY {x:ym}{b:Y4}(h:KN x b):b.length=512:=by
 have h1:=h.2.1;rw[<-h.2.2,zH,mO];omega
theorem Hm (w:World)(A:Y5)(c:Nat)(b:Y4)(h:qv w w.heap.size A c b)(x:ym)(d:kJ b=some x)(hF:KN x b):nK Y3 140 #[X1 A b.length c] w (GY w x):=by
 obtain⟨g,j,k⟩:=TU d;have hf:=hF.2.1;have hl:=UY hF;have f:(qg x++zP (512-(qg x).length) (0:UInt8)).length=512:=by rw[zH,mO];omega
 exact uh w A c b h (UY hF) x d (qg x) f (λW Ac cc Ak ck Ai ci hn=>RB W x Ac cc Ak ck Ai ci hn K5 K5 K5 hF.1 hf) hF.2.2
theorem Xk:yw Y3 92 1:=⟨⟨_,underlying92,rfl⟩,by kernel_rfl⟩
theorem KY (w:World)(s f:Value)(r u:ByteArray):nK Y3 142 #[Q0 #[s],Q0 (zl ⟨r,u,0,0⟩).toArray,f] w λe w'=>(∃z,e=Y0 z)/\nH w.heap.size w w':=by
 obtain⟨c,d,k,-,b4⟩:=Bz w 92 #[s] 94 #[X9 r,X9 u,Y1 Q4 0,Y1 Q4 0];have c2:c.cell? ⟨w.heap.size+1,2,K3⟩=K4 (Y1 Q4 0):=by rw[b4.cell];rfl
 have c3:c.cell? ⟨w.heap.size+1,3,K3⟩=K4 (Y1 Q4 0):=by rw[b4.cell];rfl
 have g:=c2;have h:=c3;rw[d] at g h;have v:=nI d.symm;clear d;unfold zl
 go_enter func142,ntmps142
 go_wp2;rw[v.out];clear g h
 go_loopw [6,7] (λj i wr=>j=Y1 Q4 0/\i=Y1 Q4 0/\wr=c) (λ_ _ _=>0)
 case atStart=>exact⟨rfl,rfl,rfl⟩
 case round =>
  obtain⟨rfl,rfl,rfl⟩:=hrel;go_wp2
  first
   |(go_end0;exact⟨⟨_,rfl⟩,k⟩)
   |(refine nT (results_none rfl _ _ _) rfl ?_;exact⟨⟨_,rfl⟩,k⟩)
section
variable {S T:nS}{sz by_:Nat}{z:Value}{ρ:nO->Value}{w:World}{o:Oper}{x y:nO}
theorem Ao (c:ZQ S T sz by_ z):Y3.elem S=T:=by
 unfold Program.elem;rw[c.oB]
theorem Fc (c:ZQ S T sz by_ z):Y3.underlying S=some (.slice (Y3.elem S)):=by rw[Ao c];exact c.oB
theorem YI (c:ZQ S T sz by_ z)(w:World):(sizeOf T).run Y3 w=.ok sz w:=by
 obtain⟨h,hi,f,d,g⟩:=mj c.inf;simp[sizeOf,typeInfo,hi,d]
theorem Qc {g n c i:Nat}(d:ZQ S T sz by_ z)(j:o.op=.slice S x (some y) none none)(h1:ρ x=X1 g n c)(h2:ρ y=Y1 Q4 (i:Int))(hi:i<=n)(hc:i<c):(nQ ρ o).run Y3 w=.ok (.value (X1 (K4 ⟨g,i*sz,K3⟩) (n-i) (c-i))) w:=by
 have ht:=Fc d;have f:(i:Int)<=(n:Int):=K5
 have hs:=YI d;have h:¬ c=i:=K5
 simp[nQ,j,h1,h2,go_sem,run_sliceAt_slice _ _ _ _ _ _ ht,nM,f,run_slice_l (ht:=ht),d.oB,hs,sliced,h,mP]
theorem Xc {A:Y5}{n c k:Nat}(d:ZQ S T sz by_ z)(g:o.op=.slice S x none (some y) none)(h1:ρ x=X1 A n c)(h2:ρ y=Y1 Q4 (k:Int))(h:k<=c):(nQ ρ o).run Y3 w=.ok (.value (X1 A k c)) w:=by
 have ht:=Fc d;have f:(k:Int)<=(c:Int):=K5
 have hs:=YI d;simp[nQ,g,h1,h2,go_sem,run_sliceAt_slice _ _ _ _ _ _ ht,nM,f,run_slice_h (ht:=ht),d.oB,hs,sliced]
theorem XM (d:ZQ S T sz by_ z)(w:World)(ty:nS)(g off c dCap:Nat)(a:nN)(f E m:Nat)(cur:Y7)(t:nS)(cs:Y8)
  (k:za w g t cur) (r:m=Nat.min f c) (hn:cs.length=m*sz)
  (u:∀j v,cs[j]?=some v->w.cell? (a.add j)=some v) (h:off+cs.length<=cur.size) (h1:∀v∈cs,v.oneCell'=true) :
  (gw #[S,S] ty #[X1 (K4 ⟨g,off,K3⟩) c dCap,X1 (some a) f E]).run Y3 w =
   .ok (goInt m) (w.setRow g (cur.toList.take off++cs++cur.toList.drop (off+cs.length)).toArray):=by
 obtain⟨H,hi,F,C,G⟩:=mj d.inf;have hl:=run_loadCells_list (P:=Y3) w a cs u;have A:=run_storeCells_at Y3 g off t cs 0 cur w k (by simpa using h) h1;simp[gw,run_underlying d.oB,Builtin.lenOf,Builtin.firstCells,sizeOf,typeInfo,hi,C,<-r,<-hn,hl,A]
theorem UM (d:ZQ S T sz by_ z)(w:World)(g n c k:Nat)(cur:Y7)(I:za w g T cur)(hn:n*sz<=cur.size)(H:0<k)(hc:c<n+k)(N:n+k<=1000000)(u:by_<=1000):∃G h,(∀ty,(Builtin.append_ #[S,3] ty #[X1 g n c,Y1 Q4 (k:Int)]).run Y3 w=.ok (X1 w.heap.size (n+k) G) (w.drew.alloc (Q9 h T)))/\n+k<=G/\G<=gP/\h.size=G*sz/\h.toList.take (n*sz)=cur.toList.take (n*sz):=by
 obtain⟨r,hi,V,C,E⟩:=mj d.inf;have hd:za w.drew g T cur:=I;have O:(Builtin.firstCells r.size n (X1 g n c)).run Y3 w.drew=.ok (cur.toList.take (n*sz)).toArray w.drew:=by
  refine run_firstCells_some (P:=Y3) w.drew r.size n ⟨g,0,K3⟩ n c (cur.toList.take (n*sz)) (by rw[qB,C];simp;omega) (λj v f => ?_);rw[yI] at f;split at f
  .rw[mP,qA,hd.cell];simpa using f
  .cases f
 have A:=grownCap_ge w (n+k) c T;have L:=grownCap_le_maxLen w (n+k) c T (by unfold gP;omega);have W:(n+k)*by_<=1000000*1000:=Nat.mul_le_mul N u;have X:k*by_<=1000000*1000:=Nat.mul_le_mul K5 u;have U:=λty=>Lib.run_append_grow_zeros (P:=Y3) w S 3 ty T r z .i64 .i64 d.oB K6 hi V (K4 ⟨g,0,K3⟩) n c (cur.toList.take (n*sz)) O k H (by rw[C];exact d.pos) hc K5 (by rw[E];omega) (by rw[E];exact growslice_fits hc K5)
 have M:(cur.toList.take (n*sz)).length=n*sz:=by rw[qB];simp;omega
 have F:∀m,(la z.cells m).size=m*sz:=λm=>by unfold la;simp[d.zs]
 generalize grownCap w (n+k) c T=G at *;refine⟨_,_,U,A,L,?_,?_⟩
 .rw[Array.size_append,Array.size_append,F,F,zR,M,<-Nat.add_mul,<-Nat.add_mul,Nat.add_sub_cancel' A]
 .rw[Array.toList_append,Array.toList_append,qQ,mG (by simp;omega)];rw[mU,Nat.min_self]
end
theorem Ec {L X Y C:Y8}{sz i n:Nat}(v:C.length=sz)(g:X=L.take (i*sz))(h:Y=(L.take (n*sz)).drop (i*sz))(hi:i<=n)(A:(n+1)*sz<=L.length):let c:=L.take ((i+1)*sz)++Y++L.drop ((i+1)*sz+Y.length)
  let d:=c.take (i*sz)++C++c.drop (i*sz+C.length)
  d.take ((n+1)*sz)=X++C++Y/\c.length=L.length/\d.length=L.length:=by
 have k:(n+1)*sz=n*sz+sz:=Nat.succ_mul _ _;have r:(i+1)*sz=i*sz+sz:=Nat.succ_mul _ _;have u:i*sz<=n*sz:=mr _ hi;have F:Y.length=n*sz-i*sz:=by rw[h,qF,qB];omega
 have E:X.length=i*sz:=by rw[g,qB];omega
 have ht:(L.take ((i+1)*sz)).length=(i+1)*sz:=by rw[qB];omega
 intro c d;have j:c.length=L.length:=by
  show (L.take ((i+1)*sz)++Y++L.drop ((i+1)*sz+Y.length)).length=L.length
  rw[zH,zH,ht,qF];omega
 have h1:c.take (i*sz)=X:=by
  show (L.take ((i+1)*sz)++Y++L.drop ((i+1)*sz+Y.length)).take (i*sz)=X
  rw[qQ,mG K5,mU,g];congr 1;omega
 have h2:c.drop (i*sz+C.length)=Y++L.drop ((i+1)*sz+Y.length):=by
  show (L.take ((i+1)*sz)++Y++L.drop ((i+1)*sz+Y.length)).drop (i*sz+C.length)=_
  rw[qQ,List.drop_left' K5]
 have f:d=X++C++(Y++L.drop ((i+1)*sz+Y.length)):=by
  show c.take (i*sz)++C++c.drop (i*sz+C.length)=_
  rw[h1,h2]
 refine⟨?_,j,?_⟩
 .rw[f,<-qQ,List.take_left' (by rw[zH,zH];omega)]
 .rw[f,zH,zH,zH,qF];omega
theorem Bf {L X Y C:Y8}{sz i n:Nat}(v:C.length=sz)(h:L.take (i*sz)=X)(E:X.length=i*sz)(F:Y.length=n*sz-i*sz)(hi:i<=n)(A:(n+1)*sz<=L.length):let c:=L.take (i*sz)++C++L.drop (i*sz+C.length)
  let d:=c.take ((i+1)*sz)++Y++c.drop ((i+1)*sz+Y.length)
  d.take ((n+1)*sz)=X++C++Y/\c.length=L.length/\d.length=L.length:=by
 have k:(n+1)*sz=n*sz+sz:=Nat.succ_mul _ _;have r:(i+1)*sz=i*sz+sz:=Nat.succ_mul _ _;have u:i*sz<=n*sz:=mr _ hi;intro c d;have f:c=X++C++L.drop (i*sz+C.length):=by
  show L.take (i*sz)++C++L.drop (i*sz+C.length)=_
  rw[h]
 have j:c.length=L.length:=by rw[f,zH,zH,qF];omega
 have g:d=X++C++Y++c.drop ((i+1)*sz+Y.length):=by
  show c.take ((i+1)*sz)++Y++c.drop ((i+1)*sz+Y.length)=_
  rw[show c.take ((i+1)*sz)=X++C by rw[f];exact List.take_left' (by rw[zH];omega)]
 refine⟨?_,j,?_⟩
 .rw[g];exact List.take_left' (by rw[zH,zH];omega)
 .rw[g,zH,zH,zH,qF];omega
theorem vG {a c:World}{row:Option Nat}(h:a.grownBy c row){b:Nat}(g:a.heap.size<=b)(cs:Y7):a.grownBy (c.setRow b cs) row :=
 ⟨h.os,h.tape,h.output,by simp[gM];exact h.size,λk d f=>(ng c b k cs K5).trans (h.block k d f)⟩
theorem Yz {a c:World}{row:Option Nat}(h:a.grownBy c row)(x:Obj):a.grownBy (c.alloc x) row :=
 ⟨h.os,h.tape,h.output,by rw[nG];exact Nat.le_succ_of_le h.size,λk d f=>(Below.heap_alloc c x k (zO d h.size)).trans (h.block k d f)⟩
theorem vu {w:World}{o:Oper}{ρ:nO->Value}(T:nS)(x y:nO)(f:o.op=.store T x y)(g:Nat){t:nS}{cs cs':Y7}(h:ρ x=Y9 g)(j:ρ y=Q0 cs'){m:Nat}(c:yw Y3 T m)(d:za w g t cs)(hn:cs.size=m)(hs:cs'.size=cs.size)(h1:∀v∈cs'.toList,v.oneCell'=true):(nQ ρ o).run Y3 w=.ok .skip (w.setRow g cs'):=by
 unfold nQ;simp only[f,h,j,Instr.storeAt,Instr.sureAddr,gJ,ny,nc,Qy (hn▸c) d hs h1]
theorem yl.drop {w:World}{B sz g o n c:Nat}{cs:Y8}(h:yl w B sz (K4 ⟨g,o,K3⟩) n c cs)(k:Nat)(E:k<=n):yl w B sz (K4 ⟨g,o+k*sz,K3⟩) (n-k) (c-k) (cs.drop (k*sz)):=by
 refine⟨by have:=h.le;omega,by have:=h.max;omega,(λe=>by cases e),?_,λv u=>h.one v (qV u),λC => ?_⟩
 .rw[qF,h.len,Nat.sub_mul]
 .obtain⟨A,o',e,f,r⟩:=h.pO K5;injection e with e
  injection e with e1 e2
  subst e1 e2;refine⟨g,o+k*sz,rfl,f,λj v d => ?_⟩;rw[List.getElem?_drop] at d;rw[mg];exact r _ v d
theorem wF (cs:List xG)(k:Nat):(vY cs).take (k*4)=vY (cs.take k):=by
 induction cs generalizing k with
 | nil=>simp[vY]
 | cons c cs ih =>
  cases k with
  | zero=>simp[vY]
  | succ k =>
   have e:vY (c::cs)=zl c++vY cs:=rfl;have d:vY ((c::cs).take (k+1))=zl c++vY (cs.take k):=rfl;rw[e,d,<-ih k,show (k+1)*4=(zl c).length+k*4 from by show _=4+_;omega,List.take_length_add_append]
theorem wH (cs:List xG)(k:Nat):(vY cs).drop (k*4)=vY (cs.drop k):=by
 induction cs generalizing k with
 | nil=>simp[vY]
 | cons c cs ih =>
  cases k with
  | zero=>simp
  | succ k =>
   have e:vY (c::cs)=zl c++vY cs:=rfl;rw[e,show (k+1)*4=(zl c).length+k*4 from by show _=4+_;omega,List.drop_length_add_append,ih k];rfl
def VK (n:Nat)(Ac Ak Ai:Y5):Prop:=∀g o,(Ac=some ⟨g,o,K3⟩\/Ak=some ⟨g,o,K3⟩\/Ai=some ⟨g,o,K3⟩)->n<=g
def Yp (w:World)(x:ym)(e:mH)(w':World):Prop:=∃(k:Nat) (Ac:Y5) (cc:Nat) (Ak:Y5) (ck:Nat) (Ai:Y5) (ci:Nat) (Bc:Y5) (dc:Nat) (Bk:Y5) (dk:Nat) (Bi:Y5) (di:Nat),
 kz (qo x) (xj x) k/\vU x<=xK x/\e=Y0 (Q2 #[Q0 (zx (xF x k) Ac cc Ak ck Ai ci),Q0 (zx (yT x k) Bc dc Bk dk Bi di),.string (yq x k),Y1 Q4 0]) /\
 XX w' w'.heap.size (xF x k) Ac cc Ak ck Ai ci/\XX w' w'.heap.size (yT x k) Bc dc Bk dk Bi di/\nH w.heap.size w w'/\VK w.heap.size Ac Ak Ai/\VK w.heap.size Bc Bk Bi
theorem Lj (w:World)(x:ym)(Ac:Y5)(cc:Nat)(Ak:Y5)(ck:Nat)(Ai:Y5)(ci:Nat)(h:XX w w.heap.size x Ac cc Ak ck Ai ci)(hl:x.cells.length<=1000)(bC:x.keys.length<=1000)(bD:x.kids.length<=1001)(Z:yh x)(hf:x.leaf=true)(hs:512<(qg x).length)(hn:2<=xK x):nK Y3 137 #[Q0 (zx x Ac cc Ak ck Ai ci)] w (Yp w x):=by
 have HL:∀W,nH w.heap.size w W->nK Y3 151 #[Q0 (zx x Ac cc Ak ck Ai ci)] W (yV W (qg x)):=λW j=>Yd W x Ac cc Ak ck Ai ci (h.grow j) hl bC bD Z
 have aZ:∀W,nH w.heap.size w W->nK Y3 208 #[Q0 (zx x Ac cc Ak ck Ai ci)] W (GV W (qo x)):=λW j=>Jy W x Ac cc Ak ck Ai ci (h.grow j) K5 K5 K5 Z
 have aT:=Qr Z;have bB:(qo x).flatten.length<=1000000:=by
  have:=ji (qo x) 200 (JG Z);have:(qo x).length<=1000:=by rw[aT];unfold xK;rw[hf];exact hl
  omega
 obtain⟨b8,b0,bY⟩:=Z.leaf hf;have bE:xj x=x.cells.length-1:=by unfold xj;rw[hf];rfl
 have aU:xK x=x.cells.length:=by unfold xK;rw[hf];rfl
 have bF:vU x<=xK x:=by unfold vU;rw[hf];exact hn
 have bG:∀k,(hk:k<x.cells.length)->yq x k=x.cells[k].key:=λk hk=>by rw[XR (by rw[Jv,aU];exact hk)];unfold qh;simp only[hf,if_true,List.getElem_map]
 have HG:∀(k:Nat) (e:mH) (w':World),(∃(A:Y5) (c:Nat) (B:Y5) (d:Nat),kz (qo x) (xj x) k/\e=Y0 (Q2 #[Q0 #[X3 true,X1 A (x.cells.take k).length c,X1 none 0 0,X1 none 0 0],Q0 #[X3 true,X1 B (x.cells.drop k).length d,X1 none 0 0,X1 none 0 0],.string (yq x k),Y1 Q4 0])/\yl w' w'.heap.size 4 A (x.cells.take k).length c (vY (x.cells.take k))/\yl w' w'.heap.size 4 B (x.cells.drop k).length d (vY (x.cells.drop k))/\nH w.heap.size w w'/\(∀g o,A=some ⟨g,o,K3⟩->w.heap.size<=g)/\(∀g o,B=some ⟨g,o,K3⟩->w.heap.size<=g))->Yp w x e w':=by
  rintro k e w' ⟨A,c,B,d,h1,rfl,h2,L,I,n1,n2⟩;refine⟨k,A,c,none,0,none,0,B,d,none,0,none,0,h1,bF,?_,?_,?_,I,(λg o e=>e.elim (n1 g o) (λe=>e.elim (λe=>nomatch e) (λe=>nomatch e))),(λg o e=>e.elim (n2 g o) (λe=>e.elim (λe=>nomatch e) (λe=>nomatch e)))⟩
  .unfold xF yT zx;rw[hf];rfl
  .unfold xF;rw[hf];exact⟨h2,yl.mt _ _ _,yl.mt _ _ _⟩
  .unfold yT;rw[hf];exact⟨L,yl.mt _ _ _,yl.mt _ _ _⟩
 have cS:(512:Int)<((qg x).length:Int):=K5
 rw[aU] at aT hn;rw[bE] at HG;generalize qg x=lb at *;generalize qo x=ls at *;generalize yq x=pt at *;generalize Yp w x=GO at *;have hc:=h.c;clear bC bD Z bF bY;obtain⟨b1,hx,aA⟩:=wK w (zx x Ac cc Ak ck Ai ci);unfold zx at *;obtain⟨W1,aM⟩:=Z9 (uk w #[X3 x.leaf,X1 Ac x.cells.length cc,X1 Ak x.keys.length ck,X1 Ai x.kids.length ci]);rw[<-aM] at b1 hx aA;unfold uk at aM;have bV:=nI aM;clear aM;obtain⟨leaf,cells,keys,kids⟩:=x;simp only at *;subst hf b8 b0;simp only[zY] at *;have cU:(2:Int)<=(ls.length:Int):=K5
 have cW:IntKind.i64.wrap ((ls.length:Int)-1)=((cells.length-1:Nat):Int):=by rw[xX _];omega
 obtain⟨u,C,rfl,bZ,cA⟩:=hc.pO K5;have cT:=hc.le;have a5:=λW base A c vs (hL:Zx W base (X1 A ls.length c) ls vs)=>Vy W base A c ls vs hL bB K5 (cells.length-1) K5
 unfold VH at a5;have cL:2<=cells.length:=K5
 have bU:=nI bG;have bR:=nI HG;clear aT bE aU bG HG hn bB
 go_enter_defers func137,ntmps137
 go_wp2_with (first
  |(rw[<-bV.out];refine yp zm b1 ?_)
  |(go_at_call 151;refine(HL _ aA).mono ?_;rintro e w2 ⟨v,rfl,own,aB⟩;obtain⟨A2,c2,rfl,b5⟩:=own.inB;have bH:=hx.pV aB;have b2:=b1.below aB b1.lt;have aQ:=aA.trans (aB.mono aA.size))
  |(refine yp zm b2 ?_)
  |(go_at_call 208;refine(aZ _ aQ).mono ?_;rintro e w3 ⟨A3,c3,vs,rfl,a9,aC⟩;have bI:=bH.pV aC;have b3:=b2.below aC b2.lt;have a6:=aQ.trans (aC.mono aQ.size);have k0:w3.cell? w.heap.size=some (X3 true):=(by rw[b3.cell];rfl))
  |(go_at_call 152;refine(yt _ _ _).mono ?_;rintro e w7 ⟨rfl,H⟩;obtain⟨v7,rfl⟩:=H.1 rfl)
  |(go_at_call 152;refine(yt _ _ _).mono ?_;rintro e w7 ⟨rfl,H⟩;obtain rfl:=H.2 (decide_eq_false K5))
  |(go_at_call 209;refine(a5 _ _ _ _ _ a9).mono ?_;rintro e F ⟨k,rfl,a8,aD⟩))
 have cM:=a8.le;have hk:k<cells.length:=K5
 have aV:=bI.pV aD;have b4:=b3.below aD b3.lt;have aR:=a6.trans (aD.mono a6.size);have kc:F.cell? ⟨w.heap.size,1,K3⟩=some (X1 (K4 ⟨u,C,K3⟩) cells.length cc):=by rw[b4.cell];rfl
 have b9:w.heap.size<F.heap.size:=b4.lt;have cV:=aV.e.lt;have aP:∀W,nH (w.heap.size+1) F W->W.cell? ⟨w.heap.size,1,K3⟩=some (X1 (K4 ⟨u,C,K3⟩) cells.length cc):=λW j=>(j.cell (p:=⟨w.heap.size,1,K3⟩) (Nat.lt_succ_self _)).trans kc
 have bS:∀W,nH (w.heap.size+1) F W->W.cell? ⟨u,C+k*4,K3⟩=some (X9 cells[k].key):=λW j=>(j.cell (p:=⟨u,C+k*4,K3⟩) (by show u<_;omega)).trans ((aR.cell (p:=⟨u,C+k*4,K3⟩) bZ).trans (pC (KJ hc rfl k hk)))
 have bA:∀W,nH (w.heap.size+1) F W->yl W W.heap.size 4 (K4 ⟨u,C,K3⟩) cells.length cc (vY cells):=λW j=>(hc.below (aR.trans (j.mono (lY _)))).more (by have:=j.size;omega)
 have aN:(cells.take k).length=k:=by rw[qB];omega
 have aO:(cells.drop k).length=cells.length-k:=qF;have bP:∀W,nH (w.heap.size+1) F W->nK Y3 146 #[X1 (K4 ⟨u,C,K3⟩) k cc] W λe w'=>∃A c,e=Y0 (X1 A k c)/\w'.ownsRow W.heap.size 94 4 (X1 A k c) k (vY (cells.take k))/\nH W.heap.size W w':=λW j=>by have:=Xx W (K4 ⟨u,C,K3⟩) cc (cells.take k) (by rw[aN,<-wF];exact(bA W j).take k cc K5 K5 (zG _)) K5;unfold GU at this;rw[aN] at this;exact this
 have bQ:∀W,nH (w.heap.size+1) F W->nK Y3 146 #[X1 (K4 ⟨u,C+k*4,K3⟩) (cells.length-k) (cc-k)] W λe w'=>∃A c,e=Y0 (X1 A (cells.length-k) c)/\w'.ownsRow W.heap.size 94 4 (X1 A (cells.length-k) c) (cells.length-k) (vY (cells.drop k))/\nH W.heap.size W w':=λW j=>by have:=Xx W (K4 ⟨u,C+k*4,K3⟩) (cc-k) (cells.drop k) (by rw[aO,<-wH];exact(bA W j).drop k K5) K5;unfold GU at this;rw[aO] at this;exact this
 have a4:=bU.out k hk;generalize cells[k].key=key at *;have bT:=nI a4;have cN:(k:Int)<(cells.length:Int):=K5
 have cO:(k:Int)<=(cells.length:Int):=K5
 have cP:(k:Int)<=(cc:Int):=K5
 have cQ:(0:Int)<=(k:Int):=K5
 have cR:¬ cc=k:=K5
 have G:nH (w.heap.size+1) F F.drew:=(nF _ F).drew;have cC:=aV.base.drew;clear HL aZ aA aB aC aD b1 b2 b3 b4 kc hc cA a4 hx bH bI aV a9 own b5;refine wp_region_noPanic ?_;refine zb.st (λW=>nH (w.heap.size+1) F W) 27 ?_;refine zb.q 0 (Y9 (K4 ⟨w.heap.size,1,K3⟩)) G ?_;refine zb.t 1 (X1 (K4 ⟨u,C,K3⟩) cells.length cc) rfl G (λW j=>by have e:=aP W j;go_simp) ?_;refine zb.q 2 (Y1 Q4 (k:Int)) G ?_;refine zb.q 3 (X1 (K4 ⟨u,C,K3⟩) k cc) G ?_;refine zb.q 5 (Y9 (K4 ⟨w.heap.size,1,K3⟩)) G ?_;refine zb.t 6 (X1 (K4 ⟨u,C,K3⟩) cells.length cc) rfl G (λW j=>by have e:=aP W j;go_simp) ?_;refine zb.q 7 (Y1 Q4 (k:Int)) G ?_;refine zb.q 8 (X1 (K4 ⟨u,C+k*4,K3⟩) (cells.length-k) (cc-k)) G ?_;refine zb.q 10 (Y9 (K4 ⟨w.heap.size,1,K3⟩)) G ?_;refine zb.t 11 (X1 (K4 ⟨u,C,K3⟩) cells.length cc) rfl G (λW j=>by have e:=aP W j;go_simp) ?_;refine zb.q 12 (Y1 Q4 (k:Int)) G ?_;refine zb.q 13 (Y9 (K4 ⟨u,C+k*4,K3⟩)) G ?_;refine zb.q 14 (Y9 (K4 ⟨u,C+k*4,K3⟩)) G ?_;refine zb.t 15 (X9 key) rfl G (λW j=>by have e:=bS W j;go_simp) ?_;simp only[Z8];refine zb.n 4 ?_;refine zb.oC 146 #[.tmp 31] #[65] #[X1 (K4 ⟨u,C,K3⟩) k cc] ((bP _ G).mono ?_) (zb.eo func146);rintro e w5 ⟨O,c5,rfl,cJ,a7⟩;have X:nH (w.heap.size+1) F w5:=G.trans (a7.mono b9);have cB:=cC.pV a7;refine⟨_,rfl,λ_=>X,?_⟩;simp only[Z8];refine zb.n 9 ?_;refine zb.oC 146 #[.tmp 36] #[65] #[X1 (K4 ⟨u,C+k*4,K3⟩) (cells.length-k) (cc-k)] ((bQ _ X).mono ?_) (zb.eo func146);rintro e w6 ⟨P,c6,rfl,aY,aS⟩;have bW:nH (w.heap.size+1) F w6:=X.trans (aS.mono (by have:=X.size;omega));have aW:=cB.pV aS;have aX:=qn cJ aS;refine⟨_,rfl,λ_=>bW,?_⟩;simp only[Z8];refine zb.n 16 ?_;refine zb.opS rfl rfl (vu (cs':=#[X3 false,X1 none 0 0,X1 none 0 0,X1 none 0 0]) 69 (.tmp 2) (.const (Q0 #[X3 false,X1 none 0 0,X1 none 0 0,X1 none 0 0])) rfl (w.heap.size+1) rfl rfl zm aW.a J0 J0 (JC)) ⟨λ_=>(aW.oS #[X3 false,X1 none 0 0,X1 none 0 0,X1 none 0 0]).h,?_⟩;have h1:=aW.oS #[X3 false,X1 none 0 0,X1 none 0 0,X1 none 0 0];obtain⟨V1,aE⟩:∃V,gM w6 (w.heap.size+1) #[X3 false,X1 none 0 0,X1 none 0 0,X1 none 0 0]=V:=⟨_,rfl⟩;have o1:∀r,w.heap.size+1+1+1+1<r->V1.heap[r]?=w6.heap[r]?:=λr E=>by rw[<-aE];exact ng _ _ r _ K5
 rw[aE] at h1;rw[aE];clear aE;simp only[zD,zC,zB,nJ];refine zb.n 17 ?_;refine zb.opV (Y9 (w.heap.size+1:Nat)) rfl rfl K8 ⟨λ_=>h1.h,?_⟩;simp only[Z8];have bJ:=h1.a.cell 0;have cD:=h1.a.free 0;simp only[qP,qY] at bJ;refine zb.n 18 ?_;refine zb.opS (w':=gT V1 ⟨w.heap.size+1,0,K3⟩ (X3 true)) rfl rfl K8 ⟨(λ_=>(h1.oJ 0 (X3 true)).h),?_⟩;have h2:=h1.oJ 0 (X3 true);obtain⟨V2,aF⟩:∃V,gT V1 ⟨w.heap.size+1,0,K3⟩ (X3 true)=V:=⟨_,rfl⟩;have o2:∀r,w.heap.size+1+1+1+1<r->V2.heap[r]?=w6.heap[r]?:=λr E=>by rw[<-aF];exact(nU _ _ _ r (by show r≠w.heap.size+1;omega)).trans (o1 r E)
 rw[aF] at h2;rw[aF]
 try simp only[zA,zF] at h2
 clear aF bJ cD;simp only[zD,zC,zB,nJ];refine zb.n 19 ?_;refine zb.opV (Y9 (K4 ⟨w.heap.size+1,1,K3⟩)) rfl rfl K8 ⟨λ_=>h2.h,?_⟩;simp only[Z8];have bK:=h2.a.cell 1;have cE:=h2.a.free 1;simp only[qP,qY,qZ] at bK;refine zb.n 20 ?_;refine zb.opS (w':=gT V2 ⟨w.heap.size+1,1,K3⟩ (X1 O k c5)) rfl rfl K8 ⟨(λ_=>(h2.oJ 1 (X1 O k c5)).h),?_⟩;have L:=h2.oJ 1 (X1 O k c5);obtain⟨V3,aG⟩:∃V,gT V2 ⟨w.heap.size+1,1,K3⟩ (X1 O k c5)=V:=⟨_,rfl⟩;have o3:∀r,w.heap.size+1+1+1+1<r->V3.heap[r]?=w6.heap[r]?:=λr E=>by rw[<-aG];exact(nU _ _ _ r (by show r≠w.heap.size+1;omega)).trans (o2 r E)
 rw[aG] at L;rw[aG]
 try simp only[zA,zF,zE] at L
 clear aG bK cE;simp only[zD,zC,zB,nJ];refine zb.n 21 ?_;refine zb.opS rfl rfl (vu (cs':=#[X3 false,X1 none 0 0,X1 none 0 0,X1 none 0 0]) 69 (.tmp 3) (.const (Q0 #[X3 false,X1 none 0 0,X1 none 0 0,X1 none 0 0])) rfl (w.heap.size+1+1) rfl rfl zm L.b J0 J0 (JC)) ⟨λ_=>(L.oR #[X3 false,X1 none 0 0,X1 none 0 0,X1 none 0 0]).h,?_⟩;have I:=L.oR #[X3 false,X1 none 0 0,X1 none 0 0,X1 none 0 0];obtain⟨V4,aH⟩:∃V,gM V3 (w.heap.size+1+1) #[X3 false,X1 none 0 0,X1 none 0 0,X1 none 0 0]=V:=⟨_,rfl⟩;have o4:∀r,w.heap.size+1+1+1+1<r->V4.heap[r]?=w6.heap[r]?:=λr E=>by rw[<-aH];exact(ng _ _ r _ K5).trans (o3 r E)
 rw[aH] at I;rw[aH];clear aH;simp only[zD,zC,zB,nJ];refine zb.n 22 ?_;refine zb.opV (Y9 (w.heap.size+1+1:Nat)) rfl rfl K8 ⟨λ_=>I.h,?_⟩;simp only[Z8];have bL:=I.b.cell 0;have cF:=I.b.free 0;simp only[qP,qY] at bL;refine zb.n 23 ?_;refine zb.opS (w':=gT V4 ⟨w.heap.size+1+1,0,K3⟩ (X3 true)) rfl rfl K8 ⟨(λ_=>(I.oK 0 (X3 true)).h),?_⟩;have M:=I.oK 0 (X3 true);obtain⟨V5,aI⟩:∃V,gT V4 ⟨w.heap.size+1+1,0,K3⟩ (X3 true)=V:=⟨_,rfl⟩;have o5:∀r,w.heap.size+1+1+1+1<r->V5.heap[r]?=w6.heap[r]?:=λr E=>by rw[<-aI];exact(nU _ _ _ r (by show r≠w.heap.size+1+1;omega)).trans (o4 r E)
 rw[aI] at M;rw[aI]
 try simp only[zA,zF] at M
 clear aI bL cF;simp only[zD,zC,zB,nJ];refine zb.n 24 ?_;refine zb.opV (Y9 (K4 ⟨w.heap.size+1+1,1,K3⟩)) rfl rfl K8 ⟨λ_=>M.h,?_⟩;simp only[Z8];have bM:=M.b.cell 1;have cG:=M.b.free 1;simp only[qP,qY,qZ] at bM;refine zb.n 25 ?_;refine zb.opS (w':=gT V5 ⟨w.heap.size+1+1,1,K3⟩ (X1 P (cells.length-k) c6)) rfl rfl K8 ⟨(λ_=>(M.oK 1 (X1 P (cells.length-k) c6)).h),?_⟩;have U:=M.oK 1 (X1 P (cells.length-k) c6);obtain⟨V6,aJ⟩:∃V,gT V5 ⟨w.heap.size+1+1,1,K3⟩ (X1 P (cells.length-k) c6)=V:=⟨_,rfl⟩;have o6:∀r,w.heap.size+1+1+1+1<r->V6.heap[r]?=w6.heap[r]?:=λr E=>by rw[<-aJ];exact(nU _ _ _ r (by show r≠w.heap.size+1+1;omega)).trans (o5 r E)
 rw[aJ] at U;rw[aJ]
 try simp only[zA,zF,zE] at U
 clear aJ bM cG;simp only[zD,zC,zB,nJ];have bN:=U.s.cell 0;have cH:=U.s.free 0;simp only[qP,qY] at bN;refine zb.n 26 ?_;refine zb.opS (w':=gT V6 ⟨w.heap.size+1+1+1,0,K3⟩ (X9 key)) rfl rfl K8 ⟨(λ_=>(U.dF (X9 key)).h),?_⟩;have H:=U.dF (X9 key);obtain⟨V7,aK⟩:∃V,gT V6 ⟨w.heap.size+1+1+1,0,K3⟩ (X9 key)=V:=⟨_,rfl⟩;have o7:∀r,w.heap.size+1+1+1+1<r->V7.heap[r]?=w6.heap[r]?:=λr E=>by rw[<-aK];exact(nU _ _ _ r (by show r≠w.heap.size+1+1+1;omega)).trans (o6 r E)
 rw[aK] at H;rw[aK]
 try simp only[qP,qY,qZ,zA,zF,zE] at H
 clear aK bN cH;simp only[zD,zC,zB,nJ];have bO:=H.e.cell 0;have cI:=H.e.free 0;simp only[qP,qY] at bO;refine zb.n 27 ?_;refine zb.opS (w':=gT V7 ⟨w.heap.size+1+1+1+1,0,K3⟩ (Y1 Q4 0)) rfl rfl K8 ⟨(λh=>absurd rfl h),?_⟩;have N:=H.dh (Y1 Q4 0);obtain⟨V8,aL⟩:∃V,gT V7 ⟨w.heap.size+1+1+1+1,0,K3⟩ (Y1 Q4 0)=V:=⟨_,rfl⟩;have o8:∀r,w.heap.size+1+1+1+1<r->V8.heap[r]?=w6.heap[r]?:=λr E=>by rw[<-aL];exact(nU _ _ _ r (by show r≠w.heap.size+1+1+1+1;omega)).trans (o7 r E)
 rw[aL] at N;rw[aL]
 try simp only[qP,qY,qZ,zA,zF,zE] at N
 clear aL bO cI;simp only[zD,zC,zB,nJ];refine zb.dn ?_;refine el ?_;go_wp2;refine leaves_cons (f:=149) (args:=#[Y9 (w.heap.size+1+1+1+1:Nat),.func (.func 207) #[] #[Y9 (w.heap.size+1:Nat),Y9 (w.heap.size+1+1:Nat),Y9 (w.heap.size+1+1+1:Nat)]]) K9 (by simp[go_sem]) ?_;refine(QL _ _ _).mono ?_;rintro e u' wz ⟨rfl,rfl,rfl⟩;obtain⟨a0,a1,a2,a3⟩:=wM N.a;obtain⟨d0,d1,d2,d3⟩:=wM N.b;have q3:=N.s.boxed;have q4:=N.e.boxed;have bX:nH w.heap.size w wz:=aR.trans (N.h.mono (lY _));have ownA:=qp (w':=wz) aX λr E=>o8 r (by have:=zj aX r E;have e:F.drew.heap.size=F.heap.size:=rfl;omega)
 have cK:=qp (w':=wz) aY λr E=>o8 r (by have:=zj aY r E;have:=X.size;omega)
 have nA:=λg (o:Nat) (e:O=some ⟨g,o,K3⟩)=>(by have:=zj aX g (by rw[e];rfl);have e:F.drew.heap.size=F.heap.size:=rfl;omega:w.heap.size<=g)
 have nB:=λg (o:Nat) (e:P=some ⟨g,o,K3⟩)=>(by have:=zj aY g (by rw[e];rfl);have:=X.size;omega:w.heap.size<=g)
 obtain⟨Aa,ca,ea,b6⟩:=qq ownA (Ym _);obtain⟨Ab,cb,eb,b7⟩:=qq cK (Ym _);injection ea with ea1 ea2 ea3
 injection eb with eb1 eb2 eb3
 subst ea1 ea3 eb1 eb3;simp[Leaves,settle,lh,Tryz.results137,go_sem,a0,a1,a2,a3,d0,d1,d2,d3,q3,q4];refine bR.out k _ _ ⟨O,c5,P,c6,a8,?_,?_,?_,bX,nA,nB⟩
 .rw[aN,aO,bT.out]
 .rw[aN];exact b6
 .rw[aO];exact b7
end
end Go.Proofs.YtohmkffoojdahaaGreat
