/- Texts that the proof of WalkRanges leans on, part 12. -/
import Derived.Test.YtohmkffoojdahaaGreatWalkRangesB11
open List renaming replicate->zP
open Nat renaming reduceAdd->yB,reduceSub->yC
set_option linter.unusedVariables false
set_option linter.unusedSimpArgs false
set_option maxRecDepth 100000
set_option maxHeartbeats 8000000

open ByteArray renaming empty->nX
open Go renaming Calls->nK,Addr->nN,Operand->nO,execOp->nQ,TypeId->nS,Oper->nh,Program->gF,maxLen->gP,callFunc->gm,Ending->mH,wpListIn->mx
open Go.Act renaming put->nJ
open Go.Deferred renaming ofValue->lP
open Go.Op renaming bytesLess->gH
open Go.Oper renaming wp->mW,about->eO
open Go.Result renaming andThen->nM
open Go.RowKit renaming Below->nH
open Go.Value renaming slice->mN,int->fY
open Go.World renaming setRow->gM,shape?->lu
open List renaming perm_iff_count->mz,count_append->lI,find?_append->lJ,reverse_append->lM,count_cons->ll,singleton_append->fw,find?_cons->eK,reverse_cons->eV,reverse_singleton->eY
open Go.Proofs.Tryz renaming prog->Y3
open Go.Proofs.Tryz
open Go.Value renaming int->Y1,pointer->Y9,slice->X1,bool->X3,string->X9,agg->Q0,tuple->Q2
open Go.IntKind renaming i64->Q4,u8->Q5,u32->Q7
open Go.Obj renaming cells->Q9
open Option renaming none->K3,some->K4
namespace Go.Proofs.YtohmkffoojdahaaGreat
section
open Go Go.RowKit xq
def sW (K:xB)(D:Int->Option Y4)(b:Nat)(roots:List Int)(rest:List Int)(n:Int)(d:Nat)(es:List qw)(z:ym)(v':yj)(st':qj):Prop :=
 ∃used' free' ps',xd K v'.D st' used' free'/\used'.Perm (n::(ps'++rest))/\yU v'.D d z es ps'/\(qg z).length<=656/\(∀a∈rest,v'.D a=D a)/\v'.N<=b/\st'.roots=roots
def SD (W0:World)(K:xB)(p t:Nat)(k:Int)(last:qj)(mk:Value)(ms:List xo)(d:Nat)(cond:ym->qw->Prop):Prop :=
 ∀(v:yj) (st:qj) (W:World) (used free:List Int) (n:Int) (x:ym) (es:List qw) (ps pc rest:List Int) (c:xG) (e:qw),zy W0 K p t k v st last true mk ms W->xd K v.D st used free->used.Perm (n::(ps++(pc++rest)))->v.D n=some (xx x)->(qg x).length<=512->yU v.D d x es ps->zu es->xP v.D c e pc ->
  v.N+12*(d+1)<=600000->es.length<=60->rest.length+3*es.length+5<=440->cond x e ->
  nK Y3 48 #[Q0 #[Y9 t],Y1 Q4 n,Q0 (zl c).toArray] W (XE W0 K p t k last mk ms W.heap.size v W (sW K v.D (v.N+12*(d+1)) st.roots rest n d (putE es e)))
theorem YM.of {K:xB}{v:yj}{n:Int}{x:ym}(h:0<=n)(f:v.D n=some (xx x))(g:yh x)(hl:(qg x).length<=512):YM K v n x:=by
 have e:v.view K n.toNat=xx x:=by rw[jv,show ((n.toNat:Nat):Int)=n by omega,f];rfl
 exact⟨by rw[f];rfl,by rw[e];exact⟨g,hl,rfl⟩,by rw[e];exact TV g hl⟩
section
variable {W0:World}{K:xB}{p t:Nat}{k:Int}{last:qj}{mk:Value}{ms:List xo}
theorem Mr {x:ym}(h1:x.leaf=true)(h2:x.keys=[])(f:x.kids=[]):x=⟨true,x.cells,[],[]⟩:=by
 obtain⟨leaf,cells,keys,kids⟩:=x;simp only at h1 h2 f;subst h1 h2 f;rfl
theorem Oi {x:ym}(h1:x.leaf=false)(h2:x.cells=[]):x=⟨false,[],x.keys,x.kids⟩:=by
 obtain⟨leaf,cells,keys,kids⟩:=x;simp only at h1 h2;subst h1 h2;rfl
theorem uQ (q:K.Ok):SD W0 K p t k last mk ms 0 (λx e=>vn true (qh x) e.1=false):=by
 intro v st W used free n x es ps pc rest c e h g hu H hl j hs hc hN he hr r;have S:n∈used:=hu.mem_iff.2 K9;have z:=g.pZ n (yH _ S);have aB:=g.sz;have aA:=q.hP;obtain⟨hi,p1,q1,E,U⟩:=AJ j hs hc r;have hm:=j.many;have V:=j;obtain⟨u,O,N,_,_⟩:=V;refine(Ie h q K5 n ⟨z.1,z.2⟩ K5 (g.loose q) x (YM.of K5 H (j.right hs) hl) u c _ (by rw[hc.key]) (by rw[hc.key];exact r) hi K5).mono ?_;rintro e' w' ⟨v',Ac,cc,Ak,ck,Ai,ci,rfl,C,G,f,M,I,A⟩;refine⟨_,v',st,Ac,cc,Ak,ck,Ai,ci,rfl,⟨used,free,p1++(pc++q1),by rw[f.dd];exact g,?_,by rw[f.dd];exact U,?_,λa _=>by rw[f.dd],by have:=f.nn;omega,rfl⟩,C,A,G,M,I⟩
 .refine hu.trans ?_;rw[E,mz];intro a;simp only[ll,lI];omega
 .have:=Ob x.cells _ c hi K5 hc.laid;rw[<-Mr u O N] at this;omega
theorem Eo (ks:List YP)(d:Nat)(h:∀k∈ks,k.ps.length+2<=3*k.es.length/\d<k.es.length):(ZD ks).length+ks.length<=3*(KR ks).length:=(Ku d h).1
theorem Eg (A:K.Ok)(bB:450<=K.pg)(aR:SD W0 K p t k last mk ms 0 (λx e=>vn true (qh x) e.1=true)):∀d,SD W0 K p t k last mk ms d (λ_ _=>True)
 | 0=>λv st W used free n x es ps pc rest c e h M hu hD hl hx hs hc hN he hr _=>by
  cases r:vn true (qh x) e.1 with
  | false=>exact uQ A v st W used free n x es ps pc rest c e h M hu hD hl hx hs hc hN he hr r
  | true=>exact aR v st W used free n x es ps pc rest c e h M hu hD hl hx hs hc hN he hr r
 | d+1=>λv st W used free n x es ps pc rest c e h M hu hD hl hx hs hc hN he hr _=>by
  have IH:=Eg A bB aR d;have bM:n∈used:=hu.mem_iff.2 K9;have a5:=M.pZ n (yH _ bM);have b5:=M.sz;have bU:=A.hP;have bV:=A.P2;have hm:=hx.many;have aT:=hx.right hs;have bR:=hx;obtain⟨ks,hi,aG⟩:=bR;have aV:∀j∈ks,j.ps.length+2<=3*j.es.length/\d<j.es.length:=λj g=>(aG j g).1.ov
  obtain⟨U,f,V,u⟩:=CC hi (λj g=>(aG j g).1.ne) e;have aZ:=hi.len;have bX:=hi.pos;have a0:f∈ks:=by rw[u.eq];simp
  obtain⟨kN,kD,kl⟩:=aG f a0;have aL:=hi.oV;rw[u.eq] at aL aZ;rw[QD,vz] at aL;have a7:zu f.es:=zu.oW (hi.oV▸hs) f a0;have bY:=Eo U d λj g=>aV j (by rw[u.eq];simp[g])
  have bZ:=Eo V d λj g=>aV j (by rw[u.eq];simp[g])
  have bG:=congrArg List.length aL;simp only[zH,zK] at bG aZ;have a4:=hi.dE;rw[u.eq,QC,jX] at a4;have bF:yf false (qh x) c.key=vO e.1 x.keys:=by unfold yf qh;rw[hi.leaf,hc.key];simp
  have aN:x.kids[vO e.1 x.keys]?=some f.pg:=by rw[hi.kids,u.eq,<-u.len];unfold Uu;simp
  have b3:=u.put;have b2:=ZZ f.es e;obtain⟨rk,O⟩:=Z9 (n::(ZD U++(ZD V++rest)));have b4:rk.length=1+(ZD U).length+(ZD V).length+rest.length:=by rw[O];simp;omega
  have bQ:used.Perm (f.pg::(f.ps++(pc++rk))):=by refine hu.trans ?_;rw[a4,O,mz];intro a;simp only[ll,lI];omega
  have aF:∀j,j∈U\/j∈V->∀D':Int->Option Y4,(∀a∈rk,D' a=v.D a)->yU D' d j.nd j.es j.ps/\D' j.pg=some (xx j.nd)/\(qg j.nd).length<=512:=λj g D' aS=>by
   have bI:j∈ks:=by rw[u.eq];simp;rcases g with g|g<;>simp[g]
   obtain⟨a1,a2,a3⟩:=aG j bI;have aX:∀a,a=j.pg\/a∈j.ps->a∈rk:=λa ha=>by
    rw[O];rcases g with g|g
    .obtain⟨m1,m2⟩:=Kr g;rcases ha with rfl|ha
     .simp[m1]
     .simp[m2 a ha]
    .obtain⟨m1,m2⟩:=Kr g;rcases ha with rfl|ha
     .simp[m1]
     .simp[m2 a ha]
   exact⟨a1.pR λa ha=>aS a (aX a (.inr ha)),(aS _ (aX _ (.inl rfl))).trans a2,a3⟩
  refine LX h A K5 n ⟨a5.1,a5.2⟩ K5 (M.loose A) x (YM.of K5 hD aT hl) hi.leaf c _ bF f.pg aN K5 K5
   (sW K v.D (v.N+1+12*(d+1)) st.roots rk f.pg d (putE f.es e)) _ (λW1 v1 h1 aE => ?_) (λW1 v1 bS y b Ac cc Ak ck Ai ci Bc bc Bk bk Bi bi bC h1 hX bE r hY => ?_)
  .have aB:=aE.dd;have aO:=aE.nn;refine(IH v1 st W1 used free f.pg f.nd f.es f.ps pc rk c e h1 (by rw[aB];exact M) bQ (by rw[aB];exact kD) kl (by rw[aB];exact kN) a7 (by rw[aB];exact hc) K5 K5 K5 trivial).mono ?_;rintro e' w' ⟨z,v',st',Zc,zc,Zk,zk,Zi,zi,r1,⟨u',f',G,q1,q2,E,q4,S,q6,q7⟩,r3⟩;exact⟨z,v',st',Zc,zc,Zk,zk,Zi,zi,r1,⟨u',f',G,q1,q2,E,q4,λa ha=>by rw[<-aB];exact S a ha,by omega,q7⟩,r3⟩
  .obtain⟨u',f',G,q1,q2,E,q4,S,q6,q7⟩:=bC;have bK:=q1.nd;have bL:(f.pg::(G++rk)).Nodup:=q2.nodup_iff.1 (List.nodup_append.1 bK).1;obtain⟨aO,b1⟩:=List.nodup_cons.1 bL;have aQ:∀a∈G,a≠f.pg:=λa ha e1=>aO (e1▸yH _ ha)
   have aC:∀a∈rk,a≠f.pg:=λa ha e1=>aO (e1▸List.mem_append_right _ ha)
   have aM:f.pg∈u':=q2.mem_iff.2 K9;have a6:=q1.pZ f.pg (yH _ aM);have b6:=q1.sz;have aI:=a7.dG e;have aK:=E.right aI;have b0:=E.many;have bW:=E.ov;have b7:u'.length=1+G.length+rk.length:=by rw[q2.length_eq];simp;omega
   by_cases aW:(qg y).length<=512
   .refine(Rf h1 A K5 (q1.loose A) hX hY _ f.pg aN ⟨a6.1,a6.2⟩ K5 K5 K5 K5 aK aW).mono ?_;rintro e' w' ⟨v3,rfl,bD,h3,aU,aP,aJ⟩;have I:=aU.dd;have C:∀a,a≠f.pg->v3.D a=v1.D a:=λa ha=>by rw[I];simp[ha]
    refine⟨x,v3,bS,Ac,cc,Ak,ck,Ai,ci,rfl,⟨u',f',ZD (U++⟨f.pg,y,putE f.es e,G⟩::V),by rw[I];exact q1.put aM _,?_,⟨_,u.one ⟨f.pg,y,putE f.es e,G⟩ rfl rfl,λj g => ?_⟩,by omega,λa ha => ?_,by have:=aU.nn;omega,q7⟩,bD,bE,h3,aP,aJ⟩
    .refine q2.trans ?_;rw[QC,jX,O,mz];intro a;simp only[ll,lI];omega
    .rcases zZ.1 g with g|g
     .exact aF j (.inl g) _ λa ha=>(C a (aC a ha)).trans (S a ha)
     .rcases qN.1 g with rfl|g
      .exact⟨E.pR λa ha=>C a (aQ a ha),by rw[I];simp,aW⟩
      .exact aF j (.inr g) _ λa ha=>(C a (aC a ha)).trans (S a ha)
    .have aA:a∈rk:=by rw[O];simp[ha]
     exact(C a (aC a aA)).trans (S a aA)
   .have aH:512<(qg y).length:=K5
    refine(JS h1 A K5 q1 K5 hX hY _ f.pg aN aM K5 K5 (VB _ _) K5 K5 K5 aK aH (λj g=>E.oQ aI g aH q4)).mono ?_;rintro e' w' ⟨j,q,v3,bT,a9,Ck,nk,Ci,ni,H,bP,rfl,hZ,h3,aP,aJ,bA⟩;obtain⟨f1,f2,j0,jl⟩:=E.oQ aI H.half aH q4;obtain⟨ea,eb,pa,pb,ee,pe,hA,hB,bJ,bH,a8⟩:=E.split aI j0 jl (Xp aK aH);have I:=H.dd;have bO:=H.nq
    have aD:∀a,a=f.pg\/a∈G\/a∈rk->a≠q:=λa ha e1=>bO (e1▸q2.mem_iff.2 (by
     rcases ha with ha|ha|ha<;>simp[ha]))
    have C:∀a,a≠f.pg->a≠q->v3.D a=v1.D a:=λa ha r=>by rw[I];simp[ha,r]
    have bN:=H.pl.pZ q K9;have b8:=H.pl.sz;refine⟨jg x (vO e.1 x.keys) (yq y j) q,v3,bT,none,0,Ck,nk,Ci,ni,rfl,⟨q::u',a9,ZD (U++⟨f.pg,xF y j,ea,pa⟩::⟨q,yT y j,eb,pb⟩::V),H.pl,?_,⟨_,u.two ⟨f.pg,xF y j,ea,pa⟩ ⟨q,yT y j,eb,pb⟩ (yq y j) rfl ⟨bN.1,by show q<=2000;omega⟩ ee.symm bJ bH hB.ne a8,λa ha => ?_⟩,?_,λa ha => ?_,by have:=H.nn;omega,bP.trans q7⟩,hZ,bA.less r,h3,aP,aJ⟩
    .refine(List.Perm.cons q q2).trans ?_;rw[QC,jX,jX,O,pe,mz];intro a;simp only[ll,lI];omega
    .have aY:∀a∈rk,v3.D a=v.D a:=λa ha=>(C a (aC a ha) (aD a (.inr (.inr ha)))).trans (S a ha)
     rcases zZ.1 ha with ha|ha
     .exact aF a (.inl ha) _ aY
     .rcases qN.1 ha with rfl|ha
      .refine⟨hA.pR λb r=>C b (aQ b (by rw[pe];simp[r])) (aD b (.inr (.inl (by rw[pe];simp[r])))),?_,f1⟩;rw[I];simp[aD f.pg (.inl rfl)]
      .rcases qN.1 ha with rfl|ha
       .refine⟨hB.pR λb r=>C b (aQ b (by rw[pe];simp[r])) (aD b (.inr (.inl (by rw[pe];simp[r])))),?_,f2⟩;rw[I];simp
       .exact aF a (.inr ha) _ aY
    .have aE:x.kids.length=x.keys.length+1:=(aT.inner hi.leaf).2.2.1;have:=Hs x.keys x.kids (vO e.1 x.keys) (yq y j) q aE (VB _ _) K5 a8 K5;rw[<-Oi hi.leaf hi.cells] at this;unfold jg;omega
    .have aA:a∈rk:=by rw[O];simp[ha]
     exact(C a (aC a aA) (aD a (.inr (.inr aA)))).trans (S a aA)
end
section
variable {W0 W W' wx:World}{K:xB}{p t:Nat}{k:Int}{v v':yj}{st st' last:qj}{under:Bool}{mk:Value}{ms:List xo}{b:Nat}{T:nS}{cs:Y7}
theorem qv.da {A:Y5}{c:Nat}{l:Y4}(h:qv W W.heap.size A c l)(r:VI W A)(u:za W b T cs)(f:T≠5)(q:ze (λj=>j=b) W W'):qv W' W'.heap.size A c l :=
 q.inB h (λg o e _ C=>by
  obtain⟨cs',z⟩:=r g o e
  exact zh u z f C.symm)
theorem vi.og (h:vi W0 K v W)(r:ze (λj=>j=b) W W')(z:za W b T cs)(I:W0.heap.size<=b)(G:QO T)(C:T≠5):vi W0 K v W':=by
 obtain⟨t1,N,t3,t4,t5,M,_⟩:=G;have hf:=h.cs.fh;have hc:=h.cs.ca;refine⟨⟨⟨hf.up.trans (r.toBelow hf.up.size (λj e=>by subst e;exact I)),r.blk hf.fb (λe=>zh z hf.fb M e.symm)⟩,?_,h.cs.nb,λq u hu hl g o e => ?_⟩,h.ok,h.ro,h.cn⟩
 .obtain⟨es,c,A,H,hs⟩:=hc.mp;refine⟨r.blk hc.cb (λe=>zh z hc.cb t3 e.symm),⟨es,c,(r.block _ A.lt (λe=>A.pf z e)).trans A,H,hs⟩,λq u hu => ?_,hc.inj,hc.dM⟩;have f:=hc.rows q u hu;refine⟨r.blk f.blk (λe=>zh z f.blk t4 e.symm),f.key,?_,f.len,f.om⟩;rcases f.len with hl|hl
  .exact f.px.da (h.cs.ty q u hu hl) z C r
  .have:=f.px;rw[hl] at this ⊢;exact this.noB
 .obtain⟨cs',E⟩:=h.cs.ty q u hu hl g o e;exact⟨cs',r.blk E (λe=>zh z E C e.symm)⟩
theorem zy.og (u:zy W0 K p t k v st last under mk ms wx)(h:zy W0 K p t k v' st' last under mk ms W)(C:zz K wx v v')(g:ze (qi K p v) wx W)(f:ze (λj=>j=b) W W')(r:za W b T cs)(E:wx.heap.size<=b)(q:QO T)(A:T≠5):zy W0 K p t k v' st' last under mk ms W' :=
 ⟨⟨h.pa.ca.og f r (zT u.up E) q A,f.blk h.pa.pb (λe=>zh r h.pa.pb q.2.2.2.2.1 e.symm),h.pa.np,h.pa.hs,h.pa.hl⟩,
  u.mm.dN u.pa ⟨f.os.trans g.os,f.tape.trans g.tape,f.output.trans g.output,zT g.size f.size,λj z G=>(f.block j (zO z g.size) (λe=>by
   have e:j=b:=e
   omega)).trans (g.block j z G)⟩ C,
  f.blk h.tb (λe=>zh r h.tb q.2.2.2.2.2.2.1 e.symm)⟩
end
theorem Rj (w:World)(g:Nat)(n:Int)(s:Value)(h:za w g 67 #[X1 none 0 0]):nK Y3 143 #[Y1 Q4 n,s,Y9 g] w λe w'=>(∃z,e=Y0 z)/\∃A c,za w' g 67 #[X1 A 1 c]/\yl w' w'.heap.size 1 A 1 c [Y1 Q4 n]/\(∀r o,A=some ⟨r,o,K3⟩->w.heap.size<=r)/\ze (λk=>k=g) w w':=by
 obtain⟨q,H,C,b1⟩:=Qp w 3 #[Y1 Q4 n];have c0:=h.boxed;have I:=h.below C h.lt
 have U:yl q q.heap.size 1 (K4 ⟨w.heap.size,0,K3⟩) 1 1 [Y1 Q4 n]:=⟨zG _,by decide,(λe=>by cases e),rfl,(by intro u hu;rw[qL] at hu;subst hu;rfl),λ_=>⟨w.heap.size,0,rfl,b1.lt,λj u V=>by
  rw[qA,b1.cell]
  simpa using V⟩⟩
 have aA:=gU q w.heap.size 3 1;have aC:=h.lt;have O:=nI H.symm;clear H
 go_enter func143,ntmps143
 go_wp2_with (first
  | (at_builtin;rw[O.out];refine xg rfl Fg _ _ rfl w.heap.size _ 0 [] rfl aA _ _ 1 1 [Y1 Q4 n] rfl U K7 K7 C.size ?_;intro v5 w5 N f
     obtain⟨A,c,S,aB⟩:=qq N (by intro u hu;rw[zQ,qL] at hu;subst hu;rfl);have G:=zj N;subst S;have E:za w5 g 67 #[X1 none 0 0]:=(f.block _ I.lt (λe=>by cases e)).trans I;have f5:=E.free 0
     have c5:=E.boxed))
 go_end0;refine⟨⟨_,rfl⟩,A,c,E.set 0 _,?_,λr o e=>G r (by rw[e];rfl),?_⟩
 .exact aB.pT (M:=λk=>k=g) (λ_ r o e hm=>by have:=G r (by rw[e];rfl);omega) (ze.setCell _ _ _ rfl)
 .have h1:ze (λk=>k=g) w w5:=(ze.below C).trans ⟨f.os,f.tape,f.output,f.size,λk hk _=>f.block k hk (λe=>by cases e)⟩;exact h1.trans (ze.setCell _ _ _ rfl)
section
variable {W0 W W':World}{K:xB}{p t:Nat}{k:Int}{v v':yj}{st last st' last':qj}{mk mk':Value}{ms:List xo}
theorem Ih (h:zy W0 K p t k v st last true mk ms W)(hK:K.Ok)(hN:v.N<=790000)(n:Int)(hn:1<=n/\n<st.size)(hP:n<(K.P:Int))(hT:¬ jD K v.D)(aM:0<=st.many/\st.many<=1000)(u ky:ByteArray)(hu:60<u.size/\u.size<=400)(hD:v.D n=some (jz u)):nK Y3 87 #[Q0 #[Y9 t],Q0 (zl ⟨ky,nX,n,(u.size:Int)⟩).toArray] W λe w'=>∃v',(∃z,e=Y0 z)/\zy W0 K p t k v' {st with first:=n,many:=st.many+1} last true mk ms w'/\v'.N<=v.N+4/\v'.D=(λj=>if j=n then some (kQ st.first) else v.D j)/\zz K W v v'/\ze (qi K p v) W w':=by
 have aW:=h.up;obtain⟨W1,f⟩:=Z9 (((W.alloc (Q9 #[Y9 t] 92)).alloc (Q9 (zl ⟨ky,nX,n,(u.size:Int)⟩).toArray 94)).alloc (Q9 #[X1 none 0 0] 67));have H:nH W.heap.size W W1:=by rw[f];exact YK _ _ _ _
 have b2:za W1 W.heap.size 92 #[Y9 t]:=by rw[f];exact((za.new W _ _).alloc _).alloc _
 have b3:za W1 (W.heap.size+1) 94 (zl ⟨ky,nX,n,(u.size:Int)⟩).toArray:=by have:=(za.new (W.alloc (Q9 #[Y9 t] 92)) 94 (zl ⟨ky,nX,n,(u.size:Int)⟩).toArray).alloc (Q9 #[X1 none 0 0] 67);rw[nG] at this;rw[f];exact this
 have b4:za W1 (W.heap.size+1+1) 67 #[X1 none 0 0]:=by have:=za.new ((W.alloc (Q9 #[Y9 t] 92)).alloc (Q9 (zl ⟨ky,nX,n,(u.size:Int)⟩).toArray 94)) 67 #[X1 none 0 0];rw[nG,nG] at this;rw[f];exact this
 have aU:W1.heap.size=W.heap.size+1+1+1:=by rw[f,nG,nG,nG]
 have h1:=h.grow H;have aP:=h1.pP b2 K7;have aE:=h1.pP b4 K7;have V:=UF h1 hK K5 n hn hP hT u ky hu hD 143 (Y9 (W.heap.size+1+1:Nat)) (zb.eo func143)
  (λv1 w'=>zy W0 K p t k v1 st last true mk ms w'/\XY K v v1/\zz K W1 v v1/\ze (λj=>qi K p v j\/j=W.heap.size+1+1) W1 w'/\∃A c,za w' (W.heap.size+1+1) 67 #[X1 A 1 c]/\yl w' w'.heap.size 1 A 1 c [Y1 Q4 n])
  (λW2 v1 A h2 aL aV I aN _=>(Rj W2 (W.heap.size+1+1) n (X1 A u.size u.size) (I.blk b4 aE)).mono λe w' ⟨hz,A',c',aJ,aK,aT,aA⟩ =>
   ⟨hz,h2.pQ aA (I.blk b4 aE) K7 (λm e=>by cases e) K5 K7,aL,aN,(I.more (λj C _ => .inl C)).trans (aA.more (λj C _ => .inr C)),A',c',aJ,aK⟩)
 have aF:=nI f.symm;clear f h h1;unfold zl at *
 go_enter func87,ntmps87
 go_wp2_with (first
  | (rw[aF.out];refine yp ql b3 ?_))
 refine V.mono ?_;rintro e w4 ⟨⟨z,rfl⟩,v1,q,E,aO,aB,A,c,aH,aD⟩;obtain⟨r,o,rfl,hr,aC⟩:=aD.pO K5;have aC:w4.cell? ⟨r,o,K3⟩=K4 (Y1 Q4 n):=by have:=aC 0 _ rfl;simpa using this
 have aS:=aH.boxed
 have aG:=aB.blk b2 (λe=>by
  rcases e with e|e
  .exact aP e
  .omega)
 have aR:=aG.boxed;have aQ:=q.tp;have U:=Tn q.pa hK (by have:=E.nn;omega) n hn hP aM;have N4:zz K W v v1:=aO.mono H.size;have G:ze (qi K p v) W w4:=by have a:=(ze.below H (Mu:=λj=>qi K p v j\/j=W.heap.size+1+1)).trans aB;exact⟨a.os,a.tape,a.output,a.size,λj C hm=>a.block j C (λe=>e.elim hm (λe=>by omega))⟩
 clear V b2 b3 b4
 go_wp2_with fail
 go_loopw [13] (λi wr=>(i=Y1 Q4 0/\wr=w4)\/(i=Y1 Q4 1/\∃v',zy W0 K p t k v' {st with first:=n,many:=st.many+1} last true mk ms wr/\v'.N<=v.N+4/\v'.D=(λj=>if j=n then some (kQ st.first) else v.D j)/\zz K W v v'/\ze (qi K p v) W wr)) (λi _=>match i with | .int _ m=>(1-m).toNat|_=>0)
 case atStart=>exact .inl ⟨rfl,rfl⟩
 case round =>
  rcases hrel with⟨rfl,rfl⟩|⟨rfl,v',hv'⟩
  .go_wp2_with fail
   refine U.mono ?_;rintro e w5 ⟨x,v',rfl,S,hF,O,M⟩;obtain⟨rfl,aI⟩:x=0/\v'.D=λj=>if j=n then some (kQ st.first) else v1.D j:=by
    rcases hF.dd with g|⟨_,g,_⟩
    .exact g
    .exact absurd (q.pa.ca.tight g) (by rw[E.dd];exact hT)
   rw[if_pos rfl] at S;have g:=q.pS S M O;have F5:zy W0 K p t k v' {st with first:=n,many:=st.many+1} last true mk ms w5/\v'.N<=v.N+4/\v'.D=(λj=>if j=n then some (kQ st.first) else v.D j)/\zz K W v v'/\ze (qi K p v) W w5 :=
    ⟨g,by have:=hF.nn;have:=E.nn;omega,by rw[aI,E.dd],N4.trans O G.size,M.fresh G N4 G.size⟩
   clear U S hF O M g q aD
   go_wp2_with (first
    | (go_at_call 51;refine(kA _).mono ?_;rintro e w3 ⟨⟨_,rfl⟩,rfl⟩))
   refine⟨.inr ⟨rfl,v',F5⟩,?_⟩;show (1-(1:Int)).toNat<(1-(0:Int)).toNat
   omega
  .go_wp2
   first
    |(go_end0;exact⟨v',⟨_,rfl⟩,hv'⟩)
    |(refine nT (mF rfl _ _ _) rfl ?_;exact⟨v',⟨_,rfl⟩,hv'⟩)
end
section
variable {W0 W W':World}{K:xB}{p t:Nat}{k:Int}{v v':yj}{st last st' last':qj}{mk mk':Value}{ms:List xo}{used free rest po:List Int}
structure tX (K:xB)(v:yj)(st:qj)(rest:List Int)(v':yj)(st':qj)(free':List Int):Prop where
 pl:xd K v'.D st' rest free'
 nn:v'.N<=v.N+5
 dd:∀a∈rest,v'.D a=v.D a
 rt:st'.roots=st.roots
 sz:st'.size=st.size
theorem Ii (h:zy W0 K p t k v st last true mk ms W)(g:K.Ok)(G:v.N<=790000)(f:xd K v.D st used free){c:xG}{e:qw}(hc:xP v.D c e po)(hu:used.Perm (po++rest)):nK Y3 87 #[Q0 #[Y9 t],Q0 (zl c).toArray] W λr w'=>(∃z,r=.returned z)/\∃v' st' C,tX K v st rest v' st' C/\v'.N<=v.N+4/\zy W0 K p t k v' st' last true mk ms w'/\zz K W v v'/\ze (qi K p v) W w':=by
 have j:=f.perm hu.symm;obtain⟨ky,u,pg,sz⟩:=c;rcases hc.val with⟨h1,h2,h3,h4,h5⟩|⟨h1,h2,h3,h4,h5,h6,h7,h8⟩
 .simp only at h1 h2 h3;subst h2 h3 h5;refine(LY W (Y9 t) ky u).mono ?_;rintro r w' ⟨q,hB⟩;exact⟨q,v,st,free,⟨j,by omega,λa _=>rfl,rfl,rfl⟩,by omega,h.grow hB,λk H => .inl H,ze.below hB⟩
 .simp only at h1 h2 h3 h6 h7 h8;subst h1 h2 h3;have A:=j.pZ pg K9;have aA:=f.sz;have O:=g.hP;have S:=g.P2;have V:=f.mn;have U:=f.oT;refine(Ih h g G pg ⟨A.1,A.2⟩ K5 (f.loose g) ⟨by omega,by omega⟩ e.2 ky ⟨h4,h5⟩ h8).mono ?_;rintro r w' ⟨v',q,ht,hn,hd,M,E⟩;refine⟨q,v',{st with first:=pg,many:=st.many+1},pg::free,⟨?_,by omega,λa ha => ?_,rfl,rfl⟩,hn,ht,M,E⟩
  .rw[hd];exact j.df
  .have I:=(List.nodup_append.1 j.nd).1;have:a≠pg:=λe=>(List.nodup_cons.1 I).1 (e▸ha)
   rw[hd];simp[this]
end
theorem Lo {P:gF}{w:World}{g off k:Nat}{T t:nS}{cs cs':Y7}(f:yw P T k)(j:za w g t cs)(q:cs'.size=k)(hf:off+k<=cs.size)(h1:∀v∈cs'.toList,v.oneCell'=true):(storeVar T ⟨g,off,K3⟩ (Q0 cs')).run P w=.ok () (w.setRow g (cs.toList.take off++cs'.toList++cs.toList.drop (off+k)).toArray):=by
 have h:=run_storeCells_at (P:=P) g off t cs'.toList 0 cs w j (by simp;omega) h1;simp only[Nat.add_zero] at h;have hi:=f.size;have hl:cs'.toList.length=k:=by simpa using q
 rw[hl] at h;cases hq:P.info? T with
 | none=>simp[hq] at hi
 | some i =>
  have r:cs'.size=i.size:=by simp[hq] at hi;omega
  simp[storeVar,sizeOf,typeInfo,hq,Value.cells,r,h]
section
variable {P:gF}{w:World}{ops:Array nh}{rest:List nh}{o:nh}{a:Act}{Q:Exit->Act->World->Prop}
theorem Tv {K:Act->World->Prop}(T:nS)(x y:nO)(r:o.op=.store T x y)(g off:Nat){t:nS}{cs cs':Y7}(u:a.eval x=Y9 (K4 ⟨g,off,K3⟩))(z:a.eval y=Q0 cs'){k:Nat}(f:yw P T k)(j:za w g t cs)(q:cs'.size=k)(hf:off+k<=cs.size)(h1:∀v∈cs'.toList,v.oneCell'=true)
  (h:K (a.put o.dst undef) (w.setRow g (cs.toList.take off++cs'.toList++cs.toList.drop (off+k)).toArray)):o.wp P a w K Q:=by
 unfold mW nQ;simp only[r,u,z,Instr.storeAt,Instr.sureAddr,gJ,ny,nc,Lo f j q hf h1];exact h
theorem IW (r:o.guard=none)(T:nS)(x y:nO)(z:o.op=.store T x y)(g off:Nat){t:nS}{cs cs':Y7}(A:a.eval x=Y9 (K4 ⟨g,off,K3⟩))(C:a.eval y=Q0 cs'){k:Nat}(j:yw P T k)(q:za w g t cs)(u:cs'.size=k)(hf:off+k<=cs.size)(h1:∀v∈cs'.toList,v.oneCell'=true)
  (h:wpList P ops Q rest (a.put o.dst undef) (w.setRow g (cs.toList.take off++cs'.toList++cs.toList.drop (off+k)).toArray)):wpList P ops Q (o::rest) a w :=
 wpList_plain r λ_ f=>Tv T x y z g off A C j q u hf h1 (f _ _ h)
end
def ZB (l:List xG)(i:Nat)(c:xG):List xG:=l.take i++c::l.drop (i+1)
theorem Xi (l:List xG)(i:Nat)(c:xG)(hi:i<l.length):(ZB l i c).length=l.length:=by
 unfold ZB;rw[zH,zK,qB,qF];omega
theorem CV (l:List xG)(i:Nat)(c:xG):vY (ZB l i c)=(vY l).take (i*4)++(zl c++(vY l).drop ((i+1)*4)):=by
 rw[Vo,Vp];unfold ZB;rw[Ez];rfl
section
variable {W0 W W':World}{K:xB}{p t:Nat}{k:Int}{v v':yj}{st last st' last':qj}{mk mk':Value}{ms:List xo}
theorem Ic (h:zy W0 K p t k v st last true mk ms W)(hK:K.Ok)(hN:v.N<=780000)(n:Int)(hn:1<=n/\n<st.size)(hP:n<(K.P:Int))(hT:¬ jD K v.D)(x:ym)(hx:YM K v n x)(aO:x.leaf=true)(c:xG)(i:Nat)(b8:yf true (qh x) c.key=i)(cG:vn true (qh x) c.key=true)(hi:i<x.cells.length)(cQ:x.cells.length<=1000)(R:yj->qj->Prop)
  (a9:∀W1 v1,zy W0 K p t k v1 st last true mk ms W1->XY K v v1->nK Y3 87 #[Q0 #[Y9 t],Q0 (zl x.cells[i]).toArray] W1 λr w'=>(∃z,r=.returned z)/\∃v' st',R v' st'/\zy W0 K p t k v' st' last true mk ms w'/\zz K W1 v1 v'/\ze (qi K p v1) W1 w') :
  nK Y3 48 #[Q0 #[Y9 t],Y1 Q4 n,Q0 (zl c).toArray] W (XE W0 K p t k last mk ms W.heap.size v W λz v' st'=>z=⟨true,ZB x.cells i c,[],[]⟩/\R v' st'):=by
 have cX:=h.up;obtain⟨a6,bT,_⟩:=hx.fits.1.leaf aO;obtain⟨W1,M⟩:=Z9 (((W.alloc (Q9 #[Y9 t] 92)).alloc (Q9 (zl c).toArray 94)).alloc (Q9 #[X3 false,X1 none 0 0,X1 none 0 0,X1 none 0 0] 69));have aL:nH W.heap.size W W1:=by rw[M];exact YK _ _ _ _
 have b3:za W1 W.heap.size 92 #[Y9 t]:=by rw[M];exact((za.new W _ _).alloc _).alloc _
 have b5:za W1 (W.heap.size+1) 94 (zl c).toArray:=by have:=(za.new (W.alloc (Q9 #[Y9 t] 92)) 94 (zl c).toArray).alloc (Q9 #[X3 false,X1 none 0 0,X1 none 0 0,X1 none 0 0] 69);rw[nG] at this;rw[M];exact this
 have b6:za W1 (W.heap.size+1+1) 69 #[X3 false,X1 none 0 0,X1 none 0 0,X1 none 0 0]:=by have:=za.new ((W.alloc (Q9 #[Y9 t] 92)).alloc (Q9 (zl c).toArray 94)) 69 #[X3 false,X1 none 0 0,X1 none 0 0,X1 none 0 0];rw[nG,nG] at this;rw[M];exact this
 have cT:W1.heap.size=W.heap.size+1+1+1:=by rw[M,nG,nG,nG]
 have h1:=h.grow aL;have bB:=Qd h1 hK K5 n hn hP hT x hx;have bH:=b3.boxed;rw[M] at bH;have bY:=nI M.symm;have cL:=h1.pP b3 K7;have cM:=h1.pP b5 K7;have cN:=h1.pP b6 K7;clear M h
 go_enter func48,ntmps48
 go_wp2_with fail
 rw[bY.out];refine bB.mono ?_;rintro e f ⟨v',Ac,cc,Ak,ck,Ai,ci,rfl,n2,h2,cH,bU,aA,wx,a8,aY,cW,aN⟩;obtain⟨N,aB⟩:=Z9 (zx x Ac cc Ak ck Ai ci);have aF:N.size=4:=by rw[aB];rfl
 have aZ:∀u∈N.toList,u.oneCell'=true:=by rw[aB];exact zw rfl rfl rfl rfl
 rw[<-aB];have aS:=aA.blk b3 cL;have aC:=aA.blk b5 cM;have aU:=aA.blk b6 cN;have cU:W.heap.size+3<=f.heap.size:=by have:=aA.size;omega
 obtain⟨W3,bN,bK,aX⟩:=Qp f 69 #[X3 false,X1 none 0 0,X1 none 0 0,X1 none 0 0];have aD:nH f.heap.size f (W3.setRow f.heap.size N):=zf bK (zG _) _;have aI:=aX.setRow N;generalize bO:W3.setRow f.heap.size N=W4 at *;have n4:=n2.grow aD;have bE:=aC.below aD aC.lt;have cJ:=aD.size;have HF:=YH W4 x Ac cc Ak ck Ai ci n4 K5 (by rw[a6];decide) c.key;unfold ZA at HF;rw[aO,b8,cG] at HF;have b7:W4.cell? (W.heap.size+1:Nat)=some (X9 c.key):=by rw[bE.cell];rfl
 rw[<-aB] at HF;have aG:=nI aB;have bZ:=nI bN.symm;have b0:=nI bO;clear aB bN bO h1 n2 b3 b5 b6 bH hn bB bK
 go_wp2_with (first
  |(rw[bZ.out];refine vC zm aX aF aZ ?_;rw[b0.out])
  | (refine yO rfl 69 (.tmp 7) rfl f.heap.size rfl zm aI aF ?_))
 refine HF.mono ?_;rintro e w5 ⟨rfl,aE⟩;have aM:nH w5.heap.size w5 w5.drew:=(nF _ _).drew;have H:nH f.heap.size f w5.drew:=(aD.trans (aE.mono cJ)).trans (aM.mono (by have:=aE.size;omega));have n5:=(n4.grow aE).grow aM;have aH:=aS.below H aS.lt;have aT:=aC.below H aC.lt;have aW:=aU.below H aU.lt;have aJ:=aI.below aE aI.lt;have aK:=aJ.below aM aJ.lt;have d0:w5.cell? f.heap.size=some (X3 true):=by rw[aJ.cell,aG.out];simp[zx,aO]
 have oc:=qp aN.c (w':=w5.drew) (λr hr=>H.block r (kM aN.c r hr));obtain⟨g,O,cur,eA,cD,a5,cE,a7,bQ,bR⟩:∃g O,∃cur:Y7,mN Ac x.cells.length cc=X1 (K4 ⟨g,0,K3⟩) x.cells.length O/\wx.heap.size<=g/\za w5.drew g 94 cur/\x.cells.length<=O/\O<=gP/\cur.size=O*4/\vY x.cells=cur.toList.take (x.cells.length*4):=by
  rcases oc.2 with⟨_,G⟩|⟨g,O,cur,e,hb,hg,hle,a7,hsz,htk⟩
  .omega
  .exact⟨g,O,cur,e,hb,hg,hle,a7,hsz,htk.symm⟩
 injection eA with eA1 _ eA3
 subst eA1 eA3;have hr:=KJ n5.c rfl i hi;rw[qA] at hr;have cR:(i:Int)<(x.cells.length:Int):=K5
 have cS:(0:Int)<=(i:Int):=K5
 have bI:w5.drew.cell? ⟨f.heap.size,1,K3⟩=some (X1 (K4 ⟨g,0,K3⟩) x.cells.length cc):=by rw[aK.cell,aG.out];rfl
 have V:=h2.grow H;have bA:=a9 w5.drew v' V cH;have cF:=a5.lt;have aQ:¬ qi K p v' g:=λq=>by have:=a8.oE g q;omega
 have n3:=V.pP aH K7;have bV:=V.pP aT K7;have n6:=V.pP aW K7;have n7:=V.pP aK K7;have b9:=aY.size;have cV:=H.size;have bL:nH wx.heap.size wx w5.drew:=aY.trans (H.mono b9);have g5:ze (qi K p v) W w5.drew:=((ze.below aL).trans aA).trans (ze.below H);have N5:zz K W v v':=bU.mono aL.size;generalize cB:x.cells[i]=cx at *;have I:za w5.drew W.heap.size 92 #[Y9 t]/\w5.drew.cell? ⟨f.heap.size,1,K3⟩=some (X1 (K4 ⟨g,0,K3⟩) x.cells.length cc)/\w5.drew.rangeAt g (i*4) (zl cx):=⟨aH,bI,hr⟩;clear cB a9 aE aM HF aS aC aU bE aX aI aJ b7 h2 aY oc hr n4 aA bU aD aL
 go_wp2_with fail
 refine zb.st (λW':World=>za W' W.heap.size 92 #[Y9 t]/\W'.cell? ⟨f.heap.size,1,K3⟩=some (X1 (K4 ⟨g,0,K3⟩) x.cells.length cc)/\W'.rangeAt g (i*4) (zl cx)) 99 ?_;generalize w5.drew=wd at *;refine zb.t0 0 (Q0 #[Y9 t]) rfl I (λW ⟨U,A,C⟩=>by exact Qa Xk U rfl rfl rfl) ?_;refine zb.q0 1 (Y9 (K4 ⟨f.heap.size,1,K3⟩)) I ?_;refine zb.q0 2 (X1 (K4 ⟨g,0,K3⟩) x.cells.length cc) I ?_;refine zb.q0 3 (Y1 Q4 (i:Int)) I ?_;refine zb.q0 4 (Y9 (K4 ⟨g,i*4,K3⟩)) I ?_;simp only[Z8];refine zb.t0 5 (Q0 (zl cx).toArray) rfl I (λW ⟨U,A,C⟩=>by exact yQ ql C rfl rfl rfl) ?_;simp only[Z8];refine zb.n 6 ?_;refine zb.oC 87 #[.tmp 36,.tmp 41] #[92,94] #[Q0 #[Y9 t],Q0 (zl cx).toArray] (bA.mono ?_) (zb.eo func87);rintro e w6 ⟨⟨z,rfl⟩,v6,cO,bM,h6,aP,E⟩;have bD:=E.blk aH n3;have b1:=E.blk aT bV;have bF:=E.blk aW n6;have bG:=E.blk aK n7;have a3:=E.blk a5 aQ;have a1:za w6 W.heap.size 92 #[Y9 t]/\w6.cell? ⟨f.heap.size,1,K3⟩=some (X1 (K4 ⟨g,0,K3⟩) x.cells.length cc)/\w6.rangeAt g (i*4) (zl cx):=⟨bD,by rw[bG.cell,aG.out];rfl,λj y hj=>(nW (w:=wd) (E.block g cF aQ)).trans (I.2.2 j y hj)⟩;refine⟨_,rfl,λ_=>a1,zb.dn ?_⟩;simp only[Z8];obtain⟨cur',a2⟩:∃cur',cur'=(cur.toList.take (i*4)++(zl c).toArray.toList++cur.toList.drop (i*4+4)).toArray:=⟨_,rfl⟩;have h7:=zy.og a8 h6 (aP.mono K5) ((ze.below bL).trans E) (qm w6 g cur') a3 cD K7 K7;have bS:za (w6.setRow g cur') g 94 cur':=a3.setRow cur';have cC:f.heap.size≠g:=λe=>by have:=kM aN.c g rfl;omega
 have aV:=bF.pN (by omega:W.heap.size+1+1≠g) cur';have b4:=bG.pN cC cur';have S:ze (qi K p v) W w6:=E.fresh g5 N5 K5;have g7:ze (qi K p v) W (w6.setRow g cur'):=⟨S.os,S.tape,S.output,by simp[gM];exact S.size,λa ha q=>(ng _ _ a _ K5).trans (S.block a ha q)⟩;have N6:zz K W v v6:=N5.trans aP K5;have bP:cur'.toList.take (x.cells.length*4)=vY (ZB x.cells i c):=by
  have cI:cur.toList.length=cc*4:=by rw[zV];exact bQ
  rw[CV,bR,a2,mU,List.drop_take];have A:min (i*4) (x.cells.length*4)=i*4:=K5
  have C:((zl c).toArray.toList).length=4:=rfl;rw[A];simp only[qQ,List.take_append,qB,cI,mU,C];have f1:min (x.cells.length*4) (i*4)=i*4:=K5
  have f2:min (i*4) (cc*4)=i*4:=K5
  rw[f1,f2];congr 2
  .exact qE (by rw[C];omega)
  .congr 1
   .omega
   .congr 1;omega
 obtain⟨N8,a0⟩:=Z9 (zx ⟨true,ZB x.cells i c,[],[]⟩ (K4 ⟨g,0,K3⟩) cc Ak ck Ai ci);have bJ:N=N8:=by rw[a0,aG.out];unfold zx;simp[aO,a6,bT,Xi _ _ _ hi]
 have bC:=nI bM;have aR:=nI aQ;have h8:=h7.pQ (qm (w6.setRow g cur') (W.heap.size+1+1) N) aV K7 (λm e=>by cases e) K5 K7;have b2:=aV.setRow N;have a4:za ((w6.setRow g cur').setRow (W.heap.size+1+1) N) g 94 cur':=bS.pN K5 N;have cK:((w6.setRow g cur').setRow (W.heap.size+1+1) N).heap.size=w6.heap.size:=by simp[gM]
 have g8:ze (qi K p v) W ((w6.setRow g cur').setRow (W.heap.size+1+1) N):=⟨g7.os,g7.tape,g7.output,by rw[cK];exact S.size,λa ha q=>(ng _ _ a _ K5).trans (g7.block a ha q)⟩;have cA:i*4+4<=cur.size:=K5
 have n8:XX ((w6.setRow g cur').setRow (W.heap.size+1+1) N) ((w6.setRow g cur').setRow (W.heap.size+1+1) N).heap.size ⟨true,ZB x.cells i c,[],[]⟩ (K4 ⟨g,0,K3⟩) cc Ak ck Ai ci:=by
  refine⟨?_,?_,?_⟩
  .show yl _ _ 4 _ (ZB x.cells i c).length cc (vY (ZB x.cells i c))
   rw[Xi _ _ _ hi];refine⟨cE,a7,(λe=>by cases e),?_,Ym _,λ_=>⟨g,0,rfl,a4.lt,λj y hj => ?_⟩⟩
   .rw[DQ,Xi _ _ _ hi]
   .rw[qA,a4.cell];rw[<-bP,yI] at hj;split at hj
    .simpa using hj
    .cases hj
  .have:=n5.k;rw[a6] at this;exact⟨this.le,this.max,this.nil,rfl,(λu hu=>by cases hu),λG=>absurd G (lC 0)⟩
  .have:=n5.i;rw[bT] at this;exact⟨this.le,this.max,this.nil,rfl,(λu hu=>by cases hu),λG=>absurd G (lC 0)⟩
 have F:XE W0 K p t k last mk ms W.heap.size v W (λz v' st'=>z=⟨true,ZB x.cells i c,[],[]⟩/\R v' st') (.returned (Q0 N)) ((w6.setRow g cur').setRow (W.heap.size+1+1) N):=by
  refine⟨_,v6,cO,some ⟨g,0,K3⟩,cc,Ak,ck,Ai,ci,by rw[bJ,a0],⟨rfl,bC.out⟩,⟨n8,?_,λG=>absurd G (lC 0),λG=>absurd G (lC 0)⟩,?_,h8,N6,g8⟩
  .intro _ g' o' e q;injection e with e
   injection e with A
   subst A;rcases q with q|q
   .exact aR.out (.inl q)
   .rcases aP g q with q|q
    .exact aR.out (.inr q)
    .omega
  .rintro g' o' (e|e|e)
   .obtain⟨_,e⟩:=e;injection e with e
    injection e with A
    omega
   .exact absurd e.1 (lC 0)
   .exact absurd e.1 (lC 0)
 have cP:=a1.2.1;have bW:=nI a2.symm;have bX:=nI aZ;clear I a1 aH aT aW aK a5 bQ bR n5 bA bP n8 h6 h7 h8 S g7 g8 E aP N6 N5 g5 bJ a0 aR aQ bM bC a8 aN aZ a2 bI bS a4 bD bF V n3 bV n6 n7 bL
 go_wp2_with (first
  |(refine IW rfl 94 (.tmp 47) (.tmp 46) rfl g (i*4) rfl rfl ql a3 rfl cA (zw rfl rfl rfl rfl) ?_;rw[bW.out])
  |(refine vC zm aV aF bX.out ?_)
  |(refine yp ql b1 ?_)
  | (refine yO rfl 69 (.tmp 7) rfl f.heap.size rfl zm b4 aF ?_))
 exact nu (yg rfl (yx (g:=W.heap.size+1+1) 6 rfl zm b2 aF)) rfl F
theorem uP (j:K.Ok):SD W0 K p t k last mk ms 0 (λx e=>vn true (qh x) e.1=true):=by
 intro v st W used free n x es ps C rest c e h u hu hD hl A hs hc hN he hr M;have aH:n∈used:=hu.mem_iff.2 K9;have S:=u.pZ n (yH _ aH);have aQ:=u.sz;have aL:=j.hP;obtain⟨hi,e0,I,po,q1,aM,e1,aD,aN,aI⟩:=AI A hs M;have hm:=A.many;have aK:=A;obtain⟨O,aF,aE,_,_⟩:=aK;obtain⟨g,H⟩:=Z9 (n::(I++(q1++(C++rest))));have aJ:used.Perm (po++g):=by refine hu.trans ?_;rw[e1,H,mz];intro a;simp only[ll,lI];omega
 have aC:yf true (qh x) c.key=yf true (qh x) e.1:=by rw[hc.key]
 refine(Ic h j K5 n ⟨S.1,S.2⟩ K5 (u.loose j) x (YM.of K5 hD (A.right hs) hl) O c _ aC (by rw[hc.key];exact M) hi K5 (λv' st'=>∃f,tX K v st g v' st' f/\v'.N<=v.N+5) (λW1 v1 h1 q => ?_)).mono ?_
 .have E:=q.dd;refine(Ii h1 j (by have:=q.nn;omega) (by rw[E];exact u) (by rw[E];exact aD) aJ).mono ?_;rintro r w' ⟨hz,v',st',f,hF,aO,ht,aG,hG⟩;exact⟨hz,v',st',⟨f,⟨hF.pl,by have:=q.nn;omega,λa ha=>by rw[<-E];exact hF.dd a ha,hF.rt,hF.sz⟩,by have:=q.nn;omega⟩,ht,aG,hG⟩
 .rintro e' w' ⟨z,v',st',Ac,cc,Ak,ck,Ai,ci,rfl,⟨rfl,f,hF,aP⟩,V,U,h9,aB,aA⟩;have G:∀a,a∈I\/a∈q1\/a∈C\/a∈rest->v'.D a=v.D a:=λa ha=>hF.dd a (by rw[H];simp;right;exact ha)
  refine⟨_,v',st',Ac,cc,Ak,ck,Ai,ci,rfl,⟨g,f,I++(C++q1),hF.pl,?_,aI v'.D c C (λa ha=>G a (by rcases zZ.1 ha with ha|ha<;>simp[ha])) (hc.pR λa ha=>G a (by simp[ha])),?_,λa ha=>G a (by simp[ha]),by omega,hF.rt⟩,V,U,h9,aB,aA⟩
  .rw[H,mz];intro a;simp only[ll,lI];omega
  .have:=Oa x.cells _ c hi K5 hc.laid;rw[<-Mr O aF aE] at this;unfold ZB;omega
end
structure xu (K:xB)(D:Int->Option Y4)(st:qj)(es:List qw):Prop where
 has:∃used free root,xd K D st used free/\st.roots[0]?=some root/\((root=0/\es=[]/\used=[])\/∃d x ps,used.Perm (root::ps)/\D root=some (xx x)/\(qg x).length<=512/\yU D d x es ps)
 so:zu es
theorem Ts {x:ym}(h:yh x)(j:Nat):(yq x j).size<=81:=by
 by_cases f:j<(qh x).length
 .have:=h.short (yq x j) (by rw[XR f];exact qJ _);unfold yr at this;simpa using this
 .unfold yq;rw[qT,lB K5];decide
section
variable {W0 W W':World}{K:xB}{p t:Nat}{v v':yj}{st last st' last':qj}{mk mk':Value}{ms:List xo}{used free ps:List Int}{d:Nat}{y:ym}{es:List qw}{Bc Bk Bi:Y5}{bc bk bi:Nat}
theorem LZ (h:zy W0 K p t 0 v st last true mk ms W)(A:K.Ok)(aO:450<=K.pg)(hN:v.N<=600000)(u:xd K v.D st used free)(m:Int)(hu:used.Perm (m::ps))(h0:st.roots[0]?=some m)(g:yU v.D d y es ps)(hs:zu es)(aR:es.length<=61)(hl:(qg y).length<=656)(I:yc W K p v y Bc bc Bk bk Bi bi):nK Y3 47 #[Q0 #[Y9 t],Y1 Q4 m,Q0 (zx y Bc bc Bk bk Bi bi)] W λe w'=>∃v' st',(∃z,e=Y0 z)/\xu K v'.D st' es/\v'.N<=v.N+10/\zy W0 K p t 0 v' st' last true mk ms w'/\zz K W v v'/\ze (qi K p v) W w':=by
 have C:m∈used:=hu.mem_iff.2 K9;have H:=u.pZ m (yH _ C);have aU:=u.sz;have aN:=A.hP;have aP:=A.P2;have aS:=g.many;have aQ:=g.ov;have aV:used.length=1+ps.length:=by rw[hu.length_eq];simp;omega
 have E:=g.right hs;have aM:=hu.nodup_iff.1 (List.nodup_append.1 u.nd).1;obtain⟨aL,aT⟩:=List.nodup_cons.1 aM;have aC:∀a∈ps,a≠m:=λa ha e=>aL (e▸ha)
 by_cases aA:(qg y).length<=512
 .refine(Sq h A K5 m ⟨H.1,H.2⟩ K5 (u.loose A) y Bc bc Bk bk Bi bi I.is K5 K5 K5 E aA).mono ?_;rintro e w' ⟨v',V,M,hW,hn,O⟩;have hd:=hW.dd;exact⟨v',st,V,⟨⟨used,free,m,by rw[hd];exact u.put C _,h0,.inr ⟨d,y,ps,hu,by rw[hd];simp,aA,g.pR λa ha=>by rw[hd];simp[aC a ha]⟩⟩,hs⟩,by have:=hW.nn;omega,M,hn,O⟩
 .have G:512<(qg y).length:=K5
  refine(Rm h A K5 u K5 I m C K5 K5 K5 E G (Ts E) (λj hj=>g.oQ hs hj G hl)).mono ?_;rintro e w' ⟨j,q,ab,v',st',aG,V,f,M,hn,O⟩;obtain⟨f1,f2,j0,jl⟩:=g.oQ hs f.half G hl;obtain⟨ea,eb,pa,pb,ee,pe,hA,hB,aI,aH,aF⟩:=g.split hs j0 jl (Xp E G);have hd:=f.dd;have aE:=f.nq;have S:ab≠q/\ab∉used:=by have:=f.na;simpa using this
  have aK:m≠q:=λe=>aE (e▸C)
  have aJ:m≠ab:=λe=>S.2 (e▸C)
  have aB:∀a∈ps,a∈used:=λa ha=>hu.mem_iff.2 (by simp[ha])
  have r:∀a∈ps,v'.D a=v.D a:=λa ha=>by
   have e1:a≠ab:=λe=>S.2 (e▸aB a ha)
   have e2:a≠q:=λe=>aE (e▸aB a ha)
   rw[hd];simp[e1,e2,aC a ha]
  have aD:=f.pl.pZ q K9;have aW:=f.pl.sz;obtain⟨TR,TL⟩:=Mc aF ⟨H.1,by omega⟩ (q:=q) ⟨aD.1,by omega⟩;refine⟨v',st',V,⟨⟨ab::q::used,aG,ab,f.pl,?_,.inr ⟨d+1,⟨false,[],[yq y j],[m,q]⟩,ZD [⟨m,xF y j,ea,pa⟩,⟨q,yT y j,eb,pb⟩],?_,by rw[hd];simp,TL,[⟨m,xF y j,ea,pa⟩,⟨q,yT y j,eb,pb⟩],⟨rfl,rfl,rfl,by rw[ee];simp[KR],rfl,⟨aI,λy I=>aH y (by simpa using I),trivial⟩,Nat.one_pos,λs hs=>by rw[qL.1 hs];exact aF,λk r => ?_⟩,λk U => ?_⟩⟩,hs⟩,f.nn,M,hn,O⟩
  .rw[f.rt];have:0<st.roots.length:=(qM.1 h0).1;rw[List.getElem?_set_self this]
  .refine List.Perm.cons ab ?_;refine(List.Perm.cons q hu).trans ?_;rw[jX,jX,pe,show ZD []=[] from rfl,mz];intro a;simp only[ll,lI,List.count_nil];omega
  .rcases qN.1 r with rfl|r
   .exact⟨H.1,by show m<=2000;omega⟩
   .obtain rfl:=qL.1 r;exact⟨aD.1,by show q<=2000;omega⟩
  .rcases qN.1 U with rfl|U
   .exact⟨hA.pR λa ha=>r a (by rw[pe];simp[ha]),by rw[hd];simp[aK,aJ],f1⟩
   .obtain rfl:=qL.1 U;exact⟨hB.pR λa ha=>r a (by rw[pe];simp[ha]),by rw[hd];simp[S.1.symm],f2⟩
end
def pick (up:Bool)(P:qw->Bool)(es:List qw):Option qw:=if up then es.find? P else es.reverse.find? P
def JN (up:Bool)(ks:List YP)(i:Int)(rest done:List YP):Prop:=if up then ks=done++rest/\i=(done.length:Int) else ks=rest.reverse++done/\i=(rest.length:Int)-1
def UK (up:Bool)(i:Int):Int:=if up then i+1 else i-1
def Gn (up:Bool)(k:YP)(done:List YP):List YP:=if up then done++[k] else k::done
section
variable {up:Bool}{P:qw->Bool}{ks rest done:List YP}{i:Int}{k:YP}{e:qw}{a b:List qw}
theorem Th:pick up P []=none:=by unfold pick;cases up<;>rfl
theorem MB (ha:pick up P a=none)(f:pick up P b=none):pick up P (a++b)=none:=by
 unfold pick at *;cases up<;>simp_all
theorem He:∀{l:List YP},(∀j∈l,pick up P j.es=none)->pick up P (KR l)=none
 | [],_=>Th
 | j::l,h=>by rw[vz];exact MB (h j K9) (He λj f=>h j (by simp[f]))
theorem JN.next (h:JN up ks i (k::rest) done):JN up ks (UK up i) rest (Gn up k done):=by
 unfold JN UK Gn at *;cases up
 .simp only[nV,if_false,eV,qQ,zW,zQ,zK] at h ⊢;exact⟨h.1,by have:=h.2;omega⟩
 .simp only[if_true,qQ,zW,zQ,zH,zK,zY] at h ⊢;exact⟨h.1,by have:=h.2;omega⟩
theorem JN.at_ (h:JN up ks i (k::rest) done):∃j:Nat,i=(j:Int)/\ks[j]?=some k:=by
 unfold JN at h;cases up
 .simp only[nV,if_false,eV,qQ,zW,zQ,zK] at h;refine⟨rest.length,by omega,?_⟩;rw[h.1,qU K9];simp
 .simp only[if_true] at h;refine⟨done.length,h.2,?_⟩;rw[h.1,qU K9];simp
theorem JN.out (h:JN up ks i [] done):i<0\/(ks.length:Int)<=i:=by
 unfold JN at h;cases up
 .simp at h;omega
 .simp at h;rw[h.1];omega
theorem JN.low (h:JN up ks i rest done) : -1<=i/\i<=(ks.length:Int):=by
 unfold JN at h;cases up
 .simp only[nV,if_false] at h;rw[h.1,zH,List.length_reverse];omega
 .simp only[if_true] at h;rw[h.1,zH];omega
theorem JN.dz (h:JN up ks i [] done)(hd:∀j∈done,pick up P j.es=none):pick up P (KR ks)=none:=by
 have e:ks=done:=by unfold JN at h;cases up<;>simp at h<;>exact h.1
 rw[e];exact He hd
theorem JN.some_ (h:JN up ks i (k::rest) done)(hd:∀j∈done,pick up P j.es=none)(f:pick up P k.es=some e):pick up P (KR ks)=some e:=by
 have hn:=He hd;unfold JN at h;unfold pick at *;cases up
 .simp only[nV,if_false,eV,qQ,zW,zQ] at h f hn ⊢;rw[h.1,QD,vz,lM,lM,lJ,lJ,hn,f];rfl
 .simp only[if_true] at h f hn ⊢;rw[h.1,QD,vz,lJ,lJ,hn,f];rfl
theorem JN.oT (h:JN up ks i (k::rest) done):(ZD done).length+1+k.ps.length<=(ZD ks).length/\(ZD (Gn up k done)).length=(ZD done).length+1+k.ps.length:=by
 unfold JN at h;unfold Gn;cases up
 .simp only[nV,if_false,eV,qQ,zW,zQ] at h ⊢;rw[h.1,QC,jX];simp only[zH,zK];omega
 .simp only[if_true] at h ⊢;rw[h.1,QC,QC,jX,jX];have e:ZD []=[]:=rfl;simp only[e,zH,zK,zY];omega
theorem JN.mem (h:JN up ks i (k::rest) done):k∈ks:=by
 obtain⟨j,_,f⟩:=h.at_;exact List.mem_of_getElem? f
theorem JN.dn (h:JN up ks i rest done):(ZD done).length<=(ZD ks).length:=by
 unfold JN at h;cases up
 .simp only[nV,if_false] at h;rw[h.1,QC,zH];omega
 .simp only[if_true] at h;rw[h.1,QC,zH];omega
theorem Lg (hd:∀j∈done,pick up P j.es=none)(g:pick up P k.es=none):∀j∈Gn up k done,pick up P j.es=none:=λj f=>by
 unfold Gn at f;cases up<;>simp at f
 .rcases f with rfl|f
  .exact g
  .exact hd j f
 .rcases f with f|rfl
  .exact hd j f
  .exact g
end
structure Px (up:Bool)(P:qw->Bool)(cf kf:ym->Int):Prop where
 leaf:∀(D:Int->Option Y4) (x:ym) (es:List qw) (ps:List Int),yU D 0 x es ps->zu es->((cf x<0\/(x.cells.length:Int)<=cf x)/\pick up P es=none)\/∃(j:Nat) (hj:j<x.cells.length) (e:qw),cf x=(j:Int)/\pick up P es=some e/\x.cells[j].key=e.1
 inner:∀(x:ym) (es:List qw) (ps:List Int) (ks:List YP),Jd x es ps ks->(∀k∈ks,k.es≠[])->∃rest done,JN up ks (kf x) rest done/\∀k∈done,pick up P k.es=none
theorem yS.ou {D:Int->Option Y4}{cs:List xG}{es:List qw}{ps:List Int}(h:yS D cs es ps)(j:Nat)(f:j<cs.length)(g:j<es.length):cs[j].key=es[j].1:=by
 have h2:=h.keys;have:(cs.map xG.key)[j]'(by simpa using f)=(es.map (·.1))[j]'(by simpa using g):=by simp only[h2]
 simpa using this
theorem KC {x:ym}{es:List qw}{ps:List Int}{ks:List YP}(hi:Jd x es ps ks)(H:∀k∈ks,k.es≠[])(key:ByteArray):∃f k g,ks=f++k::g/\f.length=vO key x.keys/\(∀j∈f,∀e∈j.es,ye e.1 key=true)/\∀j∈g,∀e∈j.es,ye key e.1=true:=by
 have I:x.keys.Pairwise (λa b=>ye a b=true):=hi.sep.sorted λl hl=>by obtain⟨k,G,rfl⟩:=qR.1 hl;exact H k G
 obtain⟨O,M,S,h⟩:=hi.sep.nE (vO key x.keys) (Vw key I);obtain⟨f,N,z,u,A⟩:=List.map_eq_append_iff.1 h.eq;obtain⟨k,g,C,U,E⟩:=List.map_eq_cons_iff.1 A;subst z C;refine⟨f,k,g,rfl,by rw[<-h.len,<-u,qH],λj r e q=>h.low e ?_,λj r e q=>h.high e ?_⟩
 .rw[<-u];exact List.mem_flatten.2 ⟨j.es,qR.2 ⟨j,r,rfl⟩,q⟩
 .rw[<-E];exact List.mem_flatten.2 ⟨j.es,qR.2 ⟨j,r,rfl⟩,q⟩
theorem Ua {D:Int->Option Y4}{x:ym}{es:List qw}{ps:List Int}(h:yU D 0 x es ps)(key:ByteArray):yf x.leaf (qh x) key=qz key (es.map (·.1)):=by
 obtain⟨h1,h2,g,j,f⟩:=h;have:qh x=es.map (·.1):=by unfold qh;rw[h1];exact f.keys
 rw[this,h1];rfl
theorem Ky {x:ym}{es:List qw}{ps:List Int}{ks:List YP}(hi:Jd x es ps ks)(key:ByteArray):yf x.leaf (qh x) key=vO key x.keys:=by
 unfold yf qh;rw[hi.leaf];simp
theorem BU (key:ByteArray):Px true (λe => !ye e.1 key) (λx=>(yf x.leaf (qh x) key:Int)) (λx=>(yf x.leaf (qh x) key:Int)):=by
 refine⟨λD x es ps h hs => ?_,λx es ps ks hi E => ?_⟩
 .simp only[Ua h key];obtain⟨h1,h2,H,I,g⟩:=h;obtain⟨u,z⟩:=vN hs key;have M:=g.length.1;generalize qz key (es.map (·.1))=i at *;have A:∀e∈es.take i,(!ye e.1 key)=false:=λe f=>by rw[<-u] at f;rw[(yD.1 f).2];rfl
  have G:es.find? (λe => !ye e.1 key)=(es.drop i).find? (λe => !ye e.1 key):=by
   conv=>lhs;rw[<-qK i es]
   rw[lJ,List.find?_eq_none.2 λe f=>by rw[A e f];simp];rfl
  unfold pick;simp only[if_true,G];rcases mw i es.length with hi|hi
  .right;refine⟨i,by omega,es[i],rfl,?_,g.ou i K5 hi⟩;rw[qS hi,eK];rw[z es[i] (List.mem_drop_iff_getElem.2 ⟨0,by omega,by simp⟩)];rfl
  .left;refine⟨.inr K5,?_⟩;rw[List.drop_eq_nil_of_le hi];rfl
 .obtain⟨q,k,r,rfl,hl,h1,_⟩:=KC hi E key;refine⟨k::r,q,?_,λj C => ?_⟩
  .unfold JN;simp only[if_true,Ky hi key,hl];exact⟨trivial,trivial⟩
  .unfold pick;simp only[if_true];exact List.find?_eq_none.2 λe f=>by rw[h1 j C e f];simp
theorem Iq (key:ByteArray):Px false (λe=>ye e.1 key) (λx=>(yf x.leaf (qh x) key:Int)-1) (λx=>(yf x.leaf (qh x) key:Int)):=by
 refine⟨λD x es ps h hs => ?_,λx es ps ks hi G => ?_⟩
 .simp only[Ua h key];obtain⟨h1,h2,I,M,q⟩:=h;obtain⟨A,C⟩:=vN hs key;have N:=q.length.1;have E:=YG key (es.map (·.1));rw[qH] at E;generalize qz key (es.map (·.1))=i at *;have H:es.reverse.find? (λe=>ye e.1 key)=(es.take i).reverse.find? (λe=>ye e.1 key):=by
   conv=>lhs;rw[<-qK i es]
   rw[lM,lJ,List.find?_eq_none.2 λe g=>by rw[C e (List.mem_reverse.1 g)];simp];rfl
  unfold pick;simp only[nV,if_false,H];cases i with
  | zero=>exact .inl ⟨.inl K5,rfl⟩
  | succ j =>
   right;have f:j<es.length:=K5
   refine⟨j,by omega,es[j],by omega,?_,q.ou j K5 f⟩;have r:es[j]∈es.take (j+1):=List.mem_take_iff_getElem.2 ⟨j,by omega,rfl⟩;rw[<-A] at r;rw[zU f,lM,eY,fw,eK,(yD.1 r).2]
 .obtain⟨u,k,z,rfl,hl,_,h2⟩:=KC hi G key;refine⟨(u++[k]).reverse,z,?_,λj f => ?_⟩
  .unfold JN;simp only[nV,if_false,Ky hi key,hl.symm];exact⟨by simp,by simp⟩
  .unfold pick;simp only[nV,if_false];exact List.find?_eq_none.2 λe g=>by rw[vF (h2 j f e (List.mem_reverse.1 g))];simp
theorem Ir:Px false (λ_=>true) (λx=>(x.cells.length:Int)-1) (λx=>(x.kids.length:Int)-1):=by
 refine⟨λD x es ps h hs => ?_,λx es ps ks hi z => ?_⟩
 .obtain⟨h1,h2,r,g,f⟩:=h;have u:=f.length.1;have A:=List.length_pos_iff.2 g;right;refine⟨x.cells.length-1,by omega,es[x.cells.length-1]'(by omega),by omega,?_,f.ou _ K5 K5⟩;unfold pick;simp only[nV,if_false];have e:es.take (x.cells.length-1+1)=es:=qE K5
  conv=>lhs;rw[<-e]
  rw[zU K5,lM,eY,fw,eK]
 .refine⟨ks.reverse,[],?_,λj q=>by simp at q⟩;unfold JN;simp only[nV,if_false,hi.kids];unfold Uu;exact⟨by simp,by simp⟩
section
variable {W0 W W':World}{K:xB}{p t:Nat}{k:Int}{v v':yj}{st last:qj}{under:Bool}{mk:Value}{ms:List xo}
theorem yc.oX {x:ym}{Ac Ak Ai:Y5}{cc ck ci b u:Nat}(h:yc W K p v x Ac cc Ak ck Ai ci)(r:YN u x Ac Ak Ai)(A:b<u)(q:ze (λj=>j=b) W W'):yc W' K p v x Ac cc Ak ck Ai ci :=
 ⟨⟨h.is.c.pT (λf g o e z=>by have:=r g o (.inl ⟨f,e⟩);omega) q,h.is.k.pT (λf g o e z=>by have:=r g o (.inr (.inl ⟨f,e⟩));omega) q,h.is.i.pT (λf g o e z=>by have:=r g o (.inr (.inr ⟨f,e⟩));omega) q⟩,h.c,h.k,h.i⟩
theorem UH (h:zy W0 K p t k v st last under mk ms W)(hK:K.Ok)(hN:v.N<=800000)(n:Int)(hn:1<=n/\n<st.size)(hP:n<(K.P:Int))(hT:¬ jD K v.D)(x:ym)(hx:YM K v n x):nK Y3 94 #[Y9 t,Y1 Q4 n] W λe w'=>∃v' Ac cc Ak ck Ai ci,e=Y0 (Q2 #[Q0 (zx x Ac cc Ak ck Ai ci),Y1 Q4 0])/\yc w' K p v' x Ac cc Ak ck Ai ci/\YN W.heap.size x Ac Ak Ai/\zy W0 K p t k v' st last under mk ms w'/\XY K v v'/\zz K W v v'/\ze (qi K p v) W w':=by
 have aZ:=h.up;obtain⟨W1,A⟩:=Z9 ((W.alloc (Q9 YV 69)).alloc (Q9 #[Y1 Q4 0] 27));have M:nH W.heap.size W W1:=by rw[A];exact QU _ _ _
 have b4:za W1 W.heap.size 69 YV:=by rw[A];exact(za.new W _ _).alloc _
 have b5:za W1 (W.heap.size+1) 27 #[Y1 Q4 0]:=by have:=za.new (W.alloc (Q9 YV 69)) 27 #[Y1 Q4 0];rw[nG] at this;rw[A];exact this
 have aX:W1.heap.size=W.heap.size+1+1:=by rw[A,nG,nG]
 have h1:=h.grow M;have aB:=h1.none;have aA:=Qd h1 hK hN n hn hP hT x hx;have n4:=h1.pP b4 K7;have n5:=h1.pP b5 K7;unfold YV at A b4;have aK:=nI A.symm;clear A h h1 hx hn hP hT
 go_enter_defers func94,ntmps94
 go_wp2_with (first
  | (go_at_call 42;rw[aK.out];refine aB.mono ?_;rintro e w2 ⟨rfl,rfl⟩))
 refine aA.mono ?_;rintro e w2 ⟨v',Ac,cc,Ak,ck,Ai,ci,rfl,n2,h2,aS,aG,G,wx,aH,aP,aU,V⟩;obtain⟨N,H⟩:=Z9 (zx x Ac cc Ak ck Ai ci);have aE:N.size=4:=by rw[H];rfl
 have aD:∀u∈N.toList,u.oneCell'=true:=by rw[H];exact zw rfl rfl rfl rfl
 rw[<-H];have O:=G.blk b4 n4;have aC:=G.blk b5 n5;have aT:=G.size;have U:=h2.pQ (qm w2 W.heap.size N) O K7 (λm e=>by cases e) K5 K7;have S:=O.setRow N;have C:=aC.pN (by omega:W.heap.size+1≠W.heap.size) N;have X2:yc w2 K p v' x Ac cc Ak ck Ai ci:=yc.own aH n2 V;have I:YN W1.heap.size x Ac Ak Ai:=(VK.ge (show VK wx.heap.size Ac Ak Ai from V.rows)).less aU;have x3:=X2.oX I (by omega:W.heap.size<W1.heap.size) (qm w2 W.heap.size N);obtain⟨q,z⟩:=Z9 (w2.setRow W.heap.size N);rw[<-z] at U S C x3;have aV:=C.boxed;have aW:=C.free 0;have r:ze (λj=>j=W.heap.size+1) q (q.setCell (W.heap.size+1:Nat) (Y1 Q4 0)):=ze.setCell _ _ _ rfl;have h4:=U.pQ r C K7 (λm e=>by cases e) K5 K7;have aO:=C.set 0 (Y1 Q4 0);have aN:=r.blk S K5;have aY:q.heap.size=w2.heap.size:=by rw[z];simp[gM]
 have x4:=x3.oX I (by omega:W.heap.size+1<W1.heap.size) r;have XL:=I.less (by omega:W.heap.size<=W1.heap.size);have aQ:ze (qi K p v) W (q.setCell (W.heap.size+1:Nat) (Y1 Q4 0)):=by have E:ze (qi K p v) W w2:=(ze.below M).trans G;refine⟨r.os.trans ((by rw[z];rfl:q.os=w2.os).trans E.os),r.tape.trans ((by rw[z];rfl:q.tape=w2.tape).trans E.tape),r.output.trans ((by rw[z];rfl:q.output=w2.output).trans E.output),by have:=r.size;have:=E.size;omega,λj hj hm => ?_⟩;refine(r.block j (by have:=E.size;omega) K5).trans ((?_:q.heap[j]?=w2.heap[j]?).trans (E.block j hj hm));rw[z];exact ng _ _ j _ K5
 have aR:zz K W v v':=aG.mono M.size;have aL:=nI z.symm;have aI:=nI aD;have aJ:=nI H;clear z aD H h2 U n2 X2 I x3 aH aP V G aG S C aC b5 b4 r aA aB aT M;generalize aF:q.setCell (W.heap.size+1:Nat) (Y1 Q4 0)=W4 at *;have aM:=nI aF;clear aF
 go_wp2_with (first
  | (refine vC zm O aE aI.out ?_;rw[aL.out]))
 rw[aM.out];refine leaves_cons (f:=75) (args:=#[Y9 (W.heap.size+1:Nat),.func (.func 156) #[] #[Y9 W.heap.size]]) K9 (by simp[go_sem]) ?_;refine(Xg _ _ _).mono ?_;rintro e u' wz ⟨rfl,rfl,rfl⟩;exact⟨_,vJ rfl (yx (g:=W.heap.size) 4 rfl zm aN aE) (kZ (p:=⟨W.heap.size+1,0,K3⟩) 5 rfl (by simp[go_sem]) aO.boxed),v',Ac,cc,Ak,ck,Ai,ci,by rw[aJ.out],x4,XL,h4,aS,aR,aQ⟩
end
theorem Cf (w:World)(A:Y5)(c:Nat)(l:List Int)(h:yl w w.heap.size 1 A l.length c (ZJ l))(i:Int)(hl:l.length<=100000)(j:Nat)(hi:i=(j:Int))(m:Int)(f:l[j]?=some m):nK Y3 97 #[X1 A l.length c,Y1 Q4 i] w λe w'=>e=Y0 (Q2 #[Y1 Q4 m,X3 true])/\w=w':=by
 have z:j<l.length:=(qM.1 f).1;obtain⟨g,o,rfl,u,q⟩:=h.pO K5;have hc:w.cell? ⟨g,o+j,K3⟩=K4 (Y1 Q4 m):=q j _ (by unfold ZJ;rw[mJ,f];rfl);subst hi;have h1:¬ (j:Int)<0:=K5
 have h2:(j:Int)<(l.length:Int):=K5
 have r:¬ (l.length:Int)<=(j:Int):=K5
 go_enter func97,ntmps97
 go_wp2;exact nT (nj rfl _ _ _) rfl ⟨rfl,rfl⟩
theorem uu (w:World)(A:Y5)(c n:Nat)(i:Int)(hi:i<0\/(n:Int)<=i):nK Y3 97 #[X1 A n c,Y1 Q4 i] w λe w'=>e=Y0 (Q2 #[Y1 Q4 0,X3 false])/\w=w':=by
 rcases(by omega:i<0\/¬ i<0/\(n:Int)<=i) with h1|⟨h1,h2⟩
 .go_enter func97,ntmps97
  go_wp2;exact nT (nj rfl _ _ _) rfl ⟨rfl,rfl⟩
 .go_enter func97,ntmps97
  go_wp2;exact nT (nj rfl _ _ _) rfl ⟨rfl,rfl⟩
theorem Cg (w:World)(A:Y5)(c:Nat)(l:List xG)(h:yl w w.heap.size 4 A l.length c (vY l))(i:Int)(hl:l.length<=100000)(j:Nat)(hi:i=(j:Int))(E:j<l.length):nK Y3 96 #[X1 A l.length c,Y1 Q4 i] w λe w'=>e=Y0 (Q2 #[Q0 (zl l[j]).toArray,X3 true])/\nH w.heap.size w w':=by
 obtain⟨g,o,rfl,C,_⟩:=h.pO K5;have G:=KJ h rfl j E;obtain⟨u,q,f,b1⟩:=Qp w 94 #[X9 ⟨#[]⟩,X9 ⟨#[]⟩,Y1 Q4 0,Y1 Q4 0];generalize l[j]=x at *;have H:u.rangeAt g (o+j*4) (zl x):=λi y hi=>(f.cell (p:=⟨g,o+j*4+i,K3⟩) C).trans (G i y hi)
 have b2:=b1.setRow (zl x).toArray;have z:=zf f (zG _) (zl x).toArray;have r:=nI q.symm;clear q;subst hi;have h1:¬ (j:Int)<0:=K5
 have h2:(j:Int)<(l.length:Int):=K5
 have I:¬ (l.length:Int)<=(j:Int):=K5
 go_enter func96,ntmps96
 go_wp2_with (first
  |(rw[r.out];refine zp rfl (yQ ql H rfl rfl rfl) ?_)
  | (refine zt rfl 94 (.tmp 4) (.tmp 18) rfl w.heap.size rfl rfl ql b1 rfl rfl (zw rfl rfl rfl rfl) ?_))
 exact nu (vJ rfl (yx (g:=w.heap.size) 4 rfl ql b2 rfl) (ve 5 rfl)) rfl ⟨rfl,z⟩
theorem uv (w:World)(A:Y5)(c n:Nat)(i:Int)(hi:i<0\/(n:Int)<=i):nK Y3 96 #[X1 A n c,Y1 Q4 i] w λe w'=>e=Y0 (Q2 #[Q0 (zl ⟨⟨#[]⟩,⟨#[]⟩,0,0⟩).toArray,X3 false])/\nH w.heap.size w w':=by
 obtain⟨r,f,j,b1⟩:=Qp w 94 #[X9 ⟨#[]⟩,X9 ⟨#[]⟩,Y1 Q4 0,Y1 Q4 0];have b2:=b1.setRow #[X9 ⟨#[]⟩,X9 ⟨#[]⟩,Y1 Q4 0,Y1 Q4 0];have q:=zf j (zG _) #[X9 ⟨#[]⟩,X9 ⟨#[]⟩,Y1 Q4 0,Y1 Q4 0];have h:=nI f.symm;clear f;rcases(by omega:i<0\/¬ i<0/\(n:Int)<=i) with h1|⟨h1,h2⟩
 all_goals
  go_enter func96,ntmps96
  go_wp2_with (first
   |(rw[h.out];refine yp ql b1 ?_)
   | (refine zt rfl 94 (.tmp 4) (.tmp 14) rfl w.heap.size rfl rfl ql b1 rfl rfl (zw rfl rfl rfl rfl) ?_))
  exact nu (vJ rfl (yx (g:=w.heap.size) 4 rfl ql b2 rfl) (ve 5 rfl)) rfl ⟨rfl,q⟩
theorem Sb (w:World):nK Y3 95 #[Y1 Q4 0] w λe w'=>(∃v,e=Y0 v)/\w=w':=by
 go_enter func95,ntmps95
 go_wp2;go_end0;exact⟨⟨_,rfl⟩,rfl⟩
def kT (k:ByteArray):ByteArray:=k++⟨#[0]⟩
theorem Fw (k:ByteArray):(kT k).toList=k.toList++[0]:=by
 unfold kT;rw[fU,fU];simp
theorem DV:∀k a:Y4,gH a (k++[0])=!gH k a
 | [],[]=>by simp[gH]
 | [],x::xs=>by simp[gH,UInt8.lt_iff_toNat_lt]
 | y::ys,[]=>by simp[gH]
 | y::ys,x::xs=>by
  have g:=DV ys xs;simp only[zW,gH,g];rcases Nat.lt_trichotomy x.toNat y.toNat with h|h|h
  .have h1:x<y:=UInt8.lt_iff_toNat_lt.2 h;have h2:¬ y<x:=λe=>by have:=UInt8.lt_iff_toNat_lt.1 e;omega
   have f:¬ y=x:=λe=>by rw[e] at h;omega
   simp[h1,h2,f]
  .obtain rfl:=UInt8.toNat_inj.1 h;have h2:¬ x<x:=λe=>by have:=UInt8.lt_iff_toNat_lt.1 e;omega
   simp[h2]
  .have h1:y<x:=UInt8.lt_iff_toNat_lt.2 h;have h2:¬ x<y:=λe=>by have:=UInt8.lt_iff_toNat_lt.1 e;omega
   have f:¬ x=y:=λe=>by rw[e] at h;omega
   simp[h1,h2,f]
theorem Hp (k a:ByteArray):ye a (kT k)=!ye k a:=by
 unfold ye;rw[Fw];exact DV _ _
section
variable {es:List qw}
theorem zu.lt (h:zu es){i j:Nat}(f:i<j)(g:j<es.length):ye es[i].1 es[j].1=true:=List.pairwise_iff_getElem.1 h i j K5 g f
theorem zu.le (h:zu es){i j:Nat}(g:i<=j)(f:j<es.length):ye es[j].1 (es[i]'(by omega)).1=false:=by
 rcases mw i j with e|e
 .exact vF (h.lt e f)
 .have:i=j:=K5
  subst this;exact xL _
theorem Mn {P:qw->Bool}(n:Nat)(h1:∀i (hi:i<es.length),i<n->P es[i]=false)(h2:∀i (hi:i<es.length),n<=i->P es[i]=true):pick true P es=es[n]?:=by
 unfold pick;simp only[if_true]
 conv=>lhs;rw[<-qK n es]
 rw[lJ,List.find?_eq_none.2 λe f => ?_,Option.none_or]
 .rcases mw n es.length with hn|hn
  .rw[qS hn,eK,h2 n hn (zG _),zM hn]
  .rw[List.drop_eq_nil_of_le hn,lB hn];rfl
 .obtain⟨i,hi,rfl⟩:=List.mem_iff_getElem.1 f;rw[qB] at hi;rw[List.getElem_take,h1 i K5 K5];simp
theorem Ml {P:qw->Bool}(n:Nat)(hn:n<=es.length)(h1:∀i (hi:i<es.length),i<n->P es[i]=true)(h2:∀i (hi:i<es.length),n<=i->P es[i]=false):pick false P es=if n=0 then none else es[n-1]?:=by
 unfold pick;simp only[nV,if_false]
 conv=>lhs;rw[<-qK n es]
 rw[lM,lJ,List.find?_eq_none.2 λe g => ?_,Option.none_or]
 .cases n with
  | zero=>rfl
  | succ j =>
   have f:j<es.length:=K5
   rw[zU f,lM,eY,fw,eK,h1 j f K5];simp[zM f]
 .obtain⟨i,hi,rfl⟩:=List.mem_iff_getElem.1 (List.mem_reverse.1 g);rw[qF] at hi;rw[List.getElem_drop,h2 (n+i) K5 K5];simp
theorem NT:pick false (λ_=>true) es=if es.length=0 then none else es[es.length-1]?:=Ml es.length (zG _) (λ_ _ _=>rfl) λi hi h=>by omega
theorem Mm (h:zu es)(n:Nat)(hn:n<es.length):pick true (λe => !ye e.1 (kT es[n].1)) es=es[n+1]?:=Mn (n+1) (λi hi hl=>by rw[Hp,h.le K5 hn];rfl) λi hi hl=>by rw[Hp,h.lt K5 hi];rfl
theorem NQ (h:zu es)(n:Nat)(hn:n<es.length):pick false (λe=>ye e.1 es[n].1) es=if n=0 then none else es[n-1]?:=Ml n K5 (λi hi hl=>h.lt hl hn) λi hi hl=>h.le hl hi
theorem zu.inj (h:zu es){i j:Nat}(hi:i<es.length)(f:j<es.length)(e:es[i].1=es[j].1):i=j:=by
 rcases Nat.lt_trichotomy i j with hl|hl|hl
 .have:=h.lt hl f;rw[e,xL] at this;cases this
 .exact hl
 .have:=h.lt hl hi;rw[e,xL] at this;cases this
end
namespace zb
section
variable {P:gF}{ops:Array nh}{Q:Exit->Act->World->Prop}
theorem opCV {i:Nat}{o:nh}{K:Act->World->Prop}{a:Act}{w:World}(x:nO)(xs:Array nO)(C:Array nS)(u:ops[i]?=some o)(r:o.guard=none)(hc:o.op=.call {callee:=.value x,args:=xs,argTypes:=C})(f:FuncId)(q:Y7)(A:a.eval x=.func (.func f) #[] q)
  (j:∀args w,(gm f args).run P w=.ok (.enter f args) w) (args:Y7) (ha:xs.map a.eval=args) (h:nK P f (args++q) w λe w'=>∃v,e=Y0 v/\K (a.put o.dst v) w'):wpOp P ops Q i K a w:=by
 unfold wpOp;simp only[u];rw[if_pos (by simp[Region.wanted,r])];left;have z:(nQ a.eval o).run P w=.ok (.enter f (args++q)) w:=by simp[nQ,hc,resolve,A,lP,invoke,<-ha,j]
 unfold mW;rw[z,Oper.upon_enter];refine h.mono ?_;rintro e w' ⟨v,rfl,g⟩;exact g
end
end zb
abbrev Cq:=Nat×nS×Y7
def xW (L:List Cq)(W:World):Prop:=∀x∈L,za W x.1 x.2.1 x.2.2/\QO x.2.1
section
variable {W0 W W':World}{K:xB}{p t:Nat}{k:Int}{v v':yj}{st last:qj}{under:Bool}{mk:Value}{ms:List xo}{L:List Cq}
theorem xW.grow (h:xW L W)(hB:nH W.heap.size W W'):xW L W':=λx f=>⟨(h x f).1.below hB (h x f).1.lt,(h x f).2⟩
theorem xW.pS (h:xW L W)(ht:zy W0 K p t k v st last under mk ms W)(g:ze (qi K p v) W W'):xW L W':=λx f=>⟨g.blk (h x f).1 (ht.pP (h x f).1 (h x f).2),(h x f).2⟩
theorem xW.lt (h:xW L W):∀x∈L,x.1<W.heap.size:=λx f=>(h x f).1.lt
structure vH (K:xB)(v v':yj)(m:Nat):Prop where
 nn:v'.N<=v.N+m
 ii:v'.i=v.i
 yy:v'.Y K=v.Y K
 sz:v'.S.sz=v.S.sz
 dd:v'.D=v.D
theorem XY.m (h:XY K v v'):vH K v v' 1:=⟨h.nn,h.ii,h.yy,h.sz,h.dd⟩
theorem vH.refl (K:xB)(v:yj):vH K v v 0:=⟨zG _,rfl,rfl,rfl,rfl⟩
theorem vH.trans {g:yj}{a b:Nat}(h:vH K v v' a)(f:vH K v' g b):vH K v g (a+b):=⟨by have:=h.nn;have:=f.nn;omega,f.ii.trans h.ii,f.yy.trans h.yy,f.sz.trans h.sz,f.dd.trans h.dd⟩
theorem vH.more {a b:Nat}(h:vH K v v' a)(f:a<=b):vH K v v' b:=⟨by have:=h.nn;omega,h.ii,h.yy,h.sz,h.dd⟩
end
structure Ja where
 fc:Nat
 qc:Y7
 fk:Nat
 qk:Y7
 fn:Nat
def Ja.val (s:Ja):Y7:=#[.func (.func s.fc) #[] s.qc,.func (.func s.fk) #[] s.qk,.func (.func s.fn) #[] #[]]
structure Xz (L:List Cq)(s:Ja)(up:Bool)(P:qw->Bool)(cf kf:ym->Int):Prop where
 ec:∀args w,(gm s.fc args).run Y3 w=.ok (.enter s.fc args) w
 ek:∀args w,(gm s.fk args).run Y3 w=.ok (.enter s.fk args) w
 en:∀args w,(gm s.fn args).run Y3 w=.ok (.enter s.fn args) w
 c:∀(W:World) (x:ym) (Ac:Y5) (cc:Nat) (Ak:Y5) (ck:Nat) (Ai:Y5) (ci:Nat),xW L W->XX W W.heap.size x Ac cc Ak ck Ai ci->x.cells.length<=1000->x.keys.length<=1000->x.kids.length<=1001->nK Y3 s.fc (#[Q0 (zx x Ac cc Ak ck Ai ci)]++s.qc) W λe w'=>e=Y0 (Y1 Q4 (cf x))/\nH W.heap.size W w'
 k:∀(W:World) (x:ym) (Ac:Y5) (cc:Nat) (Ak:Y5) (ck:Nat) (Ai:Y5) (ci:Nat),xW L W->XX W W.heap.size x Ac cc Ak ck Ai ci->x.cells.length<=1000->x.keys.length<=1000->x.kids.length<=1001->nK Y3 s.fk (#[Q0 (zx x Ac cc Ak ck Ai ci)]++s.qk) W λe w'=>e=Y0 (Y1 Q4 (kf x))/\nH W.heap.size W w'
 n:∀(W:World) (i:Int),-5<=i->i<=5000->nK Y3 s.fn #[Y1 Q4 i] W λe w'=>e=Y0 (Y1 Q4 (UK up i))/\W=w'
 pl:Px up P cf kf
theorem IV (W:World)(i:Int)(h1 : -5<=i)(h2:i<=5000):nK Y3 57 #[Y1 Q4 i] W λe w'=>e=Y0 (Y1 Q4 (UK true i))/\W=w':=by
 have f:IntKind.i64.wrap (i+1)=i+1:=zg _
 go_enter func57,ntmps57
 go_wp2;go_ret;exact⟨rfl,rfl⟩
theorem KT (W:World)(i:Int)(h1 : -5<=i)(h2:i<=5000):nK Y3 32 #[Y1 Q4 i] W λe w'=>e=Y0 (Y1 Q4 (UK false i))/\W=w':=by
 have f:IntKind.i64.wrap (i-1)=i-1:=zg _
 go_enter func32,ntmps32
 go_wp2;go_ret;exact⟨rfl,rfl⟩
section
variable {W:World}{x:ym}{Ac Ak Ai:Y5}{cc ck ci:Nat}
theorem YY (q:Nat)(key:ByteArray)(hq:za W q 9 #[X9 key])(C:XX W W.heap.size x Ac cc Ak ck Ai ci)(h1:x.cells.length<=1000)(h2:x.keys.length<=1000):nK Y3 55 #[Q0 (zx x Ac cc Ak ck Ai ci),Y9 q] W λe w'=>e=Y0 (Y1 Q4 (yf x.leaf (qh x) key:Int))/\nH W.heap.size W w':=by
 obtain⟨N,h⟩:=Z9 (zx x Ac cc Ak ck Ai ci);have A:N.size=4:=by rw[h];rfl
 obtain⟨u,j,f,b1⟩:=Qp W 69 N;have c1:=(hq.below f hq.lt).boxed;have g:=YH u x Ac cc Ak ck Ai ci (C.grow f) K5 K5 key;unfold ZA at g;rw[<-h] at g ⊢;have r:=nI j.symm;clear j h
 go_enter func55,ntmps55
 go_wp2_with (first
  |(rw[r.out];refine yO rfl 69 (.tmp 2) rfl W.heap.size rfl zm b1 A ?_)
  | (go_at_call 56;refine g.mono ?_;rintro e E ⟨rfl,z⟩))
 go_ret;exact⟨rfl,f.trans (z.mono f.size)⟩
theorem RR (q1 q2:Nat)(key:ByteArray)(c2 c3:Value)(hq:za W q1 9 #[X9 key])(r:za W q2 60 #[.func (.func 55) #[] #[Y9 q1],c2,c3])(E:XX W W.heap.size x Ac cc Ak ck Ai ci)(h1:x.cells.length<=1000)(h2:x.keys.length<=1000):nK Y3 54 #[Q0 (zx x Ac cc Ak ck Ai ci),Y9 q2] W λe w'=>e=Y0 (Y1 Q4 ((yf x.leaf (qh x) key:Int)-1))/\nH W.heap.size W w':=by
 obtain⟨z,h,g,b1⟩:=Qp W 69 (zx x Ac cc Ak ck Ai ci);have b2:=r.below g r.lt;have c1:z.cell? q2=some (.func (.func 55) #[] #[Y9 q1]):=by rw[b2.cell];rfl
 have j:=YY q1 key (hq.below g hq.lt) (E.grow g) h1 h2;obtain⟨N,q⟩:=Z9 (zx x Ac cc Ak ck Ai ci);have C:N.size=4:=by rw[q];rfl
 rw[<-q] at j h b1 ⊢;obtain⟨f,hf⟩:=Z9 (yf x.leaf (qh x) key);rw[<-hf] at j ⊢;have G:f<=1000:=by
  rw[hf];unfold yf qh;cases x.leaf
  .have:=VB key x.keys;simp;omega
  .have:=YG key (x.cells.map xG.key);simp at this ⊢;omega
 have H:IntKind.i64.wrap ((f:Int)-1)=(f:Int)-1:=zg _;rw[h] at c1;have u:=nI h.symm;clear h q hf
 go_enter func54,ntmps54
 go_wp2_with (first
  |(rw[u.out];refine yO rfl 69 (.tmp 2) rfl W.heap.size rfl zm b1 C ?_)
  | (go_at_call 55;refine j.mono ?_;rintro e I ⟨rfl,A⟩))
 go_ret;exact⟨rfl,g.trans (A.mono g.size)⟩
theorem RT (h1:x.cells.length<=1000):nK Y3 30 #[Q0 (zx x Ac cc Ak ck Ai ci)] W λe w'=>e=Y0 (Y1 Q4 ((x.cells.length:Int)-1))/\nH W.heap.size W w':=by
 have f:nH W.heap.size W (W.alloc (Q9 (zx x Ac cc Ak ck Ai ci) 69)):=vo _ _;have g:IntKind.i64.wrap ((x.cells.length:Int)-1)=(x.cells.length:Int)-1:=zg _;unfold zx at *
 go_enter func30,ntmps30
 go_wp2;go_ret;exact⟨rfl,f⟩
theorem RS (h1:x.kids.length<=1001):nK Y3 31 #[Q0 (zx x Ac cc Ak ck Ai ci)] W λe w'=>e=Y0 (Y1 Q4 ((x.kids.length:Int)-1))/\nH W.heap.size W w':=by
 have f:nH W.heap.size W (W.alloc (Q9 (zx x Ac cc Ak ck Ai ci) 69)):=vo _ _;have g:IntKind.i64.wrap ((x.kids.length:Int)-1)=(x.kids.length:Int)-1:=zg _;unfold zx at *
 go_enter func31,ntmps31
 go_wp2;go_ret;exact⟨rfl,f⟩
end
theorem Uk:QO 9:=by decide
theorem JK:QO 60:=by decide
theorem jC:QO 54:=by decide
theorem Lm {L:List Cq}{q:Nat}{key:ByteArray}(hq:(q,9,#[X9 key])∈L):Xz L ⟨55,#[Y9 q],55,#[Y9 q],57⟩ true (λe => !ye e.1 key) (λx=>(yf x.leaf (qh x) key:Int)) (λx=>(yf x.leaf (qh x) key:Int)) :=
 ⟨zb.eo func55,zb.eo func55,zb.eo func57,λW x Ac cc Ak ck Ai ci f g h1 h2 _=>YY q key (f _ hq).1 g h1 h2,λW x Ac cc Ak ck Ai ci f g h1 h2 _=>YY q key (f _ hq).1 g h1 h2,IV,BU key⟩
theorem Sz {L:List Cq}{q1 q2:Nat}{key:ByteArray}{c2 c3:Value}(hq:(q1,9,#[X9 key])∈L)(h:(q2,60,#[.func (.func 55) #[] #[Y9 (K4 ⟨q1,0,K3⟩)],c2,c3])∈L):Xz L ⟨54,#[Y9 (K4 ⟨q2,0,K3⟩)],55,#[Y9 (K4 ⟨q1,0,K3⟩)],32⟩ false (λe=>ye e.1 key) (λx=>(yf x.leaf (qh x) key:Int)-1) (λx=>(yf x.leaf (qh x) key:Int)) :=
 ⟨zb.eo func54,zb.eo func55,zb.eo func32,λW x Ac cc Ak ck Ai ci f g h1 h2 _=>RR q1 q2 key c2 c3 (f _ hq).1 (f _ h).1 g h1 h2,λW x Ac cc Ak ck Ai ci f g h1 h2 _=>YY q1 key (f _ hq).1 g h1 h2,KT,Iq key⟩
theorem TA (L:List Cq):Xz L ⟨30,#[],31,#[],32⟩ false (λ_=>true) (λx=>(x.cells.length:Int)-1) (λx=>(x.kids.length:Int)-1) :=
 ⟨zb.eo func30,zb.eo func31,zb.eo func32,λW x Ac cc Ak ck Ai ci _ _ h1 _ _=>RT h1,λW x Ac cc Ak ck Ai ci _ _ _ _ f=>RS f,KT,Ir⟩
theorem kG:yw Y3 60 3:=⟨⟨_,underlying60,rfl⟩,by kernel_rfl⟩
def keyOf:Option qw->ByteArray
 | some e=>e.1
 | none=>⟨#[]⟩
def kP:xG:=⟨⟨#[]⟩,⟨#[]⟩,0,0⟩
def Em (up:Bool)(n:Nat)(i:Int):Nat:=if up then ((n:Int)-i).toNat else (i+1).toNat
theorem JN.less {up:Bool}{ks rest done:List YP}{i:Int}{k:YP}(h:JN up ks i (k::rest) done):Em up ks.length (UK up i)<Em up ks.length i:=by
 have h1:=h.next.low;obtain⟨j,q,f⟩:=h.at_;have g:=(qM.1 f).1;unfold Em UK at *;cases up<;>simp at *<;>omega
section
variable {W0:World}{K:xB}{p t c:Nat}{k:Int}{st last:qj}{under:Bool}{mk:Value}{ms:List xo}{used free:List Int}{D:Int->Option Y4}{L:List Cq}{s:Ja}{up:Bool}{P:qw->Bool}{cf kf:ym->Int}{ky:ByteArray}{bb:Bool}
def QF (W0:World)(K:xB)(p t:Nat)(k:Int)(v:yj)(st last:qj)(under:Bool)(mk:Value)(ms:List xo)(W:World)(m:Nat)(r:Option qw)(e:mH)(w':World):Prop :=
 ∃cel v',e=Y0 (.tuple #[.agg (zl cel).toArray,.bool r.isSome])/\cel.key=keyOf r/\zy W0 K p t k v' st last under mk ms w'/\vH K v v' m/\zz K W v v'/\ze (qi K p v) W w'
theorem uV (hs:Px up P cf kf){x:ym}{es:List qw}{ps:List Int}(h:yU D 0 x es ps)(g:zu es)(hl:x.cells.length<=1000):∃f:xG,f.key=keyOf (pick up P es)/\∀(W:World) (Ac:Y5) (cc:Nat),yl W W.heap.size 4 Ac x.cells.length cc (vY x.cells) ->
  nK Y3 96 #[X1 Ac x.cells.length cc,Y1 Q4 (cf x)] W λe w'=>e=Y0 (Q2 #[Q0 (zl f).toArray,.bool (pick up P es).isSome])/\nH W.heap.size W w':=by
 rcases hs.leaf D x es ps h g with⟨h1,h2⟩|⟨j,hj,e,h1,h2,h3⟩
 .rw[h2];exact⟨kP,rfl,λW Ac cc _=>uv W Ac cc _ _ h1⟩
 .rw[h2];exact⟨x.cells[j],h3,λW Ac cc hi=>Cg W Ac cc x.cells hi _ K5 j h1 hj⟩
structure KO (W0:World)(K:xB)(p t:Nat)(k:Int)(v:yj)(st last:qj)(under:Bool)(mk:Value)(ms:List xo)(used free:List Int)(D:Int->Option Y4)(W:World)(d:Nat)(n:Int)(x:ym)(es:List qw)(ps:List Int):Prop where
 at_:zy W0 K p t k v st last under mk ms W
 dd:v.D=D
 pl:xd K D st used free
 us:n∈used
 pg:D n=some (xx x)
 ln:(qg x).length<=512
 nd:yU D d x es ps
 sub:∀a∈ps,a∈used
 so:zu es
 many:es.length<=200
 nn:v.N+1+ps.length<=790000
theorem KO.nod {v:yj}{W:World}{d:Nat}{n:Int}{x:ym}{es:List qw}{ps:List Int}(h:KO W0 K p t k v st last under mk ms used free D W d n x es ps):YM K v n x:=by
 have:=h.pl.pZ n (yH _ h.us);exact YM.of K5 (by rw[h.dd];exact h.pg) (h.nd.right h.so) h.ln
theorem LM (hK:K.Ok)(hs:Xz L s up P cf kf)(hc:(c,54,#[Y9 t,X9 ky,X3 bb])∈L){v:yj}{W:World}{n:Int}{x:ym}{es:List qw}{ps:List Int}(H:KO W0 K p t k v st last under mk ms used free D W 0 n x es ps)(hL:xW L W):nK Y3 60 #[Y9 (K4 ⟨c,0,K3⟩),Y1 Q4 n,Q0 s.val] W (QF W0 K p t k v st last under mk ms W (1+ps.length) (pick up P es)):=by
 have h:=H.at_;have bO:=h.up;have bI:=hK.hP;have a7:=H.pl.pZ n (yH _ H.us);have bN:=H.pl.sz;have hm:=H.nd.many;have bJ:=H.many;have bK:=H.nn;obtain⟨aW,a4,aS⟩:=uV hs.pl H.nd H.so K5;have bH:=H.nd.1;obtain⟨S,aR⟩:=Z9 s.val;have q:S[0]?=some (.func (.func s.fc) #[] s.qc):=by rw[aR];rfl
 obtain⟨W1,A⟩:=Z9 ((W.alloc (Q9 S 60)).alloc (Q9 (zl kP).toArray 94));have aE:nH W.heap.size W W1:=by rw[A];exact QU _ _ _
 have b5:za W1 W.heap.size 60 S:=by rw[A];exact(za.new W _ _).alloc _
 have b6:za W1 (W.heap.size+1) 94 (zl kP).toArray:=by have:=za.new (W.alloc (Q9 S 60)) 94 (zl kP).toArray;rw[nG] at this;rw[A];exact this
 have bL:W1.heap.size=W.heap.size+1+1:=by rw[A,nG,nG]
 have h1:=h.grow aE;have aQ:=hL.grow aE;have c0:W1.cell? ⟨c,0,K3⟩=K4 (Y9 t):=by rw[(aQ _ hc).1.cell];rfl
 have aT:=UH h1 hK K5 n ⟨a7.1,a7.2⟩ K5 (by rw[H.dd];exact H.pl.loose hK) x H.nod;have n5:=h1.pP b5 JK;have n6:=h1.pP b6 K7;unfold zl kP at A b6;rw[A] at c0;have bA:=nI A.symm;rw[<-aR];clear A h hL H aR
 go_enter func60,ntmps60
 go_wp2_with fail
 rw[bA.out];refine aT.mono ?_;rintro e f ⟨v',Ac,cc,Ak,ck,Ai,ci,rfl,X2,XG,h2,a5,a6,aB⟩;obtain⟨N,I⟩:=Z9 (zx x Ac cc Ak ck Ai ci);have a1:N.size=4:=by rw[I];rfl
 have bG:∀u∈N.toList,u.oneCell'=true:=by rw[I];exact zw rfl rfl rfl rfl
 rw[<-I];have aJ:=aB.blk b5 n5;have aK:=aB.blk b6 n6;have aZ:=aQ.pS h1 aB;have bM:=aB.size;obtain⟨W3,a2,aX,aU⟩:=Qp f 69 #[X3 false,X1 none 0 0,X1 none 0 0,X1 none 0 0];have aO:nH f.heap.size f (W3.setRow f.heap.size N):=zf aX (zG _) _;have aH:=aU.setRow N;generalize a3:W3.setRow f.heap.size N=j at *;have aP:nH j.heap.size j j.drew:=(nF _ _).drew;have G:nH f.heap.size f j.drew:=aO.trans (aP.mono aO.size);have h4:=h2.grow G;have X4:=X2.grow G;have a0:=aZ.grow G;have aC:=aJ.below G aJ.lt;have aL:=aK.below G aK.lt;have U:=aH.below aP aH.lt;have d0:j.cell? f.heap.size=some (X3 true):=by rw[aH.cell,I];simp[zx,bH]
 have d1:j.drew.cell? ⟨f.heap.size,1,K3⟩=some (X1 Ac x.cells.length cc):=by rw[U.cell,I];rfl
 have s0:j.drew.cell? W.heap.size=some (.func (.func s.fc) #[] s.qc):=by rw[aC.cell];exact q
 have q:j.drew.cell? ⟨f.heap.size,1,K3⟩=some (X1 Ac x.cells.length cc)/\j.drew.cell? W.heap.size=some (.func (.func s.fc) #[] s.qc)/\za j.drew f.heap.size 69 N:=⟨d1,s0,U⟩;have HC:=hs.c j.drew x Ac cc Ak ck Ai ci a0 X4.is K5 K5 K5;rw[<-I] at HC;have G4:ze (qi K p v) W j.drew:=((ze.below aE).trans aB).trans (ze.below G);have N4:zz K W v v':=a6.mono aE.size;have bB:=nI a2.symm;have bC:=nI a3;have a9:=nI a5;clear a2 a3 I h1 h2 aQ aZ b5 b6 aJ aK X2 XG aB a6 aX aO aP G aH aT aE a5 n5 n6 c0
 go_wp2_with (first
  |(rw[bB.out];refine vC zm aU a1 bG ?_;rw[bC.out])
  | (go_at_call 95;refine(Sb _).mono ?_;rintro e wm ⟨⟨_,rfl⟩,rfl⟩))
 refine zb.st (λW':World=>W'.cell? ⟨f.heap.size,1,K3⟩=some (X1 Ac x.cells.length cc)/\W'.cell? W.heap.size=some (.func (.func s.fc) #[] s.qc)/\za W' f.heap.size 69 N) 99 ?_;generalize j.drew=wd at *;refine zb.q0 0 (Y9 (K4 ⟨f.heap.size,1,K3⟩)) q ?_;refine zb.q0 1 (X1 Ac x.cells.length cc) q ?_;refine zb.q0 2 (Y9 W.heap.size) q ?_;refine zb.q0 3 (.func (.func s.fc) #[] s.qc) q ?_;simp only[Z8];refine zb.t0 4 (Q0 N) rfl q (λW ⟨V,e1,E⟩=>by exact Qb zm E a1 rfl rfl) ?_;simp only[Z8];refine zb.n 5 ?_;refine zb.opCV (.tmp 31) #[.tmp 32] #[69] rfl rfl rfl s.fc s.qc rfl hs.ec #[Q0 N] (by simp only[zJ,zL,zN];rfl) (HC.mono ?_);rintro e w5 ⟨rfl,z⟩;have X5:=X4.grow z;have aM:=aL.below z aL.lt;have aD:=U.below z U.lt;have bD:=aC.below z aC.lt;have aI:w5.cell? ⟨f.heap.size,1,K3⟩=some (X1 Ac x.cells.length cc)/\w5.cell? W.heap.size=some (.func (.func s.fc) #[] s.qc)/\za w5 f.heap.size 69 N:=⟨(z.cell (p:=⟨f.heap.size,1,K3⟩) U.lt).trans q.1,(z.cell (p:=⟨W.heap.size,0,K3⟩) aC.lt).trans q.2.1,aD⟩;have HA:=aS w5 Ac cc X5.is.c;refine⟨_,rfl,λ_=>aI,?_⟩;simp only[Z8];refine zb.n 6 ?_;refine zb.oC 96 #[.tmp 29,.tmp 33] #[65,3] #[X1 Ac x.cells.length cc,Y1 Q4 (cf x)] (HA.mono ?_) (zb.eo func96);rintro e w6 ⟨rfl,aA⟩;have aN:=aM.below aA aM.lt;have aV:=aD.below aA aD.lt;have aG:w6.cell? ⟨f.heap.size,1,K3⟩=some (X1 Ac x.cells.length cc)/\w6.cell? W.heap.size=some (.func (.func s.fc) #[] s.qc)/\za w6 f.heap.size 69 N:=⟨(aA.cell (p:=⟨f.heap.size,1,K3⟩) aD.lt).trans aI.1,(aA.cell (p:=⟨W.heap.size,0,K3⟩) bD.lt).trans aI.2.1,aV⟩;refine⟨_,rfl,λ_=>aG,?_⟩;simp only[Z8];obtain⟨r,hr⟩:=Z9 ((pick up P es).isSome);rw[<-hr];obtain⟨C,aF⟩:=Z9 ((zl aW).toArray);have aY:C.size=4:=by rw[aF];rfl
 have bF:∀u∈C.toList,u.oneCell'=true:=by rw[aF];exact zw rfl rfl rfl rfl
 rw[<-aF];refine zb.q0 7 (Q0 C) aG ?_;refine zb.q0 8 (X3 r) aG ?_;simp only[Z8];refine zb.n 9 ?_;have h7:=(h4.grow z).grow aA;have h8:=h7.pQ (qm w6 (W.heap.size+1) C) aN K7 (λm e=>by cases e) K5 K7;have bE:=aN.setRow C;have M:ze (qi K p v) W w6:=(G4.trans (ze.below z)).trans (ze.below aA);have F:QF W0 K p t k v st last under mk ms W (1+ps.length) (pick up P es) (.returned (Q2 #[Q0 C,X3 r])) (w6.setRow (W.heap.size+1) C) :=
  ⟨aW,v',by rw[aF,hr],a4,h8,a9.out.m.more K5,N4,⟨M.os,M.tape,M.output,by simp[gM];exact M.size,λa ha hm=>(ng _ _ a _ K5).trans (M.block a ha hm)⟩⟩
 have a8:W.heap.size+1≠f.heap.size:=K5
 have O:=aG;clear q aI aG X4 X5 h4 h7 h8 aC aL aM U aD aV HC HA aS G4 M aF hr a4 a0;refine zb.opS rfl rfl (vu 94 (.tmp 6) (.tmp 35) rfl (W.heap.size+1) rfl rfl ql aN rfl aY bF) ⟨λ_ => ?_,?_⟩
 .exact⟨(nW (w:=w6) (ng _ _ _ _ (by show f.heap.size≠_;omega))).trans O.1,(nW (w:=w6) (ng _ _ _ _ (by show W.heap.size≠_;omega))).trans O.2.1,O.2.2.pN a8.symm C⟩
 simp only[zD,zC,zB,nJ];refine zb.n 10 (zb.opV (w':=w6.setRow (W.heap.size+1) C) (X3 r) rfl rfl K8 ⟨λ_ => ?_,zb.dn ?_⟩)
 .exact⟨(nW (w:=w6) (ng _ _ _ _ (by show f.heap.size≠_;omega))).trans O.1,(nW (w:=w6) (ng _ _ _ _ (by show W.heap.size≠_;omega))).trans O.2.1,O.2.2.pN a8.symm C⟩
 simp only[Z8];go_wp2;exact nu (vJ rfl (yx (g:=W.heap.size+1) 6 rfl ql bE aY) (ve 7 rfl)) rfl F
end
theorem AH {α : Type}(R:Nat->α -> Prop):∃M : α -> Nat,∀i,(∃d,R d i)->R (M i) i/\∀d,R d i->M i<=d:=by
 refine Classical.axiomOfChoice (r:=λi m=>(∃d,R d i)->R m i/\∀d,R d i->m<=d) λi => ?_
 by_cases h:∃d,R d i
 .obtain⟨d,hd⟩:=h
  induction d using Nat.strongRecOn with
  | _ d ih =>
   by_cases hl:∃f,f<d/\R f i
   .obtain⟨f,h1,h2⟩:=hl;exact ih f h1 h2
   .exact⟨d,λ_=>⟨hd,λf j=>Nat.le_of_not_lt λq=>hl ⟨f,q,j⟩⟩⟩
 .exact⟨0,λg=>(h g).elim⟩
theorem yS.atE {D:Int->Option Y4}:∀{cs:List xG} {es:List qw} {ps:List Int},yS D cs es ps->∀(i:Nat) (hi:i<cs.length) (f:i<es.length),∃p,xP D cs[i] es[i] p/\∀a∈p,a∈ps
 | c::cs,e::es,ps,⟨p,q,h1,h2,h3⟩,0,_,_=>⟨p,h1,λa ha=>by rw[h3];simp[ha]⟩
 | c::cs,e::es,ps,⟨p,q,h1,h2,h3⟩,i+1,hi,f=>by obtain⟨r,g,j⟩:=yS.atE h2 i (by simpa using hi) (by simpa using f);exact⟨r,g,λa ha=>by rw[h3];exact List.mem_append_right _ (j a ha)⟩
 | [],[],_,_,i,hi,_=>by simp at hi
 | [],_::_,_,h,_,_,_=>h.elim
 | _::_,[],_,h,_,_,_=>h.elim
theorem Nq {D:Int->Option Y4}{x:ym}{es:List qw}{ps:List Int}(h:yU D 0 x es ps)(hs:zu es){e:qw}(r:e∈es):∃(i:Nat) (hi:i<x.cells.length) (p:List Int),yf true (qh x) e.1=i/\vn true (qh x) e.1=true/\xP D x.cells[i] e p/\∀a∈p,a∈ps:=by
 obtain⟨h1,h2,A,C,f⟩:=h;have q:qh x=es.map (·.1):=by unfold qh;rw[h1];exact f.keys
 obtain⟨i,hi,rfl⟩:=yG r;have G:=f.length.1;have g:qz es[i].1 (es.map (·.1))=i:=kp _ _ i (by rw[qH];omega) (λj E u=>by rw[mC];exact hs.lt u hi) (λh=>by rw[mC];exact xL _);obtain⟨p,hc,z⟩:=f.atE i K5 hi;refine⟨i,by omega,p,by rw[q];exact g,?_,hc,z⟩;unfold vn;rw[q,g,mJ,zM hi];simp
theorem CD {x:ym}{es:List qw}{ps:List Int}{ks:List YP}(hi:Jd x es ps ks)(E:∀k∈ks,k.es≠[]){e:qw}(u:e∈es):∃k∈ks,e∈k.es/\x.kids[vO e.1 x.keys]?=some k.pg:=by
 obtain⟨G,k,H,q,hl,C,A⟩:=KC hi E e.1;have z:e∈k.es:=by
  rw[hi.oV,q,QD,vz] at u;rcases zZ.1 u with h|h
  .obtain⟨l,r,f⟩:=List.mem_flatten.1 h;obtain⟨j,g,rfl⟩:=qR.1 r;have:=C j g e f;rw[xL] at this;cases this
  .rcases zZ.1 h with h|h
   .exact h
   .obtain⟨l,r,f⟩:=List.mem_flatten.1 h;obtain⟨j,g,rfl⟩:=qR.1 r;have:=A j g e f;rw[xL] at this;cases this
 refine⟨k,by rw[q];simp,z,?_⟩;rw[hi.kids,<-hl,q];unfold Uu;rw[mJ,qU (zG _)];simp
def rX (D:Int->Option Y4)(used:List Int)(e:qw)(d:Nat)(i:Value):Prop :=
 ∃n x es ps,i=Y1 Q4 n/\n∈used/\(∀a∈ps,a∈used)/\D n=some (xx x)/\(qg x).length<=512/\yU D d x es ps/\zu es/\e∈es/\es.length<=61
theorem rX.inner {D:Int->Option Y4}{used:List Int}{e:qw}{d:Nat}{x:ym}{es:List qw}{ps:List Int}(h:∀a∈ps,a∈used)(hn:yU D (d+1) x es ps)(hs:zu es)(z:e∈es)(hl:es.length<=61):∃q,x.kids[vO e.1 x.keys]?=some q/\rX D used e d (Y1 Q4 q):=by
 obtain⟨ks,hi,g⟩:=hn;obtain⟨k,f,C,hq⟩:=CD hi (λa ha=>(g a ha).1.ne) z;obtain⟨j,r,a3⟩:=g k f;obtain⟨m1,m2⟩:=Kr f;have E:zu (KR ks):=by rw[<-hi.oV];exact hs
 refine⟨k.pg,hq,k.pg,k.nd,k.es,k.ps,rfl,h _ (by rw[hi.dE];exact m1),λb u=>h _ (by rw[hi.dE];exact m2 b u),r,a3,j,zu.oW E k f,C,?_⟩;obtain⟨A,B,rfl⟩:=List.append_of_mem f;have:=hi.oV;rw[QD,vz] at this;rw[this] at hl;simp only[zH] at hl;omega
section
variable {W0 W W':World}{K:xB}{p t:Nat}{v v':yj}{st last:qj}{under:Bool}{mk:Value}{ms:List xo}
def tY (W0:World)(K:xB)(p t:Nat)(v:yj)(st last:qj)(under:Bool)(mk:Value)(ms:List xo)(used:List Int)(W:World)(e:qw)(x:mH)(w':World):Prop :=
 ∃v' c pc,x=.returned (Q2 #[Q0 (zl c).toArray,X3 true])/\xP v'.D c e pc/\(∀a∈pc,a∈used)/\zy W0 K p t 0 v' st last under mk ms w'/\vH K v v' 62/\zz K W v v'/\ze (qi K p v) W w'
theorem Ij (h:zy W0 K p t 0 v st last under mk ms W)(hK:K.Ok)(hN:v.N<=700000){used free:List Int}{root:Int}(hp:xd K v.D st used free)(h0:st.roots[0]?=some root)(e:qw){d0:Nat}(b0:d0<=60)(hA:rX v.D used e d0 (Y1 Q4 root)):nK Y3 99 #[Q0 #[Y9 t],X9 e.1] W (tY W0 K p t v st last under mk ms used W e):=by
 have cA:=h.up;have bY:=hK.hP;have b9:=hp.sz;have bU:=hp.loose hK;obtain⟨M,hM⟩:=AH (rX v.D used e);obtain⟨W1,aH,aQ,b2,b4⟩:=Bz W 92 #[Y9 t] 94 #[X9 ⟨#[]⟩,X9 ⟨#[]⟩,Y1 Q4 0,Y1 Q4 0];have b8:W1.heap.size=W.heap.size+1+1:=by rw[aH,nG,nG]
 have h1:=h.grow aQ;have HR:=Ya h1 (i:=0) rfl h0;have aY:=b2.boxed;rw[aH] at aY;have bF:=nI aH.symm;have b3:=(hM _ ⟨_,hA⟩).2 _ hA;clear aH h h0
 go_enter func99,ntmps99
 go_wp2_with fail
 rw[bF.out];refine HR.mono ?_;rintro x0 w2 ⟨rfl,aA⟩;have h2:=h1.grow aA;have bI:=b2.below aA b2.lt;have bK:=b4.below aA b4.lt;have g2:ze (qi K p v) W w2:=(ze.below aQ).trans (ze.below aA);clear HR h1 b2 b4 aY aA aQ;have HA:=nI hA;have HM:=nI hM;clear hA hM;go_wp2
 go_loopw [6] (λi wr=>(∃d,rX v.D used e d i)/\∃S m,zy W0 K p t 0 S st last under mk ms wr/\vH K v S m/\m+M i<=d0/\zz K W v S/\ze (qi K p v) W wr/\za wr W.heap.size 92 #[Y9 t]/\za wr (W.heap.size+1) 94 #[X9 ⟨#[]⟩,X9 ⟨#[]⟩,Y1 Q4 0,Y1 Q4 0]) (λi _=>M i)
 case atStart=>exact⟨⟨_,HA.out⟩,v,0,h2,vH.refl K v,by omega,λk hk => .inl hk,g2,bI,bK⟩
 case round =>
  obtain⟨bP,S,m,h3,aI,b5,a8,a7,aC,aN⟩:=hrel;obtain⟨hR,b6⟩:=HM.out _ bP;obtain⟨n,x,es,ps,rfl,bV,aJ,hD,hl,z,aB,O,aT⟩:=hR;have bC:=hp.pZ n (yH _ bV);have hX:YM K S n x:=YM.of K5 (by rw[aI.dd];exact hD) (z.right aB) hl;have aW:=UE h3 hK (by have:=aI.nn;omega) n ⟨bC.1,bC.2⟩ K5 (by rw[aI.dd];exact bU) x hX;have b7:=z.many;have bM:=aC.boxed;have bW:=h3.pP aC K7;have bX:=h3.pP aN K7;have bD:=a7.size;clear hX
  go_wp2_with fail
  refine aW.mono ?_;rintro x4 f ⟨v4,Ac,cc,Ak,ck,Ai,ci,rfl,n4,h4,bT,a9,aG⟩;obtain⟨N,I⟩:=Z9 (zx x Ac cc Ak ck Ai ci);have a1:N.size=4:=by rw[I];rfl
  have bN:∀u∈N.toList,u.oneCell'=true:=by rw[I];exact zw rfl rfl rfl rfl
  rw[<-I];have aL:=aG.blk aC bW;have aO:=aG.blk aN bX;obtain⟨W4,a2,aZ,aX⟩:=Qp f 69 #[X3 false,X1 none 0 0,X1 none 0 0,X1 none 0 0];have H:nH f.heap.size f (W4.setRow f.heap.size N):=zf aZ (zG _) _;have aE:=aX.setRow N;generalize a3:W4.setRow f.heap.size N=W5 at *;have h5:=h4.grow H;have n5:=n4.grow H;have aP:=aO.below H aO.lt;have aM:=aL.below H aL.lt;have G:=YH W5 x Ac cc Ak ck Ai ci n5 K5 K5 e.1;unfold ZA at G;obtain⟨at_,aR⟩:=Z9 (yf x.leaf (qh x) e.1);obtain⟨aU,aS⟩:=Z9 (vn x.leaf (qh x) e.1);rw[<-aR,<-aS,<-I] at G;have aK:=nI I;have aV:=nI aR;have bE:=nI aS;have bG:=nI a2.symm;have bH:=nI a3;have g5:ze (qi K p S) wr W5:=aG.trans (ze.below H);clear I a2 a3 h3 h4 n4 aC aN aL aO aW aZ aR aS bM
  go_wp2_with (first
   |(rw[bG.out];refine vC zm aX a1 bN ?_;rw[bH.out])
   | (refine yO rfl 69 (.tmp 7) rfl f.heap.size rfl zm aE a1 ?_))
  refine G.mono ?_;rintro x6 w6 ⟨rfl,C⟩;have h6:=h5.grow C;have n6:=n5.grow C;have aD:=aP.below C aP.lt;have bJ:=aM.below C aM.lt;have U:=aE.below C aE.lt;have d0:w6.cell? f.heap.size=some (X3 x.leaf):=by rw[U.cell,aK.out];rfl
  have A:ze (qi K p v) W w6:=(g5.fresh a7 a8 bD).trans (ze.below C);have N6:zz K W v v4:=a8.trans a9 bD;have r:vH K v v4 (m+1):=aI.trans bT.m;clear h5 n5 aP aM aE G H C g5 aG a9;generalize b1:M (Y1 Q4 n)=d at *;rcases d with _|d
  .obtain⟨i,hi,pc,a4,a5,a6,bA⟩:=Nq z aB O;have E:x.leaf=true:=z.1;have V:at_=i:=by rw[aV.out,E,a4]
   have e2:aU=true:=by rw[bE.out,E,a5]
   subst V e2;rw[E] at d0;obtain⟨g,o,rfl,bQ,_⟩:=n6.c.pO K5;have hr:=KJ n6.c rfl at_ hi;have bR:(at_:Int)<(x.cells.length:Int):=K5
   have d1:w6.cell? ⟨f.heap.size,1,K3⟩=some (X1 (K4 ⟨g,o,K3⟩) x.cells.length cc):=by rw[U.cell,aK.out];rfl
   have h7:=h6.pQ (qm w6 (W.heap.size+1) (zl x.cells[at_]).toArray) aD K7 (λm e=>by cases e) K5 K7;have bL:=aD.setRow (zl x.cells[at_]).toArray;have a0:ze (qi K p v) W (w6.setRow (W.heap.size+1) (zl x.cells[at_]).toArray) :=
    ⟨A.os,A.tape,A.output,by simp[gM];exact A.size,λj hj hm=>(ng _ _ j _ K5).trans (A.block j hj hm)⟩
   have bO:∀u∈(zl x.cells[at_]).toArray.toList,u.oneCell'=true:=zw rfl rfl rfl rfl;have F:∀w',w'=w6.setRow (W.heap.size+1) (zl x.cells[at_]).toArray->tY W0 K p t v st last under mk ms used W e (.returned (Q2 #[Q0 (zl x.cells[at_]).toArray,X3 true])) w':=λw' O=>by subst O;exact⟨v4,x.cells[at_],pc,rfl,a6.pR λa _=>by rw[r.dd],λa ha=>aJ a (bA a ha),h7,⟨by have:=r.nn;omega,r.ii,r.yy,r.sz,r.dd⟩,N6,a0⟩
   have hu:∀u,(zl x.cells[at_])[0]?=some u->∃s,u=Value.string s:=λu hu=>by unfold zl at hu;simp at hu;exact⟨_,hu.symm⟩
   generalize x.cells[at_]=cx at *;have G:=nI F;clear F h6 h7 n6 U r N6 a0 A hu a6 bA z aB O aT hD hl aJ a4 a5
   go_wp2_with (first
    |(refine zp rfl (yQ ql hr rfl rfl rfl) ?_)
    | (refine zt rfl 94 (.tmp 4) (.tmp 37) rfl (W.heap.size+1) rfl rfl ql aD rfl rfl bO ?_))
   exact nu (vJ rfl (yx (g:=W.heap.size+1) 4 rfl ql bL rfl) (ve 5 rfl)) rfl (G.out _ rfl)
  .obtain⟨q,hq,aF⟩:=rX.inner aJ z aB O aT;have E:x.leaf=false:=by obtain⟨ks,hi,_⟩:=z;exact hi.leaf
   have V:at_=vO e.1 x.keys:=by rw[aV.out,E];unfold yf qh;rw[E];rfl
   have bS:at_<x.kids.length:=by rw[V];exact(qM.1 hq).1
   have bB:x.kids[at_]=q:=by subst V;exact(qM.1 hq).2
   obtain⟨g,o,rfl,bQ,_⟩:=n6.i.pO K5;have d3:w6.cell? ⟨g,o+at_,K3⟩=K4 (Y1 Q4 q):=by rw[<-bB];exact FR n6.i rfl at_ bS
   have bR:(at_:Int)<(x.kids.length:Int):=K5
   have d1:w6.cell? ⟨f.heap.size,3,K3⟩=some (X1 (K4 ⟨g,o,K3⟩) x.kids.length ci):=by rw[U.cell,aK.out];rfl
   have bZ:=(HM.out (Y1 Q4 q) ⟨d,aF⟩).2 d aF;rw[E] at d0;have HR:=nI (show (∃d,rX v.D used e d (Y1 Q4 q)) from⟨d,aF⟩);clear bB hq aF z aB O aT hD hl aJ V n6 U;go_wp2;refine⟨⟨HR.out,v4,m+1,h6,r,by omega,N6,A,bJ,aD⟩,?_⟩;omega
end
end
section
open Go Go.RowKit xq Go.Shelf
theorem sP:ZQ 129 5 1 1 (Y1 Q5 0):=⟨underlying129,by kernel_rfl,by kernel_rfl,by decide⟩
theorem IB (l:Y4):∀v∈l.map b8,v.oneCell'=true:=λv f=>by
 obtain⟨x,_,rfl⟩:=qR.1 f;rfl
theorem sJ {w:World}{B:Nat}{A:Y5}{c:Nat}{l:Y4}(h:qv w B A c l):yl w B 1 A l.length c (l.map b8) :=
 ⟨h.le,h.max,h.nil,by simp,IB l,λhl=>by
  obtain⟨g,o,q,r,hc⟩:=h.pO hl;refine⟨g,o,q,r,λj v f => ?_⟩;rw[mJ] at f;obtain⟨x,z,rfl⟩:=Option.map_eq_some_iff.1 f;obtain⟨u,rfl⟩:=qM.1 z
  exact hc j u⟩
theorem tj {ρ:nO->Value}{w:World}{o:nh}{x y:nO}(g:o.op=.call {callee:=.builtin .append,args:=#[x,y],argTypes:=#[129,9]})(h1:ρ x=X1 none 0 0)(h2:ρ y=X9 nX):(nQ ρ o).run Y3 w=.ok (.value (X1 none 0 0)) w:=by
 obtain⟨r,hi,j,h,q⟩:=info_parts Hy;have f:ByteArray.empty.size=0:=rfl;unfold nQ;simp only[g,resolve,invoke,builtin,gJ,ny,nc,zJ,zL,zN,h1,h2];simp[Builtin.append_,gK underlying129,gK underlying9,sizeOf,typeInfo,hi,h,Builtin.lenOf,Builtin.firstCells,f,nM]
theorem wO (b:Nat)(w:World)(f:za w b 241 #[Y9 none,X1 none 0 0]):nK Y3 157 #[Y9 b,X9 nX] w λe w'=>(∃z,e=Y0 z)/\za w' b 241 #[Y9 b,X1 none 0 0]/\ze (λk=>k=b) w w':=by
 have u:=Ps b w (by rw[f.cell];rfl) (by simp[lu,show w.heap[b]?=_ from f]) (f.free 0);have b1:=f.set 0 (Y9 b);have j:ze (λk=>k=b) w (w.setCell b (Y9 b)):=ze.setCell _ _ _ rfl;generalize A:w.setCell b (Y9 b)=g at *;have h:za g b 241 #[Y9 b,X1 none 0 0]:=b1;have c1:g.cell? ⟨b,1,K3⟩=some (X1 none 0 0):=by rw[h.cell];rfl
 have C:=h.free 1;have b2:za (g.setCell ⟨b,1,K3⟩ (X1 none 0 0)) b 241 #[Y9 b,X1 none 0 0]:=h.set 1 (X1 none 0 0);have q:ze (λk=>k=b) g (g.setCell ⟨b,1,K3⟩ (X1 none 0 0)):=ze.setCell _ _ _ rfl;have r:=j.trans q;clear A b1 f j q h
 go_enter func157,ntmps157
 go_wp2_with fail
 refine u.mono ?_;rintro e E ⟨rfl,rfl⟩
 go_wp2_with (at_builtin;refine zp rfl (tj rfl rfl rfl) ?_)
 go_ret2
 exact⟨⟨_,rfl⟩,b2,r⟩
theorem Cb (b:Nat)(w:World)(g:w.cell? b=K4 (Y9 b)):nK Y3 222 #[Y9 b] w λe w'=>e=Y0 (Q2 #[])/\w=w':=by
 obtain⟨j,f,h⟩:=Ep
 go_enter func222,ntmps222
 go_wp2;rw[Lib.run_neq_ptr_same w ⟨b,0,K3⟩ underlying239 f];simp only[nM];rw[Oper.upon_value];go_wp2;go_end0;exact⟨rfl,rfl⟩
def II (w:World)(b:Nat)(l:Y4)(W:World):Prop:=∃A c,za W b 241 #[Y9 b,X1 A l.length c]/\W.ownsRow w.heap.size 5 1 (X1 A l.length c) l.length ([]++l.map b8)
theorem wP (b:Nat)(w:World)(A:Y5)(c:Nat)(l:Y4)(g:za w b 241 #[Y9 b,X1 none 0 0])(I:yl w w.heap.size 1 A l.length c (l.map b8))(hl:l.length<=1000):nK Y3 159 #[Y9 b,X1 A l.length c] w λe w'=>(∃z,e=Y0 z)/\II w b l w'/\ze (λk=>k=b) w w':=by
 have E:=Cb b w (by rw[g.cell];rfl);have c1:w.cell? ⟨b,1,K3⟩=some (X1 none 0 0):=by rw[g.cell];rfl
 have O:=g.lt;have M:w.ownsRow w.heap.size 5 1 (X1 none 0 0) 0 []:=gU _ _ _ _
 go_enter func159,ntmps159
 go_wp2_with fail
 refine E.mono ?_;rintro e U ⟨rfl,rfl⟩;clear E
 go_wp2_with (first
  | (at_builtin;refine xg rfl sP _ _ rfl w.heap.size (X1 none 0 0) 0 [] rfl M _ A l.length c (l.map b8) rfl I (by unfold gP;omega) K5 (zG _) ?_;intro v' w3 h H
     obtain⟨f,c',N,_⟩:=qq h (by rw[zQ];exact IB l);subst N;have j:nH w.heap.size w w3:=zo H (zG _) (λr q=>by cases q);have b3:=g.below j O;have S:=b3.free 1
     have c3:w3.cell? ⟨b,1,K3⟩=some (X1 none 0 0):=by rw[b3.cell];rfl))
 have b4:za (w3.setCell ⟨b,1,K3⟩ (X1 f (0+l.length) c')) b 241 #[Y9 b,X1 f (0+l.length) c']:=b3.set 1 _;have C:ze (λk=>k=b) w3 (w3.setCell ⟨b,1,K3⟩ (X1 f (0+l.length) c')):=ze.setCell _ _ _ rfl;have u:(w3.setCell ⟨b,1,K3⟩ (X1 f (0+l.length) c')).ownsRow w.heap.size 5 1 (X1 f (0+l.length) c') (0+l.length) ([]++l.map b8):=qp h λr q=>Below.heap_setCell w3 ⟨b,1,K3⟩ _ r (λe=>by have:=zj h r q;simp at e;omega)
 have F:II w b l (w3.setCell ⟨b,1,K3⟩ (X1 f (0+l.length) c')):=by rw[qA] at b4 u ⊢;exact⟨_,_,b4,u⟩
 have G:ze (λk=>k=b) w (w3.setCell ⟨b,1,K3⟩ (X1 f (0+l.length) c')):=(ze.below j).trans C;rw[qA] at F G;clear u b4 C h H j I M
 go_ret2
 exact⟨⟨_,rfl⟩,F,G⟩
theorem RY (b:Nat)(w:World)(n:Int)(A:Y5)(c:Nat)(l:Y4)(g:za w b 241 #[Y9 b,X1 none 0 0])(h:yl w w.heap.size 1 A l.length c (l.map b8))(hl:l.length<=1000):nK Y3 158 #[Y1 Q4 n,X1 A l.length c,Y9 b] w λe w'=>(∃z,e=Y0 z)/\II w b l w'/\ze (λk=>k=b) w w':=by
 have f:=wP b w A c l g h hl;clear g h
 go_enter func158,ntmps158
 go_wp2_with fail
 refine f.mono ?_;rintro e j ⟨⟨z,rfl⟩,h1,h2⟩;clear f;go_wp2;go_end0;exact⟨⟨_,rfl⟩,h1,h2⟩
theorem rh {ρ:nO->Value}{w w':World}{o:nh}{x:nO}{T:nS}{u v:Value}(hc:o.op=.call {callee:=.builtin .unsafeSliceData,args:=#[x],argTypes:=#[T]})(g:ρ x=u)(f:(Builtin.unsafeSliceData_ #[T] o.type #[u]).run Y3 w=.ok v w'):(nQ ρ o).run Y3 w=.ok (.value v) w':=by
 unfold nQ;simp only[hc,resolve,invoke,builtin,gJ,ny,nc,zJ,zL,zN,g,f]
theorem rf {ρ:nO->Value}{w w':World}{o:nh}{x y:nO}{S T:nS}{u z v:Value}(hc:o.op=.call {callee:=.builtin .unsafeString,args:=#[x,y],argTypes:=#[S,T]})(g:ρ x=u)(h:ρ y=z)(f:(Builtin.unsafeString_ #[S,T] o.type #[u,z]).run Y3 w=.ok v w'):(nQ ρ o).run Y3 w=.ok (.value v) w':=by
 unfold nQ;simp only[hc,resolve,invoke,builtin,gJ,ny,nc,zJ,zL,zN,g,h,f]
theorem Xt (w:World)(g n:Nat):ze (λk=>k=g) w (w.freeze ⟨g,0,K3⟩ n):=by
 unfold World.freeze;split
 .exact ze.below (nF _ w)
 .exact⟨rfl,rfl,rfl,by simp,λk h f=>by
   simp only[Array.getElem?_modify]
   rw[if_neg (λe=>f e.symm)]⟩
theorem rK (b g f:Nat)(cur:Y7)(z:Value)(l:Y4)(w:World)(G:za w b 241 #[z,X1 g l.length f])(I:za w g 5 cur)(hc:l.length<=f)(O:f<=gP)(V:cur.size=f)(S:cur.toList.take l.length=l.map b8)(A:l≠[]):nK Y3 160 #[Y9 b] w λe w'=>e=Y0 (.string ⟨l.toArray⟩)/\ze (λk=>k=g) w w':=by
 have aA:l.length≠0:=by simpa using A
 have hd:za w.drew b 241 #[z,X1 g l.length f]:=G;have q:za w.drew g 5 cur:=I;have H:∀j x,l[j]?=some x->w.drew.cell? ((⟨g,0,none⟩:nN).add j)=K4 (Y1 Q5 x.toNat):=λj x U=>by
  rw[Addr.add_mid,qA,q.cell];have r:(cur.toList.take l.length)[j]?=some (b8 x):=by rw[S,mJ,U];rfl
  rw[yI] at r;split at r
  .simpa using r
  .cases r
 have E:=Lib.run_unsafeString_row w.drew 304 3 9 5 underlying304 DG.cellsByte g cur.size (by simp[lu,show w.drew.heap[g]?=_ from q]) l A K5 (by unfold gP at O;omega) H;have N:ze (λk=>k=g) w (w.drew.freeze ⟨g,0,K3⟩ l.length):=(ze.below (nF _ w).drew).trans (Xt _ _ _)
 go_enter func160,ntmps160
 go_wp2_with fail
 refine zb.st (λW:World=>za W b 241 #[z,X1 g l.length f]) 99 ?_;generalize w.drew=u at *;have C:∀W:World,(Builtin.unsafeSliceData_ #[129] 304 #[X1 g l.length f]).run Y3 W=.ok (Y9 g) W:=λW=>Lib.run_unsafeSliceData_row _ _ _ _ _ _ K5
 refine zb.q0 0 (Y9 b) hd ?_;refine zb.q0 1 (Y9 b) hd ?_;refine zb.q0 2 (Y9 (K4 ⟨b,1,K3⟩)) hd ?_;refine zb.t0 3 (X1 g l.length f) rfl hd (λW h=>by have M:W.cell? ⟨b,1,K3⟩=some (X1 g l.length f):=(by rw[h.cell];rfl);go_simp) ?_;simp only[Z8];refine zb.t0 4 (Y9 g) rfl hd (λW h=>by exact rh rfl rfl (C W)) ?_;refine zb.q0 5 (Y9 b) hd ?_;refine zb.q0 6 (Y9 b) hd ?_;refine zb.q0 7 (Y9 (K4 ⟨b,1,K3⟩)) hd ?_;refine zb.t0 8 (X1 g l.length f) rfl hd (λW h=>by have M:W.cell? ⟨b,1,K3⟩=some (X1 g l.length f):=(by rw[h.cell];rfl);go_simp) ?_;refine zb.q0 9 (Y1 Q4 (l.length:Int)) hd ?_;simp only[Z8];refine zb.n 10 (zb.opV (w':=u.freeze ⟨g,0,K3⟩ l.length) (.string ⟨l.toArray⟩) rfl rfl (rf rfl rfl rfl E) ⟨λ_ => ?_,?_⟩)
 .exact(Xt u g l.length).blk hd (λe=>by
   have e:b=g:=e;subst e
   exact zh hd q K7 rfl)
 simp only[Z8]
 refine zb.n 11 (zb.opV (w':=u.freeze ⟨g,0,K3⟩ l.length) (.string ⟨l.toArray⟩) rfl rfl K8 ⟨λ_=>(Xt u g l.length).blk hd (λe=>by
   have e:b=g:=e;subst e
   exact zh hd q K7 rfl),zb.dn ?_⟩)
 simp only[Z8];clear E H hd q C G I;go_wp2;go_ret;exact⟨rfl,N⟩
section
variable {W0 W W':World}{K:xB}{p t:Nat}{k:Int}{v v':yj}{st last:qj}{under:Bool}{mk:Value}{ms:List xo}
def rP (W0:World)(K:xB)(p t:Nat)(k:Int)(v:yj)(st last:qj)(under:Bool)(mk:Value)(ms:List xo)(W:World)(u:ByteArray)(x:mH)(w':World):Prop :=
 ∃v',x=.returned (X9 u)/\zy W0 K p t k v' st last under mk ms w'/\vH K v v' 1/\zz K W v v'/\ze (qi K p v) W w'
theorem Sk (h:zy W0 K p t k v st last under mk ms W)(hK:K.Ok)(hN:v.N<=790000)(n:Int)(hn:1<=n/\n<st.size)(hP:n<(K.P:Int))(hT:¬ jD K v.D)(u ky:ByteArray)(hu:60<u.size/\u.size<=400)(hD:v.D n=some (jz u)):nK Y3 100 #[Q0 #[Y9 t],Q0 (zl ⟨ky,nX,n,(u.size:Int)⟩).toArray] W (rP W0 K p t k v st last under mk ms W u):=by
 have a2:=h.up;obtain⟨W1,C⟩:=Z9 (((W.alloc (Q9 #[Y9 t] 92)).alloc (Q9 #[X9 ky,X9 nX,Y1 Q4 n,Y1 Q4 (u.size:Int)] 94)).alloc (Q9 #[Y9 none,X1 none 0 0] 241));have aG:nH W.heap.size W W1:=by rw[C];exact YK _ _ _ _
 have b2:za W1 W.heap.size 92 #[Y9 t]:=by rw[C];exact((za.new W _ _).alloc _).alloc _
 have b3:za W1 (W.heap.size+1) 94 #[X9 ky,X9 nX,Y1 Q4 n,Y1 Q4 (u.size:Int)]:=by have:=(za.new (W.alloc (Q9 #[Y9 t] 92)) 94 #[X9 ky,X9 nX,Y1 Q4 n,Y1 Q4 (u.size:Int)]).alloc (Q9 #[Y9 none,X1 none 0 0] 241);rw[nG] at this;rw[C];exact this
 have b5:za W1 (W.heap.size+1+1) 241 #[Y9 none,X1 none 0 0]:=by have:=za.new ((W.alloc (Q9 #[Y9 t] 92)).alloc (Q9 #[X9 ky,X9 nX,Y1 Q4 n,Y1 Q4 (u.size:Int)] 94)) 241 #[Y9 none,X1 none 0 0];rw[nG,nG] at this;rw[C];exact this
 have aY:W1.heap.size=W.heap.size+1+1+1:=by rw[C,nG,nG,nG]
 have h1:=h.grow aG;have aF:W1.cell? ⟨W.heap.size+1,1,K3⟩=some (X9 nX):=by rw[b3.cell];rfl
 rw[C] at aF;have aC:=wO (W.heap.size+1+1) W1 b5;have aM:=nI C.symm;clear C;unfold zl
 go_enter func100,ntmps100
 go_wp2_with fail
 rw[aM.out];refine aC.mono ?_;rintro x2 w2 ⟨⟨z2,rfl⟩,S,G⟩;have h2:=h1.pQ G b5 K7 (λm e=>by cases e) K5 K7;have aD:=G.blk b2 K5;have aE:=G.blk b3 K5;have aZ:=G.size;have aN:=aD.boxed;have aV:=h2.pP S K7;have O:=UF h2 hK K5 n hn hP hT u ky hu hD 158 (Y9 (W.heap.size+1+1:Nat)) (zb.eo func158)
  (λv1 w'=>XY K v v1/\zz K w2 v v1/\ze (λj=>qi K p v j\/j=W.heap.size+1+1) w2 w'/\∃q,zy W0 K p t k v1 st last under mk ms q/\za q (W.heap.size+1+1) 241 #[Y9 (W.heap.size+1+1:Nat),X1 none 0 0]/\ze (λk=>k=W.heap.size+1+1) q w'/\II q (W.heap.size+1+1) u.data.toList w')
  (λq v1 A I aR a0 H aT aQ=>by
   have E:=H.blk S aV;have M:u.data.toList.length=u.size:=zV;have HB:=RY (W.heap.size+1+1) q n A u.size u.data.toList E (sJ aQ) K5;rw[M] at HB
   exact HB.mono λe w' ⟨hz,aO,aH⟩=>⟨hz,aR,aT,(H.more (λj f _ => .inl f)).trans (aH.more (λj f _ => .inr f)),q,I,E,aH,aO⟩)
 have aL:=nI (h2.up);clear aC aF b2 b3 b5 h h1 h2 S;unfold zl at O
 go_wp2_with (first
  | (refine yp ql aE ?_))
 refine O.mono ?_;rintro x4 w4 ⟨⟨z,rfl⟩,v1,aS,aK,aI,q,I,E,H,A,c,U,own⟩;have M:u.data.toList.length=u.size:=zV;obtain⟨g,r,cur,e1,aX,aJ,aP,aB,aW,aA⟩:∃g r,∃cur:Y7,mN A u.data.toList.length c=X1 (K4 ⟨g,0,K3⟩) u.data.toList.length r/\q.heap.size<=g/\za w4 g 5 cur/\u.data.toList.length<=r/\r<=gP/\cur.size=r*1/\cur.toList.take (u.data.toList.length*1)=[]++u.data.toList.map b8:=by
  rcases own.2 with⟨_,h0⟩|⟨g,r,cur,e,hb,hg,hle,aB,hsz,htk⟩
  .omega
  .exact⟨g,r,cur,e,hb,hg,hle,aB,hsz,htk⟩
 rw[e1] at U;have HS:=rK (W.heap.size+1+1) g r cur _ u.data.toList w4 U aJ aP aB K5 (by rw[yJ,zQ] at aA;exact aA) (λe=>by rw[e] at M;simp at M;omega);have g4:ze (λj=>qi K p v j\/j=W.heap.size+1+1) W w4:=((ze.below aG (Mu:=λj=>qi K p v j\/j=W.heap.size+1+1)).trans (G.more λj f _ => .inr f)).trans aI;have N4:zz K W v v1:=aK.mono K5;clear O aI aK aE aD aN G own aA U aJ
 go_wp2_with fail
 refine HS.mono ?_;rintro x5 w5 ⟨rfl,V⟩;have F:rP W0 K p t k v st last under mk ms W u (.returned (X9 u)) w5:=by
  have a3:ze (λk=>k=W.heap.size+1+1) q w5:=by have a:ze (λk=>k=W.heap.size+1+1\/k=g) q w5:=(H.more λj f _ => .inl f).trans (V.more λj f _ => .inr f);exact⟨a.os,a.tape,a.output,a.size,λj f hm=>a.block j f (λe=>e.elim hm (λe=>by omega))⟩
  have a1:ze (qi K p v) W w5:=by
   have a:ze (λj=>(qi K p v j\/j=W.heap.size+1+1)\/j=g) W w5:=(g4.more λj f _ => .inl f).trans (V.more λj f _ => .inr f);have l3:=E.lt
   exact⟨a.os,a.tape,a.output,a.size,λj f hm=>a.block j f (λe=>by
    rcases e with(e|e)|e
    .exact hm e
    .omega
    .omega)⟩
  exact⟨v1,rfl,I.pQ a3 E K9 (λm e=>by cases e) (by have:=aL.out;omega) K7,aS.m,N4,a1⟩
 have aU:(⟨u.data.toList.toArray⟩:ByteArray)=u:=by simp
 rw[aU];clear HS V I E H g4 N4;go_wp2;go_ret;exact F
end
attribute [local go_sem] Oper.semAt_some
section
set_option maxRecDepth 100000
variable {F:Fence}{n:Nat}{w:World}{ops:Array nh}{rest:List nh}{o:nh}{a:Act}{Q:Exit->Act->World->Prop}
theorem IY (r:o.guard=none){x:nO}{l:Y4}(hl:l.length<=1000000)(f:o.op=.convert 9 129 x)(h1:a.eval x=.string (KQ l))
  (h:∀c w',qv w' w'.heap.size (K4 ⟨w.heap.size,0,K3⟩) c l->nH w.heap.size w w'->mx F n Y3 ops Q rest (a.put o.dst (X1 w.heap.size l.length c)) w'):mx F n Y3 ops Q (o::rest) a w:=by
 obtain⟨c,w',u,h2,g⟩:=tc (ρ:=a.eval) hl f h1;refine fH r λz j => ?_
 unfold Oper.wpIn;refine⟨by simp[eO,f],?_⟩;rw[lR F _ _ (by rw[f];intro c q;cases q),u];exact j _ _ (h c w' h2 g)
theorem LJ (A:o.guard=none)(x y:nO)(f:o.op=Op.makeSlice 129 x y)(base:Nat)(q j:IntKind)(m:Nat)(G:a.eval x=.int q (m:Int))(H:a.eval y=.int j (m:Int))(hn:m<=140737488355328)(u:base<=w.heap.size)
  (h:∀w',yY w' base (X1 w.heap.size m m) (zP m 0)->w.grownBy w' none->mx F n Y3 ops Q rest (a.put o.dst (X1 w.heap.size m m)) w'):mx F n Y3 ops Q (o::rest) a w:=by
 obtain⟨O,hi,I,M,N⟩:=info_parts Yy;obtain⟨w',E,g,C⟩:=run_make_full (P:=Y3) w base _ _ O (Y1 Q5 0) 1 underlying129 hi I M q j m (by rw[N];omega) (by unfold gP;omega) u;refine fH A λS r => ?_
 unfold Oper.wpIn;refine⟨by simp[eO,f],?_⟩;rw[lR F _ _ (by rw[f];intro c z;cases z)];simp[nQ,f,G,H,E,nM];refine r _ _ (h w' ?_ C);have e:(madeCells (fY .u8 0).cells (m*1)).toList=(zP m (0:UInt8)).map b8:=by rw[yJ,show (fY .u8 0).cells=#[Y1 Q5 0] from rfl,toList_madeCells_one];simp[b8]
 rw[e] at g;unfold yY;simpa using g
theorem Gd (C:o.guard=none)(d s:nO)(j:o.op=.call {callee:=.builtin .copy,args:=#[d,s],argTypes:=#[129,129]})
  (g off:Nat) (l src:Y4) (A:Y5) (c B f dCap:Nat) (hd:a.eval d=X1 (K4 ⟨g,off,K3⟩) f dCap) (hs:a.eval s=X1 A src.length c)
  {T:nS} (r:za w g T (l.map b8).toArray) (E:qv w B A c src) (z:off+f<=l.length)
  (h:mx F n Y3 ops Q rest (a.put o.dst (Y1 Q4 ((min src.length f:Nat):Int))) (w.setRow g ((yu l off f src).map b8).toArray)):mx F n Y3 ops Q (o::rest) a w:=by
 have G:=RD (dCap:=dCap) o.type r E z;refine fH C λH q => ?_
 unfold Oper.wpIn;refine⟨by simp[eO,j,resolve,Target.leads,ny],?_⟩;rw[lR F _ _ (by rw[j];intro c u;cases u)];unfold nQ;simp only[j,resolve,invoke,builtin,gJ,ny,nc,zJ,zL,zN,hd,hs,G];exact q _ _ h
end
section
variable {W0 W W' X Z:World}{K:xB}{p t:Nat}{k:Int}{v v':yj}{st last st' last':qj}{under:Bool}{mk mk':Value}{ms:List xo}{used free:List Int}{B:Nat}{row:Option Nat}
theorem zy.du (h:zy W0 K p t k v st last under mk ms W):K.r<W.heap.size:=by
 obtain⟨es,c,f,_⟩:=h.pa.ca.cs.ca.mp;exact f.lt
theorem zy.mlt (h:zy W0 K p t k v st last under mk ms W):∀x∈ms,x.m<W.heap.size:=λx f=>(h.mm.maps x f).1.lt
theorem zy.oU (h:zy W0 K p t k v st last under mk ms X)(hB:W0.heap.size<=B)(hK:K.r<B)(hm:∀x∈ms,x.m<B)(j:X.grownBy Z row)(E:∀r,row=some r->B<=r/\∃o:Obj,X.heap[r]?=some o/\o.isCells=false):zy W0 K p t k v st last under mk ms Z:=by
 have hc:∀r,row=some r->∃o:Obj,X.heap[r]?=some o/\o.isCells=false:=λr e=>(E r e).2
 have H:∀r,row=some r->B<=r:=λr e=>(E r e).1
 have hi:∀{A:Y5} {c:Nat} {l:Y4},qv X X.heap.size A c l->qv Z Z.heap.size A c l:=λh=>qv.pX (B:=B) _ _ _ () X Z row h j E
 refine⟨⟨⟨⟨⟨h.pa.ca.cs.fh.up.trans (zo j h.up (λr e=>zT hB (H r e))),h.pa.ca.cs.fh.fb.kept j hc⟩,?ca,h.pa.ca.cs.nb,λq u hu hl=>VI.pX (B:=B) _ () X Z row (h.pa.ca.cs.ty q u hu hl) j E⟩,h.pa.ca.ok,h.pa.ca.ro,h.pa.ca.cn⟩,h.pa.pb.kept j hc,h.pa.np,h.pa.hs,h.pa.hl⟩,⟨?row,λx I => ?maps⟩,h.tb.kept j hc⟩
 case ca =>
  have z:=h.pa.ca.cs.ca;obtain⟨es,c,aD,he,hs⟩:=z.mp;refine⟨z.cb.kept j hc,⟨es,c,aD.oL (B:=B) hK j H,he,hs⟩,λq u hu => ?_,z.inj,z.dM⟩;have C:=z.rows q u hu;exact⟨C.blk.kept j hc,C.key,hi C.px,C.len,C.om⟩
 case row =>
  obtain⟨A,c,e,h1,h2,G,hA⟩:=h.mm.row.has;refine⟨⟨A,c,e,h1,h2,G,λa O => ?_⟩,h.mm.row.dQ⟩;obtain⟨g,cur,N,aA,aB,aC⟩:=hA a O;exact⟨g,cur,N,aA,aB.kept j hc,aC⟩
 case maps =>
  obtain⟨h1,h2,G⟩:=h.mm.maps x I;obtain⟨es,M,f,h4,h5,h6,h7⟩:=h1.has;refine⟨⟨es,M,f,h4.oL (B:=B) (hm x I) j H,h5,h6,λq => ?_⟩,h2,G⟩;rcases h7 q with hn|⟨A,c,y,S,U,V,g4⟩
  .exact .inl hn
  .exact .inr ⟨A,c,y,S,U,V,hi g4⟩
theorem rJ {w W':World}{A:Y5}{len f:Nat}(h:(w.alloc (Q9 #[X1 A len f] 129)).alloc (Q9 #[Y1 Q4 508] 3)=W'):nH w.heap.size w W'/\W'.cell? w.heap.size=some (X1 A len f)/\W'.cell? (w.heap.size+1:Nat)=K4 (Y1 Q4 508)/\W'.heap.size=w.heap.size+2:=by
 subst h;refine⟨QU _ _ _,((za.new w 129 #[X1 A len f]).alloc _).boxed,?_,by simp[nG]⟩;have:=(za.new (w.alloc (Q9 #[X1 A len f] 129)) 3 #[Y1 Q4 508]).boxed
 rwa [nG] at this
theorem ze.oU {Mu:Nat->Prop}(h:ze Mu W X)(f:X.grownBy Z row)(u:∀r,row=some r->W.heap.size<=r):ze Mu W Z :=
 ⟨f.os.trans h.os,f.tape.trans h.tape,f.output.trans h.output,zT h.size f.size,λj g q=>(f.block j (zO g h.size) (λe=>by have:=u j e.symm;omega)).trans (h.block j g q)⟩
theorem yd.but {Mu U:Nat->Prop}(h:ze Mu W X)(g:∀k,Mu k->U k):yd U W X:=⟨h.size,λk o f hn=>(h.block k (zI.1 f).1 (λe=>hn (g k e))).trans f⟩
theorem BA {n x:Int}{y:Y4}(hF:si K v v' n y x)(h:zy W0 K p t k v st last under mk ms W)(g:¬ jD K v.D):x=0/\v'.D=λj=>if j=n then some y else v.D j:=by
 rcases hF.dd with f|⟨_,f,_⟩
 .exact f
 .exact absurd (h.pa.ca.tight f) g
theorem LV (u:ByteArray)(hu:u.size<=508):yu (yu (zP 512 0) 0 512 (qb 4 0)) 4 508 u.data.toList=jz u:=by
 have h2:u.data.toList.length=u.size:=zV;have f:yu (zP 512 (0:UInt8)) 0 512 (qb 4 0)=[0,0,0,0]++zP 508 0:=by decide +kernel
 rw[f];unfold yu jz;rw[qE (by omega:u.data.toList.length<=508)];have g:([0,0,0,0]++zP 508 (0:UInt8)).take 4=[0,0,0,0]:=by decide +kernel
 rw[g,show min u.data.toList.length 508=u.size by omega,List.drop_append,List.drop_of_length_le K9,List.drop_replicate];simp only[zQ,zK,zY];rw[show 508-(4+u.size-(0+1+1+1+1))=508-u.size by omega]
structure se (K:xB)(v:yj)(st:qj)(used:List Int)(e:qw)(c:xG)(pc:List Int)(v':yj)(st':qj)(free':List Int):Prop where
 is:xP v'.D c e pc
 pl:xd K v'.D st' (pc++used) free'
 dd:∀a∈used,v'.D a=v.D a
 nn:v'.N<=v.N+6
 rt:st'.roots=st.roots
structure sd (W0:World)(K:xB)(p t:Nat)(k:Int)(v:yj)(st last:qj)(mk:Value)(ms:List xo)(W:World)(q3 q6 q7:Nat)(ky u:ByteArray)(A:Y5)(V:World):Prop where
 at_:zy W0 K p t k v st last true mk ms V
 b3:za V q3 92 #[Y9 t]
 b6:za V q6 94 (zl XF).toArray
 b7:za V q7 94 #[X9 ky,X9 ⟨#[]⟩,Y1 Q4 0,Y1 Q4 (u.size:Int)]
 row:qv V V.heap.size A u.size u.data.toList
 gb:ze (qi K p v) W V
structure sf (W0:World)(K:xB)(p t:Nat)(k:Int)(v:yj)(st last:qj)(mk:Value)(ms:List xo)(W:World)(q6 q7:Nat)(used:List Int)(ky u:ByteArray)(V:World):Prop where
 has:∃n v' st' free',se K v st used (ky,u) ⟨ky,nX,n,(u.size:Int)⟩ [n] v' st' free'/\zy W0 K p t k v' st' last true mk ms V/\za V q7 94 #[X9 ky,X9 ⟨#[]⟩,Y1 Q4 n,Y1 Q4 (u.size:Int)]/\zz K W v v'
 b6:za V q6 94 (zl XF).toArray
 gb:ze (qi K p v) W V
def pK (W0:World)(K:xB)(p t:Nat)(k:Int)(v:yj)(st last:qj)(mk:Value)(ms:List xo)(W:World)(q3 q6 q7:Nat)(used:List Int)(ky u:ByteArray)(A:Y5)(s:List Unit)(U:Nat->Prop)(V:World):Prop :=
 (s=[]/\(∀j,U j↔qi K p v j\/j=q7)/\sd W0 K p t k v st last mk ms W q3 q6 q7 ky u A V)\/(s=[()]/\(∀j,¬ U j)/\sf W0 K p t k v st last mk ms W q6 q7 used ky u V)
theorem Dm (m:Nat)(hm:10<=m)(h:zy W0 K p t k v st last true mk ms W)(hK:K.Ok)(hN:v.N<=690000)(hp:xd K v.D st used free)(S:(used.length:Int)+1<K.pg)(ky u:ByteArray)(cM:ky.size<=81)(cU:60<u.size)(cV:u.size<=400):CallsIn Fence.wide m Y3 46 #[Q0 #[Y9 t],X9 ky,X9 u] W λe w'=>∃c pc v' st' b9,e=Y0 (Q0 (zl c).toArray)/\se K v st used (ky,u) c pc v' st' b9/\zy W0 K p t k v' st' last true mk ms w'/\zz K W v v'/\ze (qi K p v) W w':=by
 have d9:=h.up;have cD:1<=m:=K5
 have dB:=hK.hP;have dC:=hK.P2;have d8:¬ (u.size:Int)<=60:=K5
 have bV:u.data.toList.length=u.size:=zV;obtain⟨W1,O⟩:=Z9 (((W.alloc (Q9 #[Y9 t] 92)).alloc (Q9 (zl XF).toArray 94)).alloc (Q9 (zl XF).toArray 94));have bE:nH W.heap.size W W1:=by rw[O];exact YK _ _ _ _
 have b3:za W1 W.heap.size 92 #[Y9 t]:=by rw[O];exact((za.new W _ _).alloc _).alloc _
 have b6:za W1 (W.heap.size+1) 94 (zl XF).toArray:=by have:=(za.new (W.alloc (Q9 #[Y9 t] 92)) 94 (zl XF).toArray).alloc (Q9 (zl XF).toArray 94);rw[nG] at this;rw[O];exact this
 have b7:za W1 (W.heap.size+1+1) 94 (zl XF).toArray:=by have:=za.new ((W.alloc (Q9 #[Y9 t] 92)).alloc (Q9 (zl XF).toArray 94)) 94 (zl XF).toArray;rw[nG,nG] at this;rw[O];exact this
 have d3:W1.heap.size=W.heap.size+1+1+1:=by rw[O,nG,nG,nG]
 have aH:nH W.heap.size W (W1.setRow (W.heap.size+1+1) #[X9 ky,X9 ⟨#[]⟩,Y1 Q4 0,Y1 Q4 (u.size:Int)]):=zf bE K5 _;have aE:=b7.setRow #[X9 ky,X9 ⟨#[]⟩,Y1 Q4 0,Y1 Q4 (u.size:Int)];have aL:=b3.pN (by omega:W.heap.size≠W.heap.size+1+1) #[X9 ky,X9 ⟨#[]⟩,Y1 Q4 0,Y1 Q4 (u.size:Int)];have aM:=b6.pN (by omega:W.heap.size+1≠W.heap.size+1+1) #[X9 ky,X9 ⟨#[]⟩,Y1 Q4 0,Y1 Q4 (u.size:Int)];generalize bH:W1.setRow (W.heap.size+1+1) #[X9 ky,X9 ⟨#[]⟩,Y1 Q4 0,Y1 Q4 (u.size:Int)]=C at *;have h2:=h.grow aH;have bY:=nI (show Value.string u=.string (KQ u.data.toList) by rw[<-VS]);have a7:=nI O.symm;have a8:=nI bH;have d0:=aE.lt;clear O bH h b3 b6;refine callsIn_of_wp_marks func46 rfl trivial ?_ rfl;simp only[ntmps46,zR,zK,zY,yB,yC,qC,qD,qO,qG,zQ,zW]
 gi_wp2_with (first
  |(refine QG rfl _ rfl (Xd rfl) ?_;simp only[nG,nJ,zA,zE,zF])
  |(rw[a7.out];refine jj rfl 94 (.tmp 7) (.tmp 21) rfl (W.heap.size+1+1) rfl rfl ql b7 rfl rfl (zw rfl rfl rfl rfl) ?_;rw[a8.out])
  |(refine IY rfl (l:=u.data.toList) K5 rfl bY.out ?_;rw[bV];intro c3 W3 aJ aO)
  |(refine⟨trivial,?_⟩;gi_at_call 81;refine(CY _ _ _ _ _).mono ?_;rintro e W5 ⟨rfl,bI⟩;obtain⟨aP,k1,k2,bU⟩:=rJ bI;have dP:=aJ.le;have d1:=aJ.max)
  |(refine⟨trivial,?_⟩;gi_at_call 80;refine(MQ _ K5 W5 W3.heap.size (W3.heap.size+1) C.heap.size 0 c3 u.size K5 K5 K5 K5 K5 K5 k1 k2).mono ?_;rintro e W6 ⟨A6,c6,rfl,a0,G⟩)
  |(refine⟨trivial,?_⟩;gi_at_call 79;refine(wQ _ _ _ _ _).mono ?_;rintro e W7 ⟨rfl,aW⟩)
  | (refine⟨trivial,?_⟩;fail_if_success (refine callsIn_wide.2 ?_)))
 obtain⟨g6,o6,rfl,aY,bT⟩:=a0.pO K5;have bM:W6.cell? ⟨g6,o6,K3⟩=some (X1 C.heap.size u.size u.size):=by simpa using bT 0 _ rfl
 have I:nH W6.heap.size W6 W7:=by rw[<-aW];exact vo _ _
 have kb:za W7 W6.heap.size 142 #[X1 (K4 ⟨g6,o6,K3⟩) 1 c6]:=by rw[<-aW];exact za.new _ _ _
 have cR:=aO.size;have d5:=G.size;have dQ:=kb.lt;have M:nH C.heap.size C W7:=((aO.trans (aP.mono cR)).trans (G.mono K5)).trans (I.mono K5);have aR:nH W3.heap.size W3 W7:=(aP.trans (G.mono K5)).trans (I.mono K5);have h7:=h2.grow M;have bO:=h2.mlt;have cN:=h2.oE;have d2:=h2.du;have cT:=aH.size;have d4:=M.size;have q3:=aL.below M aL.lt;have q6:=aM.below M aM.lt;have q7:=aE.below M aE.lt;have a1:qv W7 W7.heap.size (K4 ⟨C.heap.size,0,K3⟩) u.size u.data.toList:=by have:=(aJ.below aR).more aR.size;exact⟨by omega,by omega,(λe=>by cases e),this.pO⟩
 have G7:ze (qi K p v) W W7:=ze.below (aH.trans (M.mono cT));have HS:=Pt (m-1) K5 W6.heap.size g6 o6 c6 (X1 C.heap.size u.size u.size) rfl a0.le W7 K5 K5 kb.boxed ((I.cell (p:=⟨g6,o6,K3⟩) aY).trans bM);clear aW bI M aR I G aP aO kb bM bT a0 aJ k1 k2 aL aM aE b7 h2 aH bE a7 a8;refine jF rfl cD (gf:=130) (lb:=#[Y9 W6.heap.size]) rfl trivial (zb.eo func130)
  HS (nF _ _) (λ_=>rfl) (λj=>qi K p v j\/j=W.heap.size+1+1) trivial
  (pK W0 K p t k v st last mk ms W W.heap.size (W.heap.size+1) (W.heap.size+1+1) used ky u (K4 ⟨C.heap.size,0,K3⟩)) (λ_ _ _ _=>False) ?st (λ_ _ _ _ _ _ h _ _=>h) ?lts ?ownR
  (.inl ⟨rfl,λ_=>Iff.rfl,h7,q3,q6,q7,a1,G7⟩) ?act ?assign ?body ?done ?stop
 case st =>
  intro s U X0 Y row h A S;have hc:∀r,row=some r->∃o:Obj,X0.heap[r]?=some o/\o.isCells=false:=λr e=>(S r e).2
  have bL:∀r,row=some r->W.heap.size<=r:=λr e=>by have:=(S r e).1;omega
  have bP:∀x∈ms,x.m<W7.heap.size:=λx hx=>by have:=bO x hx;omega
  rcases h with⟨e,q,f⟩|⟨e,q,E⟩
  .exact .inl ⟨e,q,f.at_.oU (B:=W7.heap.size) K5 K5 bP A S,f.b3.kept A hc,f.b6.kept A hc,f.b7.kept A hc,qv.pX (B:=W7.heap.size) _ _ _ () X0 Y row f.row A S,f.gb.oU A bL⟩
  .obtain⟨n,v1,a6,aN,aU,aV,aX,a3⟩:=E.has;exact .inr ⟨e,q,⟨n,v1,a6,aN,aU,aV.oU (B:=W7.heap.size) K5 K5 bP A S,aX.kept A hc,a3⟩,E.b6.kept A hc,E.gb.oU A bL⟩
 case lts =>
  rintro s U X0 (⟨_,q,f⟩|⟨_,q,_⟩) j z
  .rcases(q j).1 z with e|e
   .exact f.at_.oE j e
   .rw[e];exact f.b7.lt
  .exact absurd z (q j)
 case ownR=>exact λc0 x _ X0 Y row h _ _=>h
 case assign =>
  intro l1 x V K0 aT
  gi_wp2
  exact aT
 case body =>
  rintro l1 c0 x U V h rfl;obtain⟨q,f⟩:(∀j,U j↔qi K p v j\/j=W.heap.size+1+1)/\sd W0 K p t k v st last mk ms W W.heap.size (W.heap.size+1) (W.heap.size+1+1) ky u (K4 ⟨C.heap.size,0,K3⟩) V:=by
   rcases h with⟨_,q,f⟩|⟨e,_⟩
   .exact⟨q,f⟩
   .cases e
  have hV:=f.at_;have HM:=Yb hV hK K5 hp S;have c3:=f.b3.boxed;have n3:=hV.pP f.b3 K7;have n6:=hV.pP f.b6 K7;have n7:=hV.pP f.b7 K7;have HF:∀W,nK Y3 82 #[Y1 Q7 0] W (yV W (qb 4 0)):=λW=>xt 0 W
  have dE:∀w:World,(convert 3 148 (Y1 Q4 0)).run Y3 w=.ok (Y1 Q7 0) w:=λw=>Qt 0 K5 w
  have dA:1<=m-1-1:=K5
  have hG:=f.gb
  gi_wp2_with (first
   |(refine⟨trivial,?_⟩;gi_at_call 49;refine(fJ l1 (callsIn_wide.2 HM)).mono ?_;rintro e w5 ⟨n,v5,c1,cA,rfl,h5,a2,aK,bS,cP,bR,aB⟩;have a9:=aB.blk f.b3 n3;have bA:=aB.blk f.b6 n6;have aF:=aB.blk f.b7 n7;have cQ:=aB.inB f.row (λg o e _ hm=>by injection e with e;injection e with e;have:=cN g hm;omega);have a4:=aK.pZ n K9;have d7:=aK.sz;have bX:=nI bS;clear bS HM)
   |(refine LJ rfl _ _ rfl w5.heap.size .i64 .i64 512 rfl rfl K5 (zG _) ?_;intro w6 cY aY;have G:nH w5.heap.size w5 w6:=zo aY (zG _) (λr e=>by cases e);have aC:za w6 w5.heap.size 5 ((zP 512 0).map b8).toArray:=(yY.blk (l:=zP 512 0) (by simpa using cY)).1;have b4:=aF.below G aF.lt;have c5:w6.cell? ⟨W.heap.size+1+1,2,K3⟩=K4 (Y1 Q4 0):=by rw[b4.cell];rfl)
   |(refine⟨trivial,?_⟩;gi_at_call 82;refine(fJ l1 (callsIn_wide.2 (HF _))).mono ?_;rintro e w7 ⟨v7,rfl,cZ,I⟩;obtain⟨A7,c7,rfl,a1⟩:=cZ.inB;have bJ:=aC.below I aC.lt;have cE:=G.trans (I.mono G.size))
   |(refine Gd rfl (.tmp 32) (.tmp 36) rfl w5.heap.size 0 (zP 512 0) (qb 4 0) A7 c7 _ 512 512 rfl rfl bJ a1 K9 ?_;have bK:=bJ.setRow ((yu (zP 512 0) 0 512 (qb 4 0)).map b8).toArray;have aQ:=zf cE (zG _) ((yu (zP 512 0) 0 512 (qb 4 0)).map b8).toArray;generalize w7.setRow w5.heap.size ((yu (zP 512 0) 0 512 (qb 4 0)).map b8).toArray=w8 at *)
   |(refine Gd rfl (.tmp 39) (.tmp 40) rfl w5.heap.size 4 (yu (zP 512 0) 0 512 (qb 4 0)) u.data.toList (K4 ⟨C.heap.size,0,K3⟩) u.size w8.heap.size 508 508 rfl (by rw[bV];rfl) bK ((cQ.below aQ).more aQ.size) (by decide +kernel) ?_;rw[LV u K5];have cL:=bK.setRow ((jz u).map b8).toArray;have aA:=zf aQ (zG _) ((jz u).map b8).toArray;generalize w8.setRow w5.heap.size ((jz u).map b8).toArray=w9 at *;have h9:=h5.grow aA;have b0:=a9.below aA a9.lt;have c4:=b0.boxed;have c2:=h9.tp;have bC:=aF.below aA aF.lt;have bB:=bA.below aA bA.lt;have bW:=RZ (u:=u) K5;have bN:=cL.dT K5;rw[bW] at bN;have HW:=Yw h9.pa hK (by have:=a2.nn;omega) n ⟨a4.1,a4.2⟩ K5 (K4 ⟨w5.heap.size,0,K3⟩) 512 (jz u) bW bN;have cX:=h9.pP bC K7;have cW:=h9.pP bB K7)
   |(refine⟨trivial,?_⟩;gi_at_call 83;refine(fJ l1 (callsIn_wide.2 HW)).mono ?_;rintro e w10 ⟨xe,v10,rfl,cO,bF,bQ,aI⟩;obtain⟨rfl,aS⟩:=BA bF h9 (aK.loose hK);have cB:=h9.pS cO (KE aI) bQ;have aG:=aI.blk bC (λe=>cX (.inr e));have c9:=aG.free 2;have c8:w10.cell? ⟨W.heap.size+1+1,2,K3⟩=K4 (Y1 Q4 0):=by rw[aG.cell];rfl)
   |(refine⟨trivial,?_⟩;gi_at_call 51;refine(fJ l1 (callsIn_wide.2 (kA _))).mono ?_;rintro e eA ⟨⟨_,rfl⟩,rfl⟩)
   | (refine⟨trivial,?_⟩;fail_if_success (refine callsIn_wide.2 ?_)))
  have b1:=aI.blk bB (λe=>cW (.inr e));have bU:=aB.size;have cS:=aA.size;have H:ze (λj=>j=W.heap.size+1+1) w10 (w10.setCell ⟨W.heap.size+1+1,2,K3⟩ (Y1 Q4 n)):=ze.setCell _ _ _ rfl;have cC:=cB.pQ H aG K9 (λm e=>by cases e) K5 K7;have b5:=aG.set 2 (Y1 Q4 n);have b2:=H.blk b1 K5;have bZ:zz K V v v10:=bR.trans (bQ.mono cS) bU;have bD:ze (qi K p v) V w10:=(KE aI).fresh (aB.trans (ze.below aA)) bR K5;have gW:=hG.trans bD;have cF:∀a∈used,v10.D a=v.D a:=λa ha=>by
   have:a≠n:=λe=>bX.out (e▸ha)
   rw[aS,a2.dd];simp[this]
  refine⟨λ_=>False,λj z=>z.elim,(yd.but bD (λj z=>(q j).2 (.inl z))).trans (yd.setCell _ _ _ ((q _).2 (.inr rfl))),.inr ⟨rfl,λj z=>z,⟨n,v10,c1,cA,⟨⟨rfl,cM,.inr ⟨rfl,rfl,rfl,cU,cV,a4.1,by show n<=2000;omega,by rw[aS];simp⟩⟩,by rw[aS];exact aK.put K9 _,cF,by have:=a2.nn;have:=bF.nn;omega,cP⟩,cC,b5,bZ.mono hG.size⟩,b2,⟨H.os.trans gW.os,H.tape.trans gW.tape,H.output.trans gW.output,zT gW.size H.size,λj z hm=>(H.block j (by have:=gW.size;omega) K5).trans (gW.block j z hm)⟩⟩⟩
 case done =>
  rintro D xs U V hD cG h aT;obtain⟨E⟩:Nonempty (sf W0 K p t k v st last mk ms W (W.heap.size+1) (W.heap.size+1+1) used ky u V):=by
   rcases h with⟨e,_⟩|⟨_,_,E⟩
   .rw[cG] at e;cases e
   .exact⟨E⟩
  obtain⟨n,v1,a6,aN,aU,aV,aX,a3⟩:=E.has;have aC:=E.b6;have aD:=E.gb;have dM:=aD.size;have gs:=qm V (W.heap.size+1) #[X9 ky,X9 ⟨#[]⟩,Y1 Q4 n,Y1 Q4 (u.size:Int)];have cH:=aV.pQ gs aC K7 (λm e=>by cases e) K5 K7;have cJ:=aC.setRow #[X9 ky,X9 ⟨#[]⟩,Y1 Q4 n,Y1 Q4 (u.size:Int)]
  gi_wp2_with (first
   |(refine Qw rfl 94 (.tmp 7) rfl (Qa ql aX rfl rfl rfl) ?_)
   | (refine jj rfl 94 (.tmp 6) (.tmp 53) rfl (W.heap.size+1) rfl rfl ql aC rfl rfl (zw rfl rfl rfl rfl) ?_))
  have d6:(V.setRow (W.heap.size+1) #[X9 ky,X9 ⟨#[]⟩,Y1 Q4 n,Y1 Q4 (u.size:Int)]).heap.size=V.heap.size:=by simp[gM]
  have bG:(V.setRow (W.heap.size+1) #[X9 ky,X9 ⟨#[]⟩,Y1 Q4 n,Y1 Q4 (u.size:Int)]).heap[D]?=some (.deferred (some [])):=(ng _ _ D _ K5).trans aT;have g2:ze (qi K p v) W (V.setRow (W.heap.size+1) #[X9 ky,X9 ⟨#[]⟩,Y1 Q4 n,Y1 Q4 (u.size:Int)]):=⟨aD.os,aD.tape,aD.output,by omega,λj z hm=>(ng _ _ j _ K5).trans (aD.block j z hm)⟩;generalize V.setRow (W.heap.size+1) #[X9 ky,X9 ⟨#[]⟩,Y1 Q4 n,Y1 Q4 (u.size:Int)]=Y at *;have aZ:=grownBy_putObj' Y D (.deferred none);have a5:∀r,some D=some r->W7.heap.size<=r/\∃o:Obj,Y.heap[r]?=some o/\o.isCells=false:=λr e=>by injection e with e;subst e;exact⟨hD,_,bG,rfl⟩
  have cI:=cH.oU (B:=W7.heap.size) K5 K5 (λx hx=>by have:=bO x hx;omega) aZ a5;have cK:=cJ.kept aZ (λr e=>(a5 r e).2);refine⟨by simp,.inl ⟨D,_,rfl,run_takeDeferred bG,?_⟩⟩;exact⟨_,yg rfl (yx (g:=W.heap.size+1) 6 rfl ql cK rfl),⟨ky,nX,n,(u.size:Int)⟩,[n],v1,a6,aN,rfl,aU,cI,a3,g2.oU aZ (λr e=>by have:=(a5 r e).1;omega)⟩
 case stop=>exact λ_ _ _ _ _ _ _ h _=>h.elim
theorem Md (h:zy W0 K p t k v st last true mk ms W)(z:K.Ok)(A:v.N<=690000)(q:xd K v.D st used free)(E:(used.length:Int)+1<K.pg)(ky u:ByteArray)(j:ky.size<=81)(hu:u.size<=400):nK Y3 46 #[Q0 #[Y9 t],X9 ky,X9 u] W λe w'=>∃c f v' st' g,e=Y0 (Q0 (zl c).toArray)/\xP v'.D c (ky,u) f/\xd K v'.D st' (f++used) g/\(∀a∈used,v'.D a=v.D a)/\v'.N<=v.N+6/\st'.roots=st.roots/\zy W0 K p t k v' st' last true mk ms w'/\zz K W v v'/\ze (qi K p v) W w':=by
 by_cases hs:u.size<=60
 .refine(Sr W _ ky u hs).mono ?_;rintro e w' ⟨rfl,hB⟩;exact⟨⟨ky,u,0,0⟩,[],v,st,free,rfl,⟨rfl,j,.inl ⟨rfl,rfl,rfl,hs,rfl⟩⟩,q,λ_ _=>rfl,by omega,rfl,h.grow hB,λk C => .inl C,ze.below hB⟩
 .refine(callsIn_wide.1 (Dm 10 (zG _) h z A q E ky u j K5 hu)).mono ?_;rintro e w' ⟨c,f,v',st',g,rfl,hP,ht,hn,r⟩;exact⟨c,f,v',st',g,rfl,hP.is,hP.pl,hP.dd,hP.nn,hP.rt,ht,hn,r⟩
end
end
section
open Go Go.RowKit xq
theorem SQ {ρ:nO->Value}{w:World}{o:nh}{x:nO}{m:xG}{C:Y7}(f:C=(zl m).toArray)(g:o.op=.buildSlice 65 1 #[(0,x)])(h1:ρ x=Q0 C):(nQ ρ o).run Y3 w=.ok (.value (X1 w.heap.size 1 1)) (w.alloc (Q9 C 94)):=by
 subst f;exact Vx m g h1
section
variable {W0 W W':World}{K:xB}{p t:Nat}{v v':yj}{st last st' last':qj}{mk mk':Value}{ms:List xo}
def tE (W0:World)(K:xB)(p t:Nat)(last:qj)(mk:Value)(ms:List xo)(v:yj)(W:World)(es:List qw)(e:mH)(w':World):Prop :=
 ∃v' st',(∃z,e=Y0 z)/\zy W0 K p t 0 v' st' last true mk ms w'/\xu K v'.D st' es/\v'.N<=v.N+800/\zz K W v v'/\ze (qi K p v) W w'
theorem NI (h:zy W0 K p t 0 v st last true mk ms W)(hK:K.Ok)(aQ:450<=K.pg)(hN:v.N<=500000){es:List qw}(hs:zu es)(bE:es.length<=60){used free ps:List Int}{n:Int}{d:Nat}{x:ym}(hp:xd K v.D st used free)(h0:st.roots[0]?=some n)(hu:used.Perm (n::ps))(hD:v.D n=some (xx x))(hl:(qg x).length<=512)(hx:yU v.D d x es ps)
  (ky u:ByteArray) (bC:ky.size<=81) (bH:u.size<=400) {q1 q2:Nat} (b1:za W q1 9 #[X9 ky]) (b2:za W q2 9 #[X9 u]) :
  nK Y3 44 #[Q0 #[Y9 t],Y9 q1,Y9 q2] W (tE W0 K p t last mk ms v W (putE es (ky,u))):=by
 have bT:=hp.pZ n (yH _ (hu.mem_iff.2 K9));have bO:=hx.ov;have bW:used.length=1+ps.length:=by rw[hu.length_eq];simp;omega
 obtain⟨W1,aT,q,b3⟩:=Qp W 92 #[Y9 t];have h1:=h.grow q;have HR:=Ya h1 (i:=0) rfl h0;have aB:=b1.below q b1.lt;have aC:=b2.below q b2.lt;have bG:=q.size;have a7:=nI aT.symm;clear aT h b1 b2
 go_enter func44,ntmps44
 go_wp2_with fail
 rw[a7.out];refine HR.mono ?_;rintro e w2 ⟨rfl,r⟩;have U:=b3.below r b3.lt;have aL:=aB.below r aB.lt;have aM:=aC.below r aC.lt;have h2:=h1.grow r;have c3:=U.boxed;have c1:=aL.boxed;have c2:=aM.boxed;have bI:=h2.pP U K7;have aG:nH W.heap.size W w2:=q.trans (r.mono bG);clear HR h1 b3 aB aC
 go_wp2_with fail
 refine(Md h2 hK K5 hp K5 ky u bC bH).mono ?_;rintro e f ⟨c,pc,v3,a5,bA,rfl,aW,a1,aI,bP,a3,h3,aY,aH⟩;have E:=aH.blk U bI;obtain⟨C,M⟩:=Z9 ((zl c).toArray);have aP:C.size=4:=by rw[M];rfl
 have bB:∀u∈C.toList,u.oneCell'=true:=by rw[M];exact zw rfl rfl rfl rfl
 rw[<-M];obtain⟨W4,aU,aO,aN⟩:=Qp f 94 #[X9 ⟨#[]⟩,X9 ⟨#[]⟩,Y1 Q4 0,Y1 Q4 0];have H:nH f.heap.size f (W4.setRow f.heap.size C):=zf aO (zG _) _;have aE:=aN.setRow C;generalize aV:W4.setRow f.heap.size C=w5 at *;have I:nH w5.heap.size w5 w5.drew:=(nF _ _).drew;have V:=(h3.grow H).grow I;have aD:=(E.below H E.lt).below I (E.below H E.lt).lt;have aF:=aE.below I aE.lt;have g5:ze (qi K p v) W w5.drew:=(((ze.below aG).trans aH).trans (ze.below H)).trans (ze.below I);have N5:zz K W v v3:=aY.mono aG.size;have aX:∀a∈ps,v3.D a=v.D a:=λa ha=>aI a (hu.mem_iff.2 (by simp[ha]))
 have S:=Eg hK aQ (uP hK) d v3 a5 w5.drew (pc++used) bA n x es ps pc [] c (ky,u) V a1 (by
  rw[qW,mz];intro a;have:=List.perm_iff_count.1 hu a;simp only[ll,lI] at this ⊢
  omega) ((aI n (hu.mem_iff.2 K9)).trans hD) hl (hx.pR aX) hs aW K5 bE (by simp;omega) trivial
 unfold XE at S;rw[<-M] at S;have g:za w5.drew W.heap.size 92 #[Y9 t]/\za w5.drew f.heap.size 94 C:=⟨aD,aF⟩;have bJ:=V.pP aD K7;have bK:=V.pP aF K7;have a6:=nI (a3▸h0:a5.roots[0]?=some n);have a8:=nI aU.symm;have a9:=nI aV;clear aU aV h2 h3 U E aL aM c1 c2 c3 q r aO H hx I aH aY hp hD aI aX aW a1 h0 a3 hu M aG
 go_wp2_with (first
  | (rw[a8.out];refine vC ql aN aP bB ?_;rw[a9.out]))
 refine zb.st (λW':World=>za W' W.heap.size 92 #[Y9 t]/\za W' f.heap.size 94 C) 99 ?_;generalize w5.drew=wd at *;refine zb.t0 0 (Q0 #[Y9 t]) rfl g (λW ⟨j,G⟩=>by exact Qa Xk j rfl rfl rfl) ?_;refine zb.q0 1 (Y1 Q4 n) g ?_;simp only[Z8];refine zb.t0 2 (Q0 #[Y9 t]) rfl g (λW ⟨j,G⟩=>by exact Qa Xk j rfl rfl rfl) ?_;refine zb.q0 3 (Y1 Q4 n) g ?_;simp only[Z8];refine zb.t0 4 (Q0 C) rfl g (λW ⟨j,G⟩=>by exact Qb ql G aP rfl rfl) ?_;simp only[Z8];refine zb.n 5 ?_;refine zb.oC 48 #[.tmp 17,.tmp 18,.tmp 19] #[92,3,94] #[Q0 #[Y9 t],Y1 Q4 n,Q0 C] (S.mono ?_) (zb.eo func48);rintro e w6 ⟨z,v6,bX,Ac,cc,Ak,ck,Ai,ci,rfl,⟨bY,bN,bL,a2,aJ,a4,bD,_,bQ,bF⟩,Z6,_,h6,aZ,O⟩;have A:za w6 W.heap.size 92 #[Y9 t]/\za w6 f.heap.size 94 C:=⟨O.blk g.1 bJ,O.blk g.2 bK⟩;have bS:=ZZ es (ky,u);have aK:=LZ h6 hK aQ K5 a2 n (ps:=bL) (by rw[qW] at aJ;exact aJ) (by rw[bF];exact a6.out) a4 (hs.dG _) K5 bD Z6;refine⟨_,rfl,λ_=>A,?_⟩;simp only[Z8];refine zb.n 6 ?_;refine zb.oC 47 #[.tmp 15,.tmp 16,.tmp 20] #[92,3,69] #[Q0 #[Y9 t],Y1 Q4 n,Q0 (zx z Ac cc Ak ck Ai ci)] (aK.mono ?_) (zb.eo func47);rintro e w7 ⟨v7,bM,⟨uz,rfl⟩,aS,bR,h7,a0,aA⟩;have aR:za w7 W.heap.size 92 #[Y9 t]/\za w7 f.heap.size 94 C:=⟨aA.blk A.1 (h6.pP A.1 K7),aA.blk A.2 (h6.pP A.2 K7)⟩;refine⟨_,rfl,λ_=>aR,zb.dn ?_⟩;simp only[Z8];have bU:=O.size;have bV:=g5.size;have N6:zz K W v v6:=N5.trans aZ K5;have F:tE W0 K p t last mk ms v W (putE es (ky,u)) (.returned (Q2 #[])) w7:=⟨v7,bM,⟨_,rfl⟩,h7,aS,by omega,N6.trans a0 K5,aA.fresh (O.fresh g5 N5 K5) N6 K5⟩;clear g A aR S aK Z6 h6 aZ O a0 aA aD aE aF V g5 N5 N6 a2 aJ a4 aS h7;go_wp2;refine nT (mF rfl _ _ _) rfl ?_;exact F
theorem NJ (h:zy W0 K p t 0 v st last true mk ms W)(O:K.Ok)(cD:450<=K.pg)(hN:v.N<=500000){free:List Int}(hp:xd K v.D st [] free)(h0:st.roots[0]?=some 0)
  (ky u:ByteArray) (bY:ky.size<=81) (b8:u.size<=400) {q1 q2:Nat} (b1:za W q1 9 #[X9 ky]) (b2:za W q2 9 #[X9 u]) :
  nK Y3 44 #[Q0 #[Y9 t],Y9 q1,Y9 q2] W (tE W0 K p t last mk ms v W (putE [] (ky,u))):=by
 have cC:=O.hP;obtain⟨W1,bF,G,b3⟩:=Qp W 92 #[Y9 t];have h1:=h.grow G;have HR:=Ya h1 (i:=0) rfl h0;have aK:=b1.below G b1.lt;have aL:=b2.below G b2.lt;have b7:=G.size;have bQ:=nI bF.symm;clear bF h b1 b2
 go_enter func44,ntmps44
 go_wp2_with fail
 rw[bQ.out];refine HR.mono ?_;rintro e w2 ⟨rfl,A⟩;have V:=b3.below A b3.lt;have a7:=aK.below A aK.lt;have a8:=aL.below A aL.lt;have h2:=h1.grow A;have c3:=V.boxed;have c1:=a7.boxed;have c2:=a8.boxed;have cG:=A.size;have b9:=h2.pP V K7;have aS:nH W.heap.size W w2:=G.trans (A.mono b7);clear HR h1 b3 aK aL
 go_wp2_with fail
 refine(Md h2 O K5 hp (by simp;omega) ky u bY b8).mono ?_;rintro e H ⟨c,pc,v3,cA,cB,rfl,aX,a2,_,cE,bN,h3,bJ,aE⟩;rw[qW] at a2;have aM:=aE.blk V b9;have cH:=aE.size;obtain⟨C,M⟩:=Z9 ((zl c).toArray);have bC:C.size=4:=by rw[M];rfl
 have bX:∀u∈C.toList,u.oneCell'=true:=by rw[M];exact zw rfl rfl rfl rfl
 rw[<-M];obtain⟨W4,bG,bB,aP⟩:=Qp H 94 #[X9 ⟨#[]⟩,X9 ⟨#[]⟩,Y1 Q4 0,Y1 Q4 0];have I:nH H.heap.size H (W4.setRow H.heap.size C):=zf bB (zG _) _;have aQ:=aP.setRow C;generalize bH:W4.setRow H.heap.size C=w5 at *;have h5:=h3.grow I;have aA:=aM.below I aM.lt;have bU:=aA.boxed;have b6:=I.size;have g5:ze (qi K p v) W w5:=((ze.below aS).trans aE).trans (ze.below I);have N5:zz K W v v3:=bJ.mono aS.size;have cF:=aX.ov;have HM:=Yb h5 O K5 a2 K5;have b4:=nI (bN▸h0:cA.roots[0]?=some 0);have bR:=nI bG.symm;have bS:=nI bH;have a5:=nI M;clear bG bH h2 h3 V aM a7 a8 c1 c2 c3 G A bB I aE bJ hp h0 bN aS M
 go_wp2_with (first
  | (rw[bR.out];refine vC ql aP bC bX ?_;rw[bS.out]))
 refine HM.mono ?_;rintro e U ⟨n,v6,aI,bW,rfl,h6,aH,S,a1,b5,bK,aF⟩;have aB:=aF.blk aA (h5.pP aA K7);have bA:=aF.blk aQ (h5.pP aQ K7);have bV:=aB.boxed;obtain⟨W7,bI,aT,aR⟩:=Qp U 94 C;have nx:XX W7 W7.heap.size ⟨true,[c],[],[]⟩ (K4 ⟨U.heap.size,0,K3⟩) 1 none 0 none 0:=⟨⟨zG _,by decide,(λe=>by cases e),rfl,zw rfl rfl rfl rfl,λ_=>⟨U.heap.size,0,rfl,aR.lt,λj x hj=>by rw[qA,aR.cell,a5.out];simpa[vY] using hj⟩⟩,yl.mt _ _ _,yl.mt _ _ _⟩;have h7:=h6.grow aT;have aN:=aB.below aT aB.lt;have bD:=aH.dd;have a3:=S.pZ n K9;have cI:=S.sz;have aY:xP v6.D c (ky,u) pc:=aX.pR λa ha=>by
  have:a≠n:=λe=>a1 (e▸ha)
  rw[bD];simp[this]
 have a4:yU v6.D 0 ⟨true,[c],[],[]⟩ [(ky,u)] pc:=⟨rfl,rfl,rfl,by simp,pc,[],aY,rfl,by simp⟩;have bO:zu [(ky,u)]:=List.pairwise_singleton _ _;have aZ:(qg ⟨true,[c],[],[]⟩).length<=512:=by have:=aY.laid;rw[Qs _ K9];simp;omega
 have aJ:=jG h7 O (by have:=aH.nn;omega) n ⟨a3.1,a3.2⟩ K5 (S.loose O) ⟨true,[c],[],[]⟩ _ _ _ _ _ _ nx (by show 1<=1000;decide) (by show 0<=1000;decide) (by show 0<=1001;decide) (a4.right bO) aZ;have eX:zx ⟨true,[c],[],[]⟩ (K4 ⟨U.heap.size,0,K3⟩) 1 none 0 none 0=#[X3 true,X1 U.heap.size 1 1,X1 none 0 0,X1 none 0 0]:=rfl;rw[eX] at aJ;have bT:=nI bI.symm;have N6:zz K W v v6:=N5.trans (bK.mono b6) (by have:=g5.size;omega);have g7:ze (qi K p v) W W7:=(aF.fresh g5 N5 (by have:=g5.size;omega)).trans (ze.below aT);clear bI nx aR HM h5 h6 aA aB aQ aP bU aF bK g5 N5 eX
 go_wp2_with (first
  |(refine yO rfl 94 (.tmp 5) rfl H.heap.size rfl ql bA bC ?_)
  | (refine zp rfl (SQ a5.out rfl rfl) ?_))
 rw[bT.out];refine aJ.mono ?_;rintro e z ⟨v8,⟨u8,rfl⟩,h8,a0,bL,aV⟩;have aO:=aV.blk aN (h7.pP aN K7);have aU:nH z.heap.size z z.drew:=(nF _ _).drew;have E:=h8.grow aU;have a6:=Za E.pa n ⟨by omega,a3.2⟩;have aC:=aO.below aU aO.lt;have f:z.drew.cell? W.heap.size=K4 (Y9 t)/\z.drew.cell? t=K4 (Y9 p)/\z.drew.cell? ⟨t,1,K3⟩=K4 (Y1 Q4 0):=⟨aC.boxed,E.tp,E.tk⟩;have b0:=E.pP aC K7;have N8:zz K W v v8:=N6.trans bL (by have:=g7.size;omega);have g8:ze (qi K p v) W z.drew:=(aV.fresh g7 N6 (by have:=g7.size;omega)).trans (ze.below aU);have aD:=a0.dd;have bE:xu K v8.D {aI with roots:=aI.roots.set 0 n} (putE [] (ky,u)):=by
  refine⟨⟨n::pc,bW,n,?_,?_,.inr ⟨0,⟨true,[c],[],[]⟩,pc,List.Perm.refl _,by rw[aD];simp,aZ,a4.pR λa ha => ?_⟩⟩,bO⟩
  .rw[aD];have hq:=S.put (n:=n) K9 (xx ⟨true,[c],[],[]⟩);exact⟨hq.nd,hq.pZ,hq.oT,hq.sup,hq.at_,hq.ch,hq.mn,hq.sz⟩
  .show (aI.roots.set 0 n)[0]?=_
   have:0<aI.roots.length:=by rw[b5];exact(qM.1 b4.out).1
   rw[List.getElem?_set_self this]
  .have:a≠n:=λe=>a1 (e▸ha)
   rw[aD];simp[this]
 have bP:=nI bE;have bZ:v8.N<=v.N+800:=by have:=aH.nn;have:=a0.nn;omega
 clear aJ h7 h8 aN aO bA aV bL aH a0 bD aD a2 S bE aX aY a4 a1 g7 N6 aZ bV
 go_wp2_with fail
 refine zb.st (λW':World=>W'.cell? W.heap.size=K4 (Y9 t)/\W'.cell? t=K4 (Y9 p)/\W'.cell? ⟨t,1,K3⟩=K4 (Y1 Q4 0)) 99 ?_;generalize z.drew=wd at *;refine zb.q0 0 (Y9 W.heap.size) f ?_;refine zb.q0 1 (Y9 t) f ?_;refine zb.q0 2 (Y9 t) f ?_;refine zb.q0 3 (Y9 t) f ?_;refine zb.q0 4 (Y9 p) f ?_;refine zb.q0 5 (Y9 W.heap.size) f ?_;refine zb.q0 6 (Y9 t) f ?_;refine zb.q0 7 (Y9 t) f ?_;refine zb.q0 8 (Y9 (K4 ⟨t,1,K3⟩)) f ?_;refine zb.q0 9 (Y1 Q4 0) f ?_;refine zb.q0 10 (Y1 Q4 n) f ?_;simp only[Z8];refine zb.n 11 ?_;refine zb.oC 52 #[.tmp 34,.tmp 39,.tmp 40] #[45,3,3] #[Y9 p,Y1 Q4 0,Y1 Q4 n] (a6.mono ?_) (zb.eo func52);rintro e w9 ⟨rfl,bM,aG⟩;have h9:=E.pS bM (Mx aG) (λk hk => .inl hk);have a9:=aG.blk aC (λe=>b0 (.inl e));have aW:w9.cell? W.heap.size=K4 (Y9 t)/\w9.cell? t=K4 (Y9 p)/\w9.cell? ⟨t,1,K3⟩=K4 (Y1 Q4 0):=⟨a9.boxed,h9.tp,h9.tk⟩;refine⟨_,rfl,λ_=>aW,?_⟩;simp only[Z8];refine zb.n 12 ?_;refine zb.oC 51 #[.tmp 41] #[27] #[Y1 Q4 0] ((kA _).mono ?_) (zb.eo func51);rintro e wm ⟨⟨um,rfl⟩,rfl⟩;refine⟨_,rfl,λ_=>aW,zb.dn ?_⟩;simp only[Z8];have g9:ze (qi K p v) W w9:=(Mx aG:ze (qi K p v8) wd w9).fresh g8 N8 (by have:=g8.size;omega);clear aW f a9 aC a6 E bM aG g8;go_wp2;go_end0;exact⟨v8,_,⟨_,rfl⟩,h9,bP.out,bZ,N8,g9⟩
end
def EW (W W':World):Prop:=W.heap.size<=W'.heap.size/\∀b T cs,za W b T cs->QO T->za W' b T cs
section
variable {W0 W W':World}{K:xB}{p t:Nat}{k:Int}{v v':yj}{st last st' last':qj}{under:Bool}{mk mk':Value}{ms:List xo}
theorem Bm (h:zy W0 K p t 0 v st last true mk ms W)(g:K.Ok)(j:450<=K.pg)(q:v.N<=500000){es:List qw}(r:xu K v.D st es)(G:es.length<=60)(ky u:ByteArray)(z:ky.size<=81)(C:u.size<=400){q1 q2:Nat}(b1:za W q1 9 #[X9 ky])(b2:za W q2 9 #[X9 u]):nK Y3 44 #[Q0 #[Y9 t],Y9 q1,Y9 q2] W (tE W0 K p t last mk ms v W (putE es (ky,u))):=by
 obtain⟨used,free,root,A,f,⟨rfl,rfl,rfl⟩|⟨d,x,ps,hu,E,hl,H⟩⟩:=r.has
 .exact NJ h g j q A f ky u z C b1 b2
 .exact NI h g j q r.so G A f hu E hl H ky u z C b1 b2
theorem BK (h:zy W0 K p t 0 v st last true mk ms W)(I:K.Ok)(aB:450<=K.pg)(aF:ms.length<=800)(hN:v.N<=500000){es:List qw}(O:xu K v.D st es)(aE:es.length<=60)(ky u:ByteArray)(aD:ky.size<=81)(aH:u.size<=400):nK Y3 18 #[Y9 t,X9 ky,X9 u] W λe w'=>e=Y0 (Y1 Q4 0)/\∃v' st' mk',zy W0 K p t 0 v' st' last true mk' ms w'/\xu K v'.D st' (putE es (ky,u))/\v'.N<=v.N+800/\EW W w':=by
 obtain⟨W1,S,q,b4,b5⟩:=Bz W 9 #[X9 ky] 9 #[X9 u];have h1:=h.grow q;have G:=h1.none;have aI:(ky.size:Int)<=81:=K5
 have E:=Rl h1 I aF 44 (Y9 W.heap.size) (Y9 (W.heap.size+1:Nat)) (zb.eo func44) (λ_=>False) (λ_ e=>e.elim)
  (λv' st' w=>xu K v'.D st' (putE es (ky,u))/\v'.N<=v.N+800/\∀b T cs,za W1 b T cs->QO T->za w b T cs) (λW' mk' M z hs ht=>by
   refine(Bm ht I aB hN O aE ky u aD aH (z _ _ _ b4 K7) (z _ _ _ b5 K7)).mono ?_;rintro e w' ⟨v',st',hz,aG,A,C,aC,H⟩
   exact⟨v',st',hz,aG,⟨A,C,λb T cs g f=>H.blk (z b T cs g f) (ht.pP (z b T cs g f) f)⟩,aC,H.more λj hj _ => .inl hj⟩)
 have c4:=b4.boxed;have c5:=b5.boxed;have aA:=nI S.symm;clear S h h1 O b4 b5
 go_enter func18,ntmps18
 go_wp2_with (first
  | (go_at_call 42;rw[aA.out];refine G.mono ?_;rintro e w2 ⟨rfl,rfl⟩))
 refine E.mono ?_;rintro e w3 ⟨v',st',w1,rfl,⟨A,C,U⟩,r⟩;obtain⟨mk',h3⟩:=r.at_;have V:EW W w3:=⟨zT q.size r.up,λb T cs g f=>r.pR b T cs (zO g.lt q.size) (U b T cs (g.below q g.lt) f) f⟩;clear E G r U;go_wp2;go_ret;exact⟨rfl,v',st',mk',h3,A,C,V⟩
end
end
end Go.Proofs.YtohmkffoojdahaaGreat
