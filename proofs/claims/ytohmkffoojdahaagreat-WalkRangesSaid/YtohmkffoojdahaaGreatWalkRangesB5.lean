/- Texts that the proof of WalkRanges leans on, part 5. -/
import Derived.Lib.SliceRun
import Derived.Test.YtohmkffoojdahaaGreatWalkRangesB4
open List renaming replicate->zP
open Nat renaming reduceAdd->yB,reduceSub->yC
open Array renaming getD_eq_getD_getElem?->zX
set_option linter.unusedVariables false
set_option linter.unusedSimpArgs false
set_option maxRecDepth 100000
set_option maxHeartbeats 8000000

open ByteArray renaming empty->nX
open Exists renaming intro->lS
open Go renaming Calls->nK,Addr->nN,Operand->nO,execOp->nQ,TypeId->nS,MapEntry->nZ,Oper->nh,Program->gF,maxLen->gP,undef->gQ,Act->gh,callFunc->gm,Ending->mH,CallsIn->mQ,results->lh,Code->ff
open Go.Act renaming put->nJ
open Go.Fence renaming wide->nv
open Go.Instr renaming findNow->lT,lookup->lU
open Go.MapKept renaming IsKey->gz
open Go.Op renaming bytesLess->gH,equalIn->fE
open Go.Result renaming andThen->nM
open Go.RowKit renaming Below->nH
open Go.World renaming cell?->mv
open List renaming range->mi,getElem_drop->lK,getElem_take->lL,getElem_append_right->lO,getElem_append_left->fQ,length_singleton->ft
open Go.Proofs.Tryz renaming prog->Y3
open Go.Proofs.Tryz
open Go.Value renaming int->Y1,pointer->Y9,slice->X1,bool->X3,string->X9,agg->Q0,tuple->Q2,map->Q1
open Go.IntKind renaming i64->Q4,u8->Q5,u64->Q6
open Go.Obj renaming cells->Q9
open Option renaming none->K3,some->K4
namespace Go.Proofs.YtohmkffoojdahaaGreat
section
open Go Go.RowKit xq
theorem Nd (w:World)(fr pg:Int)(d many:Nat)(left:Int)(hD:yN w d many (λ_=>qy) [] left false)(aD:yz fr pg=true)(hm:(many:Int)=2+9*fr+8*pg)(aO:many<=1000000)(h1l : -1000000<=left)(aS:left<=9223372036854775807):nK Y3 62 #[Y9 d,Q0 #[Y1 Q4 fr,Y1 Q4 pg]] w λe w'=>∃l,e=Y0 (Q2 #[Y9 (K4 ⟨l,0,K3⟩),Y1 Q4 0])/\w.heap.size<=l/\yN w' d many (laid (λ_=>qy) (JP 1 (ko 1 1 0 0) 1)) [] left false/\za w' l 171 (ZC (K4 ⟨d,0,K3⟩) fr pg 1 1 0 none 0 0)/\w.grownBy w' (some d):=by
 have aW:=(vQ fr pg).1 aD;have aB:nH w.heap.size w (w.alloc (Q9 #[Y1 Q4 fr,Y1 Q4 pg] 74)):=(nF _ w).alloc (zG _) _;have H:=za.new w 74 #[Y1 Q4 fr,Y1 Q4 pg];have G:=Dt fr pg (w.alloc (Q9 #[Y1 Q4 fr,Y1 Q4 pg] 74));have aT:Mk (yz fr pg) 0 1=0:=by rw[aD];rfl
 unfold ur at G;rw[aT,if_pos rfl,<-hm] at G;have aV:=hD.lt;have aP:∀v∈ZP.toArray.toList,v.oneCell'=true:=by intro v E;simp[ZP] at E;rcases E with rfl|rfl<;>rfl
 have aQ:∀v∈(#[Y1 Q6 1,Y1 Q6 1,Y1 Q4 0,Y1 Q4 0]:Y7).toList,v.oneCell'=true:=by intro v E;simp at E;rcases E with rfl|rfl<;>rfl
 have aN:2<=many:=K5
 clear hm aD
 go_enter func62,ntmps62
 go_wp2_with fail
 refine wp_scope_straight ?_
 go_wp2_with (first
  |(refine yp JF H ?_)
  |(go_at_call 101;refine G.mono ?_;rintro e c ⟨rfl,aC⟩;have b1:=H.below aC H.lt;have k0:c.cell? w.heap.size=K4 (Y1 Q4 fr):=(by rw[b1.cell];rfl);have k1:c.cell? ⟨w.heap.size,1,K3⟩=K4 (Y1 Q4 pg):=(by rw[b1.cell];rfl);have B:=aB.trans (aC.mono aB.size);have aU:=B.size;have L:nH w.heap.size w ((c.alloc (Q9 #[Y9 d,Y1 Q4 fr,Y1 Q4 pg,Y1 Q6 0,Y1 Q6 0,Y1 Q4 0,X1 none 0 0] 171)).alloc (Q9 #[Y1 Q6 0,Y1 Q6 0,Y1 Q4 0,Y1 Q4 0] 173)):=(B.alloc B.size _).alloc (by have:=B.size;simp;omega) _;have M:=hD.grow L;have HL:=Np _ d many _ [] left false M;have z:za ((c.alloc (Q9 #[Y9 d,Y1 Q4 fr,Y1 Q4 pg,Y1 Q6 0,Y1 Q6 0,Y1 Q4 0,X1 none 0 0] 171)).alloc (Q9 #[Y1 Q6 0,Y1 Q6 0,Y1 Q4 0,Y1 Q4 0] 173)) c.heap.size 171 (ZC (K4 ⟨d,0,K3⟩) fr pg 0 0 0 none 0 0):=(za.new c _ _).alloc _;have X:za ((c.alloc (Q9 #[Y9 d,Y1 Q4 fr,Y1 Q4 pg,Y1 Q6 0,Y1 Q6 0,Y1 Q4 0,X1 none 0 0] 171)).alloc (Q9 #[Y1 Q6 0,Y1 Q6 0,Y1 Q4 0,Y1 Q4 0] 173)) (c.heap.size+1) 173 #[Y1 Q6 0,Y1 Q6 0,Y1 Q4 0,Y1 Q4 0]:=(by have:=za.new (c.alloc (Q9 #[Y9 d,Y1 Q4 fr,Y1 Q4 pg,Y1 Q6 0,Y1 Q6 0,Y1 Q4 0,X1 none 0 0] 171)) 173 #[Y1 Q6 0,Y1 Q6 0,Y1 Q4 0,Y1 Q4 0];rw[nG] at this;exact this);have kl:mv ((c.alloc (Q9 #[Y9 d,Y1 Q4 fr,Y1 Q4 pg,Y1 Q6 0,Y1 Q6 0,Y1 Q4 0,X1 none 0 0] 171)).alloc (Q9 #[Y1 Q6 0,Y1 Q6 0,Y1 Q4 0,Y1 Q4 0] 173)) ⟨c.heap.size,0,K3⟩=K4 (Y9 d):=(by rw[z.cell];rfl))
  |(go_at_call 102;refine HL.mono ?_;rintro e w' ⟨rfl,rfl⟩)
  |(go_at_call 103;refine(AZ _ c.heap.size d many left M kl z.lt aN aO).mono ?_;rintro e w4 ⟨rfl,C⟩;have aE:=z.below C z.lt;have I:=X.below C X.lt;have aH:=M.grow C)
  |(refine zt rfl 173 (.tmp 9) (.tmp 35) rfl (c.heap.size+1) rfl rfl yv I rfl rfl aP ?_;have K:=I.setRow ZP.toArray;have aF:=aE.pN (k:=c.heap.size+1) K5 ZP.toArray;have aI:=aH.oO I K7 K5 ZP.toArray;have aL:w.grownBy (w4.setRow (c.heap.size+1) ZP.toArray) (some d):=xV (ja (L.trans (C.mono L.size)) d) (kE _ _ _) (zG _) (λr e=>by cases e;omega))
  |(refine zt rfl 173 (.tmp 9) (.tmp 42) rfl (c.heap.size+1) rfl rfl yv K rfl rfl aQ ?_;have Z:=K.setRow #[Y1 Q6 1,Y1 Q6 1,Y1 Q4 0,Y1 Q4 0];have aG:=aF.pN (k:=c.heap.size+1) K5 #[Y1 Q6 1,Y1 Q6 1,Y1 Q4 0,Y1 Q4 0];have aJ:=aI.oO K K7 K5 #[Y1 Q6 1,Y1 Q6 1,Y1 Q4 0,Y1 Q4 0];have u:=xV aL (kE _ (c.heap.size+1) #[Y1 Q6 1,Y1 Q6 1,Y1 Q4 0,Y1 Q4 0]) (zG _) (λr e=>by cases e;omega))
  |(refine yp yv Z ?_)
  |(go_at_call 104;refine(Ms _ c.heap.size d many _ [] left 1 1 0 0 fr pg 0 0 0 none 0 0 aJ K7 h1l aS aG K5 K7 aN aO).mono ?_;rintro e f ⟨rfl,aK,s,x⟩;have aA:=x.blk Z K5))
 have aM:w.grownBy f (some d):=⟨x.os.trans u.os,x.tape.trans u.tape,x.output.trans u.output,zT u.size x.size,λk hk hn=>(x.block k (zO hk u.size) (λe=>by rcases e with e|e;exact hn (by rw[e]);omega)).trans (u.block k hk hn)⟩;have aX:d<c.heap.size:=K5
 have N:w.heap.size<=c.heap.size:=K5
 clear G HL hD M aH aI aJ z aE aF aG X I K Z kl C L aL u x H b1 k0 k1 aB B aC aU aP aQ;generalize c.heap.size=l at *;have O:=s.drew.set 3 (Y1 Q6 1);have U:=O.set 4 (Y1 Q6 1);have V:=U.set 5 (Y1 Q4 0);have A:=aA.drew.other (p:=⟨l,3,K3⟩) (by show ¬ l+1=l;omega) (Y1 Q6 1);have hB:=A.other (p:=⟨l,4,K3⟩) (by show ¬ l+1=l;omega) (Y1 Q6 1);have hC:=hB.other (p:=⟨l,5,K3⟩) (by show ¬ l+1=l;omega) (Y1 Q4 0);have dA:=(aK.grow (nF _ _).drew).setOther s.drew (by show 7<=64;decide) (show d≠l by omega) ⟨l,3,K3⟩ (Y1 Q6 1) rfl;have dB:=dA.setOther O (by simp;show 7<=64;decide) (show d≠l by omega) ⟨l,4,K3⟩ (Y1 Q6 1) rfl;have dC:=dB.setOther U (by simp;show 7<=64;decide) (show d≠l by omega) ⟨l,5,K3⟩ (Y1 Q4 0) rfl;have gC:w.grownBy (((f.drew.setCell ⟨l,3,K3⟩ (Y1 Q6 1)).setCell ⟨l,4,K3⟩ (Y1 Q6 1)).setCell ⟨l,5,K3⟩ (Y1 Q4 0)) (some d) :=
  xV (xV (xV (xV aM (yM f none) (zG _) (λr e=>by cases e)) (jV _ ⟨l,3,K3⟩ (Y1 Q6 1)) (zG _) (λr e=>by injection e with e;subst e;exact N)) (jV _ ⟨l,4,K3⟩ (Y1 Q6 1)) (zG _) (λr e=>by injection e with e;subst e;exact N)) (jV _ ⟨l,5,K3⟩ (Y1 Q4 0)) (zG _) (λr e=>by injection e with e;subst e;exact N)
 have a3:f.drew.cell? ⟨l,3,K3⟩=K4 (Y1 Q6 1):=by rw[s.drew.cell];rfl
 have x4:f.cell? ⟨l,4,K3⟩=K4 (Y1 Q6 1):=by rw[s.cell];rfl
 have x5:f.cell? ⟨l,5,K3⟩=K4 (Y1 Q4 0):=by rw[s.cell];rfl
 have y4:=s.free 4;have y5:=s.free 5;have f3:=s.drew.free 3;have e1:(((f.drew.setCell ⟨l,3,K3⟩ (Y1 Q6 1)).setCell ⟨l,4,K3⟩ (Y1 Q6 1)).setCell ⟨l,5,K3⟩ (Y1 Q4 0)).cell? ⟨l,1,K3⟩=K4 (Y1 Q4 fr):=by rw[V.cell];rfl
 have e3:(((f.drew.setCell ⟨l,3,K3⟩ (Y1 Q6 1)).setCell ⟨l,4,K3⟩ (Y1 Q6 1)).setCell ⟨l,5,K3⟩ (Y1 Q4 0)).cell? ⟨l+1,3,K3⟩=K4 (Y1 Q4 0):=by rw[hC.cell];rfl
 have i:=aA.drew;refine zb.st (λW:World=>za W (l+1) 173 #[Y1 Q6 1,Y1 Q6 1,Y1 Q4 0,Y1 Q4 0]) 17 ?_;refine zb.q 0 (Y9 (K4 ⟨l,0,K3⟩)) i ?_;refine zb.q 1 (Y9 (K4 ⟨l,0,K3⟩)) i ?_;refine zb.q 2 (Y9 (K4 ⟨l,0,K3⟩)) i ?_;refine zb.q 3 (Y9 (l+1:Nat)) i ?_;refine zb.t 4 (Y1 Q6 1) rfl i (λW j=>by have q:W.cell? (l+1:Nat)=K4 (Y1 Q6 1):=(by rw[j.cell];rfl);go_simp) ?_;refine zb.q 5 (Y9 (K4 ⟨l+1,1,K3⟩)) i ?_;refine zb.t 6 (Y1 Q6 1) rfl i (λW j=>by have q:W.cell? ⟨l+1,1,K3⟩=K4 (Y1 Q6 1):=(by rw[j.cell];rfl);go_simp) ?_;refine zb.q 7 (Y9 (K4 ⟨l+1,2,K3⟩)) i ?_;refine zb.t 8 (Y1 Q4 0) rfl i (λW j=>by have q:W.cell? ⟨l+1,2,K3⟩=K4 (Y1 Q4 0):=(by rw[j.cell];rfl);go_simp) ?_;simp only[Z8];refine zb.n 9 (zb.opV (w':=f.drew) (Y9 (K4 ⟨l,0,K3⟩)) rfl rfl K8 ⟨λ_=>i,?_⟩);simp only[Z8];refine zb.n 10 (zb.opV (w':=f.drew) (Y9 (K4 ⟨l,3,K3⟩)) rfl rfl K8 ⟨λ_=>i,?_⟩);simp only[Z8];refine zb.n 11 (zb.opS (w':=f.drew.setCell ⟨l,3,K3⟩ (Y1 Q6 1)) rfl rfl K8 ⟨λ_=>A,?_⟩);simp only[zD,zC,zB,nJ];refine zb.n 12 (zb.opV (w':=f.drew.setCell ⟨l,3,K3⟩ (Y1 Q6 1)) (Y9 (K4 ⟨l,0,K3⟩)) rfl rfl K8 ⟨λ_=>A,?_⟩);simp only[Z8];refine zb.n 13 (zb.opV (w':=f.drew.setCell ⟨l,3,K3⟩ (Y1 Q6 1)) (Y9 (K4 ⟨l,4,K3⟩)) rfl rfl K8 ⟨λ_=>A,?_⟩);simp only[Z8];refine zb.n 14 (zb.opS (w':=(f.drew.setCell ⟨l,3,K3⟩ (Y1 Q6 1)).setCell ⟨l,4,K3⟩ (Y1 Q6 1)) rfl rfl K8 ⟨λ_=>hB,?_⟩);simp only[zD,zC,zB,nJ];refine zb.n 15 (zb.opV (w':=(f.drew.setCell ⟨l,3,K3⟩ (Y1 Q6 1)).setCell ⟨l,4,K3⟩ (Y1 Q6 1)) (Y9 (K4 ⟨l,0,K3⟩)) rfl rfl K8 ⟨λ_=>hB,?_⟩);simp only[Z8];refine zb.n 16 (zb.opV (w':=(f.drew.setCell ⟨l,3,K3⟩ (Y1 Q6 1)).setCell ⟨l,4,K3⟩ (Y1 Q6 1)) (Y9 (K4 ⟨l,5,K3⟩)) rfl rfl K8 ⟨λ_=>hB,?_⟩);simp only[Z8];refine zb.n 17 (zb.opS (w':=((f.drew.setCell ⟨l,3,K3⟩ (Y1 Q6 1)).setCell ⟨l,4,K3⟩ (Y1 Q6 1)).setCell ⟨l,5,K3⟩ (Y1 Q4 0)) rfl rfl K8 ⟨λh=>absurd rfl h,zb.dn ?_⟩);simp only[zD,zC,zB,nJ];have HC:=EC _ l fr K5 e1;have aR:za (((f.drew.setCell ⟨l,3,K3⟩ (Y1 Q6 1)).setCell ⟨l,4,K3⟩ (Y1 Q6 1)).setCell ⟨l,5,K3⟩ (Y1 Q4 0)) l 171 (ZC (K4 ⟨d,0,K3⟩) fr pg 1 1 0 none 0 0):=V;clear x4 x5 y4 y5 a3 f3 i A hB O U V hC dA dB s aA aK aM;generalize ((f.drew.setCell ⟨l,3,K3⟩ (Y1 Q6 1)).setCell ⟨l,4,K3⟩ (Y1 Q6 1)).setCell ⟨l,5,K3⟩ (Y1 Q4 0)=w8 at *
 go_wp2_with (go_at_call 105;refine HC.mono ?_;rintro e w' ⟨rfl,rfl⟩)
 simp only[Exit.noGoto];exact⟨by simp,_,nj rfl _ _ _,⟨l,rfl,N,dC,aR,gC⟩⟩
theorem LI.begun:LI (laid (λ_=>qy) (JP 1 (ko 1 1 0 0) 1)) ⟨1,1,0,[]⟩ 0:=by
 have e:JP 1 (ko 1 1 0 0) 1=[(1,vM 1 1 0 0)]:=CG (s:=1) (e:=1) (z:=0) (c:=0) ⟨by omega,by omega⟩ ⟨by omega,by omega⟩;have d:∀k,laid (λ_=>qy) [(1,vM 1 1 0 0)] k=if k=1 then vM 1 1 0 0 else qy:=λk=>AM _ [] _ _ k
 rw[e];generalize laid (λ_=>qy) [(1,vM 1 1 0 0)]=G at *;have h:G (1-1%2)=qy:=d 0;refine⟨⟨d 1,by decide,by decide,by decide,by decide,by decide,?_,rfl,⟨λj f=>absurd f (Nat.not_lt_zero j),λj f=>absurd f (Nat.not_lt_zero j),λx i=>by cases i⟩⟩,?_,?_⟩
 .intro _;show Cp (G (1-1%2))<1
  rw[h];decide
 .intro k;rw[d];split
  .exact jK _ _ _ _
  .decide
 .show sK (G (1-1%2))<1
  rw[h];decide
end
section
open Go Go.RowKit xq Go.Shelf
def rC (Ds:List Nat):List Deferred:=Ds.map λD => {target:=.collected D,args:=#[]}
theorem Ko {F:Fence}{n:Nat}{P:gF}{fn:Func}{tmps:Y7}{R:mH->World->Prop}(K:World->Prop):∀(c:List Nat) (w:World),c.Nodup->(∀D∈c,w.heap[D]?=some (.deferred (some []))) ->
  (∀D∈c,∀V,K V->V.heap[D]?=some (.deferred (some []))->K (V.putObj D (.deferred none)))->K w ->
  (∀w',K w'->LeavesIn F n P fn tmps R [] .returning w')->LeavesInM F n P fn tmps R (rC c) .returning w
 | [],w,_,_,_,hw,h=>h w hw
 | D::c,w,hn,hD,hK,hw,h=>by rw[List.nodup_cons] at hn;refine⟨by simp,.inl ⟨D,w.putObj D (.deferred none),rfl,mV (hD D K9),Ko K c _ hn.2 (λE d => ?_) (λE d=>hK E (by simp[d])) (hK D K9 w hw (hD D K9)) h⟩⟩;rw[Jr _ _ _ (λe=>hn.1 (by rw[e];exact d))];exact hD E (by simp[d])
end
section
open Go Go.RowKit xq

def Fp (a b:Int):Int:=if a<b then -1 else if b<a then 1 else 0
theorem Fq (a b:Int)(w:World):nK Y3 183 #[Y1 Q4 a,Y1 Q4 b] w λe w'=>e=Y0 (Y1 Q4 (Fp a b))/\w=w':=by
 have c:∀(x:Int) (W:World),nK Y3 246 #[Y1 Q4 x] W λe w'=>e=Y0 (X3 false)/\W=w':=λx W=>by
  go_enter func246,ntmps246
  go_wp2;go_ret;exact⟨by simp,rfl⟩
 unfold Fp
 by_cases h1:a<b
 .rw[if_pos h1]
  go_enter func183,ntmps183
  go_wp2_with (go_at_call 246;refine(c _ _).mono ?_;rintro e w' ⟨rfl,rfl⟩)
  go_ret;exact⟨rfl,rfl⟩
 .rw[if_neg h1]
  by_cases h2:b<a
  .rw[if_pos h2]
   go_enter func183,ntmps183
   go_wp2_with (go_at_call 246;refine(c _ _).mono ?_;rintro e w' ⟨rfl,rfl⟩)
   go_ret;exact⟨rfl,rfl⟩
  .rw[if_neg h2]
   go_enter func183,ntmps183
   go_wp2_with (go_at_call 246;refine(c _ _).mono ?_;rintro e w' ⟨rfl,rfl⟩)
   go_ret;exact⟨rfl,rfl⟩
theorem PL (w:World)(gf:Nat)(lb:Y7)(H:∀args w,(gm gf args).run Y3 w=.ok (.enter gf args) w)(p:Int->Bool)(g C:Nat)(ks:List Int)(B:∀j (h:j<ks.length),w.cell? ⟨g,j,K3⟩=K4 (Y1 Q4 ks[j]))(I:ks.length<=C)(hl:ks.length<=1000000)
  (A:∀k∈ks,nK Y3 gf (#[Y1 Q4 k]++lb) w λe w'=>e=Y0 (.bool (p k))/\w=w') :
  nK Y3 199 #[X1 g ks.length C,.func (.func gf) #[] lb] w λe w'=>w=w'/\((e=Y0 (Y1 Q4 (-1))/\∀k∈ks,p k=false)\/∃i:Nat,∃h:i<ks.length,e=Y0 (Y1 Q4 (i:Int))/\p ks[i]=true/\∀k∈ks.take i,p k=false):=by
 go_enter func199,ntmps199
 go_wp2
 go_loopw [8] (λi wr=>∃k:Nat,k<=ks.length/\i=Y1 Q4 (k:Int)/\Hid (∀x∈ks.take k,p x=false)/\wr=w) (λi _=>ks.length-(intOf i).toNat)
 case atStart=>exact⟨0,by omega,rfl,nI (λx h=>by simp at h),rfl⟩
 case round =>
  obtain⟨k,K,rfl,u,rfl⟩:=hrel
  by_cases r:k<ks.length
  .have hc:=B k r;have d:=A ks[k] (qJ r);have L:IntKind.i64.wrap ((k:Int)+1)=(k:Int)+1:=zg _;obtain⟨x,f⟩:=Z9 (ks[k]);rw[<-f] at hc d;cases c:p x with
   | true =>
    have E:Hid (p ks[k]=true):=nI (by rw[<-f];exact c);rw[c] at d;clear c f B A
    go_wp2_with (refine d.mono ?_;rintro e w' ⟨rfl,rfl⟩)
    go_ret;exact⟨rfl,.inr ⟨k,r,rfl,E.out,u.out⟩⟩
   | false =>
    have z:Hid (∀y∈ks.take (k+1),p y=false):=nI (λy s=>by
     rw[zU r] at s;rcases zZ.1 s with h|h
     .exact u.out y h
     .rw[qL,<-f] at h;subst h
      exact c)
    rw[c] at d;clear c f B A
    go_wp2_with (refine d.mono ?_;rintro e w' ⟨rfl,rfl⟩)
    exact⟨⟨k+1,by omega,by simp,z,by first|rfl|trivial⟩,by simp[intOf];omega⟩
  .have G:k=ks.length:=K5
   have z:Hid (∀y∈ks,p y=false):=nI (λy s=>u.out y (by rw[G,List.take_length];exact s));go_wp2;go_ret;exact⟨rfl,.inl ⟨rfl,z.out⟩⟩
theorem Ka {g:Nat}{T:nS}:∀(c:Y8) (o:Nat) (w:World) (cs:Y7),za w g T cs->∃cs',za (w.setCells g o c) g T cs'/\cs'.size=cs.size/\(∀q,q<o->cs'[q]?=cs[q]?)/\ze (λk=>k=g) w (w.setCells g o c)
 | [],o,w,cs,h=>⟨cs,h,rfl,λ_ _=>rfl,ze.refl _ _⟩
 | v::r,o,w,cs,h=>by obtain⟨cs',h1,h2,d,e⟩:=Ka r (o+1) (w.setCell ⟨g,o,K3⟩ v) _ (h.set o v);refine⟨cs',h1,by rw[h2];simp,λq hq => ?_,(ze.setCell (Mu:=λk=>k=g) w ⟨g,o,K3⟩ v rfl).trans e⟩;rw[d q K5,ml K5]
def ZE (p:Int->Bool)(ks:List Int)(j:Nat):List Int:=(ks.take j).filter λk => !p k
theorem Ht (p:Int->Bool)(ks:List Int){j:Nat}(h:j<ks.length):ZE p ks (j+1)=ZE p ks j++(if p ks[j]=true then [] else [ks[j]]):=by
 unfold ZE;rw[zU h,List.filter_append];congr 1
 by_cases c:p ks[j]=true
 .rw[if_pos c];simp[c]
 .rw[if_neg c];simp[c]
def SN (w:World)(g:Nat)(p:Int->Bool)(ks:List Int)(cs:Y7)(i j:Nat)(wr:World):Prop :=
 i<j/\j<=ks.length/\(ZE p ks j).length=i/\∃cs',za wr g 3 cs'/\cs'.size=cs.size/\(∀q (h:q<(ZE p ks j).length),cs'[q]?=K4 (Y1 Q4 (ZE p ks j)[q]))/\(∀q,j<=q->cs'[q]?=cs[q]?)/\ze (λk=>k=g) w wr
theorem Fm (w:World)(gf:Nat)(lb:Y7)(eg:∀args w,(gm gf args).run Y3 w=.ok (.enter gf args) w)(p:Int->Bool)(g cap:Nat)(ks:List Int)(cs:Y7)(G:za w g 3 cs)(z:∀j (h:j<ks.length),cs[j]?=K4 (Y1 Q4 ks[j]))(aJ:ks.length<=cap)(hl:ks.length<=1000000)
  (Z:∀W,ze (λk=>k=g) w W->∀k∈ks,nK Y3 gf (#[Y1 Q4 k]++lb) W λe w'=>e=Y0 (.bool (p k))/\W=w') :
  nK Y3 243 #[X1 g ks.length cap,.func (.func gf) #[] lb] w λe w'=>∃cs',e=Y0 (X1 g (ks.filter λk => !p k).length cap)/\za w' g 3 cs'/\(∀q (h:q<(ks.filter λk => !p k).length),cs'[q]?=K4 (Y1 Q4 (ks.filter λk => !p k)[q]))/\ze (λk=>k=g) w w':=by
 have M:=PL w gf lb eg p g cap ks (λj h=>by rw[G.cell];exact z j h) aJ hl (Z w (ze.refl _ _))
 go_enter func243,ntmps243
 go_wp2_with (go_at_call 199;refine M.mono ?_;rintro e w1 ⟨rfl,(⟨rfl,aG⟩|⟨i0,X,rfl,aA,f⟩)⟩)
 .go_ret;have e:(ks.filter λk => !p k)=ks:=List.filter_eq_self.2 (λk I=>by rw[aG k I];rfl);rw[e];exact⟨cs,rfl,G,z,ze.refl _ _⟩
 .have aL:IntKind.i64.wrap ((i0:Int)+1)=((i0+1:Nat):Int):=by rw[zg _];omega
  have K:ZE p ks (i0+1)=ks.take i0:=by rw[Ht p ks X,if_pos aA,qW];exact List.filter_eq_self.2 (λk I=>by rw[f k I];rfl)
  have O:SN w g p ks cs i0 (i0+1) w:=by
   refine⟨by omega,by omega,by rw[K];simp;omega,cs,G,rfl,λq hq => ?_,λq _=>rfl,ze.refl _ _⟩;simp only[K] at hq ⊢;have aT:q<i0:=by simp at hq;omega
   rw[z q K5];simp
  clear aA f K M;go_wp2
  go_loopw [5,6] (λi j wr=>∃a b:Nat,i=Y1 Q4 (a:Int)/\j=Y1 Q4 (b:Int)/\SN w g p ks cs a b wr) (λ_ j _=>ks.length-(intOf j).toNat)
  case atStart=>exact⟨i0,i0+1,rfl,by simp,O⟩
  case round =>
   clear O aL X;obtain⟨a,b,rfl,rfl,aM,aQ,c,cs',r,aE,f,s,B⟩:=hrel
   by_cases C:b<ks.length
   .have aK:wr.cell? ⟨g,b,K3⟩=K4 (Y1 Q4 ks[b]):=by rw[r.cell,s b (zG _)];exact z b C
    have A:=Z wr B ks[b] (qJ C);have d:=Ht p ks C;have aX:IntKind.i64.wrap ((b:Int)+1)=(b:Int)+1:=zg _;have aW:IntKind.i64.wrap ((a:Int)+1)=(a:Int)+1:=zg _;have aS:=r.free a;obtain⟨x,L⟩:=Z9 (ks[b]);rw[<-L] at aK A d;cases u:p x with
    | true =>
     rw[u,if_pos rfl,qW] at d;rw[u] at A;have E:Hid (SN w g p ks cs a (b+1) wr):=nI ⟨by omega,by omega,by rw[d];exact c,cs',r,aE,λq hq=>(by simp only[d] at hq ⊢;exact f q hq),λq hq=>s q K5,B⟩;clear u L d f s c
     go_wp2_with (refine A.mono ?_;rintro e w' ⟨rfl,rfl⟩)
     refine⟨?_,by simp[intOf];omega⟩
     (repeat apply lS)
     exact⟨⟨a,b+1,rfl,(by first|rfl|simp),E.out⟩,rfl⟩
    | false =>
     rw[u,if_neg K7] at d;rw[u] at A;have ha:a<cs'.size:=by have h1:=(zI.1 ((s b (zG _)).trans (z b C))).1;omega
     have U:(wr.cell? ⟨g,a,K3⟩).isSome=true:=by rw[r.cell,gr ha];rfl
     have E:Hid (SN w g p ks cs (a+1) (b+1) (wr.setCell ⟨g,a,K3⟩ (Y1 Q4 x))):=nI ⟨by omega,by omega,by rw[d,zH,c];rfl,_,r.set a (Y1 Q4 x),by rw[Array.size_setIfInBounds];exact aE,λq hq=>(by
      simp only[d] at hq ⊢;rw[zH,ft,c] at hq
      by_cases aD:q=a
      .subst aD;rw[Array.getElem?_setIfInBounds_self_of_lt ha];have e:(ZE p ks b++[x])[q]?=some x:=by rw[qU K5,c,Nat.sub_self];rfl
       rw[zM (by rw[zH,ft,c];omega)] at e;rw[fo e]
      .rw[ml (λe=>aD e.symm),f q K5];have e:(ZE p ks b++[x])[q]?=some ((ZE p ks b)[q]'(by omega)):=by rw[gj K5,zM K5]
       rw[zM (by rw[zH,ft,c];omega)] at e
       rw[fo e]),λq hq=>(by rw[ml K5];exact s q K5),B.trans (ze.setCell (Mu:=λk=>k=g) _ _ _ rfl)⟩
     have aO:a<ks.length:=K5
     obtain⟨va,aV⟩:=Option.isSome_iff_exists.1 U;clear u L d f s c U
     go_wp2_with (refine A.mono ?_;rintro e w' ⟨rfl,rfl⟩)
     refine⟨?_,by simp[intOf];omega⟩
     (repeat apply lS)
     exact⟨⟨a+1,b+1,(by first|rfl|simp),(by first|rfl|simp),E.out⟩,rfl⟩
   .have aI:b=ks.length:=K5
    subst aI;have ek:ZE p ks ks.length=ks.filter λk => !p k:=by unfold ZE;rw[List.take_length]
    have aC:Hid (∀q (h:q<(ks.filter λk => !p k).length),cs'[q]?=K4 (Y1 Q4 (ks.filter λk => !p k)[q])):=nI (λq hq=>by have h2:=f q (by rw[ek];exact hq);rw[h2];simp only[ek]);rw[ek] at c;have V:∀j,j<ks.length->(wr.cell? ⟨g,j,K3⟩).isSome=true:=λj H=>by have h1:=(zI.1 (z j H)).1;rw[r.cell,gr K5];rfl
    have aR:∀ty,(Builtin.clear_ #[67] ty #[X1 (K4 ⟨g,a,K3⟩) (ks.length-a) (cap-a)]).run Y3 wr=.ok (Q2 #[]) (wr.setCells g a (zP (ks.length-a) (Y1 Q4 0))):=λty =>
     Lib.run_clear_slice wr _ 3 ty (Y1 Q4 0) underlying67 (λw=>by kernel_rfl) rfl rfl g a _ _ K5 (λj H=>V (a+j) K5) (λj H=>r.free (a+j))
    obtain⟨N,aH,aU,aB,aF⟩:=Ka (zP (ks.length-a) (Y1 Q4 0)) a wr cs' r;have aN:a<=cap:=K5
    have aP:a<=ks.length:=K5
    have hN:Hid (∀q (h:q<(ks.filter λk => !p k).length),N[q]?=K4 (Y1 Q4 (ks.filter λk => !p k)[q])):=nI (λq hq=>by rw[aB q K5];exact aC.out q hq);clear f s aB aC V;go_wp2;go_ret;exact⟨N,by rw[c];rfl,aH,hN.out,B.trans aF⟩
end
section
open Go Go.RowKit Go.Shelf
attribute [local go_sem] Oper.semAt_some
def yd (U:Nat->Prop)(W W':World):Prop:=W.heap.size<=W'.heap.size/\∀k o,W.heap[k]?=some o->¬ U k->W'.heap[k]?=some o
theorem yd.refl (U:Nat->Prop)(W:World):yd U W W:=⟨zG _,λ_ _ h _=>h⟩
theorem yd.trans {U:Nat->Prop}{X Y Z:World}(h:yd U X Y)(k:yd U Y Z):yd U X Z:=⟨zT h.1 k.1,λi o hi c=>k.2 i o (h.2 i o hi c) c⟩
theorem yd.grow (U:Nat->Prop){X Y:World}(h:nH X.heap.size X Y):yd U X Y:=⟨h.size,λk o c _=>(h.block k (zI.1 c).1).trans c⟩
theorem yd.grown (U:Nat->Prop){X Y:World}{row:Option Nat}(h:X.grownBy Y row)(d:∀r,row=some r->U r):yd U X Y:=⟨h.size,λk o c hn=>(h.block k (zI.1 c).1 (λe=>hn (d k e.symm))).trans c⟩
theorem yd.setCell {U:Nat->Prop}(X:World)(p:nN)(v:Value)(d:U p.block):yd U X (X.setCell p v) :=
 ⟨by simp,λk o c hn=>(nU X p v k (λe=>hn (by rw[e];exact d))).trans c⟩
theorem yd.cell {U:Nat->Prop}{X Y:World}(h:yd U X Y){p:nN}{v:Value}(hc:X.cell? p=some v)(e:¬ U p.block):Y.cell? p=some v:=by
 have d:∃o,X.heap[p.block]?=some o:=by
  cases c:X.heap[p.block]? with
  | none=>simp[mv,c] at hc
  | some o=>exact⟨o,rfl⟩
 obtain⟨o,c⟩:=d;rw[World.cell?_of_block ((h.2 _ o c e).trans c.symm)];exact hc
theorem yd.blk {U:Nat->Prop}{X Y:World}(h:yd U X Y){g:Nat}{t:nS}{cs:Y7}(c:za X g t cs)(d:¬ U g):za Y g t cs:=h.2 _ _ c d
def vp (n:Nat)(U U':Nat->Prop):Prop:=∀k,U' k->U k\/n<=k
theorem vp.refl (n:Nat)(U:Nat->Prop):vp n U U:=λ_ h => .inl h
theorem vp.trans {n m:Nat}{U V X:Nat->Prop}(h:vp n U V)(k:vp m V X)(hn:n<=m):vp n U X:=λj c=>(k j c).elim (λe=>h j e) (λe => .inr K5)
def sj {α : Type}(J:List α -> (Nat->Prop)->World->Prop):Prop:=∀s U X Y,J s U X->nH X.heap.size X Y->J s U Y
def tU {α : Type}(B:Nat)(I:List α -> (Nat->Prop)->World->Prop):Prop:=∀s U X Y row,I s U X->X.grownBy Y row->(∀r,row=some r->B<=r/\∃o:Obj,X.heap[r]?=some o/\o.isCells=false)->I s U Y
theorem tU.b {α : Type}{B:Nat}{I:List α -> (Nat->Prop)->World->Prop}(h:tU B I):sj I:=λs U X Y hs c=>h s U X Y none hs ⟨c.os,c.tape,c.output,c.size,λk d _=>c.block k d⟩ (λr e=>by cases e)
theorem tU.putObj {α : Type}{B:Nat}{I:List α -> (Nat->Prop)->World->Prop}(h:tU B I){s:List α}{U:Nat->Prop}{X:World}{l:Nat}{o':Obj}(o:Obj)(hs:I s U X)(hl:B<=l)(d:X.heap[l]?=some o')(c:o'.isCells=false):I s U (X.putObj l o) :=
 h s U X _ (some l) hs (grownBy_putObj' X l o) (λr e=>by cases e;exact⟨hl,_,d,c⟩)
def tB {α : Type}(F:Fence)(n:Nat)(P:gF)(g:Nat)(lb:Y7)(encs : α -> Y7)(Ok:(Nat->Prop)->Prop)(Rd:List α -> α -> World->Prop)(S Sp:List α -> Prop)(w:World):Prop :=
 ∀(l:Nat) (J Jx:List α -> (Nat->Prop)->World->Prop) (U0:Nat->Prop) (W:World),nH w.heap.size w W->Ok U0->sj J->(∀s U X,J s U X->∀k,U k->k<X.heap.size) ->
  (∀pre x U W1,J pre U W1->Rd pre x W1->YieldAt F (n-1) P l (encs x) W1 λe W' =>
   (e=Y0 (X3 true)/\∃U',vp W1.heap.size U U'/\J (pre++[x]) U' W'/\yd U W1 W')\/(e=Y0 (X3 false)/\∃U',Jx (pre++[x]) U' W')) ->
  J [] U0 W ->
  mQ F n P g (#[.func (.yield l) #[] #[]]++lb) W λe W'=>(∃v,e=Y0 v)/\((∃xs U',S xs/\J xs U' W')\/(∃pre U',Sp pre/\Jx pre U' W'))
def sB {α : Type}(I:List α -> (Nat->Prop)->World->Prop)(Ix:ff->List α -> (Nat->Prop)->World->Prop)(U:Nat->Prop)(xs:List α)(W:World):Exit->gh->World->Prop
 | .normal,_,W'=>∃U',vp W.heap.size U U'/\yd U W W'/\I xs U' W'
 | .ret,_,W'=>∃U',yd U W W'/\Ix .ret xs U' W'
 | .exit id,_,W'=>∃U',yd U W W'/\Ix (.exit id) xs U' W'
 | .goto t,_,W'=>∃U',yd U W W'/\Ix (.goto t) xs U' W'
 | .panic _,_,_=>False
 | .outgrown,_,_=>False
section
variable {F:Fence}{n:Nat}{P:gF}{w:World}
theorem jF {α : Type}{g:nO}{ps:Array Tmp}{assign body:ff}{Q:Exit->gh->World->Prop}{a:gh}
  (aX:F.round=none) (h1:1<=n) {gf:Nat} {lb:Y7} (C:a.eval g=.func (.func gf) #[] lb) (aL:F.fn gf) (eg:∀args w,(gm gf args).run P w=.ok (.enter gf args) w)
  {encs : α -> Y7} {Ok:(Nat->Prop)->Prop} {Rd:List α -> α -> World->Prop} {S Sp:List α -> Prop} {N:World} (aY:tB F (n-1) P gf lb encs Ok Rd S Sp N)
  (aG:nH N.heap.size N w) (aV:∀x,(encs x).size=ps.size) (O:Nat->Prop) (aO:Ok O)
  (I:List α -> (Nat->Prop)->World->Prop) (H:ff->List α -> (Nat->Prop)->World->Prop) (M:tU w.heap.size I) (aF:∀c,tU w.heap.size (H c)) (aC:∀s U X,I s U X->∀k,U k->k<X.heap.size)
  (aM:∀f x,OwnFrom w.heap.size (λ(_:Unit) W=>Rd f x W)) (h0:I [] O w) (a₁ : α -> gh)
  (aP:∀(l:Nat) (x : α) (W:World) (K:gh->World->Prop),K (a₁ x) W ->
   assign.wpIn (F.inRound l) (n-1-1) P (Exit.then K (λ_ _ _=>False)) {tmps:=(ps.zip (encs x)).foldl (λt (p,v)=>t.setIfInBounds p v) a.tmps,defers:=[]} W)
  (aQ:∀(l:Nat) (f:List α) (x : α) (U:Nat->Prop) (W:World),I f U W->Rd f x W->body.wpIn (F.inRound l) (n-1-1) P (sB I H U (f++[x]) W) (a₁ x) W)
  (aR:∀(D:Nat) (xs:List α) (U:Nat->Prop) (W:World),w.heap.size<=D->S xs->I xs U W->W.heap[D]?=some (.deferred (some []))->Q .normal {a with defers:={target:=.collected D,args:=#[]}::a.defers} W)
  (aZ:∀(D:Nat) (c:ff) (f:List α) (U:Nat->Prop) (W:World),w.heap.size<=D->Sp f->H c f U W->W.heap[D]?=some (.deferred (some []))->c.wpIn F n P Q {a with defers:={target:=.collected D,args:=#[]}::a.defers} W) :
  (Code.rangeFunc g ps assign body).wpIn F n P Q a w:=by
 refine wpIn_rangeFunc λfn aS => ?_
 rw[aX]
 -- the loop's record, and the world that bears it and the block for deferred calls
 obtain⟨d,z⟩:∃d:LoopState->Option ff->Loop,d=λst pe => {state:=st,pending:=pe,fn,tmps:=a.tmps,params:=ps,assign,body,defers:=w.heap.size}:=⟨_,rfl⟩
 obtain⟨V,hV⟩:∃V,(w.alloc (.deferred (some []))).alloc (.loop (d .ready none))=V:=⟨_,rfl⟩;have vL:V.heap[w.heap.size+1]?=some (.loop (d .ready none)):=by
  subst hV;have:=mB (w.alloc (.deferred (some []))) (.loop (d .ready none))
  rwa [nG] at this
 have vD:V.heap[w.heap.size]?=some (.deferred (some [])):=by subst hV;exact(Below.heap_alloc _ _ _ K9).trans (mB w _)
 have aK:nH w.heap.size w V:=by subst hV;exact((nF _ w).alloc (zG _) _).alloc K9 _
 have vI:I [] O V:=M.b _ _ _ _ h0 aK;have vB:nH N.heap.size N V:=aG.trans (aK.mono aG.size);refine⟨w.heap.size+1,[{target:=.collected w.heap.size,args:=#[]}],V,{target:=.fn (.func gf) lb,args:=#[.func (.yield (w.heap.size+1)) #[] #[]]},V,gf,#[.func (.yield (w.heap.size+1)) #[] #[]]++lb,V,?_,?_,?_,?_,λ_=>h1,?_⟩
 .rw[<-hV,z];exact run_enterLoop_outer _ _ _ _ _
 .simp only[resolve,C];simp[go_sem]
 .intro f' aH;simp[Target.leads] at aH;subst aH;exact aL
 .simp[invoke,go_sem,eg]
 have aE:∀{A B:World} {k:Nat} {o:Obj},A.heap[k]?=some o->nH A.heap.size A B->B.heap[k]?=some o:=λj C=>(C.block _ (zI.1 j).1).trans j
 refine(aY (w.heap.size+1)
  (λf U W=>I f U W/\W.heap[w.heap.size+1]?=some (.loop (d .ready none))/\W.heap[w.heap.size]?=some (.deferred (some []))/\¬ U w.heap.size/\¬ U (w.heap.size+1))
  (λf U W=>∃c,H c f U W/\W.heap[w.heap.size+1]?=some (.loop (d .done (some c)))/\W.heap[w.heap.size]?=some (.deferred (some [])))
  O V vB aO
  (λs U A B hs C=>⟨M.b s U A B hs.1 C,aE hs.2.1 C,aE hs.2.2.1 C,hs.2.2.2⟩)
  (λs U X hs=>aC s U X hs.1)
  ?round ⟨vI,vL,vD,λe=>by have:=aC _ _ _ h0 _ e;omega,λe=>by have:=aC _ _ _ h0 _ e;omega⟩).mono ?behind
 case round =>
  rintro f x U W ⟨hi,hl,j,aI,aJ⟩ aW;have aU:w.heap.size+1<W.heap.size:=(zI.1 hl).1;have hy:=run_yield (P:=P) (args:=encs x) hl (by rw[z];exact aV x);rw[z] at hy;refine⟨fn,_,assign,body,hy,roundIn_of_wpIn aS (aP _ x W _ ⟨_,run_beginRound hl (by rw[z]),?_⟩)⟩;clear hy;have bL:(W.putObj (w.heap.size+1) (.loop {d .ready none with state:=.busy})).heap[w.heap.size+1]?=some (.loop {d .ready none with state:=.busy}):=gn aU;have bD:(W.putObj (w.heap.size+1) (.loop {d .ready none with state:=.busy})).heap[w.heap.size]?=some (.deferred (some [])):=(nP K5).trans j;refine wpIn_mono (aQ _ f x U _ (M.putObj _ hi K5 hl rfl) ((aM f x).putObj (s:=()) _ aW K5 hl rfl)) ?_
  -- the round's end
  have fin:∀(u:Option ff) (Z:World),yd U (W.putObj (w.heap.size+1) (.loop {d .ready none with state:=.busy})) Z ->
    (Instr.endRound (w.heap.size+1) u).run P Z=.ok (X3 u.isNone) (Z.putObj (w.heap.size+1) (.loop (d (if u.isNone then .ready else .done) u))) /\
    Z.heap[w.heap.size+1]?=some (.loop {d .ready none with state:=.busy}) /\
    (Z.putObj (w.heap.size+1) (.loop (d (if u.isNone then .ready else .done) u))).heap[w.heap.size+1]?=some (.loop (d (if u.isNone then .ready else .done) u)) /\
    (Z.putObj (w.heap.size+1) (.loop (d (if u.isNone then .ready else .done) u))).heap[w.heap.size]?=some (.deferred (some [])):=λu Z aB=>by
   have uL:=aB.2 _ _ bL aJ;have:=run_endRound (P:=P) u uL;rw[z] at this ⊢;exact⟨this,by rw[z] at uL;exact uL,gn (zI.1 uL).1,(nP K5).trans (aB.2 _ _ bD aI)⟩
  have out:∀(c:ff) (i:Nat->Prop) (Z:World),yd U (W.putObj (w.heap.size+1) (.loop {d .ready none with state:=.busy})) Z->H c (f++[x]) i Z ->
    (∃c',H c' (f++[x]) i (Z.putObj (w.heap.size+1) (.loop (d .done (some c))))/\(Z.putObj (w.heap.size+1) (.loop (d .done (some c)))).heap[w.heap.size+1]?=some (.loop (d .done (some c')))/\(Z.putObj (w.heap.size+1) (.loop (d .done (some c)))).heap[w.heap.size]?=some (.deferred (some []))):=λc i Z aB aT=>by
   obtain⟨_,h3,h4,h5⟩:=fin (some c) Z aB;exact⟨c,(aF c).putObj _ aT K5 h3 rfl,h4,h5⟩
  rintro e a3 Z L;cases e with
  | normal =>
   obtain⟨i,aA,r,E⟩:=L;obtain⟨G,h3,h4,h5⟩:=fin none Z r;have a0:(W.putObj (w.heap.size+1) (.loop {d .ready none with state:=.busy})).heap.size=W.heap.size:=by simp[World.putObj]
   rw[a0] at aA;refine⟨_,_,G,.inl ⟨rfl,i,aA,⟨M.putObj _ E K5 h3 rfl,h4,h5,λe => ?_,λe => ?_⟩,by have:=r.1;simpa using this,λk o j hm => ?_⟩⟩
   .rcases aA _ e with h|h
    .exact aI h
    .omega
   .rcases aA _ e with h|h
    .exact aJ h
    .omega
   .by_cases aD:k=w.heap.size+1
    .subst aD;rw[hl] at j;rw[<-j];exact h4
    .rw[nP aD];exact r.2 k o (by rw[nP aD];exact j) hm
  | ret =>
   obtain⟨i,r,E⟩:=L;exact⟨_,_,(fin (some .ret) Z r).1,.inr ⟨rfl,i,out .ret i Z r E⟩⟩
  | exit id =>
   obtain⟨i,r,E⟩:=L;exact⟨_,_,(fin (some (.exit id)) Z r).1,.inr ⟨rfl,i,out (.exit id) i Z r E⟩⟩
  | goto t =>
   obtain⟨i,r,E⟩:=L;exact⟨_,_,(fin (some (.goto t)) Z r).1,.inr ⟨rfl,i,out (.goto t) i Z r E⟩⟩
  | panic ch=>exact L.elim
  | outgrown=>exact L.elim
 case behind =>
  rintro e Z ⟨⟨v,rfl⟩,(⟨xs,i,hS,hi,hl,j,_⟩|⟨f,i,aN,c,hi,hl,j⟩)⟩
  .have G:=fM (P:=P) hl (by rw[z];simp);rw[z] at G;exact⟨none,_,G,aR _ xs i _ (zG _) hS (M.putObj _ hi K5 hl rfl) ((nP K5).trans j)⟩
  .have G:=fM (P:=P) hl (by rw[z];simp);rw[z] at G;exact⟨some c,_,G,aZ _ c f i _ (zG _) aN ((aF c).putObj _ hi K5 hl rfl) ((nP K5).trans j)⟩
end
end
section
open Go Go.RowKit xq
theorem xX (n:Int)(h0 : -9223372036854775808<=n:=by omega)(h1:n<9223372036854775808:=by omega):IntKind.i64.wrap n=n:=by
 simp[IntKind.wrap,IntKind.bits,IntKind.signed];split<;>omega
structure xG where
 key:ByteArray
 val:ByteArray
 pj:Int
 size:Int
structure ym where
 leaf:Bool
 cells:List xG
 keys:List ByteArray
 kids:List Int
def zl (c:xG):Y8:=[X9 c.key,X9 c.val,Y1 Q4 c.pj,Y1 Q4 c.size]
def vY (cs:List xG):Y8:=(cs.map zl).flatten
def Xa (ks:List ByteArray):Y8:=ks.map Value.string
def ZJ (ks:List Int):Y8:=ks.map (Value.int .i64)
theorem DQ:∀cs:List xG,(vY cs).length=cs.length*4
 | []=>rfl
 | c::cs=>by
  have e:vY (c::cs)=zl c++vY cs:=rfl;rw[e,zH,DQ cs,zK];show 4+_=_
  omega
theorem Pk:∀(cs:List xG) (j:Nat) (h:j<cs.length),((vY cs).drop (j*4)).take 4=zl cs[j]
 | c::cs,0,_=>by have e:vY (c::cs)=zl c++vY cs:=rfl;rw[e];rfl
 | c::cs,j+1,h=>by have e:vY (c::cs)=zl c++vY cs:=rfl;rw[e,show (j+1)*4=4+j*4 from by omega,<-List.drop_drop];have d:(zl c++vY cs).drop 4=vY cs:=rfl;rw[d,Pk cs j (by simpa using h)];rfl
theorem Ym (cs:List xG):∀v∈vY cs,v.oneCell'=true:=by
 intro v d;obtain⟨l,hl,d⟩:=List.mem_flatten.1 d;obtain⟨c,_,rfl⟩:=qR.1 hl;simp[zl] at d;rcases d with rfl|rfl|rfl|rfl<;>rfl
theorem jd (ks:List ByteArray):∀v∈Xa ks,v.oneCell'=true:=by
 intro v c;obtain⟨k,_,rfl⟩:=qR.1 c;rfl
theorem Yh (ks:List Int):∀v∈ZJ ks,v.oneCell'=true:=by
 intro v c;obtain⟨k,_,rfl⟩:=qR.1 c;rfl
theorem Zs (c:xG):∀v∈zl c,v.oneCell'=true:=by
 intro v d;simp[zl] at d;rcases d with rfl|rfl|rfl|rfl<;>rfl
theorem ql:yw Y3 94 4:=⟨⟨_,underlying94,rfl⟩,by kernel_rfl⟩
theorem zm:yw Y3 69 4:=⟨⟨_,underlying69,rfl⟩,by kernel_rfl⟩
theorem Eu:ZQ 66 9 1 16 (X9 nX):=⟨underlying66,by kernel_rfl,by kernel_rfl,by decide⟩
def zx (x:ym)(Ac:Y5)(cc:Nat)(Ak:Y5)(ck:Nat)(Ai:Y5)(ci:Nat):Y7:=#[X3 x.leaf,X1 Ac x.cells.length cc,X1 Ak x.keys.length ck,X1 Ai x.kids.length ci]
structure XX (w:World)(B:Nat)(x:ym)(Ac:Y5)(cc:Nat)(Ak:Y5)(ck:Nat)(Ai:Y5)(ci:Nat):Prop where
 c:yl w B 4 Ac x.cells.length cc (vY x.cells)
 k:yl w B 1 Ak x.keys.length ck (Xa x.keys)
 i:yl w B 1 Ai x.kids.length ci (ZJ x.kids)
theorem XX.grow {w w':World}{x:ym}{e j f:Y5}{r s ci:Nat}(h:XX w w.heap.size x e r j s f ci)(d:nH w.heap.size w w'):XX w' w'.heap.size x e r j s f ci:=⟨h.c.grow d,h.k.grow d,h.i.grow d⟩
def qh (x:ym):List ByteArray:=if x.leaf then x.cells.map xG.key else x.keys
theorem KJ {w:World}{B g o n c:Nat}{cs:List xG}(h:yl w B 4 (K4 ⟨g,o,K3⟩) n c (vY cs))(hn:n=cs.length)(j:Nat)(d:j<cs.length):w.rangeAt g (o+j*4) (zl cs[j]):=by
 have:=h.elem j K5;rw[Pk cs j d] at this;exact this
theorem Xh {w:World}{B g o n c:Nat}{ks:List ByteArray}(h:yl w B 1 (K4 ⟨g,o,K3⟩) n c (Xa ks))(hn:n=ks.length)(j:Nat)(d:j<ks.length):w.cell? ⟨g,o+j,K3⟩=some (X9 ks[j]):=by
 obtain⟨g',o',e,_,f⟩:=h.pO K5;injection e with e
 injection e with e1 e2
 subst e1 e2;exact f j _ (by simp[Xa,d])
theorem pC {w:World}{g o:Nat}{c:xG}(h:w.rangeAt g o (zl c)):w.cell? ⟨g,o,K3⟩=some (X9 c.key):=by simpa using h 0 _ rfl
theorem Kb (w:World)(T:nS)(v:Value)(h1:v.oneCell'=true):yl (w.alloc (Q9 #[v] T)) (w.alloc (Q9 #[v] T)).heap.size 1 (K4 ⟨w.heap.size,0,K3⟩) 1 1 [v]:=by
 have h:=za.new w T #[v];refine⟨zG _,by omega,(λe=>by cases e),rfl,(λu hu=>by obtain rfl:u=v:=(by simpa using hu);exact h1),λ_=>⟨w.heap.size,0,rfl,h.lt,λj u c => ?_⟩⟩;rw[h.cell,qA];simpa using c
def IE (w:World)(l:List ByteArray)(e:mH)(w':World):Prop:=∃A c,e=Y0 (X1 A l.length c)/\yl w' w'.heap.size 1 A l.length c (Xa l)/\nH w.heap.size w w'
end
section
open Go Go.RowKit xq Go.Shelf
attribute [local go_sem] Oper.semAt_some
def XF:xG:=⟨nX,nX,0,0⟩
section
variable {w:World}{o:nh}{ρ:nO->Value}
theorem Xd (c:o.op=.alloc 94):(nQ ρ o).run Y3 w=.ok (.value (Y9 w.heap.size)) (w.alloc (Q9 (zl XF).toArray 94)):=by
 simp[nQ,c,Instr.alloc,newVar,newRow,go_sem,nM];rfl
end
theorem LS (n:Nat)(aJ:2<=n)(l G n₀:Nat)(A:Y5)(c:Nat)(cells:List xG)(J H:List xG->World->Prop)
  (hY:∀f x W,J f W->f.length<cells.length->YieldAt nv (n-1) Y3 l #[Q0 (zl x).toArray] W λe W' =>
   (e=Y0 (X3 true)/\J (f++[x]) W'/\nH n₀ W W')\/(e=Y0 (X3 false)/\H (f++[x]) W'))
  (W:World) (aB:AbidesFrom W.heap.size J) (aE:n₀<=W.heap.size) (aG:W.cell? ⟨G,0,K3⟩=some (X1 A cells.length c)) (s:yl W n₀ 4 A cells.length c (vY cells)) (h0:J [] W) :
  mQ nv n Y3 221 #[.func (.yield l) #[] #[],Y9 (K4 ⟨G,0,K3⟩)] W λe W'=>(∃v,e=Y0 v) /\
   ((∃U,U=cells/\J U W')\/(∃f,(∃t,cells=f++t)/\H f W')):=by
 have aH:=s.le;have aI:=s.max;have h1:1<=n:=K5
 refine gy func221 rfl trivial ?_ rfl;simp only[ntmps221,zR,zK,zY,yB,yC,qC,qD,qO,qG,zQ,zW]
 gi_wp2
 gi_loopw [7] (λi wr=>∃(k:Nat),k<=cells.length/\i=Y1 Q4 k/\J (cells.take k) wr/\nH n₀ W wr)
  (λi _=>cells.length-(intOf i).toNat)
 case atStart=>exact⟨0,by omega,rfl,h0,nF _ _⟩
 case round =>
  obtain⟨k,I,rfl,h,C⟩:=hrel
  by_cases L:k<cells.length
  .obtain⟨g,o,rfl,hg,_⟩:=s.pO K5;have aF:wr.rangeAt g (o+k*4) (zl cells[k]):=λj v hj=>(C.cell (p:=⟨g,o+k*4+j,K3⟩) hg).trans (KJ s rfl k L j v hj)
   have E:cells.take (k+1)=cells.take k++[cells[k]]:=zU L;have N:∃t,cells=(cells.take k++[cells[k]])++t:=⟨cells.drop (k+1),by rw[<-E,qK]⟩;have K:(cells.take k).length<cells.length:=by rw[qB];omega
   have O:=za.new wr 94 (zl XF).toArray;have nb:=O.setRow (zl cells[k]).toArray;have d:nH wr.heap.size wr ((wr.alloc (Q9 (zl XF).toArray 94)).setRow wr.heap.size (zl cells[k]).toArray):=zf ((nF _ wr).alloc (zG _) _) (zG _) _;have z:J (cells.take k) ((wr.alloc (Q9 (zl XF).toArray 94)).setRow wr.heap.size (zl cells[k]).toArray):=aB _ _ _ none h ⟨d.os,d.tape,d.output,d.size,λk I _=>d.block k I⟩ (λr e=>by cases e);have M:=C.trans (d.mono (zT aE C.size));obtain⟨u,B⟩:=Z9 ((wr.alloc (Q9 (zl XF).toArray 94)).setRow wr.heap.size (zl cells[k]).toArray);rw[<-B] at nb z M;have Z:=nI B;obtain⟨fn,tmps,assign,body,hy,hR⟩:=hY (cells.take k) cells[k] u z K;generalize cells[k]=x at *;have aK:IntKind.i64.wrap ((k:Int)+1)=(k:Int)+1:=xX _;have X:=nI E;have V:=nI N;clear E N K B d h z
   gi_wp2_with (first
    |(refine Qw rfl _ (.tmp 9) rfl (yQ ql aF rfl rfl rfl) ?_)
    |(refine QG rfl _ rfl (Xd rfl) ?_)
    |(refine jj rfl _ (.tmp 4) (.tmp 10) rfl wr.heap.size rfl rfl ql O rfl rfl (Zs _) ?_;rw[<-Z.out])
    |(refine Qw rfl _ (.tmp 4) rfl (yQ ql nb.range rfl rfl rfl) ?_))
   refine hR.mono ?_;rintro e W3 (⟨rfl,aA,aD⟩|⟨rfl,aC⟩)
   .gi_wp2
    go_roundw
    case rel=>exact⟨k+1,by omega,by simp,by rw[X.out];exact aA,M.trans aD⟩
    case measure=>simp[intOf];omega
   .gi_wp2
    exact nT (mF rfl _ _ _) rfl ⟨⟨_,rfl⟩,.inr ⟨_,V.out,aC⟩⟩
  .obtain rfl:k=cells.length:=K5
   rw[List.take_length] at h
   gi_wp2
   go_end0;exact⟨⟨_,rfl⟩,.inl ⟨_,rfl,h⟩⟩
theorem Dk (n:Nat)(u:2<=n)(d n₀:Nat)(A:Y5)(c:Nat)(cells:List xG)(w:World)(f:n₀<=w.heap.size)(j:d<w.heap.size)(hc:w.cell? d=some (X1 A cells.length c))(s:yl w n₀ 4 A cells.length c (vY cells)):SeqStopsK nv n Y3 221 #[Y9 d] (λx:xG=>#[Q0 (zl x).toArray]) (nH n₀)
   (λB=>B=cells) (λz=>∃t,cells=z++t) cells.length w:=λl J h W e k _ r i =>
 LS n u l d n₀ A c cells J h r W k (zT f e.size) ((e.cell (p:=⟨d,0,K3⟩) j).trans hc) (s.below (e.mono f)) i
theorem LR (n:Nat)(A:Y5)(len c:Nat)(w:World):mQ nv n Y3 155 #[X1 A len c] w λe w'=>e=Y0 (.func (.func 221) #[] #[Y9 w.heap.size])/\w.alloc (Q9 #[X1 A len c] 65)=w':=by
 refine gy func155 rfl trivial ?_ rfl;simp only[ntmps155,zR,zK,zY,yB,yC,qC,qD,qO,qG,zQ,zW]
 gi_wp2
 go_ret;exact⟨rfl,rfl⟩
theorem XS {W W':World}{base sz n:Nat}{T:nS}{v:Value}{cs:Y8}{row:Option Nat}(h:W.ownsRow base T sz v n cs)(f:W.grownBy W' row)(i:∀r,row=some r->∃o:Obj,W.heap[r]?=some o/\o.isCells=false):W'.ownsRow base T sz v n cs:=by
 refine qp h λr c=>f.block r (kM h r c) λe => ?_
 obtain⟨o,d,hc⟩:=i r e.symm;rcases h.2 with⟨rfl,_⟩|⟨g,cap,cur,rfl,_,hq,_⟩
 .cases c
 .injection c with c
  subst c;rw[hq] at d;injection d with d
  subst d;cases hc
theorem OG {W W':World}{base sz n:Nat}{T:nS}{v:Value}{cs:Y8}(h:W.ownsRow base T sz v n cs)(d:W.grownBy W' v.ownBlock):KeepsOthers W W' :=
 KeepsOthers.of_grownBy d λj o e c=>by
  rcases h.2 with⟨rfl,_⟩|⟨g,cap,cur,rfl,_,hq,_⟩
  .cases e
  .injection e with e
   subst e;rw[hq] at c;injection c with c
   subst c;rfl
theorem Ki {W W':World}(h:nH W.heap.size W W'):KeepsOthers W W' :=
 KeepsOthers.of_grownBy (row:=none) ⟨h.os,h.tape,h.output,h.size,λk c _=>h.block k c⟩ (λj o e=>by cases e)
section
set_option maxRecDepth 100000
variable {F:Fence}{n:Nat}{w:World}{ops:Array nh}{rest:List nh}{o:nh}{a:gh}{Q:Exit->gh->World->Prop}
theorem MY (G:o.guard=none){S T:nS}{sz i:Nat}{z:Value}(d:ZQ S T sz i z)(s x:nO)(L:o.op=.call {callee:=.builtin .append,args:=#[s,x],argTypes:=#[S,S]})
  (base:Nat) (v:Value) (k:Nat) (cs:Y8) (hs:a.eval s=v) (M:w.ownsRow base T sz v k cs) (B g c m:Nat) (r:Y8) (U:a.eval x=X1 g m c) (A:yl w B sz (K4 ⟨g,0,K3⟩) m c r) (K:0<m)
  (I:k+m<=gP) (E:(k+m)*i<=140737488355328) (C:base<=w.heap.size)
  (h:∀f w',w'.ownsRow base T sz f (k+m) (cs++r)->w.grownBy w' v.ownBlock->wpListIn F n Y3 ops Q rest (a.put o.dst f) w'):wpListIn F n Y3 ops Q (o::rest) a w:=by
 obtain⟨Z,hi,V,W,X⟩:=info_parts d.inf;refine wpListIn_append_own w G s x _ L base _ Z z sz i d.oB hi V W X d.zs d.pos v k cs hs M ⟨g,0,K3⟩ m c r U A.len (λj u hu => ?_) A.one I E C ?_
 .obtain⟨g',o',e,_,O⟩:=A.pO K;injection e with e
  injection e with e1 e2
  subst e1 e2;rw[Addr.add_mid];exact O j u hu
 .intro f w' N H _;exact h f w' N H
end
abbrev pD (v0:Value)(h g4:Nat)(Ac:Y5)(len cc:Nat)(x:xG):gh :=
 {tmps:=#[v0,Y9 h,X1 none 0 0,Y9 (h+1:Nat),Y9 g4,Y9 h,X3 true,X3 false,gQ,gQ,Y9 (K4 ⟨h,1,K3⟩),X1 Ac len cc,
   .func (.func 221) #[] #[Y9 (h+1+1:Nat)],Q0 (zl x).toArray,gQ,gQ,gQ,gQ,gQ,gQ],defers:=[]}
theorem PI (n:Nat)(hn:6<=n)(w:World)(cells:List xG)(keys:List ByteArray)(kids:List Int)(f:Y5)(i:Nat)(G:Y5)(I:Nat)(E:Y5)(H:Nat)(hc:yl w w.heap.size 4 f cells.length i (vY cells))(hl:cells.length<=1000000):mQ nv n Y3 93 #[Q0 #[X3 true,X1 f cells.length i,X1 G keys.length I,X1 E kids.length H]] w (IE w (cells.map xG.key)):=by
 have lc:=hc.le;have h1:1<=n:=K5
 obtain⟨W2,B⟩:=Z9 ((w.alloc (Q9 #[X3 true,X1 f cells.length i,X1 G keys.length I,X1 E kids.length H] 69)).alloc (Q9 #[X1 none 0 0] 66));have Z:nH w.heap.size w W2:=by rw[B];exact((nF _ w).alloc (zG _) _).alloc K9 _
 have s2:W2.heap.size=w.heap.size+1+1:=by rw[B];simp
 have b1:za W2 w.heap.size 69 #[X3 true,X1 f cells.length i,X1 G keys.length I,X1 E kids.length H]:=by rw[B];exact(za.new w _ _).alloc _
 have b3:za W2 (w.heap.size+1) 66 #[X1 none 0 0]:=by have:=za.new (w.alloc (Q9 #[X3 true,X1 f cells.length i,X1 G keys.length I,X1 E kids.length H] 69)) 66 #[X1 none 0 0];rw[nG] at this;rw[B];exact this
 have aB:=nI B;refine callsIn_of_wp_marks func93 rfl trivial ?_ rfl;simp only[ntmps93,zR,zK,zY,yB,yC,qC,qD,qO,qG,zQ,zW];clear B
 gi_wp2_with (refine⟨trivial,?_⟩;gi_at_call 155;refine(LR (n-1) _ _ _ _).mono ?_;rintro e w' ⟨rfl,rfl⟩)
 obtain⟨W,aE⟩:∃W:Value,W=Q0 #[X3 true,X1 f cells.length i,X1 G keys.length I,X1 E kids.length H]:=⟨_,rfl⟩;rw[<-aB.out,<-aE];obtain⟨W4,C⟩:=Z9 (W2.alloc (Q9 #[X1 f cells.length i] 65));have aC:nH w.heap.size w W4:=by rw[C];exact Z.alloc Z.size _
 have s4:W4.heap.size=w.heap.size+1+1+1:=by rw[C];simp[s2]
 have aH:za W4 (w.heap.size+1) 66 #[X1 none 0 0]:=by rw[C];exact b3.alloc _
 have aK:W4.cell? (w.heap.size+1+1:Nat)=some (X1 f cells.length i):=by rw[C,<-s2];exact(za.new W2 65 #[X1 f cells.length i]).boxed
 rw[<-C];clear C aE b1 b3 aB s2 Z;have aG:w.heap.size<=W4.heap.size:=K5
 refine wpIn_rangeFunc_ownH rfl h1 (gf:=221) (lb:=#[Y9 (w.heap.size+1+1:Nat)]) rfl trivial (zb.eo func221)
  (Dk (n-1) K5 (w.heap.size+1+1) w.heap.size f i cells W4 aG K5 aK (hc.below aC)) belowK_t (belowK_b aG) (nF _ _) (λ_=>rfl)
  (λd V=>nH w.heap.size w V/\∃A c,za V (w.heap.size+1) 66 #[X1 A d.length c]/\V.ownsRow (w.heap.size+1+1) 9 1 (X1 A d.length c) d.length (Xa (d.map xG.key)))
  (λ_ _ _=>False)
  ?own ?own2 ⟨aC,none,0,aH,gU _ _ _ _⟩
  (λx a V=>∃z,a=pD W w.heap.size z f cells.length i x/\za V z 94 (zl x).toArray) ?ownA ?assign ?body ?done ?stop
 case own =>
  rintro d X Y row ⟨hB,A,c,j,own⟩ s u;exact⟨hB.grown s hB.size (λk e=>by have:=(u k e).1;omega),A,c,j.kept s (λr e=>(u r e).2),XS own s (λr e=>(u r e).2)⟩
 case own2=>exact λ_ _ _ _ _ h _ _=>h
 case ownA =>
  rintro x a ⟨⟩ X Y row ⟨z,e,h⟩ s u;exact⟨z,e,h.kept s (λr e=>(u r e).2)⟩
 case assign =>
  intro l1 d x V K ⟨hB,A,c,j,own⟩ N;have n0:=za.new V 94 (zl XF).toArray;have nb:=n0.setRow (zl x).toArray;have L:nH V.heap.size V ((V.alloc (Q9 (zl XF).toArray 94)).setRow V.heap.size (zl x).toArray):=zf ((nF _ V).alloc (zG _) _) (zG _) _;simp only[Array.zip_eq_zipWith,List.zipWith_toArray,List.zipWith_cons_cons,List.zipWith_nil_right,List.foldl_toArray,List.foldl_cons,List.foldl_nil,zA,zF,zE]
  gi_wp2_with (first
   |(refine QG rfl _ rfl (Xd rfl) ?_)
   |(refine jj rfl 94 (.tmp 4) (.tmp 13) rfl V.heap.size rfl rfl ql n0 rfl rfl (Zs _) ?_))
  exact N _ _ ((Ki L).from _) (L.mono hB.size) ⟨hB.trans (L.mono hB.size),A,c,j.below L j.lt,qn own L⟩ ⟨V.heap.size,rfl,nb⟩
 case body =>
  rintro l1 d x a V _ _ ⟨hB,A,c,j,own⟩ ⟨z,rfl,h4⟩ aN;have c3:=j.boxed;have d0:V.cell? ⟨z,0,K3⟩=some (X9 x.key):=by rw[h4.cell];rfl
  have M:nH V.heap.size V (V.alloc (Q9 #[X9 x.key] 9)):=(nF _ V).alloc (zG _) _;have U:=qn own M;have aJ:w.heap.size+1+1<=(V.alloc (Q9 #[X9 x.key] 9)).heap.size:=by have:=j.lt;have:=M.size;omega
  have ba:=j.below M j.lt;have HE:Hid (Xa (d.map xG.key)++[X9 x.key]=Xa ((d++[x]).map xG.key)):=nI (by simp[Xa]);have HL:Hid ((d++[x]).length=d.length+1):=nI K9;have aM:=Kb V 9 (X9 x.key) rfl
  gi_wp2_with (gi_at_builtin;refine MY rfl Eu (.tmp 14) (.tmp 17) rfl (w.heap.size+1+1) (X1 A d.length c) d.length (Xa (d.map xG.key)) rfl U _ _ 1 1 [X9 x.key] rfl aM K5 (by unfold gP;omega) K5 aJ ?_;intro v5 w5 O aA;rw[HE.out] at O;obtain⟨A5,k5,rfl,_⟩:=qq O (jd _);have b5:=ba.grown aA (λe=>by have:=zj U _ e.symm;omega);have c5:=b5.boxed;have f5:=b5.free 0)
  have aI:=zo aA (show w.heap.size<=(V.alloc (Q9 #[X9 x.key] 9)).heap.size by omega) (λr e=>by have:=zj U r e;omega);have aD:nH w.heap.size V w5:=(M.mono hB.size).trans aI;refine⟨(((Ki M).trans (OG U aA)).trans (KeepsOthers.setCell _ _ _)).from _,aD.setCell K9 _,hB.trans (aD.setCell K9 _),A5,k5,?_,?_⟩
  .rw[HL.out];exact b5.set 0 _
  .rw[HL.out];exact qp O (λr u=>nU w5 ⟨w.heap.size+1,0,K3⟩ _ r (λe=>by have h7:=zj O r u;have h8:r=w.heap.size+1:=e;omega))
 case done =>
  rintro D xs V hD rfl ⟨hB,A,c,j,own⟩ N;have c3:=j.boxed
  gi_wp2
  refine⟨by simp,.inl ⟨_,_,rfl,mV N,?_⟩⟩;have s:=grownBy_putObj' V D (.deferred none);have own2:=XS own s (λr e=>⟨_,(by cases e;exact N),rfl⟩);obtain⟨A2,c2,e,aL⟩:=qq own2 (jd _);injection e with e1 e2 e3
  subst e1 e3;have aF:(xs.map xG.key).length=xs.length:=by simp
  exact⟨_,results_tmp rfl _ _ _,A,c,by rw[aF];rfl,by rw[aF];exact aL,hB.grown s hB.size (λk e=>by cases e;omega)⟩
 case stop=>exact λ_ _ _ _ _ _ h _=>h.elim
theorem keys_gives (w:World)(x:ym)(e:Y5)(i:Nat)(c:Y5)(d:Nat)(f:Y5)(j:Nat)(h:XX w w.heap.size x e i c d f j)(hl:x.cells.length<=1000000):nK Y3 93 #[Q0 (zx x e i c d f j)] w (IE w (qh x)):=by
 obtain⟨hc,k,hi⟩:=h;obtain⟨leaf,cells,keys,kids⟩:=x;cases leaf with
 | false =>
  have hB:nH w.heap.size w (w.alloc (Q9 (zx ⟨false,cells,keys,kids⟩ e i c d f j) 69)):=(nF _ w).alloc (zG _) _;unfold zx at hB ⊢
  go_enter func93,ntmps93
  go_wp2;go_ret;exact⟨c,d,rfl,k.grow hB,hB⟩
 | true=>exact callsIn_wide.1 (PI 6 (zG _) w cells keys kids e i c d f j hc hl)
end
section
open Go Go.RowKit xq

section
variable (w:World)(p q many many':Nat)(g g':Nat->Y4)(xs xs':List (Nat×Y4))(left left':Int)(stops stops':Bool)
end


theorem BJ {v0 v1:Value}(d:v0.oneCell'=true)(h1:v1.oneCell'=true):∀v∈(#[v0,v1]:Y7).toList,v.oneCell'=true:=by
 intro v c;simp at c;rcases c with rfl|rfl<;>assumption

section
variable (fr pg n:Int)
theorem VW (w:World)(h1:1<=fr/\fr<=2000)(h2:1<=pg/\pg<=2000):nK Y3 36 #[Q0 #[Y1 Q4 fr,Y1 Q4 pg]] w λe w'=>e=Y0 (Y1 Q4 (2+9*fr+8*pg))/\nH w.heap.size w w':=by
 have c:IntKind.i64.wrap (9*fr)=9*fr:=zg _;have d:IntKind.i64.wrap (2+9*fr)=2+9*fr:=zg _;have f:IntKind.i64.wrap (8*pg)=8*pg:=zg _;have h:IntKind.i64.wrap (2+9*fr+8*pg)=2+9*fr+8*pg:=zg _
 go_enter func36,ntmps36
 go_wp2;go_ret;exact⟨rfl,(nF _ _).alloc (zG _) _⟩
end
namespace zb
section
variable {P:gF}{ops:Array nh}{Q:Exit->gh->World->Prop}{S:World->Prop}
theorem yldG {o:nh}{v:Value}{a:gh}(c:Region.wanted o (yielded ops a.tmps)=true)(h:∀w,S w->(nQ a.eval o).run P w=.ok (.value v) w):YieldsIf P ops S o v a:=.inl ⟨c,h⟩
end
end zb
theorem Mo {x:ym}(hl:x.cells.length<=1000000)(c:x.keys.length<=1000000):(qh x).length<=1000000:=by
 unfold qh;split
 .rw[qH];exact hl
 .exact c
def ye (a b:ByteArray):Bool:=gH a.toList b.toList
def uW (a b:ByteArray):Bool:=gH a.toList b.toList||a.toList==b.toList
def vO (key:ByteArray)(l:List ByteArray):Nat:=l.countP (uW · key)
def qz (key:ByteArray):List ByteArray->Nat
 | []=>0
 | s::l=>if ye s key then qz key l+1 else 0
theorem YG (key:ByteArray):∀l,qz key l<=l.length
 | []=>zG _
 | s::l=>by unfold qz;have:=YG key l;split<;>simp<;>omega
theorem kp (key:ByteArray):∀(l:List ByteArray) (k:Nat),k<=l.length->(∀j,(h:j<l.length)->j<k->ye l[j] key=true)->(∀h:k<l.length,ye l[k] key=false)->qz key l=k
 | [],k,hk,_,_=>by simp at hk;subst hk;rfl
 | s::l,0,_,_,h=>by unfold qz;have:=h K9;simp at this;rw[if_neg (by simp[this])]
 | s::l,k+1,hk,h1,h2=>by unfold qz;have c:=h1 0 K9 K5;simp at c;rw[if_pos c,kp key l k (by simpa using hk) (λj d e=>h1 (j+1) (Nat.succ_lt_succ d) K5) (λh=>h2 (Nat.succ_lt_succ h))]
theorem EE (key:ByteArray)(l:List ByteArray)(k:Nat)(h:k<l.length):vO key (l.take (k+1))=vO key (l.take k)+(if uW l[k] key then 1 else 0):=by
 unfold vO;rw[zU h,List.countP_append,List.countP_singleton]
theorem VB (key:ByteArray)(l:List ByteArray):vO key l<=l.length:=List.countP_le_length
def yf (leaf:Bool)(ks:List ByteArray)(key:ByteArray):Nat:=if leaf then qz key ks else vO key ks
def vn (leaf:Bool)(ks:List ByteArray)(key:ByteArray):Bool:=leaf&&(match ks[qz key ks]? with|some s=>s.toList==key.toList|none=>false)
def ZA (w:World)(x:ym)(key:ByteArray)(e:mH)(w':World):Prop:=e=Y0 (Q2 #[Y1 Q4 (yf x.leaf (qh x) key:Int),.bool (vn x.leaf (qh x) key)])/\nH w.heap.size w w'
theorem YH (w:World)(x:ym)(E:Y5)(I:Nat)(H:Y5)(L:Nat)(G:Y5)(K:Nat)(h:XX w w.heap.size x E I H L G K)(hl:x.cells.length<=1000000)(aA:x.keys.length<=1000000)(key:ByteArray):nK Y3 56 #[Q0 (zx x E I H L G K),X9 key] w (ZA w x key):=by
 have r:=za.new w 69 (zx x E I H L G K);have hB:nH w.heap.size w (w.alloc (Q9 (zx x E I H L G K) 69)):=(nF _ w).alloc (zG _) _;have Z:=keys_gives _ x E I H L G K (h.grow hB) hl;have aF:=Mo hl aA;unfold ZA;obtain⟨leaf,cells,keys,kids⟩:=x;generalize qh ⟨leaf,cells,keys,kids⟩=ks at *;unfold zx at *;clear hl aA h;cases leaf with
 | false =>
  go_enter func56,ntmps56
  go_wp2_with (first
   |(refine yp zm r ?_)
   |(go_at_call 93;refine Z.mono ?_;rintro e M ⟨A,c,rfl,f,u⟩;have k0:M.cell? w.heap.size=some (X3 false):=(u.cell (p:=⟨w.heap.size,0,K3⟩) r.lt).trans (by rw[r.cell];rfl)))
  have aC:=f.le
  go_loopw [7,18] (λv i wr=>∃(k:Nat),k<=ks.length/\i=Y1 Q4 k/\v=Y1 Q4 (vO key (ks.take k):Int)/\wr=M) (λ_ i _=>ks.length-(intOf i).toNat)
  case atStart=>exact⟨0,by omega,rfl,rfl,rfl⟩
  case round =>
   obtain⟨k,X,rfl,rfl,rfl⟩:=hrel
   by_cases B:k<ks.length
   .obtain⟨g,o,rfl,hg,_⟩:=f.pO K5;have d0:=Xh f rfl k B;have C:=EE key ks k B;have hm:=VB key (ks.take k);have aB:(ks.take k).length<=k:=List.length_take_le _ _;generalize ks[k]=s at *;generalize vO key (ks.take k)=m at *;have HN:=nI C;clear C;have aD:IntKind.i64.wrap ((k:Int)+1)=(k:Int)+1:=xX _;have aG:IntKind.i64.wrap ((m:Int)+1)=(m:Int)+1:=xX _
    by_cases hs:uW s key=true
    .have N:gH s.toList key.toList=true\/(s.toList==key.toList)=true:=by simpa[uW] using hs
     clear hm aB;go_wp2
     all_goals first
      |(exfalso;rename_i hx;(rcases N with h|h<;>simp[h] at hx);done)
      | exact⟨⟨k+1,by omega,by simp,by rw[HN.out,if_pos hs];simp,by simp⟩,by simp[intOf];omega⟩
    .have N:¬ (gH s.toList key.toList=true\/(s.toList==key.toList)=true):=by simpa[uW] using hs
     clear hm aB;go_wp2;exact⟨⟨k+1,by omega,by simp,by rw[HN.out,if_neg hs];simp,by simp⟩,by simp[intOf];omega⟩
   .obtain rfl:k=ks.length:=K5
    rw[List.take_length];go_wp2;exact nT (nj rfl _ _ _) rfl ⟨rfl,hB.trans (u.mono hB.size)⟩
 | true =>
  go_enter func56,ntmps56
  go_wp2_with (first
   |(refine yp zm r ?_)
   |(go_at_call 93;refine Z.mono ?_;rintro e M ⟨A,c,rfl,f,u⟩;have k0:M.cell? w.heap.size=some (X3 true):=(u.cell (p:=⟨w.heap.size,0,K3⟩) r.lt).trans (by rw[r.cell];rfl)))
  have aC:=f.le
  go_loopw [10] (λi wr=>∃(k:Nat),k<=ks.length/\i=Y1 Q4 k/\(∀j,(h:j<ks.length)->j<k->ye ks[j] key=true)/\wr=M) (λi _=>ks.length-(intOf i).toNat)
  case atStart=>exact⟨0,by omega,rfl,λj _ h=>by omega,rfl⟩
  case round =>
   obtain⟨k,X,rfl,z,rfl⟩:=hrel
   by_cases B:k<ks.length
   .obtain⟨g,o,rfl,hg,_⟩:=f.pO K5;have d0:=Xh f rfl k B;have C:ye ks[k] key=true->∀j,(h:j<ks.length)->j<k+1->ye ks[j] key=true:=λh1 j hj aE=>by
     by_cases e:j=k
     .subst e;exact h1
     .exact z j hj K5
    have V:ye ks[k] key=false->qz key ks=k:=λh1=>kp key ks k X z (λ_=>h1)
    have W:ks[k]?=some ks[k]:=zM B;generalize ks[k]=s at *;have aD:IntKind.i64.wrap ((k:Int)+1)=(k:Int)+1:=xX _;cases hs:ye s key with
    | true =>
     have N:gH s.toList key.toList=true:=hs;have d:=nI (C hs);clear C V z W hs;go_wp2;exact⟨⟨k+1,by omega,by simp,d.out,by simp⟩,by simp[intOf];omega⟩
    | false =>
     have N:gH s.toList key.toList=false:=hs;have d:=nI (V hs);have HG:=nI W;clear C V z W hs;go_wp2
     go_region
     go_wp2;have O:yf true ks key=k:=d.out;have U:vn true ks key=(s.toList==key.toList):=by unfold vn;rw[d.out,HG.out];rfl
     exact nT (nj rfl _ _ _) rfl ⟨by rw[O,U];rfl,hB.trans (u.drew.mono hB.size)⟩
   .obtain rfl:k=ks.length:=K5
    have d:=nI (kp key ks ks.length X z (λh=>absurd h B));clear z;go_wp2
    go_region
    go_wp2;have O:yf true ks key=ks.length:=d.out;have U:vn true ks key=false:=by unfold vn;rw[d.out,List.getElem?_eq_none (zG _)];rfl
    exact nT (nj rfl _ _ _) rfl ⟨by rw[O,U];rfl,hB.trans (u.drew.mono hB.size)⟩
theorem ON (w:World)(a:ByteArray):nK Y3 356 #[X9 a] w λe w'=>e=Y0 (X3 false)/\w=w':=by
 go_enter func356,ntmps356
 go_wp2;go_ret;exact⟨by simp,rfl⟩
theorem UU (w:World)(a b:ByteArray):nK Y3 317 #[X9 a,X9 b] w λe w'=>e=Y0 (.bool (ye a b))/\w=w':=by
 go_enter func317,ntmps317
 go_wp2_with (go_at_call 356;refine(ON _ _).mono ?_;rintro e c ⟨rfl,rfl⟩)
 go_ret;exact⟨by simp[ye],rfl⟩
def Yn (l:List ByteArray):Prop:=∀j,(h:j+1<l.length)->ye l[j+1] l[j]=false
def Io (w:World)(l:List ByteArray)(e:mH)(w':World):Prop:=∃b,e=Y0 (X3 b)/\nH w.heap.size w w'/\(b=true↔Yn l)
theorem JT (w:World)(A:Y5)(c:Nat)(l:List ByteArray)(h:yl w w.heap.size 1 A l.length c (Xa l))(hl:l.length<=1000000):nK Y3 279 #[X1 A l.length c] w (Io w l):=by
 have aB:IntKind.i64.wrap ((l.length:Int)-1)=(l.length:Int)-1:=xX _
 go_enter func279,ntmps279
 go_wp2
 go_loopw [3] (λi wr=>∃(q:Int),i=Y1 Q4 q/\q+1<=l.length/\-1<=q/\(∀j,(h:j+1<l.length)->q<=j->ye l[j+1] l[j]=false)/\nH w.heap.size w wr) (λi _=>(intOf i+1).toNat)
 case atStart=>exact⟨_,rfl,by omega,by omega,λj h h2=>by omega,nF _ _⟩
 case round =>
  obtain⟨q,rfl,hq,aA,f,hB⟩:=hrel
  by_cases Z:0<q
  .obtain⟨k,I⟩:∃k:Nat,q=((k+1:Nat):Int):=⟨(q-1).toNat,by omega⟩;have H:k+1<l.length:=K5
   obtain⟨m,d⟩:=Z9 (k+1);rw[<-d] at I;subst I;obtain⟨g,o,rfl,G,_⟩:=h.pO K5;have E:wr.drew.cell? ⟨g,o+m,K3⟩=some (X9 l[k+1]):=by rw[d];exact(hB.cell (p:=⟨g,o+(k+1),K3⟩) G).trans (Xh h rfl (k+1) H)
   have d0:wr.drew.cell? ⟨g,o+k,K3⟩=some (X9 l[k]):=(hB.cell (p:=⟨g,o+k,K3⟩) G).trans (Xh h rfl k K5);have z:ye l[k+1] l[k]=false->∀j,(h:j+1<l.length)->(k:Int)<=j->ye l[j+1] l[j]=false:=λh1 j u N=>by
    by_cases e:j=k
    .subst e;exact h1
    .exact f j u K5
   have x:ye l[k+1] l[k]=true->¬ Yn l:=λh1 h2=>by have:=h2 k H;rw[h1] at this;cases this
   generalize l[k+1]=C at *;generalize l[k]=B at *;have aC:IntKind.i64.wrap ((m:Int)-1)=(k:Int):=by rw[xX _];omega
   have O:(0:Int)<=(m:Int):=K5
   have U:(m:Int)<(l.length:Int):=K5
   have V:(0:Int)<=(k:Int):=K5
   have X:(k:Int)<(l.length:Int):=K5
   have L:=nI d;clear f d;cases hs:ye C B with
   | true =>
    have r:=nI (x hs);have s:=nI hs;clear z x hs;go_wp2
    go_region_held3 (λW=>W.cell? ⟨g,o+m,K3⟩=some (X9 C)/\W.cell? ⟨g,o+k,K3⟩=some (X9 B)) (exact⟨E,d0⟩) (first|(go_at_call 317;refine(UU _ _ _).mono ?_;rintro e M ⟨rfl,rfl⟩))
    rw[s.out];go_wp2;go_ret;exact⟨false,rfl,hB.drew,⟨λh=>(by cases h),λh=>absurd h r.out⟩⟩
   | false =>
    have r:=nI (z hs);have s:=nI hs;clear z x hs;go_wp2
    go_region_held3 (λW=>W.cell? ⟨g,o+m,K3⟩=some (X9 C)/\W.cell? ⟨g,o+k,K3⟩=some (X9 B)) (exact⟨E,d0⟩) (first|(go_at_call 317;refine(UU _ _ _).mono ?_;rintro e M ⟨rfl,rfl⟩))
    rw[s.out];go_wp2;have d:=L.out;exact⟨⟨(k:Int),by simp,by omega,by omega,r.out,hB.drew⟩,by simp[intOf];omega⟩
  .have K:=nI f;clear f;go_wp2;go_ret;exact⟨true,rfl,hB,⟨λ_ j u=>K.out j u K5,λ_=>rfl⟩⟩
def yr (s:ByteArray):Bool:=decide (s.size<=81)
theorem Fu (w:World)(s:ByteArray):nK Y3 282 #[X9 s] w λe w'=>e=Y0 (.bool (yr s))/\nH w.heap.size w w':=by
 go_enter func282,ntmps282
 go_wp2;go_ret;refine⟨?_,nF _ _⟩;simp[yr];omega
theorem Fi (w:World)(s:ByteArray)(B:Nat)(hB:za w B 356 #[.func (.func 282) #[] #[]]):nK Y3 319 #[X9 s,Y9 (K4 ⟨B,0,K3⟩)] w λe w'=>e=Y0 (.bool (!yr s))/\nH w.heap.size w w':=by
 have c0:=hB.boxed
 go_enter func319,ntmps319
 go_wp2_with (go_at_call 282;refine(Fu _ _).mono ?_;rintro e d ⟨rfl,c⟩)
 go_ret;exact⟨rfl,c⟩
def EX (w:World)(b:Prop)(e:mH)(w':World):Prop:=∃r:Int,e=Y0 (Y1 Q4 r)/\nH w.heap.size w w'/\(0<=r↔b)
def Vs (w:World)(b:Prop)(e:mH)(w':World):Prop:=∃r:Bool,e=Y0 (X3 r)/\nH w.heap.size w w'/\(r=true↔b)
theorem FT (w:World)(A:Y5)(c:Nat)(l:List ByteArray)(h:yl w w.heap.size 1 A l.length c (Xa l))(hl:l.length<=1000000)(B:Nat)(hB:za w B 356 #[.func (.func 282) #[] #[]]):nK Y3 357 #[X1 A l.length c,.func (.func 319) #[] #[Y9 B]] w (EX w (∃s∈l,yr s=false)):=by
 go_enter func357,ntmps357
 go_wp2
 go_loopw [8] (λi wr=>∃(k:Nat),i=Y1 Q4 k/\k<=l.length/\(∀j,(h:j<l.length)->j<k->yr l[j]=true)/\nH w.heap.size w wr) (λi _=>l.length-(intOf i).toNat)
 case atStart=>exact⟨0,rfl,by omega,λj h h2=>by omega,nF _ _⟩
 case round =>
  obtain⟨k,rfl,M,r,d⟩:=hrel
  by_cases G:k<l.length
  .obtain⟨g,o,rfl,I,_⟩:=h.pO K5;have d0:wr.cell? ⟨g,o+k,K3⟩=some (X9 l[k]):=(d.cell (p:=⟨g,o+k,K3⟩) I).trans (Xh h rfl k G);have C:yr l[k]=true->∀j,(h:j<l.length)->j<k+1->yr l[j]=true:=λh1 j u L=>by
    by_cases e:j=k
    .subst e;exact h1
    .exact r j u K5
   have E:yr l[k]=false->∃s∈l,yr s=false:=λh1=>⟨_,qJ G,h1⟩
   have f:=Fi wr l[k] B (hB.below d hB.lt);generalize l[k]=s at *;have N:IntKind.i64.wrap ((k:Int)+1)=(k:Int)+1:=xX _;clear r;cases hs:yr s with
   | true =>
    have x:=nI (C hs);rw[hs] at f;clear C E hs
    go_wp2_with (go_at_call 319;refine f.mono ?_;rintro e K ⟨rfl,z⟩)
    exact⟨⟨k+1,by simp,by omega,x.out,d.trans (z.mono d.size)⟩,by simp[intOf];omega⟩
   | false =>
    have x:=nI (E hs);rw[hs] at f;clear C E hs
    go_wp2_with (go_at_call 319;refine f.mono ?_;rintro e K ⟨rfl,z⟩)
    go_ret;exact⟨(k:Int),rfl,d.trans (z.mono d.size),⟨λ_=>x.out,λ_=>by omega⟩⟩
  .obtain rfl:k=l.length:=K5
   have H:=nI r;clear r;go_wp2;go_ret;refine⟨-1,rfl,d,⟨λh=>by omega,λ⟨s,hs,h⟩ => ?_⟩⟩;obtain⟨j,u,rfl⟩:=yG hs;rw[H.out j u u] at h;cases h
theorem Ux (w:World)(A:Y5)(c:Nat)(l:List ByteArray)(h:yl w w.heap.size 1 A l.length c (Xa l))(hl:l.length<=1000000)(B:Nat)(hB:za w B 356 #[.func (.func 282) #[] #[]]):nK Y3 318 #[X1 A l.length c,.func (.func 319) #[] #[Y9 B]] w (Vs w (∃s∈l,yr s=false)):=by
 have d:=FT w A c l h hl B hB;generalize (∃s∈l,yr s=false)=b at *
 go_enter func318,ntmps318
 go_wp2_with (go_at_call 357;refine d.mono ?_;rintro e j ⟨r,rfl,f,i⟩)
 go_ret;exact⟨_,rfl,f,by rw[decide_eq_true_iff];exact i⟩
theorem Uc (w:World)(A:Y5)(c:Nat)(l:List ByteArray)(h:yl w w.heap.size 1 A l.length c (Xa l))(hl:l.length<=1000000):nK Y3 281 #[X1 A l.length c,.func (.func 282) #[] #[]] w (Vs w (∀s∈l,yr s=true)):=by
 have k:=za.new w 356 #[.func (.func 282) #[] #[]];have hB:nH w.heap.size w (w.alloc (Q9 #[.func (.func 282) #[] #[]] 356)):=(nF _ w).alloc (zG _) _;have j:=Ux _ A c l (h.grow hB) hl _ k;have f:(∀s∈l,yr s=true)↔¬ (∃s∈l,yr s=false):=by simp
 generalize (∃s∈l,yr s=false)=b at *;generalize (∀s∈l,yr s=true)=d at *
 go_enter func281,ntmps281
 have i:=nI f;clear f
 go_wp2_with (go_at_call 318;refine j.mono ?_;rintro e z ⟨r,rfl,u,x⟩)
 go_ret;have f:=i.out;refine⟨_,rfl,hB.trans (u.mono hB.size),?_⟩;cases r<;>simp_all
theorem FR {w:World}{B g o n c:Nat}{ks:List Int}(h:yl w B 1 (K4 ⟨g,o,K3⟩) n c (ZJ ks))(hn:n=ks.length)(j:Nat)(d:j<ks.length):w.cell? ⟨g,o+j,K3⟩=K4 (Y1 Q4 ks[j]):=by
 obtain⟨g',o',e,_,f⟩:=h.pO K5;injection e with e
 injection e with e1 e2
 subst e1 e2;exact f j _ (by simp[ZJ,d])
def xY (s:Int):Bool:=decide (1<=s)&&decide (s<=2000)
theorem Hf (w:World)(s:Int):nK Y3 286 #[Y1 Q4 s] w λe w'=>e=Y0 (.bool (xY s))/\nH w.heap.size w w':=by
 go_enter func286,ntmps286
 by_cases h1:1<=s
 .by_cases h2:s<=2000
  .go_wp2;go_ret;exact⟨by simp[xY,h1,h2],nF _ _⟩
  .go_wp2;go_ret;exact⟨by simp[xY,h1,h2],nF _ _⟩
 .go_wp2;go_ret;exact⟨by simp[xY];omega,nF _ _⟩
theorem Fj (w:World)(s:Int)(B:Nat)(hB:za w B 207 #[.func (.func 286) #[] #[]]):nK Y3 322 #[Y1 Q4 s,Y9 (K4 ⟨B,0,K3⟩)] w λe w'=>e=Y0 (.bool (!xY s))/\nH w.heap.size w w':=by
 have c0:=hB.boxed
 go_enter func322,ntmps322
 go_wp2_with (go_at_call 286;refine(Hf _ _).mono ?_;rintro e d ⟨rfl,c⟩)
 go_ret;exact⟨rfl,c⟩
theorem FU (w:World)(A:Y5)(c:Nat)(l:List Int)(h:yl w w.heap.size 1 A l.length c (ZJ l))(hl:l.length<=1000000)(B:Nat)(hB:za w B 207 #[.func (.func 286) #[] #[]]):nK Y3 199 #[X1 A l.length c,.func (.func 322) #[] #[Y9 B]] w (EX w (∃s∈l,xY s=false)):=by
 go_enter func199,ntmps199
 go_wp2
 go_loopw [8] (λi wr=>∃(k:Nat),i=Y1 Q4 k/\k<=l.length/\(∀j,(h:j<l.length)->j<k->xY l[j]=true)/\nH w.heap.size w wr) (λi _=>l.length-(intOf i).toNat)
 case atStart=>exact⟨0,rfl,by omega,λj h h2=>by omega,nF _ _⟩
 case round =>
  obtain⟨k,rfl,M,r,d⟩:=hrel
  by_cases G:k<l.length
  .obtain⟨g,o,rfl,I,_⟩:=h.pO K5;have d0:wr.cell? ⟨g,o+k,K3⟩=K4 (Y1 Q4 l[k]):=(d.cell (p:=⟨g,o+k,K3⟩) I).trans (FR h rfl k G);have C:xY l[k]=true->∀j,(h:j<l.length)->j<k+1->xY l[j]=true:=λh1 j u L=>by
    by_cases e:j=k
    .subst e;exact h1
    .exact r j u K5
   have E:xY l[k]=false->∃s∈l,xY s=false:=λh1=>⟨_,qJ G,h1⟩
   have f:=Fj wr l[k] B (hB.below d hB.lt);generalize l[k]=s at *;have N:IntKind.i64.wrap ((k:Int)+1)=(k:Int)+1:=xX _;clear r;cases hs:xY s with
   | true =>
    have x:=nI (C hs);rw[hs] at f;clear C E hs
    go_wp2_with (go_at_call 322;refine f.mono ?_;rintro e K ⟨rfl,z⟩)
    exact⟨⟨k+1,by simp,by omega,x.out,d.trans (z.mono d.size)⟩,by simp[intOf];omega⟩
   | false =>
    have x:=nI (E hs);rw[hs] at f;clear C E hs
    go_wp2_with (go_at_call 322;refine f.mono ?_;rintro e K ⟨rfl,z⟩)
    go_ret;exact⟨(k:Int),rfl,d.trans (z.mono d.size),⟨λ_=>x.out,λ_=>by omega⟩⟩
  .obtain rfl:k=l.length:=K5
   have H:=nI r;clear r;go_wp2;go_ret;refine⟨-1,rfl,d,⟨λh=>by omega,λ⟨s,hs,h⟩ => ?_⟩⟩;obtain⟨j,u,rfl⟩:=yG hs;rw[H.out j u u] at h;cases h
theorem Uy (w:World)(A:Y5)(c:Nat)(l:List Int)(h:yl w w.heap.size 1 A l.length c (ZJ l))(hl:l.length<=1000000)(B:Nat)(hB:za w B 207 #[.func (.func 286) #[] #[]]):nK Y3 121 #[X1 A l.length c,.func (.func 322) #[] #[Y9 B]] w (Vs w (∃s∈l,xY s=false)):=by
 have d:=FU w A c l h hl B hB;generalize (∃s∈l,xY s=false)=b at *
 go_enter func121,ntmps121
 go_wp2_with (go_at_call 199;refine d.mono ?_;rintro e j ⟨r,rfl,f,i⟩)
 go_ret;exact⟨_,rfl,f,by rw[decide_eq_true_iff];exact i⟩
theorem Pd (w:World)(A:Y5)(c:Nat)(l:List Int)(h:yl w w.heap.size 1 A l.length c (ZJ l))(hl:l.length<=1000000):nK Y3 285 #[X1 A l.length c,.func (.func 286) #[] #[]] w (Vs w (∀s∈l,xY s=true)):=by
 have k:=za.new w 207 #[.func (.func 286) #[] #[]];have hB:nH w.heap.size w (w.alloc (Q9 #[.func (.func 286) #[] #[]] 207)):=(nF _ w).alloc (zG _) _;have j:=Uy _ A c l (h.grow hB) hl _ k;have f:(∀s∈l,xY s=true)↔¬ (∃s∈l,xY s=false):=by simp
 generalize (∃s∈l,xY s=false)=b at *;generalize (∀s∈l,xY s=true)=d at *
 go_enter func285,ntmps285
 have i:=nI f;clear f
 go_wp2_with (go_at_call 121;refine j.mono ?_;rintro e z ⟨r,rfl,u,x⟩)
 go_ret;have f:=i.out;refine⟨_,rfl,hB.trans (u.mono hB.size),?_⟩;cases r<;>simp_all
section
variable {P:gF}{w w':World}{ops:Array nh}{rest:List nh}{o:nh}{a:gh}{Q:Exit->gh->World->Prop}
theorem KV {v:Value}(d:o.guard=none)(e:(nQ a.eval o).run P w=.ok (.value v) w')(h:wpList P ops Q rest (a.put o.dst v) w'):wpList P ops Q (o::rest) a w :=
 wpList_plain d λ_ c=>by unfold Oper.wp;rw[e];exact c _ _ h
end
def xM (c:xG):Bool:=if c.pj=0 then decide (c.val.size<=60)&&c.size==0 else xY c.pj&&c.val.toList.isEmpty&&decide (60<c.size)&&decide (c.size<=4000)
theorem FJ (w:World)(c:xG):nK Y3 284 #[Q0 (zl c).toArray] w λe w'=>e=Y0 (.bool (xM c))/\nH w.heap.size w w':=by
 obtain⟨key,val,d,size⟩:=c;have s:=za.new w 94 #[X9 key,X9 val,Y1 Q4 d,Y1 Q4 size];have i:nH w.heap.size w (w.alloc (Q9 #[X9 key,X9 val,Y1 Q4 d,Y1 Q4 size] 94)):=(nF _ w).alloc (zG _) _;show nK Y3 284 #[Q0 #[X9 key,X9 val,Y1 Q4 d,Y1 Q4 size]] w _
 unfold xM;simp only
 by_cases k:d=0
 .subst k;rw[if_pos rfl]
  by_cases h1:val.size<=60
  .have u:(val.size:Int)<=60:=K5
   go_enter func284,ntmps284
   go_wp2;go_ret;exact⟨by simp[h1],i⟩
  .have u:¬ (val.size:Int)<=60:=K5
   go_enter func284,ntmps284
   go_wp2;go_ret;exact⟨by simp[h1],i⟩
 .rw[if_neg k];have A:(d==0)=false:=by simpa using k
  have r:=Hf (w.alloc (Q9 #[X9 key,X9 val,Y1 Q4 d,Y1 Q4 size] 94)) d;generalize xY d=pb at *;cases pb with
  | false =>
   go_enter func284,ntmps284
   go_wp2_with (go_at_call 286;refine r.mono ?_;rintro e f ⟨rfl,j⟩)
   go_ret;exact⟨by simp,i.trans (j.mono i.size)⟩
  | true =>
   go_enter func284,ntmps284
   have c1:∀f,nH (w.alloc (Q9 #[X9 key,X9 val,Y1 Q4 d,Y1 Q4 size] 94)).heap.size (w.alloc (Q9 #[X9 key,X9 val,Y1 Q4 d,Y1 Q4 size] 94)) f->f.cell? ⟨w.heap.size,1,K3⟩=some (X9 val)/\f.cell? ⟨w.heap.size,3,K3⟩=K4 (Y1 Q4 size):=λf h=>by have b2:=s.below h s.lt;exact⟨by rw[b2.cell];rfl,by rw[b2.cell];rfl⟩
   go_wp2_with (go_at_call 286;refine r.mono ?_;rintro e f ⟨rfl,j⟩;obtain⟨x,z⟩:=c1 f j)
   all_goals
    go_ret;refine⟨?_,i.trans (j.mono i.size)⟩
    first
     |(simp_all;done)
     |(simp_all;intros;omega)
theorem Fk (w:World)(s:xG)(B:Nat)(hB:za w B 303 #[.func (.func 284) #[] #[]]):nK Y3 321 #[Q0 (zl s).toArray,Y9 (K4 ⟨B,0,K3⟩)] w λe w'=>e=Y0 (.bool (!xM s))/\nH w.heap.size w w':=by
 have d:=za.new w 94 (zl s).toArray;have c:nH w.heap.size w (w.alloc (Q9 (zl s).toArray 94)):=(nF _ w).alloc (zG _) _;have c0:=(hB.below c hB.lt).boxed
 go_enter func321,ntmps321
 go_wp2_with (first
  |(refine yp ql d ?_)
  |(go_at_call 284;refine(FJ _ _).mono ?_;rintro e h ⟨rfl,f⟩))
 go_ret;exact⟨rfl,c.trans (f.mono c.size)⟩
theorem FV (w:World)(A:Y5)(c:Nat)(l:List xG)(h:yl w w.heap.size 4 A l.length c (vY l))(hl:l.length<=1000000)(B:Nat)(hB:za w B 303 #[.func (.func 284) #[] #[]]):nK Y3 358 #[X1 A l.length c,.func (.func 321) #[] #[Y9 B]] w (EX w (∃s∈l,xM s=false)):=by
 go_enter func358,ntmps358
 go_wp2
 go_loopw [8] (λi wr=>∃(k:Nat),i=Y1 Q4 k/\k<=l.length/\(∀j,(h:j<l.length)->j<k->xM l[j]=true)/\nH w.heap.size w wr) (λi _=>l.length-(intOf i).toNat)
 case atStart=>exact⟨0,rfl,by omega,λj h h2=>by omega,nF _ _⟩
 case round =>
  obtain⟨k,rfl,N,u,d⟩:=hrel
  by_cases G:k<l.length
  .obtain⟨g,o,rfl,K,_⟩:=h.pO K5;have H:wr.rangeAt g (o+k*4) (zl l[k]):=λj v f=>(d.cell (p:=⟨g,o+k*4+j,K3⟩) K).trans (KJ h rfl k G j v f)
   have C:xM l[k]=true->∀j,(h:j<l.length)->j<k+1->xM l[j]=true:=λh1 j f M=>by
    by_cases e:j=k
    .subst e;exact h1
    .exact u j f K5
   have E:xM l[k]=false->∃s∈l,xM s=false:=λh1=>⟨_,qJ G,h1⟩
   have r:=Fk wr l[k] B (hB.below d hB.lt);generalize l[k]=s at *;have O:IntKind.i64.wrap ((k:Int)+1)=(k:Int)+1:=xX _;clear u;cases hs:xM s with
   | true =>
    have x:=nI (C hs);rw[hs] at r;clear C E hs
    go_wp2_with (first
     |(refine KV rfl (yQ ql H rfl rfl rfl) ?_)
     |(go_at_call 321;refine r.mono ?_;rintro e L ⟨rfl,z⟩))
    exact⟨⟨k+1,by simp,by omega,x.out,d.trans (z.mono d.size)⟩,by simp[intOf];omega⟩
   | false =>
    have x:=nI (E hs);rw[hs] at r;clear C E hs
    go_wp2_with (first
     |(refine KV rfl (yQ ql H rfl rfl rfl) ?_)
     |(go_at_call 321;refine r.mono ?_;rintro e L ⟨rfl,z⟩))
    go_ret;exact⟨(k:Int),rfl,d.trans (z.mono d.size),⟨λ_=>x.out,λ_=>by omega⟩⟩
  .obtain rfl:k=l.length:=K5
   have I:=nI u;clear u;go_wp2;go_ret;refine⟨-1,rfl,d,⟨λh=>by omega,λ⟨s,hs,h⟩ => ?_⟩⟩;obtain⟨j,f,rfl⟩:=yG hs;rw[I.out j f f] at h;cases h
theorem Uz (w:World)(A:Y5)(c:Nat)(l:List xG)(h:yl w w.heap.size 4 A l.length c (vY l))(hl:l.length<=1000000)(B:Nat)(hB:za w B 303 #[.func (.func 284) #[] #[]]):nK Y3 320 #[X1 A l.length c,.func (.func 321) #[] #[Y9 B]] w (Vs w (∃s∈l,xM s=false)):=by
 have d:=FV w A c l h hl B hB;generalize (∃s∈l,xM s=false)=b at *
 go_enter func320,ntmps320
 go_wp2_with (go_at_call 358;refine d.mono ?_;rintro e j ⟨r,rfl,f,i⟩)
 go_ret;exact⟨_,rfl,f,by rw[decide_eq_true_iff];exact i⟩
theorem Pe (w:World)(A:Y5)(c:Nat)(l:List xG)(h:yl w w.heap.size 4 A l.length c (vY l))(hl:l.length<=1000000):nK Y3 283 #[X1 A l.length c,.func (.func 284) #[] #[]] w (Vs w (∀s∈l,xM s=true)):=by
 have k:=za.new w 303 #[.func (.func 284) #[] #[]];have hB:nH w.heap.size w (w.alloc (Q9 #[.func (.func 284) #[] #[]] 303)):=(nF _ w).alloc (zG _) _;have j:=Uz _ A c l (h.grow hB) hl _ k;have f:(∀s∈l,xM s=true)↔¬ (∃s∈l,xM s=false):=by simp
 generalize (∃s∈l,xM s=false)=b at *;generalize (∀s∈l,xM s=true)=d at *
 go_enter func283,ntmps283
 have i:=nI f;clear f
 go_wp2_with (go_at_call 320;refine j.mono ?_;rintro e z ⟨r,rfl,u,x⟩)
 go_ret;have f:=i.out;refine⟨_,rfl,hB.trans (u.mono hB.size),?_⟩;cases r<;>simp_all
def LC (w:World)(T:Y5):Prop:=T=none\/∃t,T=some ⟨t,0,K3⟩/\w.cell? ⟨t,0,K3⟩=K4 (Y9 none)
theorem Ig (w:World):nK Y3 42 #[Y9 none] w λe w'=>e=Y0 (X3 true)/\w=w':=by
 go_enter func42,ntmps42
 go_wp2;go_ret;exact⟨rfl,rfl⟩
theorem Sn {w:World}{p:Nat}(hc:w.cell? p=K4 (Y9 none)):nK Y3 42 #[Y9 p] w λe w'=>e=Y0 (X3 true)/\w=w':=by
 go_enter func42,ntmps42
 go_wp2;go_ret;exact⟨rfl,rfl⟩
theorem Sm {w:World}{p a:Nat}(hc:w.cell? p=K4 (Y9 a)):nK Y3 42 #[Y9 p] w λe w'=>e=Y0 (X3 false)/\w=w':=by
 go_enter func42,ntmps42
 go_wp2;go_ret;exact⟨rfl,rfl⟩
theorem LC.none {w:World}{T:Y5}(h:LC w T):nK Y3 42 #[Y9 T] w λe w'=>e=Y0 (X3 true)/\w=w':=by
 rcases h with rfl|⟨p,rfl,hc⟩
 .exact Ig w
 .exact Sn hc
theorem vo (w:World)(x:Obj):nH w.heap.size w (w.alloc x):=(nF _ _).alloc (zG _) _
theorem QU (w:World)(x y:Obj):nH w.heap.size w ((w.alloc x).alloc y):=(vo w x).alloc K9 _
theorem YK (w:World)(x y z:Obj):nH w.heap.size w (((w.alloc x).alloc y).alloc z):=(QU w x y).alloc (by simp;omega) _
def Mg (tmps:Y7):ResultVar->Sem Value
 | .tmp t=>pure (tmps.getD t gQ)
 | .cell a t=>do loadVar t (<-asAddr (tmps.getD a gQ))
theorem Yt (fn:Func)(tmps:Y7):lh fn tmps=(do
  let vs <-fn.results.mapM (Mg tmps)
  pure (if h:vs.size=1 then vs[0] else .tuple vs)):=by
 have:Mg tmps=(fun
  | .tmp t=>pure (tmps.getD t gQ)
  | .cell a t=>do loadVar t (<-asAddr (tmps.getD a gQ))):=by
  funext r
  cases r
  .rfl
  .rfl
 rw[this];rfl
def KL (P:gF)(w:World)(a:gh)(r:ResultVar)(v:Value):Prop:=(Mg a.tmps r).run P w=.ok v w
section
variable {P:gF}{w:World}{a:gh}{v v1 v2 v3 v4:Value}{r1 r2 r3 r4:ResultVar}{fn:Func}
theorem ve (k:Tmp)(h:a.eval (.tmp k)=v):KL P w a (.tmp k) v:=by
 have e:a.tmps.getD k gQ=v:=h;unfold KL Mg;simp only[e];rfl
theorem kZ {p:nN}{t:nS}(k:Tmp)(d:a.eval (.tmp k)=Y9 (some p))(c:(isAgg t).run P w=.ok false w)(f:w.cell? p=some v):KL P w a (.cell k t) v:=by
 have e:a.tmps.getD k gQ=Y9 (some p):=d;unfold KL Mg;simp[-zX,e,loadVar,asAddr,c,f,nM]
theorem yx {g:Nat}{T t:nS}{cs:Y7}(k:Tmp)(f:a.eval (.tmp k)=Y9 g){n:Nat}(c:yw P T n)(d:za w g t cs)(hn:cs.size=n):KL P w a (.cell k T) (Q0 cs):=by
 have e:a.tmps.getD k gQ=Y9 g:=f;unfold KL Mg;simp[-zX,e,asAddr,Qo (hn▸c) d]
theorem vJ (h:fn.results=#[r1,r2])(h1:KL P w a r1 v1)(h2:KL P w a r2 v2):(lh fn a.tmps).run P w=.ok (Q2 #[v1,v2]) w:=by
 unfold KL at h1 h2;rw[Yt];simp only[h];simp[-zX,h1,h2,nM]
theorem Ys (h:fn.results=#[r1,r2,r3])(h1:KL P w a r1 v1)(h2:KL P w a r2 v2)(c:KL P w a r3 v3):(lh fn a.tmps).run P w=.ok (Q2 #[v1,v2,v3]) w:=by
 unfold KL at h1 h2 c;rw[Yt];simp only[h];simp[-zX,h1,h2,c,nM]
theorem yg (h:fn.results=#[r1])(h1:KL P w a r1 v1):(lh fn a.tmps).run P w=.ok v1 w:=by
 unfold KL at h1;rw[Yt];simp only[h];simp[-zX,h1]
end
section
variable {w:World}{T:Y5}
theorem FL (h:LC w T):nK Y3 20 #[Y9 T] w λe w'=>e=Y0 (Y9 none)/\w=w':=by
 go_enter func20,ntmps20
 go_wp2_with (go_at_call 42;refine h.none.mono ?_;rintro e c ⟨rfl,rfl⟩)
 go_ret;exact⟨rfl,rfl⟩
end
def KP (l:List ByteArray):Prop:=∀j,(h:j+1<l.length)->(l[j+1].toList==l[j].toList)=false
theorem VA (w:World)(A:Y5)(c:Nat)(l:List ByteArray)(h:yl w w.heap.size 1 A l.length c (Xa l))(hl:l.length<=1000000)(ha:KP l):nK Y3 280 #[X1 A l.length c] w λe w'=>e=Y0 (X1 A l.length c)/\nH w.heap.size w w':=by
 by_cases h2:l.length<2
 .have s:(l.length:Int)<2:=K5
  go_enter func280,ntmps280
  go_wp2;go_ret;exact⟨rfl,nF _ _⟩
 .have s:¬ (l.length:Int)<2:=K5
  go_enter func280,ntmps280
  go_wp2
  go_loopw [3] (λi wr=>∃(k m:Nat),i=Y1 Q4 m/\m=k+1/\m<=l.length/\nH w.heap.size w wr) (λi _=>l.length-(intOf i).toNat)
  case atStart=>exact⟨0,1,rfl,rfl,by omega,nF _ _⟩
  case round =>
   obtain⟨k,m,rfl,d,G,hB⟩:=hrel
   by_cases E:m<l.length
   .have j:k+1<l.length:=K5
    obtain⟨g,o,rfl,f,_⟩:=h.pO K5;have u:wr.drew.cell? ⟨g,o+m,K3⟩=some (X9 l[k+1]):=by rw[d];exact(hB.cell (p:=⟨g,o+(k+1),K3⟩) f).trans (Xh h rfl (k+1) j)
    have d0:wr.drew.cell? ⟨g,o+k,K3⟩=some (X9 l[k]):=(hB.cell (p:=⟨g,o+k,K3⟩) f).trans (Xh h rfl k K5);have H:=ha k j;generalize l[k+1]=M at *;generalize l[k]=L at *;have I:IntKind.i64.wrap ((m:Int)-1)=(k:Int):=by rw[xX _];omega
    have K:IntKind.i64.wrap ((m:Int)+1)=(m:Int)+1:=xX _;have x:(0:Int)<=(m:Int):=K5
    have z:(m:Int)<(l.length:Int):=K5
    have B:(0:Int)<=(k:Int):=K5
    have C:(k:Int)<(l.length:Int):=K5
    have r:=nI d;clear d;go_wp2
    go_region
    go_wp2;exact⟨⟨k+1,m+1,by simp,by rw[r.out],by omega,hB.drew⟩,by simp[intOf];omega⟩
   .obtain⟨hs⟩:Nonempty (m=l.length):=⟨by omega⟩;have hn:¬ (m:Int)<(l.length:Int):=K5
    clear d hs;go_wp2;go_ret;exact⟨rfl,hB⟩
end
section
open Go Go.RowKit xq Go.Shelf
attribute [local go_sem] Oper.semAt_some
theorem jk {P:gF}(w:World)(t e:nS)(A:Y5)(n c:Nat)(ht:P.underlying t=some (.slice e)):(binOp .eql t (X1 A n c) (X1 none 0 0)).run P w=.ok (X3 A.isNone) w:=by
 have d:binOp .eql t (X1 A n c) (X1 none 0 0)=(do pure (.bool (<-fE (9999+1) t (X1 A n c) (X1 none 0 0)))):=rfl;have h:(fE (9999+1) t (X1 A n c) (X1 none 0 0)).run P w=.ok A.isNone w:=by unfold fE;cases A<;>simp[run_underlying ht]
 rw[d];simp only[Sem.run_bind,h,nM,Sem.run_pure]
def GR (w:World)(l:List ByteArray)(e:mH)(w':World):Prop:=∃A c,e=Y0 (X1 A l.length c)/\w'.ownsRow w.heap.size 9 1 (X1 A l.length c) l.length (Xa l)/\nH w.heap.size w w'
theorem kF (w:World)(A:Y5)(c:Nat)(l:List ByteArray)(h:yl w w.heap.size 1 A l.length c (Xa l))(hl:l.length<=1000000):nK Y3 210 #[X1 A l.length c] w (GR w l):=by
 rcases A with _|j
 .have hc:=h.nil rfl;subst hc;have r:=h.le;obtain rfl:l=[]:=qI K5;have hq:=λW=>jk (P:=Y3) W 66 9 none 0 0 underlying66
  go_enter func210,ntmps210
  go_wp2;go_ret;exact⟨none,0,rfl,gU _ _ _ _,nF _ _⟩
 .have f:(w.alloc (Q9 #[] 9)).ownsRow w.heap.size 9 1 (X1 w.heap.size 0 0) 0 []:=World.ownsRow_lit w #[] 0 (zG _) (by unfold gP;omega) rfl;have d:nH w.heap.size w (w.alloc (Q9 #[] 9)):=(nF _ w).alloc (zG _) _;have hq:=λW=>jk (P:=Y3) W 66 9 (some j) l.length c underlying66
  go_enter func210,ntmps210
  go_wp2_with (at_builtin;refine xg rfl Eu (.tmp 5) (.tmp 6) rfl w.heap.size (X1 w.heap.size 0 0) 0 [] rfl f _ _ l.length c (Xa l) rfl (h.grow d) (by unfold gP;omega) K5 d.size ?_;intro v5 w5 e k)
  go_ret;rw[qA,zQ] at e;obtain⟨i,c5,rfl,_⟩:=qq e (jd _);exact⟨i,c5,rfl,e,d.trans (zo k d.size (zj f))⟩
end
section
open Go Go.RowKit xq
structure yh (x:ym):Prop where
 sorted:Yn (qh x)
 apart:KP (qh x)
 short:∀s∈qh x,yr s=true
 leaf:x.leaf=true->x.keys=[]/\x.kids=[]/\∀c∈x.cells,xM c=true
 inner:x.leaf=false->x.cells=[]/\0<x.keys.length/\x.kids.length=x.keys.length+1/\∀i∈x.kids,xY i=true
def rO (w:World)(e:mH)(w':World):Prop:=(∃v,e=Y0 v)/\nH w.heap.size w w'
theorem GN (w:World)(e:Int):nK Y3 152 #[X3 true,Y1 Q4 e] w λe w'=>(∃v,e=Y0 v)/\w=w':=by
 go_enter func152,ntmps152
 go_wp2;go_end0;exact⟨⟨_,rfl⟩,rfl⟩
theorem wJ (w:World)(x:ym)(k:Y5)(s:Nat)(B:Y5)(C:Nat)(r:Y5)(u:Nat)(h:XX w w.heap.size x k s B C r u)(hl:x.cells.length<=1000000)(aN:x.keys.length<=1000000)(aO:x.kids.length<=1000000)(hR:yh x):nK Y3 219 #[Q0 (zx x k s B C r u)] w (rO w):=by
 have I:=za.new w 69 (zx x k s B C r u);have hB:nH w.heap.size w (w.alloc (Q9 (zx x k s B C r u) 69)):=(nF _ w).alloc (zG _) _;have h1:=h.grow hB;have HK:=keys_gives _ x k s B C r u h1 hl;have z:=Mo hl aN;obtain⟨aK,aG,aJ,aB,Z⟩:=hR;generalize qh x=ks at *;unfold rO;obtain⟨leaf,cells,keys,kids⟩:=x;unfold zx at *;simp only at *;have aF:=nI aK;have aD:=nI aG;have aE:=nI aJ;clear aK aG aJ;cases leaf with
 | true =>
  obtain⟨rfl,rfl,aH⟩:=aB rfl;have U:=nI aH;clear aB Z aH
  go_enter func219,ntmps219
  go_wp2_with (first
   |(refine yp zm I ?_)
   |(go_at_call 93;refine HK.mono ?_;rintro e w2 ⟨A,c,rfl,H,K⟩)
   |(go_at_call 279;refine(JT w2 A c ks H z).mono ?_;rintro e w3 ⟨r3,rfl,j,L⟩;obtain rfl:r3=true:=L.2 aF.out;clear L)
   |(go_at_call 210;refine(kF w3 A c ks (H.grow j) z).mono ?_;rintro e w4 ⟨O,c4,rfl,aC,E⟩)
   |(go_at_call 280;obtain⟨A5,c5,V,aA⟩:=qq aC (jd _);injection V with e51 e52 e53;subst e51 e53;refine(VA w4 O c4 ks aA z aD.out).mono ?_;rintro e w5 ⟨rfl,G⟩)
   |(go_at_call 281;refine(Uc w5 A c ks ((((H.grow j).grow E)).grow G) z).mono ?_;rintro e d ⟨r6,rfl,W,M⟩;obtain rfl:r6=true:=M.2 aE.out;clear M;have f:=K.trans ((j.trans ((E.trans ((G.trans (W.mono G.size)).mono E.size)).mono j.size)).mono K.size);have b6:=I.below f I.lt;have k0:d.cell? w.heap.size=some (X3 true):=(by rw[b6.cell];rfl);have k1:d.cell? ⟨w.heap.size,1,K3⟩=some (X1 k cells.length s):=(by rw[b6.cell];rfl);have k2:d.cell? ⟨w.heap.size,2,K3⟩=some (X1 B 0 C):=(by rw[b6.cell];rfl);have k3:d.cell? ⟨w.heap.size,3,K3⟩=some (X1 r 0 u):=(by rw[b6.cell];rfl))
   |(go_at_call 283;refine(Pe d k s cells (h1.c.grow f) hl).mono ?_;rintro e w8 ⟨r8,rfl,X,N⟩;obtain rfl:r8=true:=N.2 U.out;clear N)
   |(go_at_call 152;refine(GN _ _).mono ?_;rintro e w7 ⟨⟨v7,rfl⟩,rfl⟩))
  exact nT (mF rfl _ _ _) rfl ⟨⟨_,rfl⟩,(hB.trans (f.mono hB.size)).trans (X.mono (hB.trans (f.mono hB.size)).size)⟩
 | false =>
  obtain⟨rfl,aM,aL,aI⟩:=Z rfl;have U:=nI aI;have g1:(0:Int)<(keys.length:Int):=K5
  have g2:IntKind.i64.wrap ((keys.length:Int)+1)=(kids.length:Int):=by rw[xX _];omega
  clear aB Z aI aM aL
  go_enter func219,ntmps219
  go_wp2_with (first
   |(refine yp zm I ?_)
   |(go_at_call 93;refine HK.mono ?_;rintro e w2 ⟨A,c,rfl,H,K⟩)
   |(go_at_call 279;refine(JT w2 A c ks H z).mono ?_;rintro e w3 ⟨r3,rfl,j,L⟩;obtain rfl:r3=true:=L.2 aF.out;clear L)
   |(go_at_call 210;refine(kF w3 A c ks (H.grow j) z).mono ?_;rintro e w4 ⟨O,c4,rfl,aC,E⟩)
   |(go_at_call 280;obtain⟨A5,c5,V,aA⟩:=qq aC (jd _);injection V with e51 e52 e53;subst e51 e53;refine(VA w4 O c4 ks aA z aD.out).mono ?_;rintro e w5 ⟨rfl,G⟩)
   |(go_at_call 281;refine(Uc w5 A c ks ((((H.grow j).grow E)).grow G) z).mono ?_;rintro e d ⟨r6,rfl,W,M⟩;obtain rfl:r6=true:=M.2 aE.out;clear M;have f:=K.trans ((j.trans ((E.trans ((G.trans (W.mono G.size)).mono E.size)).mono j.size)).mono K.size);have b6:=I.below f I.lt;have k0:d.cell? w.heap.size=some (X3 false):=(by rw[b6.cell];rfl);have k1:d.cell? ⟨w.heap.size,1,K3⟩=some (X1 k 0 s):=(by rw[b6.cell];rfl);have k2:d.cell? ⟨w.heap.size,2,K3⟩=some (X1 B keys.length C):=(by rw[b6.cell];rfl);have k3:d.cell? ⟨w.heap.size,3,K3⟩=some (X1 r kids.length u):=(by rw[b6.cell];rfl))
   |(go_at_call 285;refine(Pd d r u kids (h1.i.grow f) aO).mono ?_;rintro e w8 ⟨r8,rfl,X,N⟩;obtain rfl:r8=true:=N.2 U.out;clear N)
   |(go_at_call 152;refine(GN _ _).mono ?_;rintro e w7 ⟨⟨v7,rfl⟩,rfl⟩))
  go_end0;exact⟨⟨_,rfl⟩,(hB.trans (f.mono hB.size)).trans (X.mono (hB.trans (f.mono hB.size)).size)⟩
theorem xa (w:World)(n:Nat)(hn:n<9223372036854775808):nK Y3 220 #[Y1 Q4 (n:Int)] w (yV w (jU n)):=by
 have hc:IntKind.u64.wrap (n:Int)=(n:Int):=by simp[IntKind.wrap,IntKind.bits,IntKind.signed];omega
 go_enter func220,ntmps220
 go_wp2_with (go_at_call 287;refine(Kk n K5 w).mono ?_;rintro e c ⟨v,rfl,own,hB⟩)
 go_ret;exact⟨v,rfl,own,hB⟩
theorem Kv {ls:List Y4}{v:Value}{w:World}(h:xy ls v w)(d:ls.length<=1000)(hf:ls.flatten.length<=1000000000):nK Y3 153 #[v] w (yV w ls.flatten):=by
 have c:=jY h d hf;obtain⟨b,rfl,_⟩:=h;generalize ls.flatten=l at *
 go_enter func153,ntmps153
 go_wp2_with (go_at_call 185;refine c.mono ?_;rintro e f ⟨v,rfl,own,hB⟩)
 go_ret;exact⟨v,rfl,own,hB⟩
def QT (s:ByteArray):Y4:=Il s.data.toList
theorem Xo (w:World)(s:ByteArray)(hs:s.size<=1000000000):nK Y3 269 #[X9 s] w (yV w (QT s)):=by
 have h:=Rp s.data.toList (by rw[zV];exact hs) w;rw[<-VS] at h;exact h
theorem PD (w:World)(c:xG)(hs:c.val.size<=1000000000):nK Y3 268 #[Q0 (zl c).toArray] w (yV w (QT c.val)):=by
 have d:=za.new w 94 (zl c).toArray;have hB:nH w.heap.size w (w.alloc (Q9 (zl c).toArray 94)):=(nF _ w).alloc (zG _) _;have c1:(w.alloc (Q9 (zl c).toArray 94)).cell? ⟨w.heap.size,1,K3⟩=some (X9 c.val):=by rw[d.cell];rfl
 go_enter func268,ntmps268
 go_wp2_with (go_at_call 269;refine(Xo _ _ hs).mono ?_;rintro e h ⟨v,rfl,own,f⟩)
 go_ret;exact⟨v,rfl,yY.base own hB.size,hB.trans (f.mono hB.size)⟩
theorem PC (w:World)(c:xG)(n:Nat)(hn:c.size=(n:Int))(h:n<9223372036854775808):nK Y3 270 #[Q0 (zl c).toArray] w (yV w (jU n)):=by
 have d:=za.new w 94 (zl c).toArray;have hB:nH w.heap.size w (w.alloc (Q9 (zl c).toArray 94)):=(nF _ w).alloc (zG _) _;have c3:(w.alloc (Q9 (zl c).toArray 94)).cell? ⟨w.heap.size,3,K3⟩=K4 (Y1 Q4 (n:Int)):=by rw[d.cell,<-hn];rfl
 go_enter func270,ntmps270
 go_wp2_with (go_at_call 220;refine(xa _ n h).mono ?_;rintro e i ⟨v,rfl,own,f⟩)
 go_ret;exact⟨v,rfl,yY.base own hB.size,hB.trans (f.mono hB.size)⟩
def jQ (c:xG):Y4:=QT c.key++jU c.pj.toNat++(if c.pj=0 then QT c.val else jU c.size.toNat)
def Uv (s:ByteArray)(i:Int):Y4:=QT s++jU i.toNat
def qo (x:ym):List Y4:=x.cells.map jQ++(mi x.keys.length).map λj=>Uv (x.keys.getD j nX) (x.kids.getD (j+1) 0)
theorem Ff:ZQ 142 129 1 24 (X1 none 0 0):=⟨underlying142,by kernel_rfl,by kernel_rfl,by decide⟩
theorem Na {w:World}{b i:Nat}{T d:nS}{sz u n s:Nat}{v f:Value}{cs cs':Y8}(h:w.ownsRow b T sz v n cs)(j:w.ownsRow i d u f s cs')(k:T≠d):∀r,f.ownBlock=some r->some r≠v.ownBlock:=by
 intro r c e;rcases h.2 with⟨rfl,_⟩|⟨g,cap,cur,rfl,_,hq,_⟩
 .cases e
 .rcases j.2 with⟨rfl,_⟩|⟨g',cap',cur',rfl,_,hq',_⟩
  .cases c
  .injection c with c
   injection e with e
   subst c;subst e;rw[hq] at hq';injection hq' with hq'
   injection hq' with _ h2
   exact k h2
theorem QJ {w w':World}{b e:Nat}{T c:nS}{sz j n i:Nat}{v k:Value}{cs cs':Y8}(h:w.ownsRow b T sz v n cs)(d:w.ownsRow e c j k i cs')(s:T≠c)(u:w.grownBy w' v.ownBlock):w'.ownsRow e c j k i cs' :=
 qp d λr f=>u.block r (kM d r f) (Na h d s r f)
theorem Ej {w:World}{b:Nat}{T d:nS}{sz n g:Nat}{v:Value}{cs:Y8}{cs':Y7}(h:w.ownsRow b T sz v n cs)(i:za w g d cs')(f:T≠d):some g≠v.ownBlock:=by
 intro e;rcases h.2 with⟨rfl,_⟩|⟨g',cap,cur,rfl,_,hq,_⟩
 .cases e
 .injection e with e
  subst e;have c:w.heap[g]?=some (Q9 cs' d (0,0)):=i;rw[hq] at c;injection c with c
  injection c with _ h2
  exact f h2
theorem Ei {w:World}{b:Nat}{T:nS}{sz n r c:Nat}{v:Value}{cs:Y8}{es:Array nZ}(h:w.ownsRow b T sz v n cs)(f:qa w r es c):some r≠v.ownBlock:=by
 intro e;rcases h.2 with⟨rfl,_⟩|⟨g',cap,cur,rfl,_,hq,_⟩
 .cases e
 .injection e with e
  subst e;have d:w.heap[r]?=some (.map es c):=f;rw[hq] at d;cases d
structure Zx (w:World)(base:Nat)(v:Value)(ls:List Y4)(vs:Y8):Prop where
 own:w.ownsRow base 129 1 v ls.length vs
 one:∀v∈vs,v.oneCell'=true
 at_:∀j,(h:j<ls.length)->∃A c,vs[j]?=some (X1 A ls[j].length c)/\yY w 0 (X1 A ls[j].length c) ls[j]
theorem Zx.none (w:World)(base:Nat):Zx w base (X1 none 0 0) [] []:=⟨gU _ _ _ _,λv h=>by simp at h,λj h=>by simp at h⟩
theorem Zx.grow {w w':World}{base:Nat}{v:Value}{ls:List Y4}{vs:Y8}(h:Zx w base v ls vs)(hB:nH w.heap.size w w'):Zx w' base v ls vs:=by
 refine⟨qn h.own hB,h.one,λj f => ?_⟩;obtain⟨A,c,e,d⟩:=h.at_ j f;exact⟨A,c,e,qn d hB⟩
theorem Zx.more {w w':World}{base b2:Nat}{v k:Value}{ls:List Y4}{d:Y8}(h:Zx w base v ls d){l:Y4}{A:Y5}{c:Nat}(C:yY w b2 (X1 A l.length c) l)
  (own:w'.ownsRow base 129 1 k (ls.length+1) (d++[X1 A l.length c])) (i:w.grownBy w' v.ownBlock):Zx w' base k (ls++[l]) (d++[X1 A l.length c]):=by
 have E:d.length=ls.length:=by have:=h.own.1;omega
 have f:129≠5:=K7
 refine⟨by rw[zH];exact own,?_,λj B => ?_⟩
 .intro u hu;rcases zZ.1 hu with hu|hu
  .exact h.one u hu
  .obtain rfl:=qL.1 hu;rfl
 .by_cases e:j<ls.length
  .obtain⟨r,c',s,z⟩:=h.at_ j e;refine⟨r,c',?_,?_⟩
   .rw[gj K5,s,fQ e]
   .rw[fQ e];exact QJ h.own z f i
  .have x:j=ls.length:=by simp at B;omega
   subst x;refine⟨A,c,?_,?_⟩
   .rw[qU K5,E,Nat.sub_self,lO (zG _)];simp
   .rw[lO (zG _)];have:=QJ h.own (yY.base C (Nat.zero_le _)) f i;simp only[Nat.sub_self,zB];exact this
def GV (w:World)(ls:List Y4)(e:mH)(w':World):Prop:=∃A c vs,e=Y0 (X1 A ls.length c)/\Zx w' w.heap.size (X1 A ls.length c) ls vs/\nH w.heap.size w w'
theorem QM (s:ByteArray):(QT s).length<=10+s.size:=by
 unfold QT Il;rw[zH];have h1:=xc s.data.toList.length;have h2:s.data.toList.length=s.size:=zV;omega
theorem UO {c:xG}(h:xM c=true):∃d sn:Nat,c.pj=d/\c.size=sn/\d<=2000/\sn<=4000/\(d=0->c.val.size<=60):=by
 unfold xM at h
 by_cases f:c.pj=0
 .rw[if_pos f] at h;simp only[gN,decide_eq_true_eq,beq_iff_eq] at h;exact⟨0,0,by omega,by omega,by omega,by omega,λ_=>h.1⟩
 .rw[if_neg f] at h;simp only[xY,gN,decide_eq_true_eq] at h;exact⟨c.pj.toNat,c.size.toNat,by omega,by omega,by omega,by omega,λe=>by omega⟩
theorem Uj {c:xG}(i:c.key.size<=81)(e:xM c=true):(jQ c).length<=200:=by
 obtain⟨j,sn,f,h,h1,h2,d⟩:=UO e;unfold jQ;rw[zH,zH];have q1:=QM c.key;have q2:=xc c.pj.toNat;have k:=QM c.val;have r:=xc c.size.toNat;split
 .have:=d K5;omega
 .omega
def Zm:Array nZ:=#[{key:=X3 true,val:=.func (.func 268) #[] #[],born:=0},{key:=X3 false,val:=.func (.func 270) #[] #[],born:=1}]
theorem AF (b:Bool):lT .bool (X3 b) Zm.toList 0=some (some (if b then 0 else 1,.func (.func (if b then 268 else 270)) #[] #[])):=by cases b<;>rfl
theorem En {W:World}{r:Nat}(h:qa W r Zm 2)(b:Bool):(lU 348 (Q1 (some r)) (X3 b) false).run Y3 W=.ok (.func (.func (if b then 268 else 270)) #[] #[]) W :=
 Rq underlying348 underlying4 (show gz .bool (X3 b) from trivial) h (AF b)
theorem tP {z s c:World}{j k r:Y5}{c5 u x:Nat}{d f i l:Y4}(H:qv z z.heap.size j c5 d)(I:qv s s.heap.size k u f)(K:qv c c.heap.size r x i)(C:nH z.heap.size z s)(A:nH s.heap.size s c)(hl:[d,f,i].flatten=l)(L:l.length<=200):nK Y3 153 #[X1 c.heap.size 3 3] (c.alloc (Q9 #[X1 j d.length c5,X1 k f.length u,X1 r i.length x] 129)) (yV (c.alloc (Q9 #[X1 j d.length c5,X1 k f.length u,X1 r i.length x] 129)) l):=by
 have B:=C.trans (A.mono C.size)
 have G:=xy.new (w:=c) [((j,c5),d),((k,u),f),((r,x),i)] (by
  intro y E;simp at E;rcases E with rfl|rfl|rfl
  .exact(H.below B).more B.size
  .exact(I.below A).more A.size
  .exact K)
 have h:=Kv G K9 (by show [d,f,i].flatten.length<=_;rw[hl];omega);have e:(([((j,c5),d),((k,u),f),((r,x),i)]:List ((Y5×Nat)×Y4)).map (·.2)).flatten=l:=hl;rw[e] at h;exact h
theorem Hu {r c:World}{i j:Y5}{c5 k:Nat}{d f l:Y4}(z:qv r r.heap.size i c5 d)(A:qv c c.heap.size j k f)(s:nH r.heap.size r c)(hl:[d,f].flatten=l)(B:l.length<=1000000000):nK Y3 153 #[X1 c.heap.size 2 2] (c.alloc (Q9 #[X1 i d.length c5,X1 j f.length k] 129)) (yV (c.alloc (Q9 #[X1 i d.length c5,X1 j f.length k] 129)) l):=by
 have x:=xy.new (w:=c) [((i,c5),d),((j,k),f)] (by
  intro y u;simp at u;rcases u with rfl|rfl
  .exact(z.below s).more s.size
  .exact A)
 have h:=Kv x K9 (by show [d,f].flatten.length<=_;rw[hl];omega);have e:(([((i,c5),d),((j,k),f)]:List ((Y5×Nat)×Y4)).map (·.2)).flatten=l:=hl;rw[e] at h;exact h
def keyAt (keys:List ByteArray)(kids:List Int)(j:Nat):Y4:=Uv (keys.getD j nX) (kids.getD (j+1) 0)
theorem Jy (w:World)(x:ym)(Ac:Y5)(cc:Nat)(Ak:Y5)(ck:Nat)(Ai:Y5)(ci:Nat)(h:XX w w.heap.size x Ac cc Ak ck Ai ci)(hl:x.cells.length<=1000000)(cH:x.keys.length<=1000000)(cI:x.kids.length<=1000000)(hR:yh x):nK Y3 208 #[Q0 (zx x Ac cc Ak ck Ai ci)] w (GV w (qo x)):=by
 have b0:=za.new w 69 (zx x Ac cc Ak ck Ai ci);have hB:nH w.heap.size w (w.alloc (Q9 (zx x Ac cc Ak ck Ai ci) 69)):=(nF _ w).alloc (zG _) _;have h1:=h.grow hB;obtain⟨hc,hk,hi⟩:=h;have lc:=hc.le;have lk:=hk.le;have li:=hi.le;obtain⟨leaf,cells,keys,kids⟩:=x;unfold zx at *;simp only at *;have b2:∀c∈cells,xM c=true/\c.key.size<=81:=λc hc=>by
  cases leaf with
  | true =>
   refine⟨(hR.leaf rfl).2.2 c hc,?_⟩;have:=hR.short c.key (qR.2 ⟨c,hc,rfl⟩);unfold yr at this;simpa using this
  | false =>
   have e:cells=[]:=(hR.inner rfl).1;rw[e] at hc;cases hc
 have b7:∀j,(h:j<keys.length)->keys[j].size<=81/\∃n:Nat,n<=2000/\∃h2:j+1<kids.length,kids[j+1]=(n:Int):=λj hj=>by
  cases leaf with
  | true =>
   have e:keys=[]:=(hR.leaf rfl).1;subst e;simp at hj
  | false =>
   obtain⟨_,_,a6,hp⟩:=hR.inner rfl;simp only at a6 hp;have h2:j+1<kids.length:=K5
   have cA:=hp _ (qJ h2);simp only[xY,gN,decide_eq_true_eq] at cA;have hs:=hR.short keys[j] (qJ hj);refine⟨by unfold yr at hs;simpa using hs,kids[j+1].toNat,by omega,h2,by omega⟩
 go_enter func208,ntmps208
 have e0:lT .bool (X3 true) (#[]:Array nZ).toList 0=some none:=rfl;have e1:lT .bool (X3 false) (#[{key:=X3 true,val:=.func (.func 268) #[] #[],born:=0}]:Array nZ).toList 0=some none:=rfl;have E0:=nI e0;have E1:=nI e1;clear e0 e1;obtain⟨W1,a3⟩:=Z9 (w.alloc (Q9 #[X3 leaf,X1 Ac cells.length cc,X1 Ak keys.length ck,X1 Ai kids.length ci] 69));rw[<-a3] at b0 hB h1;have cC:W1.heap.size=w.heap.size+1:=by rw[a3];exact nG _ _
 have bZ:=nI a3;clear a3 cC
 go_wp2_with (first
  |(refine Qv rfl rfl ?_;rw[<-bZ.out];intro bM;have a2:=(nF _ W1).alloc (zG _) (.map #[] 0))
  |(refine Xe rfl (.tmp 8) (.const (X3 true)) (.func 268) (.inl rfl) underlying348 underlying4 (show gz .bool (X3 true) from trivial) rfl rfl rfl bM E0.out ?_;intro w3 bN a9)
  |(refine Xe rfl (.tmp 8) (.const (X3 false)) (.func 270) (.inl rfl) underlying348 underlying4 (show gz .bool (X3 false) from trivial) rfl rfl rfl bN E1.out ?_;intro w4 bO bG;have a7:nH W1.heap.size W1 w4:=((a2.trans (zo a9 a2.size (λr e=>by injection e with e;omega))).trans (zo bG (zT a2.size a9.size) (λr e=>by injection e with e;omega)));have b4:=b0.below a7 b0.lt;have k1:w4.cell? ⟨w.heap.size,1,K3⟩=some (X1 Ac cells.length cc):=(by rw[b4.cell];rfl)))
 have hm:qa w4 W1.heap.size Zm 2:=bO;obtain⟨r,hr⟩:=Z9 W1.heap.size;rw[<-hr] at hm ⊢;have aA:nH w.heap.size w w4:=hB.trans (a7.mono hB.size);clear hr bM bN bO a9 bG a2 h1 a7
 go_loopw [2,13] (λv i wr=>∃(k:Nat) (A:Y5) (c:Nat) (vs:Y8),k<=cells.length/\i=Y1 Q4 k/\v=X1 A k c/\Zx wr w4.heap.size (X1 A k c) ((cells.take k).map jQ) vs/\nH w4.heap.size w4 wr) (λ_ i _=>cells.length-(intOf i).toNat)
 case atStart=>exact⟨0,none,0,[],by omega,rfl,rfl,Zx.none _ _,nF _ _⟩
 case round =>
  obtain⟨k,A,c,vs,b8,rfl,rfl,hL,u⟩:=hrel
  by_cases aO:k<cells.length
  .obtain⟨g,o,rfl,hg,_⟩:=hc.pO K5;have cB:wr.rangeAt g (o+k*4) (zl cells[k]):=λj v hj=>(u.cell (p:=⟨g,o+k*4+j,K3⟩) (zO hg aA.size)).trans ((aA.cell (p:=⟨g,o+k*4+j,K3⟩) hg).trans (KJ hc rfl k aO j v hj))
   have b3:=b2 _ (qJ aO);have bR:(cells.take (k+1)).map jQ=(cells.take k).map jQ++[jQ cells[k]]:=by rw[zU aO,qX];rfl
   have aI:((cells.take k).map jQ).length=k:=by rw[qH,qB];omega
   generalize cells[k]=x at *;obtain⟨bT,bU⟩:=b3;have a6:=Uj bU bT;obtain⟨E,sn,e1,e2,h1,h2,h3⟩:=UO bT;obtain⟨d,B,xp,xz⟩:=x;simp only at bU e1 e2 h3;subst e1 e2;have n0:=za.new wr 94 (zl XF).toArray;have nb:=n0.setRow (zl (⟨d,B,(E:Int),(sn:Int)⟩:xG)).toArray;have nB:nH wr.heap.size wr ((wr.alloc (Q9 (zl XF).toArray 94)).setRow wr.heap.size (zl (⟨d,B,(E:Int),(sn:Int)⟩:xG)).toArray):=zf ((nF _ wr).alloc (zG _) _) (zG _) _;obtain⟨X,a8⟩:=Z9 ((wr.alloc (Q9 (zl XF).toArray 94)).setRow wr.heap.size (zl (⟨d,B,(E:Int),(sn:Int)⟩:xG)).toArray);rw[<-a8] at nb nB;have HW:=nI a8;have aE:=u.trans (nB.mono u.size);have bF:=hL.grow nB;generalize (cells.take k).map jQ=ls at *;have aL:=nI aI;have a1:=nI bR;have bP:∀W,nH X.heap.size X W->qa W r Zm 2:=λW hW=>(hm.below aE hm.lt).below hW (zO hm.lt aE.size)
   obtain⟨f,a4⟩:=Z9 wr.heap.size;have z:∀W,nH X.heap.size X W->W.cell? f=some (X9 d)/\W.cell? ⟨f,1,K3⟩=some (X9 B)/\W.cell? ⟨f,2,K3⟩=K4 (Y1 Q4 (E:Int))/\W.cell? ⟨f,3,K3⟩=K4 (Y1 Q4 (sn:Int))/\qa W r Zm 2:=λW hW=>by have b:=nb.below hW nb.lt;rw[<-a4] at b;exact⟨by rw[b.cell];rfl,by rw[b.cell];rfl,by rw[b.cell];rfl,by rw[b.cell];rfl,bP W hW⟩
   clear a8 bR aI hL bP
   go_wp2_with (first
    |(refine KV rfl (yQ ql cB rfl rfl rfl) ?_)
    |(refine KV rfl (Xd rfl) ?_)
    |(refine zt rfl 94 (.tmp 5) (.tmp 16) rfl wr.heap.size rfl rfl ql n0 rfl rfl (Zs _) ?_;rw[<-HW.out]))
   rw[<-a4];have bD:=nI a4;clear a4;simp only[nJ,zA,zF,zE];have aD:nH X.heap.size X X.drew:=(nF _ X).drew;rcases mf E with h0|h0
   .have cD:B.size<=1000000000:=by have:=h3 h0;omega
    subst h0;have qd:=z _ aD;have bX:∀W,qa W r Zm 2->(lU 348 (Q1 (some r)) (X3 true) false).run Y3 W=.ok (.func (.func 268) #[] #[]) W:=λW h=>En h true
    have aQ:Hid ([QT d,jU 0,QT B].flatten=jQ (⟨d,B,((0:Nat):Int),(sn:Int)⟩:xG)):=nI (by unfold jQ;simp)
    go_region_held3 (λW=>W.cell? f=some (X9 d)/\W.cell? ⟨f,1,K3⟩=some (X9 B)/\W.cell? ⟨f,2,K3⟩=K4 (Y1 Q4 0)/\W.cell? ⟨f,3,K3⟩=K4 (Y1 Q4 (sn:Int))/\qa W r Zm 2) (first|exact qd|exact q5|exact q6|exact q7|exact q8|exact q9|exact aB|exact a0) (first
     |(go_at_call 269;refine(Xo _ d K5).mono ?_;rintro e W5 ⟨v5,rfl,aY,aS⟩;have N:=aD.trans (aS.mono aD.size);have q5:=z _ N;obtain⟨A5,c5,rfl,aW⟩:=aY.inB)
     |(go_at_call 220;refine(xa _ 0 K5).mono ?_;rintro e W6 ⟨v6,rfl,aZ,aC⟩;have O:=N.trans (aC.mono N.size);have q6:=z _ O;obtain⟨A6,c6,rfl,aX⟩:=aZ.inB)
     |(go_at_call 268;refine(PD _ (⟨d,B,((0:Nat):Int),(sn:Int)⟩:xG) cD).mono ?_;rintro e W7 ⟨v7,rfl,bC,aT⟩;have aN:=O.trans (aT.mono O.size);have q7:=z _ aN;obtain⟨A7,c7,rfl,bA⟩:=bC.inB;have V:=aN.alloc aN.size (Q9 #[X1 A5 (QT d).length c5,X1 A6 (jU 0).length c6,X1 A7 (QT B).length c7] 129);have q8:=z _ V)
     |(go_at_call 153;have HJ:=tP aW aX bA aC aT aQ.out a6;refine HJ.mono ?_;rintro e C ⟨v9,rfl,aK,aU⟩;have U:=V.trans (aU.mono V.size);have q9:=z _ U;obtain⟨L,M,rfl,bI⟩:=aK.inB;have G:=U.alloc U.size (Q9 #[X1 L (jQ (⟨d,B,((0:Nat):Int),(sn:Int)⟩:xG)).length M] 129);have aB:=z _ G;have aF:=bF.grow G;have H:=aF.own;rw[aL.out] at H;have aH:=zT aE.size G.size)
     |(refine VT rfl Ff (.tmp 17) (.tmp 33) rfl w4.heap.size (X1 A k c) k vs rfl H _ _ 1 1 [X1 L (jQ (⟨d,B,((0:Nat):Int),(sn:Int)⟩:xG)).length M] rfl (Kb C 129 _ rfl) (by unfold gP;omega) K5 aH ?_;intro bV K aJ I;have aM:=nb.below G nb.lt;rw[<-bD.out] at aM;have Z:=aM.grown I (Ej H aM K7);have a0:K.cell? f=some (X9 d)/\K.cell? ⟨f,1,K3⟩=some (X9 B)/\K.cell? ⟨f,2,K3⟩=K4 (Y1 Q4 0)/\K.cell? ⟨f,3,K3⟩=K4 (Y1 Q4 (sn:Int))/\qa K r Zm 2:=⟨by rw[Z.cell];rfl,by rw[Z.cell];rfl,by rw[Z.cell];rfl,by rw[Z.cell];rfl,aB.2.2.2.2.grown I (Ei H aB.2.2.2.2)⟩))
    go_wp2
    all_goals
     have aV:nH C.heap.size C (C.alloc (Q9 #[X1 L (jQ (⟨d,B,((0:Nat):Int),(sn:Int)⟩:xG)).length M] 129)):=(nF _ C).alloc (zG _) _;have aG:=aF.more (qn aK aV) (by rw[aL.out];exact aJ) I;obtain⟨aP,aR,rfl,_⟩:=qq aJ aG.one;exact⟨⟨k+1,aP,aR,_,by omega,by simp,rfl,by rw[a1.out];exact aG,(aE.trans (G.mono aE.size)).trans (zo I aH (zj H))⟩,by simp[intOf];omega⟩
   .have cE:((E:Int)==0)=false:=by simp;omega
    have qd:=z _ aD;have bX:∀W,qa W r Zm 2->(lU 348 (Q1 (some r)) (X3 false) false).run Y3 W=.ok (.func (.func 270) #[] #[]) W:=λW h=>En h false
    have aQ:Hid ([QT d,jU E,jU sn].flatten=jQ (⟨d,B,(E:Int),(sn:Int)⟩:xG)):=nI (by unfold jQ;rw[if_neg (by show ¬ ((E:Int)=0);omega)];simp)
    go_region_held3 (λW=>W.cell? f=some (X9 d)/\W.cell? ⟨f,1,K3⟩=some (X9 B)/\W.cell? ⟨f,2,K3⟩=K4 (Y1 Q4 (E:Int))/\W.cell? ⟨f,3,K3⟩=K4 (Y1 Q4 (sn:Int))/\qa W r Zm 2) (first|exact qd|exact q5|exact q6|exact q7|exact q8|exact q9|exact aB|exact a0) (first
     |(go_at_call 269;refine(Xo _ d K5).mono ?_;rintro e W5 ⟨v5,rfl,aY,aS⟩;have N:=aD.trans (aS.mono aD.size);have q5:=z _ N;obtain⟨A5,c5,rfl,aW⟩:=aY.inB)
     |(go_at_call 220;refine(xa _ E K5).mono ?_;rintro e W6 ⟨v6,rfl,aZ,aC⟩;have O:=N.trans (aC.mono N.size);have q6:=z _ O;obtain⟨A6,c6,rfl,aX⟩:=aZ.inB)
     |(go_at_call 270;refine(PC _ (⟨d,B,(E:Int),(sn:Int)⟩:xG) sn rfl K5).mono ?_;rintro e W7 ⟨v7,rfl,bC,aT⟩;have aN:=O.trans (aT.mono O.size);have q7:=z _ aN;obtain⟨A7,c7,rfl,bA⟩:=bC.inB;have V:=aN.alloc aN.size (Q9 #[X1 A5 (QT d).length c5,X1 A6 (jU E).length c6,X1 A7 (jU sn).length c7] 129);have q8:=z _ V)
     |(go_at_call 153;have HJ:=tP aW aX bA aC aT aQ.out a6;refine HJ.mono ?_;rintro e C ⟨v9,rfl,aK,aU⟩;have U:=V.trans (aU.mono V.size);have q9:=z _ U;obtain⟨L,M,rfl,bI⟩:=aK.inB;have G:=U.alloc U.size (Q9 #[X1 L (jQ (⟨d,B,(E:Int),(sn:Int)⟩:xG)).length M] 129);have aB:=z _ G;have aF:=bF.grow G;have H:=aF.own;rw[aL.out] at H;have aH:=zT aE.size G.size)
     |(refine VT rfl Ff (.tmp 17) (.tmp 33) rfl w4.heap.size (X1 A k c) k vs rfl H _ _ 1 1 [X1 L (jQ (⟨d,B,(E:Int),(sn:Int)⟩:xG)).length M] rfl (Kb C 129 _ rfl) (by unfold gP;omega) K5 aH ?_;intro bV K aJ I;have aM:=nb.below G nb.lt;rw[<-bD.out] at aM;have Z:=aM.grown I (Ej H aM K7);have a0:K.cell? f=some (X9 d)/\K.cell? ⟨f,1,K3⟩=some (X9 B)/\K.cell? ⟨f,2,K3⟩=K4 (Y1 Q4 (E:Int))/\K.cell? ⟨f,3,K3⟩=K4 (Y1 Q4 (sn:Int))/\qa K r Zm 2:=⟨by rw[Z.cell];rfl,by rw[Z.cell];rfl,by rw[Z.cell];rfl,by rw[Z.cell];rfl,aB.2.2.2.2.grown I (Ei H aB.2.2.2.2)⟩))
    go_wp2
    all_goals
     have aV:nH C.heap.size C (C.alloc (Q9 #[X1 L (jQ (⟨d,B,(E:Int),(sn:Int)⟩:xG)).length M] 129)):=(nF _ C).alloc (zG _) _;have aG:=aF.more (qn aK aV) (by rw[aL.out];exact aJ) I;obtain⟨aP,aR,rfl,_⟩:=qq aJ aG.one;exact⟨⟨k+1,aP,aR,_,by omega,by simp,rfl,by rw[a1.out];exact aG,(aE.trans (G.mono aE.size)).trans (zo I aH (zj H))⟩,by simp[intOf];omega⟩
  .obtain rfl:k=cells.length:=K5
   rw[List.take_length] at hL;have b5:za wr w.heap.size 69 _:=b4.below u b4.lt;have k2:wr.cell? ⟨w.heap.size,2,K3⟩=some (X1 Ak keys.length ck):=by rw[b5.cell];rfl
   go_wp2
   go_loopw [2,39] (λv i w2=>∃(k:Nat) (A:Y5) (c:Nat) (vs:Y8),k<=keys.length/\i=Y1 Q4 k/\v=X1 A (cells.length+k) c/\Zx w2 w4.heap.size (X1 A (cells.length+k) c) (cells.map jQ++(mi k).map (keyAt keys kids)) vs/\nH w4.heap.size w4 w2) (λ_ i _=>keys.length-(intOf i).toNat)
   case atStart=>exact⟨0,A,c,vs,by omega,rfl,rfl,by simpa using hL,u⟩
   case round =>
    obtain⟨k,A,c,vs,b8,rfl,rfl,hL,u⟩:=hrel
    by_cases aO:k<keys.length
    .obtain⟨cJ,n,hn,bJ,bB⟩:=b7 k aO;obtain⟨g,o,rfl,hg,_⟩:=hk.pO K5;obtain⟨gi,oi,rfl,bH,_⟩:=hi.pO K5;have d0:wr.cell? ⟨g,o+k,K3⟩=some (X9 keys[k]):=(u.cell (p:=⟨g,o+k,K3⟩) (zO hg aA.size)).trans ((aA.cell (p:=⟨g,o+k,K3⟩) hg).trans (Xh hk rfl k aO));have z:∀W,nH w4.heap.size w4 W->W.cell? ⟨w.heap.size,3,K3⟩=some (X1 (K4 ⟨gi,oi,K3⟩) kids.length ci)/\W.cell? ⟨gi,oi+(k+1),K3⟩=K4 (Y1 Q4 (n:Int)):=λW hW=>by
      refine⟨?_,?_⟩
      .have b:=b4.below hW b4.lt;rw[b.cell];rfl
      .rw[<-bB];exact(hW.cell (p:=⟨gi,oi+(k+1),K3⟩) (zO bH aA.size)).trans ((aA.cell (p:=⟨gi,oi+(k+1),K3⟩) bH).trans (FR hi rfl (k+1) bJ))
     have bK:keyAt keys kids k=QT keys[k]++jU n:=by unfold keyAt Uv;rw[qT,zM aO,qT,zM bJ,fX,fX,bB];rfl
     have bQ:(mi (k+1)).map (keyAt keys kids)=(mi k).map (keyAt keys kids)++[QT keys[k]++jU n]:=by rw[List.range_succ,qX,List.map_singleton,bK]
     have aI:(cells.map jQ++(mi k).map (keyAt keys kids)).length=cells.length+k:=by simp
     generalize keys[k]=s at *;have bW:=QM s;have bY:=xc n;obtain⟨kB,a5⟩:=Z9 (QT s++jU n);generalize bL:cells.map jQ++(mi k).map (keyAt keys kids)=ls at *;have a1:Hid (cells.map jQ++(mi (k+1)).map (keyAt keys kids)=ls++[kB]):=nI (by rw[bQ,<-qQ,bL,a5]);have aL:=nI aI;have cK:IntKind.i64.wrap ((k:Int)+1)=(k:Int)+1:=xX _;have cF:(0:Int)<=(k:Int)+1:=K5
     have cG:(k:Int)+1<(kids.length:Int):=K5
     have aQ:Hid ([QT s,jU n].flatten=kB):=nI (by rw[a5];simp);have b6:kB.length<=1000000000:=by rw[a5,zH];omega
     have aD:=u.drew;have qd:=z _ aD;have bS:nH wr.heap.size wr wr.drew:=(nF _ wr).drew;clear bK bQ aI bL bB bY bW a5;go_wp2
     go_region_held3 (λW=>W.cell? ⟨w.heap.size,3,K3⟩=some (X1 (K4 ⟨gi,oi,K3⟩) kids.length ci)/\W.cell? ⟨gi,oi+(k+1),K3⟩=K4 (Y1 Q4 (n:Int))) (first|exact qd|exact q5|exact q6|exact q8|exact q9|exact aB|exact a0) (first
      |(go_at_call 269;refine(Xo _ s K5).mono ?_;rintro e W5 ⟨v5,rfl,aY,aS⟩;have N:=bS.trans (aS.mono bS.size);have q5:=z _ (u.trans (N.mono u.size));obtain⟨A5,c5,rfl,aW⟩:=aY.inB)
      |(go_at_call 220;refine(xa _ n K5).mono ?_;rintro e W6 ⟨v6,rfl,aZ,aC⟩;have O:=N.trans (aC.mono N.size);have q6:=z _ (u.trans (O.mono u.size));obtain⟨A6,c6,rfl,aX⟩:=aZ.inB;have V:=O.alloc O.size (Q9 #[X1 A5 (QT s).length c5,X1 A6 (jU n).length c6] 129);have q8:=z _ (u.trans (V.mono u.size)))
      |(go_at_call 153;have HJ:=Hu aW aX aC aQ.out b6;refine HJ.mono ?_;rintro e C ⟨v9,rfl,aK,aU⟩;have U:=V.trans (aU.mono V.size);have q9:=z _ (u.trans (U.mono u.size));obtain⟨L,M,rfl,bI⟩:=aK.inB;have G:=U.alloc U.size (Q9 #[X1 L kB.length M] 129);have aB:=z _ (u.trans (G.mono u.size));have aF:=hL.grow G;have H:=aF.own;rw[aL.out] at H;have aH:=zT u.size G.size)
      |(refine VT rfl Ff (.tmp 44) (.tmp 56) rfl w4.heap.size (X1 A (cells.length+k) c) (cells.length+k) vs rfl H _ _ 1 1 [X1 L kB.length M] rfl (Kb C 129 _ rfl) (by unfold gP;omega) K5 aH ?_;intro bV K aJ I;have bE:=(u.trans (G.mono u.size)).trans (zo I aH (zj H));have a0:=z _ bE))
     go_wp2;have aV:nH C.heap.size C (C.alloc (Q9 #[X1 L kB.length M] 129)):=(nF _ C).alloc (zG _) _;have aG:=aF.more (qn aK aV) (by rw[aL.out];exact aJ) I;obtain⟨aP,aR,rfl,_⟩:=qq aJ aG.one;exact⟨⟨k+1,aP,aR,_,by omega,by simp,by rw[mg],by rw[a1.out,<-mg];exact aG,bE⟩,by simp[intOf];omega⟩
    .obtain rfl:k=keys.length:=K5
     go_wp2;go_ret;have aI:(qo ⟨leaf,cells,keys,kids⟩).length=cells.length+keys.length:=by simp[qo]
     have b9:w.heap.size<=w4.heap.size:=aA.size;have b1:Zx wr w.heap.size (X1 A (cells.length+keys.length) c) (qo ⟨leaf,cells,keys,kids⟩) vs:=⟨yR hL.own b9,hL.one,hL.at_⟩;exact⟨A,c,vs,by rw[aI];rfl,by rw[aI];exact b1,aA.trans (u.mono aA.size)⟩
theorem NO {w:World}{A:Y5}{c:Nat}{ls:List Y4}{i:Y8}(h:yl w w.heap.size 1 A ls.length c i)(d:∀j,(h:j<ls.length)->∃A c,i[j]?=some (X1 A ls[j].length c)/\qv w w.heap.size A c ls[j]):∃zs:List (xA w w.heap.size),zs.length=ls.length/\zs.map xA.l=ls/\Cn w w.heap.size A c zs:=by
 have key:∀n,n<=ls.length->∃zs:List (xA w w.heap.size),zs.length=n/\zs.map xA.l=ls.take n/\∀j (d:j<zs.length),i[j]?=some zs[j].val:=by
  intro n
  induction n with
  | zero=>exact λ_=>⟨[],rfl,by simp,λj d=>by simp at d⟩
  | succ n ih =>
   intro hn;obtain⟨zs,h1,h2,f⟩:=ih K5;obtain⟨A,c,k,r⟩:=d n K5;refine⟨zs++[⟨((A,c),ls[n]),r⟩],by simp[h1],?_,λj d => ?_⟩
   .rw[qX,h2,zU K5];rfl
   .by_cases e:j<zs.length
    .rw[fQ e];exact f j e
    .have:j=n:=by simp at d;omega
     subst this;rw[lO K5];simp only[h1,Nat.sub_self,zB];exact k
 obtain⟨zs,h1,h2,f⟩:=key ls.length (zG _);refine⟨zs,h1,by rw[h2,List.take_length],⟨by rw[h1];exact h.le,h.max,λx => ?_⟩⟩;obtain⟨g,o,e,s,u⟩:=h.pO K5;exact⟨g,o,e,s,λj d=>u j _ (f j d)⟩
theorem Yx {w:World}{base:Nat}{A:Y5}{c:Nat}{ls:List Y4}{C:Y8}(h:Zx w base (X1 A ls.length c) ls C)(hf:ls.flatten.length<=1000000000):nK Y3 153 #[X1 A ls.length c] w (yV w ls.flatten):=by
 obtain⟨E,c',e,u⟩:=qq h.own h.one;injection e with e1 i d
 subst e1 d
 obtain⟨zs,B,k,s⟩:=NO u (λj z=>by
  obtain⟨r,c2,i,own⟩:=h.at_ j z;obtain⟨G,c3,d,x⟩:=yY.inB own;injection d with e31 e32 e33
  subst e31 e33
  exact⟨r,c2,i,x⟩)
 have f:=Xv w A c zs s (by rw[k];exact hf);rw[B,k] at f;generalize ls.flatten=l at *
 go_enter func153,ntmps153
 go_wp2_with (go_at_call 185;refine f.mono ?_;rintro e H ⟨v,rfl,own,hB⟩)
 go_ret;exact⟨v,rfl,own,hB⟩
theorem ji (ls:List Y4)(m:Nat)(h:∀l∈ls,l.length<=m):ls.flatten.length<=ls.length*m:=by
 induction ls with
 | nil=>simp
 | cons l ls ih =>
  have h1:=h l K9;have h2:=ih (λx c=>h x (by simp[c]));rw[yE,zH,zK,Nat.add_mul];omega
def qg (x:ym):Y4:=(if x.leaf then 1 else 2)::jU (qo x).length++(if x.leaf then [] else jU (x.kids.getD 0 0).toNat)++(qo x).flatten
theorem JG {x:ym}(d:yh x):∀l∈qo x,l.length<=200:=by
 obtain⟨leaf,cells,keys,kids⟩:=x;intro l hl;rcases zZ.1 hl with hl|hl
 .obtain⟨c,hc,rfl⟩:=qR.1 hl;cases leaf with
  | true =>
   have hs:=d.short c.key (qR.2 ⟨c,hc,rfl⟩);exact Uj (by unfold yr at hs;simpa using hs) ((d.leaf rfl).2.2 c hc)
  | false =>
   have e:cells=[]:=(d.inner rfl).1;subst e;cases hc
 .obtain⟨j,h,rfl⟩:=qR.1 hl;have f:j<keys.length:=by simpa using h
  unfold Uv;have h2:=xc (kids.getD (j+1) 0).toNat;cases leaf with
  | true =>
   have e:keys=[]:=(d.leaf rfl).1;subst e;simp at f
  | false =>
   have hs:=d.short keys[j] (qJ f);have h1:=QM keys[j];have e:keys.getD j nX=keys[j]:=by rw[qT,zM f];rfl
   have i:keys[j].size<=81:=by unfold yr at hs;simpa using hs
   simp only;rw[e,zH];omega
theorem DU:∀a:Y4,gH a a=false
 | []=>by simp[gH]
 | a::x=>by simp[gH,DU x]
theorem Vr:∀a b c:Y4,gH a b=true->gH b c=true->gH a c=true
 | _,[],_,h,_=>by cases ‹Y4›<;>simp[gH] at h
 | _,b::y,[],_,h=>by simp[gH] at h
 | [],b::y,c::z,_,_=>by simp[gH]
 | a::x,b::y,c::z,h1,h2=>by
  simp only[gH,Bool.or_eq_true,gN,decide_eq_true_eq,beq_iff_eq] at *;rcases h1 with h1|⟨rfl,h1⟩
  .rcases h2 with h2|⟨rfl,h2⟩
   .exact .inl (UInt8.lt_trans h1 h2)
   .exact .inl h1
  .rcases h2 with h2|⟨rfl,h2⟩
   .exact .inl h2
   .exact .inr ⟨rfl,Vr x y z h1 h2⟩
theorem IA:∀a b:Y4,gH b a=false->(b==a)=false->gH a b=true
 | [],[],_,h=>by simp at h
 | [],_::_,_,_=>by simp[gH]
 | _::_,[],h,_=>by simp[gH] at h
 | a::x,b::y,h1,h2=>by
  simp only[gH,Bool.or_eq_true,gN,decide_eq_true_eq,beq_iff_eq,Bool.or_eq_false_iff,decide_eq_false_iff_not,Bool.and_eq_false_iff,beq_eq_false_iff_ne] at *
  by_cases e:b=a
  .subst e;refine .inr ⟨rfl,IA x y ?_ ?_⟩
   .rcases h1.2 with h|h
    .exact absurd rfl h
    .exact h
   .rw[beq_eq_false_iff_ne];intro e;exact h2 (by rw[e])
  .left;rcases Nat.lt_trichotomy a.toNat b.toNat with h|h|h
   .exact UInt8.lt_iff_toNat_lt.2 h
   .exact absurd (UInt8.toNat_inj.1 h).symm e
   .exact absurd (UInt8.lt_iff_toNat_lt.2 h) h1.1
theorem CZ (a b:Y4)(h:gH a b=true):gH b a=false:=by
 cases e:gH b a with
 | false=>rfl
 | true =>
  have:=Vr a b a h e;rw[DU] at this;cases this
theorem Sw {l:List ByteArray}(hs:Yn l)(k:Nat):Yn (l.take k):=λj h=>by
 rw[lL,lL];exact hs j (by simp at h;omega)
theorem EP {l:List ByteArray}(hs:KP l)(k:Nat):KP (l.take k):=λj h=>by
 rw[lL,lL];exact hs j (by simp at h;omega)
theorem Sx {l:List ByteArray}(hs:Yn l)(k:Nat):Yn (l.drop k):=λj h=>by
 rw[lK,lK];exact hs (k+j) (by simp at h;omega)
theorem ER {l:List ByteArray}(hs:KP l)(k:Nat):KP (l.drop k):=λj h=>by
 rw[lK,lK];exact hs (k+j) (by simp at h;omega)
def xF (x:ym)(k:Nat):ym:=if x.leaf then ⟨true,x.cells.take k,[],[]⟩ else ⟨false,[],x.keys.take k,x.kids.take (k+1)⟩
def yT (x:ym)(k:Nat):ym:=if x.leaf then ⟨true,x.cells.drop k,[],[]⟩ else ⟨false,[],x.keys.drop (k+1),x.kids.drop (k+1)⟩
def yq (x:ym)(k:Nat):ByteArray:=(qh x).getD k nX
def xK (x:ym):Nat:=if x.leaf then x.cells.length else x.keys.length
def xj (x:ym):Nat:=if x.leaf then x.cells.length-1 else x.keys.length-2
def vU (x:ym):Nat:=if x.leaf then 2 else 3
theorem Jw (x:ym)(k:Nat):qh (xF x k)=(qh x).take k:=by
 obtain⟨leaf,cells,keys,kids⟩:=x;cases leaf<;>simp[xF,qh,fT]
theorem Zj (x:ym)(k:Nat):qh (yT x k)=(qh x).drop (if x.leaf then k else k+1):=by
 obtain⟨leaf,cells,keys,kids⟩:=x;cases leaf<;>simp[yT,qh,fS]
theorem Jv (x:ym):(qh x).length=xK x:=by
 obtain⟨leaf,cells,keys,kids⟩:=x;cases leaf<;>simp[xK,qh]
theorem OV {x:ym}(d:yh x){k:Nat}(r:0<k)(j:k<xK x):yh (xF x k):=by
 refine⟨?_,?_,?_,?_,?_⟩
 .rw[Jw];exact Sw d.sorted k
 .rw[Jw];exact EP d.apart k
 .rw[Jw];exact λs hs=>d.short s (List.mem_of_mem_take hs)
 .intro e;obtain⟨leaf,cells,keys,kids⟩:=x;cases leaf with
  | false=>simp[xF] at e
  | true=>exact⟨rfl,rfl,λc hc=>(d.leaf rfl).2.2 c (List.mem_of_mem_take hc)⟩
 .intro e;obtain⟨leaf,cells,keys,kids⟩:=x;cases leaf with
  | true=>simp[xF] at e
  | false =>
   obtain⟨h1,h2,f,h⟩:=d.inner rfl;simp only[xK,nV,if_false] at j;simp only at f;refine⟨rfl,?_,?_,λi hi=>h i (List.mem_of_mem_take hi)⟩
   .simp only[xF,nV,if_false,qB];omega
   .simp only[xF,nV,if_false,qB];omega
theorem TQ {x:ym}(d:yh x){k:Nat}(j:k<=xj x)(r:vU x<=xK x):yh (yT x k):=by
 refine⟨?_,?_,?_,?_,?_⟩
 .rw[Zj];exact Sx d.sorted _
 .rw[Zj];exact ER d.apart _
 .rw[Zj];exact λs hs=>d.short s (qV hs)
 .intro e;obtain⟨leaf,cells,keys,kids⟩:=x;cases leaf with
  | false=>simp[yT] at e
  | true=>exact⟨rfl,rfl,λc hc=>(d.leaf rfl).2.2 c (qV hc)⟩
 .intro e;obtain⟨leaf,cells,keys,kids⟩:=x;cases leaf with
  | true=>simp[yT] at e
  | false =>
   obtain⟨h1,h2,f,h⟩:=d.inner rfl;simp only[xj,xK,vU,nV,if_false] at j r;simp only at f;refine⟨rfl,?_,?_,λi hi=>h i (qV hi)⟩
   .simp only[yT,nV,if_false,qF];omega
   .simp only[yT,nV,if_false,qF];omega
theorem Nn {x:ym}(d:yh x)(k:Nat)(h:k<=xK x):qo (xF x k)=(qo x).take k:=by
 obtain⟨leaf,cells,keys,kids⟩:=x;cases leaf with
 | true =>
  obtain⟨h1,h2,c⟩:=d.leaf rfl;simp only at h1;subst h1;simp[qo,xF,fT]
 | false =>
  obtain⟨h1,h2,c,i⟩:=d.inner rfl;simp only at h1 c;subst h1;simp only[xK,nV,if_false] at h;refine List.ext_getElem (by simp[qo,xF]) λj r f => ?_
  have e:j<k:=by simp at f;omega
  simp only[qo,xF,nV,if_false,zN,zQ,mC,List.getElem_range,lL];congr 1
  .simp[qT,e]
  .simp[qT,e]
theorem OS {x:ym}(d:yh x)(k:Nat):qo (yT x k)=(qo x).drop (if x.leaf then k else k+1):=by
 obtain⟨leaf,cells,keys,kids⟩:=x;cases leaf with
 | true =>
  obtain⟨h1,h2,c⟩:=d.leaf rfl;simp only at h1;subst h1;simp[qo,yT,fS]
 | false =>
  obtain⟨h1,h2,c,e⟩:=d.inner rfl;simp only at h1 c;subst h1;refine List.ext_getElem (by simp[qo,yT]) λj f h => ?_
  simp only[qo,yT,nV,if_false,zN,zQ,mC,List.getElem_range,lK];congr 1
  .simp[qT]
  .simp[qT,mg]
theorem Qr {x:ym}(c:yh x):(qo x).length=xK x:=by
 obtain⟨leaf,cells,keys,kids⟩:=x;cases leaf with
 | true =>
  have h1:keys=[]:=(c.leaf rfl).1;subst h1;simp[qo,xK]
 | false =>
  have h1:cells=[]:=(c.inner rfl).1;subst h1;simp[qo,xK]
def kC (ls:List Y4)(k:Nat):Nat:=(ls.take k).flatten.length
theorem Jj (ls:List Y4)(k:Nat)(h:k<ls.length):kC ls (k+1)=kC ls k+ls[k].length:=by
 unfold kC;rw[zU h,List.flatten_append,zH,yE,lQ,qW]
theorem Ji (ls:List Y4)(k:Nat):kC ls k+(ls.drop k).flatten.length=ls.flatten.length:=by
 unfold kC;rw[<-zH,<-List.flatten_append,qK]
structure kz (ls:List Y4)(last k:Nat):Prop where
 le:k<=last
 low:∀j,j<k->2*kC ls j<=ls.flatten.length
 high:k=last\/ls.flatten.length<2*kC ls k
theorem kz.pos {ls:List Y4}{last k:Nat}(h:kz ls last k)(c:0<last):0<k:=by
 rcases mf k with e|e
 .subst e;rcases h.high with h1|h1
  .omega
  .simp[kC] at h1
 .exact e
theorem jq (x:ym):(qo x).flatten.length+1<=(qg x).length/\(qg x).length<=(qo x).flatten.length+21:=by
 unfold qg;have h1:=xc (qo x).length;have h2:=xc (x.kids.getD 0 0).toNat;generalize jU (qo x).length=a at *;generalize jU (x.kids.getD 0 0).toNat=b at *;generalize (qo x).flatten=c at *;simp only[zH,zK];split<;>(try simp only[zY])<;>omega
theorem PK {x:ym}(c:yh x)(hl:x.leaf=false):∀l∈qo x,l.length<=101:=by
 obtain⟨leaf,cells,keys,kids⟩:=x;simp only at hl;subst hl;have h1:cells=[]:=(c.inner rfl).1;subst h1;intro l hl;simp only[qo,zN,zQ,qR,List.mem_range] at hl;obtain⟨j,d,rfl⟩:=hl
 have hs:=c.short (keys.getD j nX) (by
  rw[qT,zM d]
  exact qJ d)
 unfold yr at hs;simp only[decide_eq_true_eq] at hs;unfold Uv;have q1:=QM (keys.getD j nX);have q2:=xc (kids.getD (j+1) 0).toNat;rw[zH];omega
theorem CJ {x:ym}(h:yh x){k:Nat}(hh:kz (qo x) (xj x) k)(A:vU x<=xK x)(C:(qg x).length<=656)(hc:x.leaf=true->∀c∈x.cells,(qg ⟨true,[c],[],[]⟩).length<=146):(qg (xF x k)).length<=512/\(qg (yT x k)).length<=512:=by
 have j:=Qr h;have u:0<xj x/\xj x<xK x:=by unfold xj vU xK at *;cases d:x.leaf<;>simp[d] at A ⊢<;>omega
 have E:=hh.pos u.1;have H:k<xK x:=by have:=hh.le;omega
 have h1:=jq x;have h2:=jq (xF x k);have f:=jq (yT x k);rw[Nn h k K5] at h2;rw[OS h k] at f;have I:=hh.low (k-1) K5;have hn:=Jj (qo x) (k-1) K5;rw[show k-1+1=k from by omega] at hn;have i:∀l∈qo x,l.length<=145:=by
  intro l hl;cases d:x.leaf with
  | false=>have:=PK h d l hl;omega
  | true =>
   have s:x.keys=[]:=(h.leaf d).1;unfold qo at hl;rw[s] at hl;simp only[zY,List.range_zero,zN,qW,qR] at hl;obtain⟨c,r,rfl⟩:=hl;have q1:=hc d c r;have q2:=(jq ⟨true,[c],[],[]⟩).1;have e:(qo ⟨true,[c],[],[]⟩).flatten=jQ c:=by simp[qo]
   rw[e] at q2;omega
 have G:=i (qo x)[k-1] (qJ _);have L:=Ji (qo x) k;have B:((qo x).take k).flatten.length=kC (qo x) k:=rfl;refine⟨by omega,?_⟩;rcases hh.high with e|e
 .cases d:x.leaf with
  | true =>
   rw[d] at f;simp only[if_true] at f;have z:((qo x).drop k).length<=1:=by rw[qF,j,e];unfold xj xK;rw[d];simp;omega
   have:=ji ((qo x).drop k) 145 (λl hl=>i l (qV hl));omega
  | false =>
   rw[d] at f;simp only[nV,if_false] at f;have z:((qo x).drop (k+1)).length<=1:=by rw[qF,j,e];unfold xj xK;rw[d];simp;omega
   have:=ji ((qo x).drop (k+1)) 145 (λl hl=>i l (qV hl));omega
 .cases d:x.leaf with
  | true =>
   rw[d] at f;simp only[if_true] at f;omega
  | false =>
   rw[d] at f;simp only[nV,if_false] at f;have M:=Ji (qo x) (k+1);have K:=Jj (qo x) k K5;omega
theorem XR {x:ym}{k:Nat}(c:k<(qh x).length):yq x k=(qh x)[k]:=by
 unfold yq;rw[qT,zM c];rfl
def xN (l:Y4):Option (Nat×Y4) :=
 match rd l with
 | some (n,k)=>if n<=100000 then some (n,l.drop k) else none
 | none=>none
def jo (l:Y4):Option (ByteArray×Y4) :=
 match Lv l with
 | some (s,k)=>some (KQ s,l.drop k)
 | none=>none
def kK (l:Y4):Option (xG×Y4) :=
 match jo l with
 | none=>none
 | some (s,r) =>
  match xN r with
  | none=>none
  | some (p,r2) =>
   if p=0 then
    match jo r2 with
    | none=>none
    | some (v,r3)=>some (⟨s,v,0,0⟩,r3)
   else
    match xN r2 with
    | none=>none
    | some (z,r3)=>some (⟨s,nX,p,z⟩,r3)
def jO (l:Y4):Option ((ByteArray×Int)×Y4) :=
 match jo l with
 | none=>none
 | some (s,r) =>
  match xN r with
  | none=>none
  | some (p,r2)=>some ((s,(p:Int)),r2)
def yX {α : Type}(f:Y4->Option (α × Y4)):Nat->Y4->Option (List α × Y4)
 | 0,l=>some ([],l)
 | k+1,l =>
  match f l with
  | none=>none
  | some (c,r) =>
   match yX f k r with
   | none=>none
   | some (cs,r2)=>some (c::cs,r2)
theorem ZW {α : Type}(f:Y4->Option (α × Y4)):∀(k:Nat) (d:Y4) (cs:List α) (l:Y4) (c : α) (r:Y4),yX f k d=some (cs,l)->f l=some (c,r)->yX f (k+1) d=some (cs++[c],r)
 | 0,d,cs,l,c,r,h,hf=>by simp only[yX,gO,mA] at h;obtain⟨rfl,rfl⟩:=h;simp[yX,hf]
 | k+1,d,cs,l,c,r,h,hf=>by
  rw[yX] at h ⊢;cases i:f d with
  | none=>rw[i] at h;cases h
  | some y =>
   obtain⟨c1,r1⟩:=y;rw[i] at h;simp only at h ⊢;cases e:yX f k r1 with
   | none=>rw[e] at h;cases h
   | some z =>
    obtain⟨j,r2⟩:=z;rw[e] at h;simp only[gO,mA] at h;obtain⟨rfl,rfl⟩:=h;rw[ZW f k r1 j r2 c r e hf];rfl
theorem UP {α : Type}(f:Y4->Option (α × Y4))(c:Y4)(cs:List α)(l:Y4)(k:Nat)(h:yX f k c=some (cs,l))(hf:f l=none):∀d,yX f (k+1+d) c=none:=by
 intro d
 induction k generalizing c cs with
 | zero =>
  simp only[yX,gO,mA] at h;obtain⟨rfl,rfl⟩:=h;rw[show 0+1+d=d+1 from by omega,yX,hf]
 | succ k ih =>
  rw[show k+1+1+d=(k+1+d)+1 from by omega,yX];rw[yX] at h;cases j:f c with
  | none=>rfl
  | some y =>
   obtain⟨c1,r1⟩:=y;rw[j] at h;simp only at h ⊢;cases e:yX f k r1 with
   | none=>rw[e] at h;cases h
   | some z =>
    obtain⟨i,r2⟩:=z;rw[e] at h;simp only[gO,mA] at h;obtain⟨rfl,rfl⟩:=h;rw[ih r1 i e]
theorem Yv {α : Type}(f:Y4->Option (α × Y4)):∀(k:Nat) (c:Y4) (cs:List α) (l:Y4),yX f k c=some (cs,l)->cs.length=k
 | 0,c,cs,l,h=>by simp only[yX,gO,mA] at h;rw[<-h.1];rfl
 | k+1,c,cs,l,h=>by
  rw[yX] at h;cases e:f c with
  | none=>rw[e] at h;cases h
  | some y =>
   obtain⟨c1,r1⟩:=y;rw[e] at h;simp only at h;cases d:yX f k r1 with
   | none=>rw[d] at h;cases h
   | some z =>
    obtain⟨i,r2⟩:=z;rw[d] at h;simp only[gO,mA] at h;rw[<-h.1,zK,Yv f k r1 i r2 d]
theorem vy {l r:Y4}{n:Nat}(h:xN l=some (n,r)):r.length<l.length/\n<=100000:=by
 unfold xN at h;cases e:rd l with
 | none=>rw[e] at h;cases h
 | some y =>
  obtain⟨m,k⟩:=y;rw[e] at h;simp only at h;have c:=XP e;split at h
  .simp only[gO,mA] at h;obtain⟨rfl,rfl⟩:=h;rw[qF];omega
  .cases h
theorem Jp {l r:Y4}{s:ByteArray}(h:jo l=some (s,r)):r.length<l.length:=by
 unfold jo Lv at h;cases e:rd l with
 | none=>rw[e] at h;cases h
 | some y =>
  obtain⟨m,k⟩:=y;rw[e] at h;simp only at h;have c:=XP e;split at h
  .rename_i h2
   split at h2
   .simp only[gO,mA] at h h2;obtain⟨rfl,rfl⟩:=h;obtain⟨_,h2⟩:=h2;rw[qF];omega
   .cases h2
  .cases h
theorem OD {l r:Y4}{c:xG}(h:kK l=some (c,r)):r.length<l.length:=by
 unfold kK at h;cases e:jo l with
 | none=>rw[e] at h;cases h
 | some y =>
  obtain⟨s,r1⟩:=y;rw[e] at h;simp only at h;have h1:=Jp e;cases f:xN r1 with
  | none=>rw[f] at h;cases h
  | some z =>
   obtain⟨p,r2⟩:=z;rw[f] at h;simp only at h;have h2:=vy f;split at h
   .cases d:jo r2 with
    | none=>rw[d] at h;cases h
    | some u =>
     obtain⟨v,r3⟩:=u;rw[d] at h;simp only[gO,mA] at h;have i:=Jp d;rw[<-h.2];omega
   .cases d:xN r2 with
    | none=>rw[d] at h;cases h
    | some u =>
     obtain⟨v,r3⟩:=u;rw[d] at h;simp only[gO,mA] at h;have i:=vy d;rw[<-h.2];omega
theorem OB {l r:Y4}{c:ByteArray×Int}(h:jO l=some (c,r)):r.length<l.length:=by
 unfold jO at h;cases e:jo l with
 | none=>rw[e] at h;cases h
 | some y =>
  obtain⟨s,r1⟩:=y;rw[e] at h;simp only at h;have h1:=Jp e;cases d:xN r1 with
  | none=>rw[d] at h;cases h
  | some z =>
   obtain⟨p,r2⟩:=z;rw[d] at h;simp only[gO,mA] at h;have h2:=vy d;rw[<-h.2];omega
theorem ZX {α : Type}{f:Y4->Option (α × Y4)}(hf:∀l c r,f l=some (c,r)->r.length<l.length):∀(k:Nat) (d:Y4) (cs:List α) (l:Y4),yX f k d=some (cs,l)->cs.length+l.length<=d.length
 | 0,d,cs,l,h=>by simp only[yX,gO,mA] at h;rw[<-h.1,<-h.2];simp
 | k+1,d,cs,l,h=>by
  rw[yX] at h;cases e:f d with
  | none=>rw[e] at h;cases h
  | some y =>
   obtain⟨c1,r1⟩:=y;rw[e] at h;simp only at h;cases i:yX f k r1 with
   | none=>rw[i] at h;cases h
   | some z =>
    obtain⟨j,r2⟩:=z;rw[i] at h;simp only[gO,mA] at h;have h1:=hf _ _ _ e;have h2:=ZX hf k r1 j r2 i;rw[<-h.1,<-h.2,zK];omega
def yn (leaf:Bool)(l:Y4):Option ym :=
 match xN l with
 | none=>none
 | some (many,r) =>
  if leaf then
   match yX kK many r with
   | none=>none
   | some (cs,_)=>some ⟨true,cs,[],[]⟩
  else
   match xN r with
   | none=>none
   | some (kid,r2) =>
    match yX jO many r2 with
    | none=>none
    | some (ks,_)=>some ⟨false,[],ks.map (·.1),(kid:Int)::ks.map (·.2)⟩
def kJ (b:Y4):Option ym :=
 match xN b with
 | none=>none
 | some (f,r)=>if f=1 then yn true r else if f=2 then yn false r else none
def KN (x:ym)(b:Y4):Prop:=yh x/\(qg x).length<=512/\qg x++zP (512-(qg x).length) 0=b
theorem KN.head {x:ym}{b:Y4}(h:KN x b):b.head?=some (if x.leaf then 1 else 2):=by
 rw[<-h.2.2];unfold qg;rfl
theorem TT (c:UInt8)(r:Y4)(h:c.toNat<128):xN (c::r)=some (c.toNat,r):=by
 have e:rd (c::r)=some (c.toNat,1):=by
  unfold rd Co;have h1:¬ 128<=c.toNat:=K5
  simp[h1,Nat.mod_eq_of_lt h]
 unfold xN;rw[e];simp only;rw[if_pos K5];rfl
theorem Lw {b:Y4}{x:ym}(hf:KN x b):kJ b=yn x.leaf (b.drop 1):=by
 have hh:=hf.head;cases b with
 | nil=>cases hh
 | cons c r =>
  simp only[List.head?_cons,gO] at hh;subst hh;unfold kJ;cases x.leaf with
  | true=>rw[TT _ _ K7];rfl
  | false=>rw[TT _ _ K7];rfl
theorem Yd (w:World)(x:ym)(r:Y5)(u:Nat)(s:Y5)(z:Nat)(d:Y5)(f:Nat)(h:XX w w.heap.size x r u s z d f)(hl:x.cells.length<=1000)(bR:x.keys.length<=1000)(bS:x.kids.length<=1001)(hR:yh x):nK Y3 151 #[Q0 (zx x r u s z d f)] w (yV w (qg x)):=by
 have j:=za.new w 69 (zx x r u s z d f);have hB:nH w.heap.size w (w.alloc (Q9 (zx x r u s z d f) 69)):=(nF _ w).alloc (zG _) _;have h1:=h.grow hB;have HC:=wJ _ x r u s z d f h1 K5 K5 K5 hR;have HL:∀W,nH (w.alloc (Q9 (zx x r u s z d f) 69)).heap.size (w.alloc (Q9 (zx x r u s z d f) 69)) W->nK Y3 208 #[Q0 (zx x r u s z d f)] W (GV W (qo x)):=λW hW=>Jy W x r u s z d f (h1.grow hW) K5 K5 K5 hR
 have bH:(qo x).length=x.cells.length+x.keys.length:=by simp[qo]
 have bO:(qo x).flatten.length<=1000000:=by have:=ji (qo x) 200 (JG hR);omega
 have a2:qg x=((if x.leaf then 1 else 2)::jU (qo x).length++(if x.leaf then [] else jU (x.kids.getD 0 0).toNat))++(qo x).flatten:=rfl;have aT:x.leaf=false->∃n:Nat,n<=2000/\∃h2:0<x.kids.length,x.kids[0]=(n:Int):=λe=>by
  obtain⟨_,_,bU,hp⟩:=hR.inner e;have h2:0<x.kids.length:=K5
  have bI:=hp _ (qJ h2);simp only[xY,gN,decide_eq_true_eq] at bI;exact⟨x.kids[0].toNat,by omega,h2,by omega⟩
 rw[a2];generalize qo x=ls at *;generalize a0:ls.flatten=N at *;have aD:=nI a0;clear a0;have bV:=xc ls.length;clear a2;have bW:ls.length<=2000:=K5
 clear bH;obtain⟨leaf,cells,keys,kids⟩:=x;unfold zx at *;simp only at *;unfold rO at HC;cases leaf with
 | true =>
  clear aT
  go_enter func151,ntmps151
  go_wp2_with (first
   |(refine yp zm j ?_)
   |(refine yp zm b2 ?_)
   |(go_at_call 219;refine HC.mono ?_;rintro e w2 ⟨⟨v2,rfl⟩,A⟩;have b2:=j.below A j.lt)
   |(go_at_call 208;refine(HL _ A).mono ?_;rintro e c ⟨A3,c3,vs,rfl,aN,aI⟩;have k:=A.trans (aI.mono A.size);have b3:=j.below k j.lt))
  have aA:nH c.heap.size c (c.alloc (Q9 #[Y1 Q5 2] 5)):=(nF _ c).alloc (zG _) _;have n2:za (c.alloc (Q9 #[Y1 Q5 2] 5)) c.heap.size 5 (([2]:Y4).map b8).toArray:=za.new c 5 _;have aP:qv (c.alloc (Q9 #[Y1 Q5 2] 5)) (c.alloc (Q9 #[Y1 Q5 2] 5)).heap.size (K4 ⟨c.heap.size,0,K3⟩) 1 [2]:=n2.inB _ n2.lt K7;refine(xa _ ls.length K5).mono ?_;rintro e E ⟨v4,rfl,aV,X⟩;obtain⟨A4,c4,rfl,aQ⟩:=aV.inB
  go_wp2_with fail
  refine(Hu aP aQ X rfl (by simp;omega)).mono ?_;rintro e w5 ⟨v5,rfl,C,aJ⟩;have e5:([[2],jU ls.length]:List Y4).flatten=2::jU ls.length:=by simp
  rw[e5] at C;have K:nH E.heap.size E (E.alloc (Q9 #[X1 c.heap.size 1 1,X1 A4 (jU ls.length).length c4] 129)):=(nF _ E).alloc (zG _) _;have I:=aA.trans (X.mono aA.size);have B:=I.trans ((K.trans (aJ.mono K.size)).mono I.size);have b5:=b3.below B b3.lt;have k0:w5.cell? w.heap.size=some (X3 true):=by rw[b5.cell];rfl
  have k3:w5.cell? ⟨w.heap.size,3,K3⟩=some (X1 d kids.length f):=by rw[b5.cell];rfl
  obtain⟨g5,aF,rfl,aO,bC,bB⟩:=C.at_ K9;have a1:c.heap.size<=g5:=zT (zT I.size K.size) aO;have U:=(hB.trans (k.mono hB.size)).trans (B.mono (hB.trans (k.mono hB.size)).size);have k5:=C.cell 0 K9;have f5:=C.free 0;have bG:(1:Int)<=((2::jU ls.length:Y4).length:Int):=by simp;omega
  have aE:=C.set 0 1 K7;have e6:(2::jU ls.length:Y4).set 0 (UInt8.ofNat 1)=1::jU ls.length:=rfl;rw[e6] at aE;have aK:nH c.heap.size c (w5.setCell g5 (Y1 Q5 1)):=B.setCell a1 _;have V:nH w.heap.size w (w5.setCell g5 (Y1 Q5 1)):=U.setCell (by have:=U.size;have:=(hB.trans (k.mono hB.size)).size;show w.heap.size<=g5;omega) _;have bT:(2::jU ls.length:Y4).length=(jU ls.length).length+1:=rfl
  go_wp2_with fail
  have O:=Yx (aN.grow aK) (by rw[aD.out];omega);rw[aD.out] at O;refine O.mono ?_;rintro e G ⟨v7,rfl,aW,Z⟩;obtain⟨A7,c7,rfl,aS⟩:=aW.inB;obtain⟨A6,c6,aG,aR⟩:=aE.inB;injection aG with e61 e62 e63
  subst e61 e63
  go_wp2_with fail
  refine(Hu aR aS Z rfl (by simp only[yE,lQ,qW,zH,zK];omega)).mono ?_;rintro e w8 ⟨v8,rfl,aC,aL⟩;have L:nH G.heap.size G (G.alloc (Q9 #[X1 g5 ((1::jU ls.length:Y4)).length aF,X1 A7 N.length c7] 129)):=(nF _ G).alloc (zG _) _;have H:=V.trans (Z.mono V.size);have aH:=H.trans ((L.trans (aL.mono L.size)).mono H.size);have e8:([(1::jU ls.length:Y4),N]:List Y4).flatten=1::(jU ls.length++N):=by simp
  rw[e8] at aC;go_wp2;go_ret;exact⟨v8,rfl,yY.base aC (zT H.size L.size),aH⟩
 | false =>
  obtain⟨q,hq,a3,aU⟩:=aT rfl;clear aT
  go_enter func151,ntmps151
  go_wp2_with (first
   |(refine yp zm j ?_)
   |(refine yp zm b2 ?_)
   |(go_at_call 219;refine HC.mono ?_;rintro e w2 ⟨⟨v2,rfl⟩,A⟩;have b2:=j.below A j.lt)
   |(go_at_call 208;refine(HL _ A).mono ?_;rintro e c ⟨A3,c3,vs,rfl,aN,aI⟩;have k:=A.trans (aI.mono A.size);have b3:=j.below k j.lt))
  have aA:nH c.heap.size c (c.alloc (Q9 #[Y1 Q5 2] 5)):=(nF _ c).alloc (zG _) _;have n2:za (c.alloc (Q9 #[Y1 Q5 2] 5)) c.heap.size 5 (([2]:Y4).map b8).toArray:=za.new c 5 _;have aP:qv (c.alloc (Q9 #[Y1 Q5 2] 5)) (c.alloc (Q9 #[Y1 Q5 2] 5)).heap.size (K4 ⟨c.heap.size,0,K3⟩) 1 [2]:=n2.inB _ n2.lt K7;refine(xa _ ls.length K5).mono ?_;rintro e E ⟨v4,rfl,aV,X⟩;obtain⟨A4,c4,rfl,aQ⟩:=aV.inB
  go_wp2_with fail
  refine(Hu aP aQ X rfl (by simp;omega)).mono ?_;rintro e w5 ⟨v5,rfl,C,aJ⟩;have e5:([[2],jU ls.length]:List Y4).flatten=2::jU ls.length:=by simp
  rw[e5] at C;have K:nH E.heap.size E (E.alloc (Q9 #[X1 c.heap.size 1 1,X1 A4 (jU ls.length).length c4] 129)):=(nF _ E).alloc (zG _) _;have I:=aA.trans (X.mono aA.size);have B:=I.trans ((K.trans (aJ.mono K.size)).mono I.size);have b5:=b3.below B b3.lt;have k0:w5.cell? w.heap.size=some (X3 false):=by rw[b5.cell];rfl
  have k3:w5.cell? ⟨w.heap.size,3,K3⟩=some (X1 d kids.length f):=by rw[b5.cell];rfl
  obtain⟨g5,aF,rfl,aO,bC,bB⟩:=C.at_ K9;have a1:c.heap.size<=g5:=zT (zT I.size K.size) aO;have U:=(hB.trans (k.mono hB.size)).trans (B.mono (hB.trans (k.mono hB.size)).size);obtain⟨gi,oi,rfl,bD,_⟩:=h1.i.pO a3;have d0:w5.cell? ⟨gi,oi,K3⟩=K4 (Y1 Q4 (q:Int)):=by have h2:=FR h1.i rfl 0 a3;rw[aU] at h2;have a8:=k.trans (B.mono k.size);exact(a8.cell (p:=⟨gi,oi,K3⟩) bD).trans h2
  have bG:(1:Int)<=(kids.length:Int):=K5
  have a5:=nI aU;have bX:=xc q;clear aU;obtain⟨bK,bL,a7,bE⟩:=C.inB;injection a7 with e51 e52 e53
  subst e51 e53
  go_wp2_with fail
  refine(xa _ q K5).mono ?_;rintro e wa ⟨va,rfl,bJ,aM⟩;obtain⟨Aa,ca,rfl,bF⟩:=bJ.inB
  go_wp2_with fail
  refine(Hu bE bF aM rfl (by simp only[yE,lQ,qW,zH,zK];omega)).mono ?_;rintro e wb ⟨vb,rfl,aX,a9⟩;have eb:([(2::jU ls.length:Y4),jU q]:List Y4).flatten=2::(jU ls.length++jU q):=by simp
  obtain⟨M,aB⟩:∃M:Y4,M=2::(jU ls.length++jU q):=⟨_,rfl⟩;rw[eb,<-aB] at aX;have bM:M.length<=21:=by rw[aB];simp;omega
  have bA:0<M.length:=by rw[aB];simp
  have a4:=nI aB;clear aB;have aZ:nH wa.heap.size wa (wa.alloc (Q9 #[X1 g5 (2::jU ls.length:Y4).length aF,X1 Aa (jU q).length ca] 129)):=(nF _ wa).alloc (zG _) _;have aY:=aM.trans ((aZ.trans (a9.mono aZ.size)).mono aM.size);have aK:=B.trans (aY.mono B.size);have V:=U.trans (aY.mono U.size);obtain⟨gq,a6,rfl,bP,bQ,bN⟩:=aX.at_ bA;have aE:=aX
  go_wp2_with fail
  have O:=Yx (aN.grow aK) (by rw[aD.out];omega);rw[aD.out] at O;refine O.mono ?_;rintro e G ⟨v7,rfl,aW,Z⟩;obtain⟨A7,c7,rfl,aS⟩:=aW.inB;obtain⟨A6,c6,aG,aR⟩:=aE.inB;injection aG with e61 e62 e63
  subst e61 e63
  go_wp2_with fail
  refine(Hu aR aS Z rfl (by simp only[yE,lQ,qW,zH];omega)).mono ?_;rintro e w8 ⟨v8,rfl,aC,aL⟩;have L:nH G.heap.size G (G.alloc (Q9 #[X1 gq (M).length a6,X1 A7 N.length c7] 129)):=(nF _ G).alloc (zG _) _;have H:=V.trans (Z.mono V.size);have aH:=H.trans ((L.trans (aL.mono L.size)).mono H.size);have e8:([M,N]:List Y4).flatten=2::(jU ls.length++(jU q++N)):=by rw[a4.out];simp
  rw[e8] at aC;go_wp2;go_ret;refine⟨v8,rfl,?_,aH⟩;have ek:kids[0].toNat=q:=by rw[a5.out];rfl
  rw[ek];exact yY.base aC (zT H.size L.size)
end
end Go.Proofs.YtohmkffoojdahaaGreat
