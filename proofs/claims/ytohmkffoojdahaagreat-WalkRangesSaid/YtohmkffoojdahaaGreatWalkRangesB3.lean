/- Texts that the proof of WalkRanges leans on, part 3. -/
import Derived.OrdersHeld
import Derived.Deep.OwnRows
import Derived.Deep.DeepCutAuto
import Derived.Deep.CutBlock
import Derived.Test.YtohmkffoojdahaaGreatWalkRangesB2
open Nat renaming reduceAdd->yB,reduceSub->yC
open Array renaming getD_eq_getD_getElem?->zX
set_option linter.unusedVariables false
set_option linter.unusedSimpArgs false
set_option maxRecDepth 100000
set_option maxHeartbeats 8000000

open Array renaming replicate->mI
open Go renaming Calls->nK,Addr->nN,Operand->nO,execOp->nQ,TypeId->nS,Oper->nh,Program->gF,maxLen->gP,undef->gQ,Act->gh,callFunc->gm,CallsIn->mQ,Exit->mh,wpListIn->mx,Code->ff,YieldsIf->eF
open Go.Act renaming put->nJ
open Go.Code renaming region->lV,rangeFunc->fz
open Go.Deferred renaming ofValue->lP
open Go.Exit renaming noGoto->lv,jump->fp
open Go.Fence renaming wide->nv
open Go.Instr renaming sureAddr->lX
open Go.Op renaming equalIn->fE
open Go.Oper renaming wp->mW,about->eO
open Go.Region renaming ready->nw,binds->gI,wanted->gS,noSelect->lN,Mode->fK,free->fe
open Go.Result renaming andThen->nM
open Go.RowKit renaming Below->nH
open Go.Proofs.Tryz renaming prog->Y3
open Go.Proofs.Tryz
open Go.Value renaming int->Y1,pointer->Y9,slice->X1,bool->X3,agg->Q0,tuple->Q2,map->Q1
open Go.IntKind renaming i64->Q4,u64->Q6
open Go.Obj renaming cells->Q9
open Option renaming none->K3,some->K4
namespace Go.Proofs.YtohmkffoojdahaaGreat
section
open Go Go.RowKit xq
def tS (r:Nat)(many:Int)(A:Y5)(n c:Nat)(left:Int)(stops:Bool):Y7:=#[Q1 (some r),Y1 Q4 many,X1 A n c,Y1 Q4 left,X3 stops]
structure yN (w:World)(p:Nat)(many:Nat)(g:Nat->Y4)(xs:List (Nat×Y4))(left:Int)(stops:Bool):Prop where
 has:∃r A c,za w p 114 (tS r many A xs.length c left stops)/\kv w r g/\SK w w.heap.size A c xs
theorem yN.lt {w:World}{p many:Nat}{g:Nat->Y4}{xs:List (Nat×Y4)}{left:Int}{stops:Bool}(h:yN w p many g xs left stops):p<w.heap.size:=by
 obtain⟨r,A,c,e,_⟩:=h.has;exact e.lt
theorem yN.grow {w w':World}{p many:Nat}{g:Nat->Y4}{xs:List (Nat×Y4)}{left:Int}{stops:Bool}(h:yN w p many g xs left stops)(hB:nH w.heap.size w w'):yN w' p many g xs left stops:=by
 obtain⟨r,A,c,e,f,j⟩:=h.has;exact⟨r,A,c,e.below hB e.lt,f.grow hB,j.grow hB⟩
theorem SK.pr {w:World}{B q g o c:Nat}{xs:List (Nat×Y4)}{cs:Y7}{T:nS}(h:SK w B (K4 ⟨g,o,K3⟩) c xs)(f:0<xs.length)(j:za w q T cs)(hs:cs.size<=64):g≠q:=by
 intro e;subst e;have k:=h.elem 0 f;have hl:=vT (h.1 xs[0] (qJ f));have:=k 64 ((kV xs[0])[64]'(by omega)) (zM K5);rw[j.cell] at this;have h2:=(zI.1 this).1;omega
theorem yN.other {w w':World}{p q many:Nat}{g:Nat->Y4}{xs:List (Nat×Y4)}{left:Int}{stops:Bool}(h:yN w p many g xs left stops){cs:Y7}{T:nS}(hq:za w q T cs)(hs:cs.size<=64)(M:p≠q)(k:w.grownBy w' (some q)):yN w' p many g xs left stops:=by
 obtain⟨r,A,c,H,s,C,f⟩:=h.has;have O:r≠q:=λe=>by subst e;obtain⟨es,E,h1,_⟩:=s.pO;have h2:w.heap[r]?=some (Q9 cs T (0,0)):=hq;have G:w.heap[r]?=some (.map es E):=h1;rw[G] at h2;cases h2
 refine⟨r,A,c,H.grown k (λe=>M (by injection e)),s.pR (k.block r s.lt (λe=>O (by injection e))),C,?_⟩;refine⟨f.le,f.max,f.nil,f.len,f.one,λu => ?_⟩;obtain⟨b,o,e,z,N⟩:=f.pO u;subst e;have I:b≠q:=SK.pr (w:=w) (B:=w.heap.size) (c:=c) ⟨C,f⟩ u hq hs;exact⟨b,o,rfl,zO z k.size,λj v L=>(nW (k.block b z (λe=>I (by injection e)))).trans (N j v L)⟩
theorem FP (w:World)(A:Y5)(c:Nat)(xs:List (Nat×Y4))(h:SK w w.heap.size A c xs)(hl:xs.length<=1000000):nK Y3 298 #[X1 A xs.length c] w λe w'=>∃v,e=Y0 v/\w'.ownsRow w.heap.size 366 65 v xs.length (VN xs)/\nH w.heap.size w w':=by
 obtain⟨z,j⟩:=h;rcases A with _|k
 .have hc:=j.nil rfl;subst hc;have u:=j.le;obtain rfl:xs=[]:=qI K5;have hq:=λW=>Qz (P:=Y3) W 112 366 none 0 0 underlying112
  go_enter func298,ntmps298
  go_wp2;go_ret;exact⟨_,rfl,World.ownsRow_nil _ _ _ _,nF _ _⟩
 .have q:(w.alloc (Q9 #[] 366)).ownsRow w.heap.size 366 65 (X1 w.heap.size 0 0) 0 []:=lA w #[] 0 (zG _) (by unfold gP;omega) rfl;have f:nH w.heap.size w (w.alloc (Q9 #[] 366)):=(nF _ w).alloc (zG _) _;have h1:=j.below f;have hq:=λW=>Qz (P:=Y3) W 112 366 (some k) xs.length c underlying112
  go_enter func298,ntmps298
  go_wp2_with (at_builtin;refine xg rfl Fe (.tmp 5) (.tmp 6) rfl w.heap.size (X1 w.heap.size 0 0) 0 [] rfl q _ (some k) xs.length c (VN xs) rfl h1 (by unfold gP;omega) K5 K9 ?_;intro v1 B r s)
  go_ret;rw[zQ,qA] at r;exact⟨_,rfl,r,f.trans (zo s f.size (zj q))⟩
section
variable (w:World)(p many:Nat)(g:Nat->Y4)(xs:List (Nat×Y4))(left:Int)(stops:Bool)
theorem Ju (h:yN w p many g xs left stops):nK Y3 163 #[Y9 p] w λe w'=>e=Y0 (X3 false)/\w=w':=by
 obtain⟨r,A,c,f,j,k⟩:=h.has;have c0:w.cell? p=some (Q1 (some r)):=by rw[f.cell];rfl
 have hq:=λW=>QQ (P:=Y3) W 111 _ _ (some r) underlying111
 go_enter func163,ntmps163
 go_wp2;go_ret;exact⟨rfl,rfl⟩
theorem Dn (h:yN w p many g xs left stops):nK Y3 293 #[Y9 p] w λe w'=>e=Y0 (.bool (stops&&left==0))/\w=w':=by
 have j:=Ju w p many g xs left stops h;obtain⟨r,A,c,f,k,q⟩:=h.has;have c3:w.cell? ⟨p,3,K3⟩=K4 (Y1 Q4 left):=by rw[f.cell];rfl
 have c4:w.cell? ⟨p,4,K3⟩=some (X3 stops):=by rw[f.cell];rfl
 cases stops
 all_goals
  go_enter func293,ntmps293
  go_wp2_with (go_at_call 163;refine j.mono ?_;rintro e w' ⟨rfl,rfl⟩)
  go_ret;exact⟨by simp,rfl⟩
theorem DJ (h:yN w p many g xs left stops)(hl : -1000000<=left)(I:left<=9223372036854775807):nK Y3 233 #[Y9 p] w λe w'=>(∃v,e=Y0 v)/\yN w' p many g xs (if stops then left-1 else left) stops/\w.grownBy w' (some p)/\w'.cell? ⟨p,2,K3⟩=w.cell? ⟨p,2,none⟩:=by
 have z:=h;obtain⟨r,A,c,k,E,f⟩:=h.has;have c3:w.cell? ⟨p,3,K3⟩=K4 (Y1 Q4 left):=by rw[k.cell];rfl
 have c4:w.cell? ⟨p,4,K3⟩=some (X3 stops):=by rw[k.cell];rfl
 have H:=k.free 3;have L:IntKind.i64.wrap (left-1)=left-1:=zg _;cases stops with
 | false =>
  go_enter func233,ntmps233
  go_wp2;go_end0;exact⟨⟨_,rfl⟩,z,fF _ _,rfl⟩
 | true =>
  go_enter func233,ntmps233
  go_wp2;go_end0;have u:=je w ⟨p,3,K3⟩ (Y1 Q4 (left-1));refine⟨⟨_,rfl⟩,⟨r,A,c,k.set 3 _,E.setCell _ _,f.1,?_⟩,u,mZ _ _ _ _ K9⟩;refine⟨f.2.le,f.2.max,f.2.nil,f.2.len,f.2.one,λq => ?_⟩;obtain⟨b,o,e,s,G⟩:=f.2.pO q;subst e;have B:b≠p:=SK.pr f q k (by simp[tS]);exact⟨b,o,rfl,by simpa using s,λj v C=>(nW (u.block b s (λe=>B (by injection e)))).trans (G j v C)⟩
end
structure GZ where
 f:Nat
 bd:Y7
 lb:Y7
 e:Int
 b:Bool
def GZ.fn (x:GZ):Value:=.func (.func x.f) x.bd x.lb
def XC (l:List GZ):Y8:=(l.map λx=>[x.fn,Y1 Q4 x.e]).flatten
theorem RH (x:GZ)(l:List GZ):XC (x::l)=x.fn :: Y1 Q4 x.e::XC l:=rfl
theorem Pu (l:List GZ):(XC l).length=l.length*2:=by
 induction l with
 | nil=>rfl
 | cons x l ih=>rw[RH,zK,zK,ih,zK];omega
theorem wS (l:List GZ)(k:Nat)(f:k<l.length):(XC l)[k*2]?=some l[k].fn/\(XC l)[k*2+1]?=K4 (Y1 Q4 l[k].e):=by
 induction l generalizing k with
 | nil=>simp at f
 | cons x l ih =>
  cases k with
  | zero=>exact⟨rfl,rfl⟩
  | succ k =>
   have:=ih k (by simpa using f);rw[RH];have e:(k+1)*2=k*2+1+1:=K5
   rw[e];simpa using this
theorem Da (l:List GZ):∀v∈XC l,v.oneCell'=true:=by
 intro v e;unfold XC at e;obtain⟨m,f,e⟩:=List.mem_flatten.1 e;obtain⟨x,_,rfl⟩:=qR.1 f;simp at e;rcases e with rfl|rfl<;>rfl
def vm:List GZ->Int
 | []=>0
 | x::l=>if x.b then x.e else vm l
theorem CM (l:List GZ)(k:Nat)(r:k<l.length)(s:∀j (h:j<l.length),j<k->l[j].b=false)(f:l[k].b=true):vm l=l[k].e:=by
 induction l generalizing k with
 | nil=>simp at r
 | cons x l ih =>
  cases k with
  | zero=>simp at f;simp[vm,f]
  | succ k =>
   have q:=s 0 K9 K5;simp at q;have:=ih k (by simpa using r) (λj h u=>by have:=s (j+1) (by simpa using h) K5;simpa using this) (by simpa using f);simp[vm,q,this]
theorem UZ (l:List GZ)(f:∀j (h:j<l.length),l[j].b=false):vm l=0:=by
 induction l with
 | nil=>rfl
 | cons x l ih =>
  have e:=f 0 K9;simp at e;have:=ih (λj h=>by have:=f (j+1) (by simpa using h);simpa using this);simp[vm,e,this]
theorem sQ:ZQ 363 322 2 16 (Q0 #[.nilFunc,Y1 Q4 0]):=⟨underlying363,by kernel_rfl,by kernel_rfl,by decide⟩
theorem VV:yw Y3 322 2:=⟨⟨_,underlying322,rfl⟩,by kernel_rfl⟩
theorem GQ (f:Nat)(bd lb:Y7)(e:Int):∀v∈(#[.func (.func f) bd lb,Y1 Q4 e]:Y7).toList,v.oneCell'=true:=by
 intro v h;simp at h;rcases h with rfl|rfl<;>rfl
def IJ (w:World)(l:List GZ):Prop:=∀x∈l,(∀args w,(gm x.f args).run Y3 w=.ok (.enter x.f args) w)/\∀W,nH w.heap.size w W->nK Y3 x.f (x.bd++x.lb) W λe w'=>e=Y0 (X3 x.b)/\nH W.heap.size W w'
def tH (e:Int)(a:gh):Prop:=∃u0 u1 u2 u3 u5 u6 u7 u8 u9 u10 u11 u12 u13 u14 u15 u16 u17 u18 u19 u20 u21 u22 u23 u24,a={tmps:=#[u0,u1,u2,u3,Y1 Q4 e,u5,u6,u7,u8,u9,u10,u11,u12,u13,u14,u15,u16,u17,u18,u19,u20,u21,u22,u23,u24],defers:=[]}
theorem Zu (w:World)(p many:Nat)(g:Nat->Y4)(xs:List (Nat×Y4))(left:Int)(stops:Bool)(hD:yN w p many g xs left stops)(l:List GZ)(A:Y5)(c:Nat)
  (aG:yl w w.heap.size 2 A l.length c (XC l)) (hl:l.length<=100) (aJ:IJ w l) :
  nK Y3 230 #[Y9 p,X1 A l.length c] w λe w'=>e=Y0 (Y1 Q4 (vm l))/\nH w.heap.size w w':=by
 obtain⟨a0,O⟩:∃a0:GZ,a0=⟨163,#[Y9 p],#[],1,false⟩:=⟨_,rfl⟩;have aA:nH w.heap.size w (w.alloc (Q9 #[.func (.func 163) #[Y9 p] #[],Y1 Q4 1] 322)):=(nF _ w).alloc (zG _) _;have aC:(w.alloc (Q9 #[.func (.func 163) #[Y9 p] #[],Y1 Q4 1] 322)).ownsRow w.heap.size 322 2 (X1 w.heap.size 1 1) 1 (XC [a0]):=by rw[O];exact lA w #[.func (.func 163) #[Y9 p] #[],Y1 Q4 1] 1 (zG _) (by unfold gP;omega) rfl
 have aH:=aG.below aA;have aD:vm (a0::l)=vm l:=by rw[O];rfl
 have aN:IJ w (a0::l):=by
  intro x r;rcases qN.1 r with rfl|r
  .rw[O];exact⟨mc func163 K6 rfl,λW hB=>(Ju W p many g xs left stops (hD.grow hB)).mono λe w' ⟨h1,h2⟩=>⟨h1,h2▸nF _ _⟩⟩
  .exact aJ x r
 rw[<-aD];obtain⟨v,q⟩:=Z9 (vm (a0::l));rw[<-q];have hV:=nI q;clear aD aJ hD q
 go_enter func230,ntmps230
 go_wp2_with fail
 refine wp_scope_jumps (rest:=?rest) 0 (λa w'=>tH v a/\nH w.heap.size w w') (λ_ _=>0) ?hf ?first ?pass
 case hf=>exact rfl
 case pass =>
  rintro a w' ⟨⟨u0,u1,u2,u3,u5,u6,u7,u8,u9,u10,u11,u12,u13,u14,u15,u16,u17,u18,u19,u20,u21,u22,u23,u24,rfl⟩,hB⟩;go_wp2;simp only[fp];go_wp2;go_ret;exact⟨rfl,hB⟩
 case first =>
  go_wp2_with (at_builtin;refine xg rfl sQ (.tmp 10) (.tmp 11) rfl w.heap.size (X1 w.heap.size 1 1) 1 (XC [a0]) rfl aC _ A l.length c (XC l) rfl aH (by unfold gP;omega) K5 K9 ?_;intro v1 Z aL B;have s:=aA.trans (zo B aA.size (zj aC));obtain⟨A1,c1,rfl,aI⟩:=qq aL (λv q=>by rcases zZ.1 q with h|h;exact Da _ v h;exact Da _ v h))
  have N:∀k,k<1+l.length->k<(a0::l).length:=λk h=>by simp;omega
  have aM:∀k,k<(a0::l).length->k<1+l.length:=λk h=>by simp at h;omega
  have aE:XC [a0]++XC l=XC (a0::l):=rfl;rw[aE] at aI;clear aC aL B aH aG aE O;generalize a0::l=f at *
  go_loopw [14] (λi wr=>∃k:Nat,k<=1+l.length/\i=Y1 Q4 k/\Hid (∀j (h:j<f.length),j<k->f[j].b=false)/\nH Z.heap.size Z wr) (λi _=>1+l.length-(intOf i).toNat)
  case atStart=>exact⟨0,by omega,rfl,nI (λj h hj=>by omega),nF _ _⟩
  case round =>
   obtain⟨k,hk,rfl,U,u⟩:=hrel
   by_cases T:k<1+l.length
   .obtain⟨M,X,rfl,B,hr⟩:=aI.pO K5;have aO:=N k T;obtain⟨q1,q2⟩:=wS f k (N k T);have c1:wr.cell? ⟨M,X+k*2,K3⟩=some f[k].fn:=(u.cell (p:=⟨M,X+k*2,K3⟩) B).trans (hr _ _ q1);have c2:wr.cell? ⟨M,X+k*2+1,K3⟩=K4 (Y1 Q4 f[k].e):=(u.cell (p:=⟨M,X+k*2+1,K3⟩) B).trans (hr _ _ q2);obtain⟨aF,z⟩:=aN f[k] (qJ (N k T));have C:f[k].b=true->v=f[k].e:=λh=>by rw[hV.out];exact CM _ k (N k T) U.out h
    have aK:f[k].b=false->∀j (h:j<f.length),j<k+1->f[j].b=false:=λhb j h hj=>by
     by_cases e:j=k
     .subst e;exact hb
     .exact U.out j h K5
    have aP:IntKind.i64.wrap ((k:Int)+1)=(k:Int)+1:=zg _;obtain⟨x,r⟩:=Z9 (f[k]);rw[<-r] at c1 c2 aF z C;have V:x.b=false->Hid (∀j (h:j<f.length),j<k+1->f[j].b=false):=λh=>nI (aK (by rw[<-r];exact h))
    unfold GZ.fn at c1;clear hr q1 q2 aK r U;obtain⟨I,G,L,H,xr⟩:=x;simp only at c1 c2 aF z C V;have nb:=(za.new wr 322 #[.nilFunc,Y1 Q4 0]).setRow #[.func (.func I) G L,Y1 Q4 H];have E:nH Z.heap.size Z ((wr.alloc (Q9 #[.nilFunc,Y1 Q4 0] 322)).setRow wr.heap.size #[.func (.func I) G L,Y1 Q4 H]):=zf (u.alloc u.size _) u.size _;have d0:((wr.alloc (Q9 #[.nilFunc,Y1 Q4 0] 322)).setRow wr.heap.size #[.func (.func I) G L,Y1 Q4 H]).cell? wr.heap.size=some (.func (.func I) G L):=by rw[nb.cell];rfl
    have d1:((wr.alloc (Q9 #[.nilFunc,Y1 Q4 0] 322)).setRow wr.heap.size #[.func (.func I) G L,Y1 Q4 H]).cell? ⟨wr.heap.size,1,K3⟩=K4 (Y1 Q4 H):=by rw[nb.cell];rfl
    have hC:=z _ (s.trans (E.mono s.size));cases xr with
    | true =>
     have q:=C rfl;subst q;clear C V z
     go_wp2_with (refine zt rfl 322 (.tmp 6) (.tmp 17) rfl wr.heap.size rfl rfl VV (za.new wr 322 #[.nilFunc,Y1 Q4 0]) J0 J0 (GQ _ _ _ _) ?_)
     refine hC.mono ?_;rintro e w2 ⟨rfl,aB⟩;go_wp2
     go_step3
     exact⟨rfl,by repeat (first|exact rfl|apply Exists.intro),s.trans ((E.trans (aB.mono E.size)).mono s.size)⟩
    | false =>
     have hN:=V rfl;clear C V z
     go_wp2_with (refine zt rfl 322 (.tmp 6) (.tmp 17) rfl wr.heap.size rfl rfl VV (za.new wr 322 #[.nilFunc,Y1 Q4 0]) J0 J0 (GQ _ _ _ _) ?_)
     refine hC.mono ?_;rintro e w2 ⟨rfl,aB⟩;go_wp2;exact⟨⟨k+1,by omega,by simp,hN,E.trans (aB.mono E.size)⟩,by simp[intOf];omega⟩
   .obtain rfl:k=1+l.length:=K5
    have h0:v=0:=by rw[hV.out];exact UZ _ (λj h=>U.out j h (aM j h))
    subst h0;go_wp2;simp only[fp];go_ret;exact⟨rfl,s.trans (u.mono s.size)⟩
theorem Nh (w:World)(n:Nat)(h1:1<=n)(h2:n<=40000):nK Y3 35 #[Y1 Q4 (n:Int)] w λe w'=>∃p,e=Y0 (Q2 #[Y9 (K4 ⟨p,0,K3⟩),Y1 Q4 0])/\w.heap.size<=p/\yN w' p n (λ_=>qy) [] 0 false/\nH w.heap.size w w':=by
 have q:¬ (n:Int)<1:=K5
 have r:¬ (40000:Int)<(n:Int):=K5
 have h:qa (w.alloc (.map #[] 0)) w.heap.size #[] 0:=heap_alloc_new w _;have hB:nH w.heap.size w (w.alloc (.map #[] 0)):=(nF _ w).alloc (zG _) _;have j:=hB.alloc hB.size (Q9 (tS w.heap.size n none 0 0 0 false) 114);have f:=za.new (w.alloc (.map #[] 0)) 114 (tS w.heap.size n none 0 0 0 false);unfold tS at *
 go_enter func35,ntmps35
 go_wp2_with (refine Qv rfl rfl ?_;intro _)
 refine nT (nj rfl _ _ _) rfl ⟨w.heap.size+1,?_,by omega,?_,j⟩
 .simp
 .rw[nG] at f;refine⟨w.heap.size,none,0,f,⟨λ_=>by decide,#[],0,(mT _ _ _ h.lt).trans h,?_⟩,SK.mt _ _⟩;have:Uq (λ_=>qy)=λ_=>none:=by funext k;simp[Uq]
  rw[this];exact⟨YR.empty,MapKept.stamped_empty 0⟩
section
variable (w:World)(p many:Nat)(g:Nat->Y4)(xs:List (Nat×Y4))(left:Int)(stops:Bool)
theorem UG (at_:Int):nK Y3 261 #[Y9 p,Y1 Q4 at_] w λe w' =>
   e=Y0 (Q0 #[.func (.func 308) #[] #[Y9 (w.heap.size+1:Nat),Y9 w.heap.size],Y1 Q4 4])/\za w' w.heap.size 75 #[Y9 p]/\za w' (w.heap.size+1) 3 #[Y1 Q4 at_]/\nH w.heap.size w w':=by
 have hB:nH w.heap.size w (((w.alloc (Q9 #[Y9 p] 75)).alloc (Q9 #[Y1 Q4 at_] 3)).alloc (Q9 #[.nilFunc,Y1 Q4 0] 322)):=(((nF _ w).alloc (zG _) _).alloc K9 _).alloc (by simp;omega) _;have f:=((za.new w 75 #[Y9 p]).alloc (Q9 #[Y1 Q4 at_] 3)).alloc (Q9 #[.nilFunc,Y1 Q4 0] 322);have b1:=(za.new (w.alloc (Q9 #[Y9 p] 75)) 3 #[Y1 Q4 at_]).alloc (Q9 #[.nilFunc,Y1 Q4 0] 322);have b2:=za.new ((w.alloc (Q9 #[Y9 p] 75)).alloc (Q9 #[Y1 Q4 at_] 3)) 322 #[.nilFunc,Y1 Q4 0];rw[nG] at b1;rw[nG,nG] at b2
 go_enter func261,ntmps261
 go_wp2_with (refine zt rfl 322 (.tmp 4) (.tmp 6) rfl (w.heap.size+1+1) rfl rfl VV b2 J0 J0 (GQ _ _ _ _) ?_)
 refine nu (yL 4 rfl rfl VV (b2.setRow _) J0) rfl ⟨rfl,f.pN K5 _,b1.pN K5 _,zf hB K5 _⟩
theorem KF:nK Y3 231 #[Y9 p] w λe w' =>
   e=Y0 (Q0 #[.func (.func 293) #[Y9 p] #[],Y1 Q4 140])/\nH w.heap.size w w':=by
 have hB:nH w.heap.size w (w.alloc (Q9 #[.nilFunc,Y1 Q4 0] 322)):=(nF _ w).alloc (zG _) _;have b2:=za.new w 322 #[.nilFunc,Y1 Q4 0]
 go_enter func231,ntmps231
 go_wp2_with (refine zt rfl 322 (.tmp 2) (.tmp 5) rfl w.heap.size rfl rfl VV b2 J0 J0 (GQ _ _ _ _) ?_)
 refine nu (yL 2 rfl rfl VV (b2.setRow _) J0) rfl ⟨rfl,zf hB (zG _) _⟩
theorem RN (b:Nat)(A:Y5)(n c:Nat)(h:za w b 129 #[X1 A n c]):nK Y3 297 #[Y9 b] w λe w'=>e=Y0 (.bool ((n:Int) != 64))/\nH w.heap.size w w':=by
 have hc:=h.boxed
 go_enter func297,ntmps297
 go_wp2;go_ret;exact⟨rfl,nF _ _⟩
theorem Rh (at_:Int)(f j:Nat)(h:yN w p many g xs left stops)(k:za w f 75 #[Y9 p])(h1:za w j 3 #[Y1 Q4 at_]):nK Y3 308 #[Y9 j,Y9 f] w λe w'=>e=Y0 (X3 (decide (at_<0)||decide ((many:Int)<=at_)))/\nH w.heap.size w w':=by
 obtain⟨r,A,c,q,u,z⟩:=h.has;have c1:w.cell? ⟨p,1,K3⟩=K4 (Y1 Q4 (many:Int)):=by rw[q.cell];rfl
 have d0:=k.boxed;have s:=h1.boxed;rcases ha:decide (at_<0) with _|_
 .rw[Bool.false_or]
  go_enter func308,ntmps308
  go_wp2_with fail
  go_region
  go_wp2;go_ret;exact⟨by simp,(nF _ w).drew⟩
 .rw[Bool.true_or]
  go_enter func308,ntmps308
  go_wp2_with fail
  go_region
  go_wp2;go_ret;exact⟨by simp,(nF _ w).drew⟩
def SA (b n:Nat):GZ:=⟨297,#[],#[Y9 b],2,(n:Int) != 64⟩
def YL (s0 s1 many:Nat)(at_:Int):GZ:=⟨308,#[],#[Y9 s1,Y9 s0],4,decide (at_<0)||decide ((many:Int)<=at_)⟩
def Ql (p:Nat)(left:Int)(stops:Bool):GZ:=⟨293,#[Y9 p],#[],140,stops&&left==0⟩
def QW (w:World)(x:GZ):Prop:=(∀args w,(gm x.f args).run Y3 w=.ok (.enter x.f args) w)/\∀W,nH w.heap.size w W->nK Y3 x.f (x.bd++x.lb) W λe w'=>e=Y0 (X3 x.b)/\nH W.heap.size W w'
theorem uw (b:Nat)(A:Y5)(n c:Nat)(h:za w b 129 #[X1 A n c]):QW w (SA b n) :=
 ⟨mc func297 K6 rfl,λW hB=>RN W b A n c (h.below hB h.lt)⟩
theorem RI (at_:Int)(e f:Nat)(h:yN w p many g xs left stops)(j:za w e 75 #[Y9 p])(h1:za w f 3 #[Y1 Q4 at_]):QW w (YL e f many at_) :=
 ⟨mc func308 K6 rfl,λW hB=>Rh W p many g xs left stops at_ e f (h.grow hB) (j.below hB j.lt) (h1.below hB h1.lt)⟩
theorem Dc (h:yN w p many g xs left stops):QW w (Ql p left stops) :=
 ⟨mc func293 K6 rfl,λW hB=>(Dn W p many g xs left stops (h.grow hB)).mono λe w' ⟨h1,h2⟩=>⟨h1,h2▸nF _ _⟩⟩
end
theorem QW.grow {w w':World}{x:GZ}(h:QW w x)(hB:nH w.heap.size w w'):QW w' x:=⟨h.1,λW e=>h.2 W (hB.trans (e.mono hB.size))⟩
theorem DZ (w:World)(l:List GZ)(h:l.length<=100):yl (w.alloc (Q9 (XC l).toArray 322)) (w.alloc (Q9 (XC l).toArray 322)).heap.size 2 (K4 ⟨w.heap.size,0,K3⟩) l.length l.length (XC l) :=
 ⟨zG _,by omega,(λe=>by cases e),Pu l,Da l,λ_=>⟨w.heap.size,0,rfl,by simp,λj v f=>by
  rw[(za.new w 322 (XC l).toArray).cell,qA]
  simpa using f⟩⟩
def laid (g:Nat->Y4)(xs:List (Nat×Y4)):Nat->Y4:=xs.foldl (λg x=>KD g x.1 x.2) g
theorem JH (g:Nat->Y4)(xs:List (Nat×Y4))(k:Nat)(h:k<xs.length):laid g (xs.take (k+1))=KD (laid g (xs.take k)) xs[k].1 xs[k].2:=by
 unfold laid;rw[List.take_add_one,zM h,List.foldl_append];rfl
section
variable {w:World}{o:nh}{ρ:nO->Value}
theorem MX (f:o.op=.alloc 366):(nQ ρ o).run Y3 w=.ok (.value (Y9 w.heap.size)) (w.alloc (Q9 (kV (0,qy)).toArray 366)):=by
 have e:(Y3.info? 366).map (λi=>i.zero)=some (some Cr):=K6
 obtain⟨i,hi,e⟩:=Option.map_eq_some_iff.1 e;have hq:zeroCells366=(kV (0,qy)).toArray:=K6
 simp[nQ,f,Instr.alloc,newVar,newRow,go_sem,hq,nM]
end
theorem Ng (w:World)(r:Nat)(g:Nat->Y4)(A:Y5)(c:Nat)(xs:List (Nat×Y4))(h:kv w r g)(I:SK w w.heap.size A c xs)(hl:xs.length<=1000000):nK Y3 232 #[Q1 (some r),X1 A xs.length c] w λe w'=>e=Y0 (Q1 (some w.heap.size))/\kv w' w.heap.size (laid g xs)/\nH w.heap.size w w':=by
 have T:=FM w r g h;have U:laid g (xs.take xs.length)=laid g xs:=by rw[List.take_length]
 have aA:=JH g xs;obtain⟨F,hF⟩:=Z9 (λk=>laid g (xs.take k))
 have N:F 0=g:=by rw[hF];rfl
 have O:F xs.length=laid g xs:=by rw[hF];exact U
 have aH:Hid (∀k (h:k<xs.length),F (k+1)=KD (F k) xs[k].1 xs[k].2):=nI (by rw[hF];exact aA);rw[<-O];clear U aA hF O
 go_enter func232,ntmps232
 go_wp2_with (go_at_call 294;refine T.mono ?_;rintro e w1 ⟨rfl,X,aG⟩)
 rw[<-N] at X;clear T N h
 go_loopw [12] (λi wr=>∃k:Nat,k<=xs.length/\i=Y1 Q4 k/\kv wr w.heap.size (F k)/\nH w.heap.size w wr) (λi _=>xs.length-(intOf i).toNat)
 case atStart=>exact⟨0,by omega,rfl,X,aG⟩
 case round =>
  obtain⟨k,hk,rfl,H,u⟩:=hrel
  by_cases G:k<xs.length
  .obtain⟨M,o1,rfl,aJ,_⟩:=I.2.pO K5;have z:wr.rangeAt M (o1+k*65) (kV xs[k]):=λj v E=>(u.cell (p:=⟨M,o1+k*65+j,K3⟩) aJ).trans (I.elem k G j v E)
   have q:xs[k].2.length=64:=I.1 _ (qJ G);have hs:=aH.out k G;have aL:IntKind.i64.wrap ((k:Int)+1)=(k:Int)+1:=zg _;obtain⟨x,aB⟩:=Z9 (xs[k]);rw[<-aB] at z q hs;obtain⟨s,f⟩:=x;have C:=vT q;simp only at q hs;have hS:=nI hs;have aD:=nI C;have HR:=nI z;have n0:=za.new wr 366 (kV (0,qy)).toArray;have aC:(kV (s,f)).toArray.size=(kV (0,qy)).toArray.size:=by rw[zR,zR,C];rfl
   have nb:=n0.setRow (kV (s,f)).toArray;have L:nH w.heap.size w ((wr.alloc (Q9 (kV (0,qy)).toArray 366)).setRow wr.heap.size (kV (s,f)).toArray):=zf (u.alloc u.size _) u.size _;obtain⟨W,B⟩:=Z9 ((wr.alloc (Q9 (kV (0,qy)).toArray 366)).setRow wr.heap.size (kV (s,f)).toArray);rw[<-B] at nb L;have aI:kv W w.heap.size (F k):=by rw[B];have h1:=H.grow ((nF _ wr).alloc (zG _) (Q9 (kV (0,qy)).toArray 366));exact h1.below (zf (nF wr.heap.size _) (zG _) _) H.lt
   have d0:W.cell? wr.heap.size=K4 (Y1 Q4 (s:Int)):=by rw[nb.cell];rfl
   have dr:W.rangeAt wr.heap.size 1 (f.map b8):=λj v E=>by rw[nb.cell];simpa[kV,Nat.add_comm] using E
   have hP:=NH W w.heap.size s (F k) f q aI;have V:(f.map b8).length=64:=by rw[qH];exact q
   have aE:=nI V;have aF:=nI aC;have HW:=nI B;clear hs q C z aB aC V B
   go_wp2_with (first
    |(refine zp rfl (yQ Kc HR.out aD.out rfl rfl) ?_)
    |(refine zp rfl (MX rfl) ?_)
    |(refine vC Kc n0 aF.out (Kl _) ?_;rw[<-HW.out])
    |(refine zp rfl (yQ jH dr aE.out rfl rfl) ?_)
    |(go_at_call 295;refine hP.mono ?_;rintro e w2 ⟨⟨v2,rfl⟩,Z,aK⟩))
   rw[<-hS.out] at Z;exact⟨⟨k+1,by omega,by simp,Z,zo aK L.size (λr z=>by cases z;exact zG _) |> L.trans⟩,by simp[intOf];omega⟩
  .obtain rfl:k=xs.length:=K5
   go_wp2;go_ret;exact⟨rfl,H,u⟩
theorem ja {w w':World}(h:nH w.heap.size w w')(p:Nat):w.grownBy w' (some p):=⟨h.os,h.tape,h.output,h.size,λj e _=>h.block j e⟩
def pL (stops:Bool)(left:Int):Int:=if stops then left-1 else left
theorem qv.pr {w:World}{B q b o c:Nat}{l:Y4}(h:qv w B (K4 ⟨b,o,K3⟩) c l)(f:0<l.length){r many n c':Nat}{A:Y5}{left:Int}{stops:Bool}{T:nS}(j:za w q T (tS r many A n c' left stops)):b≠q:=by
 intro e;subst e;obtain⟨s,o',e,_,hc⟩:=h.pO f;injection e with e
 injection e with e1 e2
 subst e1 e2;have h1:=hc 0 f;rw[j.cell] at h1;have k:=Array.mem_of_getElem? h1;simp[tS] at k
section
variable (w:World)(p many:Nat)(g:Nat->Y4)(xs:List (Nat×Y4))(left:Int)(stops:Bool)
theorem Fx (j:yN w p many g xs left stops)(a b c:GZ)(ha:QW w a)(k:QW w b)(hc:QW w c):nK Y3 230 #[Y9 p,X1 w.heap.size 3 3] (w.alloc (Q9 #[a.fn,Y1 Q4 a.e,b.fn,Y1 Q4 b.e,c.fn,Y1 Q4 c.e] 322)) λe w'=>e=Y0 (Y1 Q4 (vm [a,b,c]))/\nH w.heap.size w w':=by
 have hB:nH w.heap.size w (w.alloc (Q9 (XC [a,b,c]).toArray 322)):=(nF _ w).alloc (zG _) _
 have h:=Zu _ p many g xs left stops (j.grow hB) [a,b,c] _ _ (DZ w [a,b,c] K9) K9 (λx f=>by
  simp at f;rcases f with rfl|rfl|rfl
  .exact ha.grow hB
  .exact k.grow hB
  .exact hc.grow hB)
 exact h.mono λe w' ⟨h1,h2⟩=>⟨h1,hB.trans (h2.mono hB.size)⟩
theorem Fy (j:yN w p many g xs left stops)(a b:GZ)(ha:QW w a)(k:QW w b):nK Y3 230 #[Y9 p,X1 w.heap.size 2 2] (w.alloc (Q9 #[a.fn,Y1 Q4 a.e,b.fn,Y1 Q4 b.e] 322)) λe w'=>e=Y0 (Y1 Q4 (vm [a,b]))/\nH w.heap.size w w':=by
 have hB:nH w.heap.size w (w.alloc (Q9 (XC [a,b]).toArray 322)):=(nF _ w).alloc (zG _) _
 have h:=Zu _ p many g xs left stops (j.grow hB) [a,b] _ _ (DZ w [a,b] K9) K9 (λx f=>by
  simp at f;rcases f with rfl|rfl
  .exact ha.grow hB
  .exact k.grow hB)
 exact h.mono λe w' ⟨h1,h2⟩=>⟨h1,hB.trans (h2.mono hB.size)⟩
theorem Fz (j:yN w p many g xs left stops)(a:GZ)(ha:QW w a):nK Y3 230 #[Y9 p,X1 w.heap.size 1 1] (w.alloc (Q9 #[a.fn,Y1 Q4 a.e] 322)) λe w'=>e=Y0 (Y1 Q4 (vm [a]))/\nH w.heap.size w w':=by
 have hB:nH w.heap.size w (w.alloc (Q9 (XC [a]).toArray 322)):=(nF _ w).alloc (zG _) _
 have h:=Zu _ p many g xs left stops (j.grow hB) [a] _ _ (DZ w [a] K9) K9 (λx f=>by
  simp at f;rcases f with rfl
  exact ha.grow hB)
 exact h.mono λe w' ⟨h1,h2⟩=>⟨h1,hB.trans (h2.mono hB.size)⟩
theorem Gi (B:yN w p many g xs left stops)(hs:(stops&&left==0)=false)(hl:xs.length<=1000000)(h1 : -1000000<=left)(h2:left<=9223372036854775807):nK Y3 169 #[Y9 (K4 ⟨p,0,K3⟩)] w λe w'=>e=Y0 (Y1 Q4 0)/\yN w' p many (laid g xs) [] (pL stops left) stops/\w.grownBy w' (some p):=by
 have E:=KF w p;have C:∀W,nH w.heap.size w W->nK Y3 230 #[Y9 (K4 ⟨p,0,K3⟩),X1 W.heap.size 1 1] (W.alloc (Q9 #[.func (.func 293) #[Y9 (K4 ⟨p,0,K3⟩)] #[],Y1 Q4 140] 322)) λe w'=>e=Y0 (Y1 Q4 0)/\nH W.heap.size W w':=by
  intro W hB;have:=Fz W p many g xs left stops (B.grow hB) (Ql p left stops) (Dc W p many g xs left stops (B.grow hB))
  have hf:vm [Ql p left stops]=0:=UZ _ (λj h=>by
   have:j=0:=by simp at h;omega
   subst this
   exact hs)
  rw[hf] at this;exact this
 clear hs
 go_enter func169,ntmps169
 go_wp2_with (first
  |(go_at_call 231;refine E.mono ?_;rintro e w1 ⟨rfl,s⟩)
  |(go_at_call 230;refine(C _ s).mono ?_;rintro e w2 ⟨rfl,G⟩))
 have z:nH w.heap.size w w2:=s.trans (G.mono s.size);have L:=B.grow z;obtain⟨r,A,c,u,U,X⟩:=L.has;have c0:w2.drew.cell? ⟨p,0,K3⟩=some (Q1 (some r)):=by rw[show w2.drew.cell? ⟨p,0,K3⟩=w2.cell? ⟨p,0,K3⟩ from rfl,u.cell];rfl
 have c2:w2.drew.cell? ⟨p,2,K3⟩=some (X1 A xs.length c):=by rw[show w2.drew.cell? ⟨p,2,K3⟩=w2.cell? ⟨p,2,K3⟩ from rfl,u.cell];rfl
 have k:nH w2.heap.size w2 w2.drew:=(nF _ w2).drew;have I:=Ng w2.drew r g A c xs (U.grow k) (X.grow k) hl;clear C E s G
 go_region_with (go_at_call 232;refine I.mono ?_;rintro e f ⟨rfl,V,H⟩;have q:za f p _ _:=u.below (k.trans (H.mono k.size)) u.lt;have Z:=q.free 0;have f2:=q.free 2;have k0:f.cell? ⟨p,0,K3⟩=some (Q1 (some r)):=(by rw[q.cell];rfl);have k2:f.cell? ⟨p,2,K3⟩=some (X1 A xs.length c):=(by rw[q.cell];rfl))
 all_goals
  have M:yN ((f.setCell ⟨p,0,K3⟩ (Q1 (some w2.heap.size))).setCell ⟨p,2,K3⟩ (X1 none 0 0)) p many (laid g xs) [] left stops:=⟨w2.heap.size,none,0,(q.set 0 _).set 2 _,(V.setCell _ _).setCell _ _,SK.mt _ _⟩;have O:w.grownBy ((f.setCell ⟨p,0,K3⟩ (Q1 (some w2.heap.size))).setCell ⟨p,2,K3⟩ (X1 none 0 0)) (some p):=qe (ja (z.trans ((k.trans (H.mono k.size)).mono z.size)) p) (qe (je f ⟨p,0,K3⟩ _) (je _ ⟨p,2,K3⟩ _));generalize (f.setCell ⟨p,0,K3⟩ (Q1 (some w2.heap.size))).setCell ⟨p,2,K3⟩ (X1 none 0 0)=w5 at *
  go_wp2_with (go_at_call 233;refine(DJ _ p many _ [] left stops M h1 h2).mono ?_;rintro e w6 ⟨⟨v,rfl⟩,N,T,-⟩)
  go_ret;exact⟨rfl,N,qe O T⟩
end
namespace zb
section
variable {P:gF}{ops:Array nh}{Q:mh->gh->World->Prop}{md:fK}{S:World->Prop}{fin:Nat}
def wpAnyF (P:gF)(md:fK)(ops:Array nh)(Q:mh->gh->World->Prop)(S:World->Prop)(fin:Nat):Nat->Array Bool->gh->World->Prop
 | 0,listed,a,w=>nw md ops listed=[]/\Q .normal a w
 | fuel+1,listed,a,w =>
  (nw md ops listed=[]->Q .normal a w) /\
  ∀i∈nw md ops listed,wpOp P ops Q i (λa' w'=>(i≠fin->S w')/\wpAnyF P md ops Q S fin fuel (listed.setIfInBounds i true) a' w') a w
theorem to_any:∀(e:Nat) (listed:Array Bool) (a:gh) (w:World),wpAnyF P md ops Q S fin e listed a w->wpAny P md ops Q e listed a w
 | 0,_,_,_,h=>h
 | e+1,_,_,_,h=>⟨h.1,λi hi=>wpOp_mono (λf w' j=>to_any e _ f w' j.2) (h.2 i hi)⟩
def waitsFor (md:fK)(ops:Array nh)(i j:Nat):Bool:=match ops[i]? with|some o=>o.after.toList.any λe=>gI md e&&e.on==j|none=>false
theorem waits_spec {i j:Nat}{o:nh}(h:waitsFor md ops i j=true)(r:ops[i]?=some o):∃e∈o.after,gI md e=true/\e.on=j:=by
 simp only[waitsFor,r,List.any_eq_true,Bool.and_eq_true,beq_iff_eq] at h;obtain⟨e,q,f,k⟩:=h;exact⟨e,Array.mem_toList_iff.1 q,f,k⟩
theorem first {i:Nat}{r:nh}{v:Value}(hi:ops[i]?=some r)(W:∀(j:Nat) (o:nh) cs b,ops[j]?=some o->o.op≠.select cs b)
  (hQ:∀c a w,Q (.panic c) (a.put r.dst v) w->Q (.panic c) a w) (aC:waitsFor md ops fin i=true) :
  ∀(u:Nat) (listed:Array Bool) (a:gh) (w:World),
   (∀j s,ops[j]?=some s->j≠i->listed.getD j true=false->(∀e∈s.after,gI md e=true->e.on≠i)->r.apart ops s=true) ->
   i∈nw md ops listed->eF P ops S r v a->S w ->
   wpAnyF P md ops Q S fin u (listed.setIfInBounds i true) (a.put r.dst v) w->wpAnyF P md ops Q S fin (u+1) listed a w:=by
 intro u
 induction u with
 | zero =>
  intro listed a w _ q G z H;refine⟨λh=>(by rw[h] at q;cases q),λj C => ?_⟩
  by_cases f:j=i
  .subst f;exact G.wpOp hi z ⟨λ_=>z,H⟩
  .have:=fG C f;rw[H.1] at this;cases this
 | succ u ih =>
  intro listed a w O q G z H;refine⟨λh=>(by rw[h] at q;cases q),λj C => ?_⟩
  by_cases f:j=i
  .subst f;exact G.wpOp hi z ⟨λ_=>z,H⟩
  .have h1:=H.2 j (fG C f);obtain⟨U,s,E,aA⟩:=mem_ready.1 C;have V:∀e∈s.after,gI md e=true->e.on≠i:=λe M L aB=>by
    have h1:=aA e M L;have N:=(mem_ready.1 q).1;rw[aB] at h1;rcases Nat.lt_or_ge i listed.size with I | I
    .simp[I] at N h1;rw[N] at h1;cases h1
    .simp[gg I] at h1
   have aE:j≠fin:=λe=>by subst e;obtain⟨e,M,L,aH⟩:=waits_spec aC E;exact V e M L aH
   have h2:=wpOp_putIf E (O j s E f U V) (λcs b=>W i r cs b hi) (λcs b=>W j s cs b E) hQ G h1;have aD:∀k ok,ops[k]?=some ok->k≠i->(listed.setIfInBounds j true).getD k true=false ->
     (∀e∈ok.after,gI md e=true->e.on≠i)->r.apart ops ok=true:=λk ok hk aF X aG=>by
    refine O k ok hk aF ?_ aG
    by_cases T:j=k
    .subst T;exact U
    .rw[getD_set_ne true T] at X;exact X
   refine wpOp_mono (λZ w' B=>⟨B.2.1,ih (listed.setIfInBounds j true) Z w' aD (fG q (Ne.symm f)) B.1 (B.2.1 aE) ?_⟩) h2;rw[Array.setIfInBounds_comm _ _ f];exact B.2.2
theorem take {f:Nat}{listed:Array Bool}{a:gh}{w:World}(i:Nat){e:nh}(v:Value)(hi:ops[i]?=some e)
  (hs:lN ops=true) (hf:fe md ops listed i=true) (r:(nw md ops listed).contains i=true) (q:waitsFor md ops fin i=true)
  (j:∀c a w,Q (.panic c) (a.put e.dst v) w->Q (.panic c) a w) (k:S w) (s:eF P ops S e v a)
  (h:wpAnyF P md ops Q S fin f (listed.setIfInBounds i true) (a.put e.dst v) w):wpAnyF P md ops Q S fin (f+1) listed a w :=
 first hi (Region.noSelect_spec hs) j q f listed a w (Region.free_spec hi hf) (by simpa using r) s k h
theorem yld {o:nh}{v:Value}{a:gh}(e:o.guard=none)(h:∀w,S w->(nQ a.eval o).run P w=.ok (.value v) w):eF P ops S o v a:=.inl ⟨by simp[gS,e],h⟩
theorem one {e:Nat}{listed:Array Bool}{a:gh}{w:World}(i:Nat)(q:nw md ops listed=[i])
  (h:wpOp P ops Q i (λr w'=>(i≠fin->S w')/\wpAnyF P md ops Q S fin e (listed.setIfInBounds i true) r w') a w):wpAnyF P md ops Q S fin (e+1) listed a w :=
 ⟨λf=>(by rw[q] at f;cases f),λj k=>by
  rw[q] at k;obtain rfl:j=i:=by simpa using k
  exact h⟩
theorem two {h:Nat}{listed:Array Bool}{a:gh}{w:World}(i j:Nat)(r:nw md ops listed=[i,j])
  (h1:wpOp P ops Q i (λf w'=>(i≠fin->S w')/\wpAnyF P md ops Q S fin h (listed.setIfInBounds i true) f w') a w)
  (h2:wpOp P ops Q j (λf w'=>(j≠fin->S w')/\wpAnyF P md ops Q S fin h (listed.setIfInBounds j true) f w') a w):wpAnyF P md ops Q S fin (h+1) listed a w :=
 ⟨λq=>(by rw[r] at q;cases q),λk e=>by
  rw[r] at e;rcases qN.1 e with rfl|e
  .exact h1
  .obtain rfl:k=j:=by simpa using e
   exact h2⟩
theorem done {e:Nat}{listed:Array Bool}{a:gh}{w:World}(f:nw md ops listed=[])(h:Q .normal a w):wpAnyF P md ops Q S fin e listed a w:=by
 cases e with
 | zero=>exact⟨f,h⟩
 | succ n=>exact⟨λ_=>h,by rw[f];simp⟩
theorem start {f:Nat}{a:gh}{w:World}(S:World->Prop)(fin:Nat)(e:P.follows .mixedOrders=true)(h:wpAnyF P .any ops Q S fin ops.size (mI ops.size false) a w.drew):(lV f ops true).wp P Q a w :=
 wp_region_any e (to_any _ _ _ _ h)
theorem opV {i:Nat}{o:nh}{K:gh->World->Prop}{a:gh}{w w':World}(v:Value)(f:ops[i]?=some o)(e:o.guard=none)(j:(nQ a.eval o).run P w=.ok (.value v) w')(h:K (a.put o.dst v) w'):wpOp P ops Q i K a w:=by
 unfold wpOp;simp only[f];rw[if_pos (by simp[gS,e])];left;unfold mW;rw[j];exact h
theorem opS {i:Nat}{o:nh}{K:gh->World->Prop}{a:gh}{w w':World}(f:ops[i]?=some o)(e:o.guard=none)(j:(nQ a.eval o).run P w=.ok .skip w')(h:K (a.put o.dst gQ) w'):wpOp P ops Q i K a w:=by
 unfold wpOp;simp only[f];rw[if_pos (by simp[gS,e])];left;unfold mW;rw[j];exact h
theorem opC {i:Nat}{o:nh}{K:gh->World->Prop}{a:gh}{w:World}(f:FuncId)(xs:Array nO)(z:Array nS)(s:ops[i]?=some o)(r:o.guard=none)(hc:o.op=.call {callee:=.value (.func f),args:=xs,argTypes:=z})
  (q:∀args w,(gm f args).run P w=.ok (.enter f args) w) (args:Y7) (ha:xs.map a.eval=args) (h:nK P f args w λe w'=>∃v,e=Y0 v/\K (a.put o.dst v) w'):wpOp P ops Q i K a w:=by
 unfold wpOp;simp only[s];rw[if_pos (by simp[gS,r])];left;have u:(nQ a.eval o).run P w=.ok (.enter f args) w:=by have j:a.eval (.func f)=.func (.func f) #[] #[]:=rfl;simp[nQ,hc,resolve,ha,j,lP,invoke,q args w]
 unfold mW;rw[u,Oper.upon_enter];refine h.mono ?_;rintro e w' ⟨v,rfl,k⟩;exact k
theorem n {e:Nat}{listed:Array Bool}{a:gh}{w:World}(i:Nat)(h:wpOp P ops Q i (λf w'=>(i≠fin->S w')/\wpAnyF P md ops Q S fin e (listed.setIfInBounds i true) f w') a w)(j:nw md ops listed=[i]:=by kernel_rfl):wpAnyF P md ops Q S fin (e+1) listed a w:=one i j h
theorem dn {e:Nat}{listed:Array Bool}{a:gh}{w:World}(h:Q .normal a w)(f:nw md ops listed=[]:=by kernel_rfl):wpAnyF P md ops Q S fin e listed a w:=done f h
theorem st {f:Nat}{a:gh}{w:World}(S:World->Prop)(fin:Nat)(h:wpAnyF P .any ops Q S fin ops.size (mI ops.size false) a w.drew)(e:P.follows .mixedOrders=true:=by kernel_rfl):(lV f ops true).wp P Q a w:=start S fin e h
theorem eo {f:FuncId}{fn:Func}{c:ff}(hf:P.funcs[f]?=some fn)(h:(fn.name== "runtime.NumGoroutine")=false:=by kernel_rfl)(e:fn.body=some c:=by rfl):Enters P f:=mc hf h e
theorem oC {i:Nat}{o:nh}{K:gh->World->Prop}{a:gh}{w:World}(f:FuncId)(xs:Array nO)(j:Array nS)(args:Y7)(h:nK P f args w λe w'=>∃v,e=Y0 v/\K (a.put o.dst v) w')(k:∀args w,(gm f args).run P w=.ok (.enter f args) w)(r:ops[i]?=some o:=by rfl)(q:o.guard=none:=by rfl)(hc:o.op=.call {callee:=.value (.func f),args:=xs,argTypes:=j}:=by rfl)(ha:xs.map a.eval=args:=by simp only[List.map_toArray,List.map_cons,List.map_nil];rfl):wpOp P ops Q i K a w:=opC f xs j r q hc k args ha h
theorem t {f:Nat}{listed:Array Bool}{a:gh}{w:World}(i:Nat){e:nh}(v:Value)(hi:ops[i]?=some e)(k:S w)(h1:∀W,S W->(nQ a.eval e).run P W=.ok (.value v) W)(h:wpAnyF P md ops Q S fin f (listed.setIfInBounds i true) (a.put e.dst v) w)(hs:lN ops=true:=by kernel_rfl)(hf:fe md ops listed i=true:=by kernel_rfl)(s:(nw md ops listed).contains i=true:=by kernel_rfl)(q:waitsFor md ops fin i=true:=by kernel_rfl)(j:∀c a w,Q (.panic c) (a.put e.dst v) w->Q (.panic c) a w:=by exact λ_ _ _ h=>h)(r:e.guard=none:=by rfl):wpAnyF P md ops Q S fin (f+1) listed a w :=
 take i v hi hs hf s q j k (yld r h1) h
theorem q {f:Nat}{listed:Array Bool}{a:gh}{w:World}(i:Nat){e:nh}(v:Value)(k:S w)(h:wpAnyF P md ops Q S fin f (listed.setIfInBounds i true) (a.put e.dst v) w)(hi:ops[i]?=some e:=by rfl)(h1:∀W,S W->(nQ a.eval e).run P W=.ok (.value v) W:=by intro _ hW;(try dsimp only at hW);go_simp)(hs:lN ops=true:=by kernel_rfl)(hf:fe md ops listed i=true:=by kernel_rfl)(s:(nw md ops listed).contains i=true:=by kernel_rfl)(q:waitsFor md ops fin i=true:=by kernel_rfl)(j:∀c a w,Q (.panic c) (a.put e.dst v) w->Q (.panic c) a w:=by exact λ_ _ _ h=>h)(r:e.guard=none:=by rfl):wpAnyF P md ops Q S fin (f+1) listed a w :=t i v hi k h1 h hs hf s q j r
end
end zb
section
variable {w:World}{o:nh}{ρ:nO->Value}{x y:nO}
theorem Kx (off:Nat):∀(e:Y8) (k:Nat) (arr:Y7) (j:Nat),((e.zipIdx k).foldl (λcs x=>cs.setIfInBounds (off+x.snd) x.fst) arr)[j]?=if off+k<=j/\j<off+k+e.length/\j<arr.size then e[j-(off+k)]? else arr[j]?
 | [],k,arr,j=>by rw[if_neg (by simp;omega)];rfl
 | v::e,k,arr,j=>by
  rw[List.zipIdx_cons,List.foldl_cons,Kx off e (k+1)];simp only[Array.size_setIfInBounds,zK,zS]
  by_cases h1:off+(k+1)<=j/\j<off+(k+1)+e.length/\j<arr.size
  .rw[if_pos h1,if_pos K5,show j-(off+k)=(j-(off+(k+1)))+1 from by omega];rfl
  .rw[if_neg h1]
   by_cases h2:off+k=j
   .subst h2
    by_cases f:off+k<arr.size
    .rw[if_pos rfl,if_pos f,if_pos K5,Nat.sub_self];rfl
    .rw[if_pos rfl,if_neg f,if_neg K5];rw[gg K5]
   .rw[if_neg h2,if_neg K5]
theorem Ah (e:Y8)(arr:Y7)(hs:arr.size=e.length):e.zipIdx.foldl (λcs x=>cs.setIfInBounds x.snd x.fst) arr=e.toArray:=by
 apply Array.ext_getElem?;intro j;have h:=Kx 0 e 0 arr j;simp only[qA] at h;rw[h]
 by_cases f:j<e.length
 .rw[if_pos K5];simp
 .rw[if_neg K5,gg K5,gg (by simp;omega)]
theorem sO (u:Value)(e:Y8)(arr:Y7)(hs:arr.size=e.length+1):e.zipIdx.foldl (λcs x=>cs.setIfInBounds (1+x.snd) x.fst) (arr.setIfInBounds 0 u)=(u::e).toArray:=by
 apply Array.ext_getElem?;intro j;rw[Kx 1 e 0];simp only[Array.size_setIfInBounds,zS];rcases j with _|j
 .rw[if_neg K5,if_pos rfl,if_pos K5];rfl
 .by_cases f:j<e.length
  .rw[if_pos K5,show j+1-(1+0)=j from by omega];simp
  .rw[if_neg K5,if_neg K5,gg K5,gg (by simp;omega)]
theorem IT (k:Nat)(l:Y4)(e:o.op=.build 366 #[(0,x),(1,y)])(h1:ρ x=Y1 Q4 (k:Int))(h2:ρ y=Q0 (l.map b8).toArray)(hl:l.length=64):(nQ ρ o).run Y3 w=.ok (.value (Q0 (kV (k,l)).toArray)) w:=by
 have f:zeroCells366.size=65:=K6
 have key:=sO (Y1 Q4 (k:Int)) (l.map b8) zeroCells366 (by rw[f,qH,hl]);simp[nQ,e,h1,h2,go_sem,kV,nM,hl,key]
theorem MW (k:Nat)(l:Y4)(hl:l.length=64)(f:o.op=.buildSlice 112 1 #[(0,x)])(h1:ρ x=Q0 (kV (k,l)).toArray):(nQ ρ o).run Y3 w=.ok (.value (X1 w.heap.size 1 1)) (w.alloc (Q9 (kV (k,l)).toArray 366)):=by
 have e:=vT (x:=(k,l)) hl;have key:=λarr hs=>Ah (kV (k,l)) arr hs
 rw[e] at key;simp[nQ,f,h1,go_sem,nM,e,key]
theorem Ed (w:World)(k:Nat)(l:Y4)(hl:l.length=64):yl (w.alloc (Q9 (kV (k,l)).toArray 366)) (w.alloc (Q9 (kV (k,l)).toArray 366)).heap.size 65 (K4 ⟨w.heap.size,0,K3⟩) 1 1 (kV (k,l)) :=
 ⟨zG _,by omega,(λe=>by cases e),by rw[vT hl],Kl _,λ_=>⟨w.heap.size,0,rfl,by simp,λj v f=>by
  rw[(za.new w 366 (kV (k,l)).toArray).cell,qA]
  simpa using f⟩⟩
end
section
variable {w:World}{ops:Array nh}{i:Nat}{o:nh}{a:gh}{Q:mh->gh->World->Prop}{K:gh->World->Prop}
theorem tL (H:ops[i]?=some o)(C:o.guard=none){S T:nS}{sz j:Nat}{z:Value}(q:ZQ S T sz j z)(s x:nO)(hc:o.op=.call {callee:=.builtin .append,args:=#[s,x],argTypes:=#[S,S]})
  (base:Nat) (v:Value) (n:Nat) (cs:Y8) (hs:a.eval s=v) (I:w.ownsRow base T sz v n cs) (B:Nat) (A:Y5) (m c:Nat) (f:Y8) (M:a.eval x=X1 A m c) (E:yl w B sz A m c f)
  (G:n+m<=gP) (u:(n+m)*j<=140737488355328) (r:base<=w.heap.size)
  (h:∀e w',w'.ownsRow base T sz e (n+m) (cs++f)->w.grownBy w' v.ownBlock->K (a.put o.dst e) w'):wpOp Y3 ops Q i K a w:=by
 obtain⟨e,w',L,h2,k⟩:=Gt (w:=w) o.type q base v n cs I B A m c f E G u r;refine zb.opV e H C (w':=w') ?_ (h e w' h2 k);unfold nQ;simp only[hc,resolve,invoke,builtin,gJ,ny,nc,zJ,zL,zN,hs,M,L]
end
section
variable (w:World)(p many:Nat)(g:Nat->Y4)(xs:List (Nat×Y4))(left:Int)(stops:Bool)
def rn (stops:Bool)(left:Int):Int:=if stops&&left==0 then 140 else 0
theorem wu (G:yN w p many g xs left stops)(k:Nat)(H:k<many)(A:Y5)(c:Nat)(w0 h f:World)(s:Nat)(hs:za w0 s 129 #[X1 A 64 c])(z:nH w.heap.size w w0)(j:nH w0.heap.size w0 h)(q:nH h.heap.size h f)
  (r:za h w0.heap.size 75 #[Y9 (K4 ⟨p,0,K3⟩)]) (b1:za h (w0.heap.size+1) 3 #[Y1 Q4 (k:Int)]) :
  nK Y3 230 #[Y9 (K4 ⟨p,0,K3⟩),X1 f.heap.size 3 3] (f.alloc (Q9 #[.func (.func 297) #[] #[Y9 (K4 ⟨s,0,K3⟩)],Y1 Q4 2,.func (.func 308) #[] #[Y9 (w0.heap.size+1:Nat),Y9 w0.heap.size],Y1 Q4 4,.func (.func 293) #[Y9 (K4 ⟨p,0,K3⟩)] #[],Y1 Q4 140] 322))
   λe w'=>e=Y0 (Y1 Q4 (rn stops left))/\nH f.heap.size f w':=by
 have h1:=G.grow (z.trans ((j.trans (q.mono j.size)).mono z.size));have E:=j.trans (q.mono j.size);have u:=Fx f p many g xs left stops h1 (SA s 64) (YL w0.heap.size (w0.heap.size+1) many k) (Ql p left stops)
  (uw f s A 64 c (hs.below E hs.lt)) (RI f p many g xs left stops k _ _ h1 (r.below q r.lt) (b1.below q b1.lt)) (Dc f p many g xs left stops h1)
 have hf:vm [SA s 64,YL w0.heap.size (w0.heap.size+1) many k,Ql p left stops]=rn stops left:=by
  have B:decide ((k:Int)<0)=false:=by simp
  have C:¬ many<=k:=K5
  unfold rn;cases stops<;>by_cases hl:left=0<;>simp[vm,SA,YL,Ql,hl,B,C]
 rw[hf] at u;exact u
theorem Cz (hD:yN w p many g xs left stops)(hs:(stops&&left==0)=false)(k:Nat)(hk:k<many)(A:Y5)(c:Nat)(l:Y4)(hl:l.length=64)(a8:qv w w.heap.size A c l)(bB:xs.length<=1000000)(h1 : -1000000<=left)(h2:left<=9223372036854775807):nK Y3 235 #[Y9 p,Y1 Q4 (k:Int),X1 A 64 c] w λe w'=>e=Y0 (Y1 Q4 0)/\yN w' p many g (xs++[(k,l)]) (pL stops left) stops/\w.grownBy w' (some p)/\∃b c,w'.cell? ⟨p,2,K3⟩=some (X1 (K4 ⟨b,0,K3⟩) (xs.length+1) c)/\w.heap.size<=b:=by
 have aN:nH w.heap.size w (w.alloc (Q9 #[X1 A 64 c] 129)):=(nF _ w).alloc (zG _) _;have b0:=za.new w 129 #[X1 A 64 c];have HT:=UG (w.alloc (Q9 #[X1 A 64 c] 129)) p k;have Z:=λX w2 L O aX aY=>wu w p many g xs left stops hD k hk A c (w.alloc (Q9 #[X1 A 64 c] 129)) X w2 w.heap.size b0 aN L O aX aY
 have hE:rn stops left=0:=by unfold rn;rw[hs];rfl
 rw[hE] at Z;have aA:(w.alloc (Q9 #[X1 A 64 c] 129)).heap.size=w.heap.size+1:=nG _ _;rw[aA] at HT;simp only[aA] at Z;have aE:=nI aA;have C:=nI hl;obtain⟨gb,s,rfl,aQ,a4⟩:=a8.pO K5;clear hs hE aA hl
 go_enter func235,ntmps235
 go_wp2_with (first
  |(go_at_call 261;refine HT.mono ?_;rintro e X ⟨rfl,s1,s2,L⟩)
  |(go_at_call 231;refine(KF X p).mono ?_;rintro e w2 ⟨rfl,O⟩)
  |(go_at_call 230;refine(Z X w2 L O s1 s2).mono ?_;rintro e w3 ⟨rfl,aO⟩))
 have z1:w.heap.size+1<=X.heap.size:=aE.out▸L.size;have aF:=L.trans ((O.trans (aO.mono O.size)).mono (by first|exact z1|exact L.size));have N:nH w.heap.size w w3:=aN.trans (aF.mono (by have:=aE.out;omega));have b3:=b0.below aF (by have:=aE.out;omega);have aZ:=hD.grow N;obtain⟨r,E,c3,hb,hm,hx⟩:=aZ.has;have k2:w3.cell? ⟨p,2,K3⟩=some (X1 E xs.length c3):=by rw[hb.cell];rfl
 have k5:w3.cell? w.heap.size=some (X1 (K4 ⟨gb,s,K3⟩) 64 c):=by rw[b3.cell];rfl
 have aT:=hb.lt;have a9:=b3.lt;have aJ:w3.rangeAt gb s (l.map b8):=λj v H=>by
  have aS:j<l.length:=by have:=(qM.1 H).1;simpa using this
  rw[N.cell (p:=⟨gb,s+j,K3⟩) aQ,a4 j aS];simpa[aS,b8] using H
 have aH:gb<w3.heap.size:=zO aQ N.size;have aV:∀W,nH w3.heap.size w3 W->(Instr.loadAt 341 (Y9 (K4 ⟨gb,s,K3⟩))).run Y3 W=.ok (Q0 (l.map b8).toArray) W:=by intro W f;obtain⟨d,hu,hd⟩:=jH.desc;exact run_loadAt_mid (P:=Y3) W gb s 341 (l.map b8) d (λj v H=>(f.cell (p:=⟨gb,s+j,K3⟩) aH).trans (aJ j v H)) hu hd (by rw[jH.size,qH,C.out])
 have aW:∀W,nH w3.heap.size w3 W->(loadVar 341 ⟨gb,s,K3⟩).run Y3 W=.ok (Q0 (l.map b8).toArray) W:=by intro W f;obtain⟨d,hu,hd⟩:=jH.desc;exact run_loadVar_mid (P:=Y3) W gb s 341 (l.map b8) d (λj v H=>(f.cell (p:=⟨gb,s+j,K3⟩) aH).trans (aJ j v H)) hu hd (by rw[jH.size,qH,C.out])
 have aL:∀W,(Instr.arrayAt 341 (X1 (K4 ⟨gb,s,K3⟩) 64 c)).run Y3 W=.ok (Y9 (K4 ⟨gb,s,K3⟩)) W:=λW=>by simp[Instr.arrayAt,gK underlying341,go_sem]
 have aC:∀W,nH w3.heap.size w3 W->W.cell? ⟨p,2,K3⟩=some (X1 E xs.length c3):=λW f=>(f.cell (p:=⟨p,2,K3⟩) aT).trans k2
 have aM:∀W,nH w3.heap.size w3 W->W.cell? w.heap.size=some (X1 (K4 ⟨gb,s,K3⟩) 64 c):=λW f=>(f.cell (p:=⟨w.heap.size,0,K3⟩) a9).trans k5
 have aD:∀W,nH w3.heap.size w3 W->nK Y3 298 #[X1 E xs.length c3] W λe w'=>∃v,e=Y0 v/\w'.ownsRow W.heap.size 366 65 v xs.length (VN xs)/\nH W.heap.size W w':=λW f=>FP W E c3 xs (hx.grow f) bB
 have q:nH w3.heap.size w3 w3.drew:=(nF _ w3).drew;have z:∀W cs T,nH w3.heap.size w3 W->nH w3.heap.size w3 (W.alloc (Q9 cs T)):=λW cs T h=>h.alloc h.size _
 clear HT Z L O aO aF k2 k5;refine zb.st (λW=>nH w3.heap.size w3 W) 15 ?_;refine zb.q 0 (Y9 p) q ?_;refine zb.q 1 (Y9 p) q ?_;refine zb.q 2 (Y9 p) q ?_;refine zb.q 3 (Y9 (K4 ⟨p,2,K3⟩)) q ?_;refine zb.q 6 (Y1 Q4 (k:Int)) q ?_;refine zb.t 7 (X1 (K4 ⟨gb,s,K3⟩) 64 c) rfl q (λW f=>by have e:=aM W f;go_simp) ?_;refine zb.t 8 (Y9 (K4 ⟨gb,s,K3⟩)) rfl q (λW f=>by have e:=aL W;go_simp) ?_;simp only[Z8];refine zb.t 9 (Q0 (l.map b8).toArray) rfl q (λW f=>yQ jH (λj v H=>(f.cell (p:=⟨gb,s+j,K3⟩) aH).trans (aJ j v H)) (by rw[qH,C.out]) rfl rfl) ?_;simp only[Z8];refine zb.t 10 (Q0 (kV (k,l)).toArray) rfl q (λW f=>IT k l rfl rfl rfl C.out) ?_;refine zb.t 4 (X1 E xs.length c3) rfl q (λW f=>by have e:=aC W f;go_simp) ?_;simp only[Z8];refine zb.two 5 11 K6 ?_ ?_
 case' refine_1 =>
  refine zb.oC 298 #[.tmp 24] #[112] #[X1 E xs.length c3] ((aD _ q).mono ?_) (zb.eo func298);rintro e w4 ⟨v4,rfl,M,U⟩;have u:nH w3.heap.size w3 w4:=q.trans (U.mono q.size);refine⟨v4,rfl,λ_=>u,?_⟩;simp only[Z8];refine zb.n 11 ?_;refine zb.opV _ rfl rfl (MW k l C.out rfl rfl) ⟨λ_=>z _ _ _ u,?_⟩;simp only[Z8];refine zb.n 12 ?_;refine tL rfl rfl Fe (.tmp 25) (.tmp 31) rfl w3.heap.size v4 xs.length (VN xs) rfl (qn (yR M (zG _)) ((nF _ w4).alloc (zG _) _)) _ _ 1 1 (kV (k,l)) rfl (Ed w4 k l C.out) (by unfold gP;omega) K5 (z _ _ _ u).size ?_;intro v5 w5 aB V;have B:nH w3.heap.size w3 w5:=(z _ _ _ u).trans (zo V (z _ _ _ u).size (zj (yR M (zG _))));refine⟨λ_=>B,?_⟩;simp only[Z8];clear V M U u
 case' refine_2 =>
  refine zb.opV _ rfl rfl (MW k l C.out rfl rfl) ⟨λ_=>z _ _ _ q,?_⟩;simp only[Z8];refine zb.n 5 ?_;refine zb.oC 298 #[.tmp 24] #[112] #[X1 E xs.length c3] ((aD _ (z _ _ _ q)).mono ?_) (zb.eo func298);rintro e w4 ⟨v4,rfl,M,U⟩;have u:nH w3.heap.size w3 w4:=(z _ _ _ q).trans (U.mono (z _ _ _ q).size);refine⟨v4,rfl,λ_=>u,?_⟩;simp only[Z8];refine zb.n 12 ?_;refine tL rfl rfl Fe (.tmp 25) (.tmp 31) rfl w3.heap.size v4 xs.length (VN xs) rfl (yR M (z _ _ _ q).size) _ _ 1 1 (kV (k,l)) rfl ((Ed w3.drew k l C.out).grow U) (by unfold gP;omega) K5 u.size ?_;intro v5 w5 aB V;have B:nH w3.heap.size w3 w5:=u.trans (zo V u.size (zj (yR M (z _ _ _ q).size)));refine⟨λ_=>B,?_⟩;simp only[Z8];clear V M U u
 all_goals
  have aG:=hb.below B aT;have c5:w5.cell? ⟨p,2,K3⟩=some (X1 E xs.length c3):=aC _ B;have f5:=aG.free 2;have aK:(w5.setCell ⟨p,2,K3⟩ v5).ownsRow w3.heap.size 366 65 v5 (xs.length+1) (VN xs++kV (k,l)):=qp aB λr hr=>nU w5 ⟨p,2,K3⟩ v5 r (λe=>by have:=zj aB r hr;simp at e;omega)
  obtain⟨I,G,rfl,aR⟩:=qq aK (λv hv=>by rcases zZ.1 hv with h|h;exact ud _ v h;exact Kl _ v h);refine zb.n 13 ?_;refine zb.opV (Y9 p) rfl rfl K8 ⟨λ_=>B,?_⟩;simp only[Z8];refine zb.n 14 ?_;refine zb.opV (Y9 (K4 ⟨p,2,K3⟩)) rfl rfl K8 ⟨λ_=>B,?_⟩;simp only[Z8];refine zb.n 15 ?_;refine zb.opS (w':=w5.setCell ⟨p,2,K3⟩ (X1 I (xs.length+1) G)) rfl rfl K8 ⟨λh=>absurd rfl h,?_⟩;simp only[zD,zC,zB,nJ];refine zb.dn ?_;have aU:Pw (xs++[(k,l)]):=λx bA=>by
   rcases zZ.1 bA with h|h
   .exact hx.1 x h
   .obtain rfl:x=(k,l):=by simpa using h
    exact C.out
  have aP:VN (xs++[(k,l)])=VN xs++kV (k,l):=by rw[DE];simp[VN]
  have aI:(xs++[(k,l)]).length=xs.length+1:=by simp
  have a0:yN (w5.setCell ⟨p,2,K3⟩ (X1 I (xs.length+1) G)) p many g (xs++[(k,l)]) left stops:=by
   refine⟨r,I,G,?_,(hm.grow B).setCell _ _,aU,?_⟩
   .rw[aI];exact aG.set 2 _
   .rw[aI,aP];exact aR
  have a5:w.grownBy (w5.setCell ⟨p,2,K3⟩ (X1 I (xs.length+1) G)) (some p):=qe (ja (N.trans (B.mono N.size)) p) (je w5 ⟨p,2,K3⟩ _);obtain⟨g9,h9,a7⟩:∃g9,I=some ⟨g9,0,K3⟩/\w.heap.size<=g9:=by
   rcases aK.2 with⟨_,e⟩|⟨g9,cap,cur,e,hb9,_⟩
   .omega
   .injection e with e1
    exact⟨g9,e1,zT N.size hb9⟩
  have a2:(w5.setCell ⟨p,2,K3⟩ (X1 I (xs.length+1) G)).cell? ⟨p,2,K3⟩=some (X1 (K4 ⟨g9,0,K3⟩) (xs.length+1) G):=by subst h9;exact World.cell?_setCell_same _ _ _ c5
  clear aB aK aR aG c5 f5 B aC aM aV aW aL aD z aU aP aI;generalize w5.setCell ⟨p,2,K3⟩ (X1 I (xs.length+1) G)=w6 at *
  go_wp2_with (go_at_call 233;refine(DJ _ p many _ _ left stops a0 h1 h2).mono ?_;rintro e w7 ⟨⟨v,rfl⟩,a1,a6,a3⟩)
  go_ret;exact⟨rfl,a1,qe a5 a6,g9,G,a3.trans a2,a7⟩
end
section
variable (w:World)(p many:Nat)(g:Nat->Y4)(xs:List (Nat×Y4))(left:Int)(stops:Bool)
end

section
variable (w:World)(p many:Nat)(g:Nat->Y4)(xs:List (Nat×Y4))(left:Int)(stops:Bool)
end


section
variable {w:World}{ops:Array nh}{i:Nat}{o:nh}{a:gh}{Q:mh->gh->World->Prop}{K:gh->World->Prop}
end

section
variable (w:World)(p many:Nat)(g:Nat->Y4)(xs:List (Nat×Y4))(left:Int)(stops:Bool)
theorem Np (h:yN w p many g xs left stops):nK Y3 102 #[Y9 p] w λe w'=>e=Y0 (Y1 Q4 (many:Int))/\w=w':=by
 have f:=Ju w p many g xs left stops h;obtain⟨r,A,c,j,k,q⟩:=h.has;have c1:w.cell? ⟨p,1,K3⟩=K4 (Y1 Q4 (many:Int)):=by rw[j.cell];rfl
 go_enter func102,ntmps102
 go_wp2_with (go_at_call 163;refine f.mono ?_;rintro e w' ⟨rfl,rfl⟩)
 go_ret;exact⟨rfl,rfl⟩
end
end
section
open Go Go.RowKit Go.Shelf
attribute [local go_sem] Oper.semAt_some
def ZH {β : Type}(B:Nat)(I : β -> World->Prop):Prop:=∀s X Y row,I s X->X.grownBy Y row->(∀r,row=some r->B<=r)->I s Y
theorem ZH.alloc {β : Type}{B:Nat}{I : β -> World->Prop}(h:ZH B I){s : β}{X:World}(o:Obj)(hs:I s X):I s (X.alloc o) :=
 h s X _ none hs ⟨rfl,rfl,rfl,by simp,λk f _=>mT X o k f⟩ (λr e=>by cases e)
theorem ZH.putObj {β : Type}{B:Nat}{I : β -> World->Prop}(h:ZH B I){s : β}{X:World}{l:Nat}(o:Obj)(hs:I s X)(hl:B<=l):I s (X.putObj l o):=h s X _ (some l) hs (grownBy_putObj' X l o) (λr e=>by cases e;exact hl)
theorem ZH.grow {β : Type}{B:Nat}{I : β -> World->Prop}(h:ZH B I){s : β}{X Y:World}(hs:I s X)(f:nH X.heap.size X Y):I s Y:=h s X Y none hs ⟨f.os,f.tape,f.output,f.size,λk j _=>f.block k j⟩ (λr e=>by cases e)
def qf (Mu:Nat->Prop)(B:Nat)(W W':World):Prop:=W.heap.size<=W'.heap.size/\∀k o,W.heap[k]?=some o->(k<B->¬ Mu k)->W'.heap[k]?=some o
theorem qf.refl (Mu:Nat->Prop)(B:Nat)(W:World):qf Mu B W W:=⟨zG _,λ_ _ h _=>h⟩
theorem qf.trans {Mu:Nat->Prop}{B:Nat}{X Y Z:World}(h:qf Mu B X Y)(k:qf Mu B Y Z):qf Mu B X Z:=⟨zT h.1 k.1,λi o hi e=>k.2 i o (h.2 i o hi e) e⟩
theorem qf.any {Mu:Nat->Prop}{B:Nat}{X Y:World}(h:qf Mu B X Y):qf (λ_=>True) B X Y:=⟨h.1,λk o f j=>h.2 k o f (λe=>absurd trivial (j e))⟩
theorem qf.grow (Mu:Nat->Prop)(B:Nat){X Y:World}(h:nH X.heap.size X Y):qf Mu B X Y:=⟨h.size,λk o e _=>(h.block k (zI.1 e).1).trans e⟩
theorem qf.setCell {Mu:Nat->Prop}{B:Nat}(X:World)(p:nN)(v:Value)(j:p.block<B)(h:Mu p.block):qf Mu B X (X.setCell p v) :=
 ⟨by simp,λk o f hn=>(nU X p v k (λe=>hn (by rw[e];exact j) (by rw[e];exact h))).trans f⟩
theorem qf.cell {Mu:Nat->Prop}{B:Nat}{X Y:World}(h:qf Mu B X Y){p:nN}{v:Value}(hc:X.cell? p=some v)(j:p.block<B->¬ Mu p.block):Y.cell? p=some v:=by
 have f:∃o,X.heap[p.block]?=some o:=by
  cases e:X.heap[p.block]? with
  | none=>simp[World.cell?,e] at hc
  | some o=>exact⟨o,rfl⟩
 obtain⟨o,e⟩:=f;rw[nW ((h.2 _ o e j).trans e.symm)];exact hc
theorem qf.blk {Mu:Nat->Prop}{B:Nat}{X Y:World}(h:qf Mu B X Y){g:Nat}{t:nS}{cs:Y7}(e:za X g t cs)(f:g<B->¬ Mu g):za Y g t cs:=h.2 _ _ e f
def wV {α : Type}(F:Fence)(n:Nat)(P:gF)(g:Nat)(lb:Y7)(encs : α -> Y7)(Mu:Nat->Prop)(Rd:List α -> α -> World->Prop)(S Sp:List α -> Prop)(w:World):Prop :=
 ∀(l:Nat) (J Jx:List α -> World->Prop) (W:World),nH w.heap.size w W->ZH W.heap.size J->ZH W.heap.size Jx ->
  (∀pre x W1,J pre W1->Rd pre x W1->YieldAt F (n-1) P l (encs x) W1 λe W' =>
   (e=Y0 (X3 true)/\J (pre++[x]) W'/\qf Mu W.heap.size W1 W')\/(e=Y0 (X3 false)/\Jx (pre++[x]) W'/\qf (λ_=>True) W.heap.size W1 W')) ->
  J [] W ->
  mQ F n P g (#[.func (.yield l) #[] #[]]++lb) W λe W'=>(∃v,e=Y0 v)/\((∃xs,S xs/\J xs W')\/(∃pre,Sp pre/\Jx pre W'))
def Bp {α : Type}(Mu:Nat->Prop)(B:Nat)(I:List α -> World->Prop)(Ix:ff->List α -> World->Prop)(xs:List α)(W:World):mh->gh->World->Prop
 | .normal,_,W'=>qf Mu B W W'/\I xs W'
 | .ret,_,W'=>qf (λ_=>True) B W W'/\Ix .ret xs W'
 | .exit id,_,W'=>qf (λ_=>True) B W W'/\Ix (.exit id) xs W'
 | .goto t,_,W'=>qf (λ_=>True) B W W'/\Ix (.goto t) xs W'
 | .panic _,_,_=>False
 | .outgrown,_,_=>False
section
variable {F:Fence}{n:Nat}{P:gF}{w:World}
theorem VP {α : Type}{g:nO}{ps:Array Tmp}{assign body:ff}{Q:mh->gh->World->Prop}{a:gh}
  (aQ:F.round=none) (h1:1<=n) {gf:Nat} {lb:Y7} (hg:a.eval g=.func (.func gf) #[] lb) (aF:F.fn gf) (eg:∀args w,(gm gf args).run P w=.ok (.enter gf args) w)
  {encs : α -> Y7} {Mu:Nat->Prop} {Rd:List α -> α -> World->Prop} {S Sp:List α -> Prop} {w0:World} (aR:wV F (n-1) P gf lb encs Mu Rd S Sp w0)
  (aC:nH w0.heap.size w0 w) (aO:∀x,(encs x).size=ps.size)
  (I:List α -> World->Prop) (H:ff->List α -> World->Prop) (L:ZH w.heap.size I) (aA:∀c,ZH w.heap.size (H c)) (aG:∀j x,OwnFrom w.heap.size (λ(_:Unit) W=>Rd j x W)) (h0:I [] w) (a₁ : α -> gh)
  (aI:∀(l:Nat) (x : α) (W:World) (K:gh->World->Prop),K (a₁ x) W ->
   assign.wpIn (F.inRound l) (n-1-1) P (Exit.then K (λ_ _ _=>False)) {tmps:=(ps.zip (encs x)).foldl (λt (p,v)=>t.setIfInBounds p v) a.tmps,defers:=[]} W)
  (aJ:∀(l:Nat) (j:List α) (x : α) (W:World),I j W->Rd j x W->body.wpIn (F.inRound l) (n-1-1) P (Bp Mu w.heap.size I H (j++[x]) W) (a₁ x) W)
  (aK:∀(D:Nat) (xs:List α) (W:World),w.heap.size<=D->S xs->I xs W->W.heap[D]?=some (.deferred (some []))->Q .normal {a with defers:={target:=.collected D,args:=#[]}::a.defers} W)
  (aS:∀(D:Nat) (c:ff) (j:List α) (W:World),w.heap.size<=D->Sp j->H c j W->W.heap[D]?=some (.deferred (some []))->c.wpIn F n P Q {a with defers:={target:=.collected D,args:=#[]}::a.defers} W) :
  (fz g ps assign body).wpIn F n P Q a w:=by
 refine wpIn_rangeFunc λfn aL => ?_
 rw[aQ]
 -- the loop's record, and the world that bears it and the block for deferred calls
 obtain⟨f,E⟩:∃f:LoopState->Option ff->Loop,f=λst pe => {state:=st,pending:=pe,fn,tmps:=a.tmps,params:=ps,assign,body,defers:=w.heap.size}:=⟨_,rfl⟩
 obtain⟨V,M⟩:∃V,(w.alloc (.deferred (some []))).alloc (.loop (f .ready none))=V:=⟨_,rfl⟩;have vL:V.heap[w.heap.size+1]?=some (.loop (f .ready none)):=by
  subst M;have:=mB (w.alloc (.deferred (some []))) (.loop (f .ready none))
  rwa [nG] at this
 have vD:V.heap[w.heap.size]?=some (.deferred (some [])):=by subst M;exact(mT _ _ _ K9).trans (mB w _)
 have vI:I [] V:=by subst M;exact L.alloc _ (L.alloc _ h0)
 have vS:V.heap.size=w.heap.size+2:=by subst M;simp
 have vB:nH w0.heap.size w0 V:=by subst M;exact aC.trans ((((nF _ w).alloc (zG _) _).alloc K9 _).mono aC.size)
 refine⟨w.heap.size+1,[{target:=.collected w.heap.size,args:=#[]}],V,{target:=.fn (.func gf) lb,args:=#[.func (.yield (w.heap.size+1)) #[] #[]]},V,gf,#[.func (.yield (w.heap.size+1)) #[] #[]]++lb,V,?_,?_,?_,?_,λ_=>h1,?_⟩
 .rw[<-M,E];exact run_enterLoop_outer _ _ _ _ _
 .simp only[resolve,hg];simp[go_sem]
 .intro f' aD;simp[Target.leads] at aD;subst aD;exact aF
 .simp[invoke,go_sem,eg]
 have apart:∀{A B:World} {row:Option Nat} {k:Nat} {o:Obj},A.heap[k]?=some o->A.grownBy B row->(∀r,row=some r->V.heap.size<=r)->k<V.heap.size->B.heap[k]?=some o:=λu hg q aE =>
  (hg.block _ (zI.1 u).1 (λe=>by have:=q _ e.symm;omega)).trans u
 refine(aR (w.heap.size+1)
  (λj W=>I j W/\W.heap[w.heap.size+1]?=some (.loop (f .ready none))/\W.heap[w.heap.size]?=some (.deferred (some [])))
  (λj W=>∃c,H c j W/\W.heap[w.heap.size+1]?=some (.loop (f .done (some c)))/\W.heap[w.heap.size]?=some (.deferred (some [])))
  V vB
  (λs A B row hs G q=>⟨L s A B row hs.1 G (λr e=>by have:=q r e;omega),apart hs.2.1 G q K5,apart hs.2.2 G q K5⟩)
  (λs A B row hs G q=>by
   obtain⟨c,hc,hl,u⟩:=hs
   exact⟨c,aA c s A B row hc G (λr e=>by have:=q r e;omega),apart hl G q K5,apart u G q K5⟩)
  ?round ⟨vI,vL,vD⟩).mono ?behind
 case round =>
  rintro j x W ⟨hi,hl,u⟩ aP;have aE:w.heap.size+1<W.heap.size:=(zI.1 hl).1;have hy:=run_yield (P:=P) (args:=encs x) hl (by rw[E];exact aO x);rw[E] at hy;refine⟨fn,_,assign,body,hy,roundIn_of_wpIn aL (aI _ x W _ ⟨_,run_beginRound hl (by rw[E]),?_⟩)⟩;clear hy;have bL:(W.putObj (w.heap.size+1) (.loop {f .ready none with state:=.busy})).heap[w.heap.size+1]?=some (.loop {f .ready none with state:=.busy}):=gn aE;have bD:(W.putObj (w.heap.size+1) (.loop {f .ready none with state:=.busy})).heap[w.heap.size]?=some (.deferred (some [])):=(nP K5).trans u;refine wpIn_mono (aJ _ j x _ (L.putObj _ hi K5) ((aG j x).putObj (s:=()) _ aP K5 hl rfl)) ?_
  -- the round's end
  have fin:∀(C:Option ff) (U:World),qf (λ_=>True) w.heap.size (W.putObj (w.heap.size+1) (.loop {f .ready none with state:=.busy})) U ->
    (Instr.endRound (w.heap.size+1) C).run P U=.ok (X3 C.isNone) (U.putObj (w.heap.size+1) (.loop (f (if C.isNone then .ready else .done) C))) /\
    U.heap[w.heap.size+1]?=some (.loop {f .ready none with state:=.busy}) /\
    (U.putObj (w.heap.size+1) (.loop (f (if C.isNone then .ready else .done) C))).heap[w.heap.size+1]?=some (.loop (f (if C.isNone then .ready else .done) C)) /\
    (U.putObj (w.heap.size+1) (.loop (f (if C.isNone then .ready else .done) C))).heap[w.heap.size]?=some (.deferred (some [])):=λC U N=>by
   have Z:=N.2 _ _ bL (λh=>by omega);have:=run_endRound (P:=P) C Z;rw[E] at this ⊢;exact⟨this,by rw[E] at Z;exact Z,gn (zI.1 Z).1,(nP K5).trans (N.2 _ _ bD (λh=>by omega))⟩
  have out:∀(c:ff) (U:World),qf (λ_=>True) w.heap.size (W.putObj (w.heap.size+1) (.loop {f .ready none with state:=.busy})) U->H c (j++[x]) U ->
    (∃c',H c' (j++[x]) (U.putObj (w.heap.size+1) (.loop (f .done (some c))))/\(U.putObj (w.heap.size+1) (.loop (f .done (some c)))).heap[w.heap.size+1]?=some (.loop (f .done (some c')))/\(U.putObj (w.heap.size+1) (.loop (f .done (some c)))).heap[w.heap.size]?=some (.deferred (some [])))/\qf (λ_=>True) V.heap.size W (U.putObj (w.heap.size+1) (.loop (f .done (some c)))):=λc U N aN=>by
   obtain⟨_,h3,T,h5⟩:=fin (some c) U N;refine⟨⟨c,(aA c).putObj _ aN K5,T,h5⟩,by have:=N.1;simpa using this,λk o u X => ?_⟩;have O:k≠w.heap.size+1:=λe=>X K5 trivial
   rw[nP O];exact N.2 k o (by rw[nP O];exact u) (λh=>X K5)
  rintro e a3 U z;cases e with
  | normal =>
   obtain⟨aB,aM⟩:=z;obtain⟨q,h3,T,h5⟩:=fin none U aB.any;refine⟨_,_,q,.inl ⟨rfl,⟨L.putObj _ aM K5,T,h5⟩,by have:=aB.1;simpa using this,λk o u X => ?_⟩⟩
   by_cases O:k=w.heap.size+1
   .subst O;rw[hl] at u;rw[<-u];exact T
   .rw[nP O];exact aB.2 k o (by rw[nP O];exact u) (λh=>X K5)
  | ret=>exact⟨_,_,(fin (some .ret) U z.1).1,.inr ⟨rfl,out .ret U z.1 z.2⟩⟩
  | exit id=>exact⟨_,_,(fin (some (.exit id)) U z.1).1,.inr ⟨rfl,out (.exit id) U z.1 z.2⟩⟩
  | goto t=>exact⟨_,_,(fin (some (.goto t)) U z.1).1,.inr ⟨rfl,out (.goto t) U z.1 z.2⟩⟩
  | panic ch=>exact z.elim
  | outgrown=>exact z.elim
 case behind =>
  rintro e U ⟨⟨v,rfl⟩,(⟨xs,hS,hi,hl,u⟩|⟨j,aH,c,hi,hl,u⟩)⟩
  .have q:=fM (P:=P) hl (by rw[E];simp);rw[E] at q;exact⟨none,_,q,aK _ xs _ (zG _) hS (L.putObj _ hi K5) ((nP K5).trans u)⟩
  .have q:=fM (P:=P) hl (by rw[E];simp);rw[E] at q;exact⟨some c,_,q,aS _ c j _ (zG _) aH ((aA c).putObj _ hi K5) ((nP K5).trans u)⟩
end
theorem qv.pX {B:Nat}(A:Y5)(c:Nat)(l:Y4):OwnFrom B (λ(_:Unit) W=>qv W W.heap.size A c l):=λ_ X Y row hs f s =>
 ⟨hs.le,hs.max,hs.nil,λhl=>by
  obtain⟨g,o,h,k,hc⟩:=hs.pO hl
  exact⟨g,o,h,zO k f.size,λj q=>cell_kept (hc j q) f (λr e=>(s r e).2)⟩⟩
end
end Go.Proofs.YtohmkffoojdahaaGreat
namespace xq
inductive pF (l:List UInt8):List (Nat×Nat)->Nat->Prop
 | nil:pF l [] 0
 | snoc {pre:List (Nat×Nat)} {p v u:Nat}:pF l pre p->rd (l.drop p)=some (v,u)->pF l (pre++[(p,v)]) (p+u)
end xq
namespace Go.Proofs.YtohmkffoojdahaaGreat
section
open Go Go.RowKit xq Go.Shelf
attribute [local go_sem] Oper.semAt_some
theorem jy (n:Int)(h0 : -9223372036854775808<=n:=by omega)(h1:n<9223372036854775808:=by omega):IntKind.i64.wrap n=n:=by
 simp[IntKind.wrap,IntKind.bits,IntKind.signed];split<;>omega
theorem jc {P:gF}{n:Nat}{c:ff}{Q:mh->gh->World->Prop}{a:gh}{w:World}(h:c.wpIn nv n P (lv Q) a w):(Code.scope c).wpIn nv n P Q a w:=wpIn_wide.2 (wp_scope_straight (wpIn_wide.1 h))
section
variable {w0:World}{n₀:Nat}
end
end
section
open Go Go.RowKit xq Go.Shelf
attribute [local go_sem] Oper.semAt_some
def kS (L k:Nat):Nat:=min 64 (L-64*k)
def XV (L:Nat):Nat:=(L+63) / 64
def tV (Bs Bn:Nat)(W W':World):Prop:=W'.cell? Bs=W.cell? Bs/\W'.cell? Bn=W.cell? Bn
theorem wI (n:Nat)(A:Y5)(len f:Nat)(w:World):mQ nv n Y3 81 #[X1 A len f,Y1 Q4 64] w λe w'=>e=Y0 (.func (.func 132) #[] #[Y9 w.heap.size,Y9 (w.heap.size+1:Nat)])/\(w.alloc (Q9 #[X1 A len f] 129)).alloc (Q9 #[Y1 Q4 64] 3)=w':=by
 refine gy func81 rfl trivial ?_ rfl;simp only[ntmps81,zR,zK,zY,yB,yC,qC,qD,qO,qG,zQ,zW]
 gi_wp2
 go_ret;exact⟨rfl,rfl⟩
theorem CR (w:World)(A:Y5)(c:Nat)(b:Y4)(h:qv w w.heap.size A c b)(hl:b.length<=1000000):nK Y3 234 #[X1 A b.length c] w λe w'=>∃g f c2,e=Y0 (.func (.func 296) #[] #[Y9 (K4 ⟨g,0,K3⟩)])/\za w' g 129 #[X1 f b.length c2]/\qv w' w'.heap.size f c2 b/\nH w.heap.size w w':=by
 go_enter func234,ntmps234
 go_wp2_with (go_at_call 112;refine(Yl w A c b h K5).mono ?_;rintro x j ⟨v,rfl,own,hB⟩;obtain⟨f,c2,rfl,k⟩:=own.inB)
 go_ret;have ha:=(nF j.heap.size j).alloc (zG _) (Q9 #[X1 f b.length c2] 129);exact⟨_,f,c2,rfl,za.new _ _ _,(k.below ha).more ha.size,hB.trans (ha.mono hB.size)⟩
def YJ (b:Y4)(k:Nat):Y4:=(b.drop (64*k)).take 64
theorem jZ (b:Y4)(k:Nat):(YJ b k).length=kS b.length k:=by simp[YJ,kS]
theorem za.oF {B g:Nat}{t:nS}{cs:Y7}(k:g<B){W W':World}{row:Option Nat}(h:za W g t cs)(f:W.grownBy W' row)(j:∀r,row=some r->B<=r):za W' g t cs :=
 h.grown f (λe=>by have:=j g e.symm;omega)
theorem Ul {B n₀:Nat}{w:World}(hB:n₀<=B){W W':World}{row:Option Nat}(k:n₀<=W.heap.size)(h:nH n₀ w W)(f:W.grownBy W' row)(j:∀r,row=some r->B<=r):nH n₀ w W' :=
 h.trans (zo f k (λr e=>zT hB (j r e)))
theorem Vt {n m l e:Nat}{P:gF}{f:FuncId}{tmps:Y7}{assign body:ff}{w:World}{R:Ending->World->Prop}(h:RoundIn nv n P l f tmps assign body w R):RoundIn (Fence.wide.inRound e) m P l f tmps assign body w R :=
 ⟨h.1,λc cs _=>h.2 c cs (room_wide _)⟩
theorem CX {W:World}{B g o c k:Nat}{b:Y4}(h:qv W B (K4 ⟨g,o,K3⟩) c b)(u:64*k<b.length):qv W B (K4 ⟨g,o+64*k,K3⟩) (kS b.length k) (YJ b k):=by
 have hl:=jZ b k;refine⟨by omega,by unfold kS;omega,(λh=>by cases h),λ_ => ?_⟩;obtain⟨s,o',e,q,hc⟩:=h.pO K5;injection e with e
 injection e with e1 e2
 subst e1 e2;refine⟨g,o+64*k,rfl,q,λj f => ?_⟩;have r:64*k+j<b.length:=by rw[hl] at f;unfold kS at f;omega
 have:=hc (64*k+j) r;rw[mg,this];simp[YJ]
theorem qf.dy {Mu Nu:Nat->Prop}{B n₀:Nat}{X Y:World}(h:qf Mu B X Y){A:Y5}{c:Nat}{l:Y4}(f:qv X n₀ A c l)(r:0<l.length->∀g o,A=some ⟨g,o,K3⟩->¬ Nu g)(hs:∀g,g<n₀->g<B->¬ Nu g->¬ Mu g:=by first|exact λg _ _ h=>h|(intro g h1 h2 s;simp only at *;omega)):qv Y n₀ A c l :=
 ⟨f.le,f.max,f.nil,λhl=>by
  obtain⟨g,o,e,k,hc⟩:=f.pO hl
  exact⟨g,o,e,k,λj q=>h.cell (hc j q) (λhB=>hs g k hB (r hl g o e))⟩⟩
theorem IK {e:Ending}{p q:Prop}(h:(e=Y0 (X3 true)/\p)\/(e=Y0 (X3 false)/\q)):∃r,e=Y0 (X3 r)/\((r=true/\p)\/(r=false/\q)):=by
 rcases h with⟨rfl,h⟩|⟨rfl,h⟩
 .exact⟨true,rfl,.inl ⟨rfl,h⟩⟩
 .exact⟨false,rfl,.inr ⟨rfl,h⟩⟩
section
variable {n₀:Nat}
def Ax (L:Nat)(x:Nat×(Y5×Nat)):Y7:=#[Y1 Q4 (x.1:Int),X1 x.2.1 (kS L x.1) x.2.2]
def sb (b:Y4)(pre:List (Nat×(Y5×Nat)))(x:Nat×(Y5×Nat))(W:World):Prop:=x.1=pre.length/\64*x.1<b.length/\qv W W.heap.size x.2.1 x.2.2 (YJ b x.1)
end
end
section
open Go Go.RowKit Go.Shelf
attribute [local go_sem] Oper.semAt_some
section
variable {F:Fence}{n:Nat}{P:gF}{w:World}
theorem VQ {α : Type}{g:nO}{ps:Array Tmp}{assign body:ff}{Q:mh->gh->World->Prop}{a:gh}
  (aX:F.round=none) (h1:1<=n) {gf:Nat} {lb:Y7} (hg:a.eval g=.func (.func gf) #[] lb) (aK:F.fn gf) (eg:∀args w,(gm gf args).run P w=.ok (.enter gf args) w)
  {encs : α -> Y7} {Mu:Nat->Prop} {Rd:List α -> α -> World->Prop} {S Sp:List α -> Prop} {w0:World} (aY:wV F (n-1) P gf lb encs Mu Rd S Sp w0)
  (aE:nH w0.heap.size w0 w) (aU:∀x,(encs x).size=ps.size)
  (I:List α -> World->Prop) (M:ff->List α -> World->Prop) (H:ZH w.heap.size I) (aB:∀c,ZH w.heap.size (M c)) (aD:∀j x,OwnFrom w.heap.size (λ(_:Unit) W=>Rd j x W)) (h0:I [] w) (As : α -> gh->World->Prop) (aJ:∀x a,OwnFrom w.heap.size (λ(_:Unit) W=>As x a W))
  (aM:∀(l:Nat) (x : α) (W:World) (K:gh->World->Prop),w.heap.size<=W.heap.size->(∀a W',nH W.heap.size W W'->As x a W'->K a W') ->
   assign.wpIn (F.inRound l) (n-1-1) P (Exit.then K (λ_ _ _=>False)) {tmps:=(ps.zip (encs x)).foldl (λt (p,v)=>t.setIfInBounds p v) a.tmps,defers:=[]} W)
  (aN:∀(l:Nat) (j:List α) (x : α) (W:World) (a:gh),w.heap.size<=W.heap.size->I j W->Rd j x W->As x a W->body.wpIn (F.inRound l) (n-1-1) P (Bp Mu w.heap.size I M (j++[x]) W) a W)
  (aO:∀(D:Nat) (xs:List α) (W:World),w.heap.size<=D->S xs->I xs W->W.heap[D]?=some (.deferred (some []))->Q .normal {a with defers:={target:=.collected D,args:=#[]}::a.defers} W)
  (aZ:∀(D:Nat) (c:ff) (j:List α) (W:World),w.heap.size<=D->Sp j->M c j W->W.heap[D]?=some (.deferred (some []))->c.wpIn F n P Q {a with defers:={target:=.collected D,args:=#[]}::a.defers} W) :
  (fz g ps assign body).wpIn F n P Q a w:=by
 refine wpIn_rangeFunc λfn aP => ?_
 rw[aX]
 -- the loop's record, and the world that bears it and the block for deferred calls
 obtain⟨f,G⟩:∃f:LoopState->Option ff->Loop,f=λst pe => {state:=st,pending:=pe,fn,tmps:=a.tmps,params:=ps,assign,body,defers:=w.heap.size}:=⟨_,rfl⟩
 obtain⟨V,N⟩:∃V,(w.alloc (.deferred (some []))).alloc (.loop (f .ready none))=V:=⟨_,rfl⟩;have vL:V.heap[w.heap.size+1]?=some (.loop (f .ready none)):=by
  subst N;have:=mB (w.alloc (.deferred (some []))) (.loop (f .ready none))
  rwa [nG] at this
 have vD:V.heap[w.heap.size]?=some (.deferred (some [])):=by subst N;exact(mT _ _ _ K9).trans (mB w _)
 have vI:I [] V:=by subst N;exact H.alloc _ (H.alloc _ h0)
 have vS:V.heap.size=w.heap.size+2:=by subst N;simp
 have vB:nH w0.heap.size w0 V:=by subst N;exact aE.trans ((((nF _ w).alloc (zG _) _).alloc K9 _).mono aE.size)
 refine⟨w.heap.size+1,[{target:=.collected w.heap.size,args:=#[]}],V,{target:=.fn (.func gf) lb,args:=#[.func (.yield (w.heap.size+1)) #[] #[]]},V,gf,#[.func (.yield (w.heap.size+1)) #[] #[]]++lb,V,?_,?_,?_,?_,λ_=>h1,?_⟩
 .rw[<-N,G];exact run_enterLoop_outer _ _ _ _ _
 .simp only[resolve,hg];simp[go_sem]
 .intro f' aF;simp[Target.leads] at aF;subst aF;exact aK
 .simp[invoke,go_sem,eg]
 have apart:∀{A B:World} {row:Option Nat} {k:Nat} {o:Obj},A.heap[k]?=some o->A.grownBy B row->(∀r,row=some r->V.heap.size<=r)->k<V.heap.size->B.heap[k]?=some o:=λq hg u aG =>
  (hg.block _ (zI.1 q).1 (λe=>by have:=u _ e.symm;omega)).trans q
 refine(aY (w.heap.size+1)
  (λj W=>I j W/\W.heap[w.heap.size+1]?=some (.loop (f .ready none))/\W.heap[w.heap.size]?=some (.deferred (some [])))
  (λj W=>∃c,M c j W/\W.heap[w.heap.size+1]?=some (.loop (f .done (some c)))/\W.heap[w.heap.size]?=some (.deferred (some [])))
  V vB
  (λs A B row hs L u=>⟨H s A B row hs.1 L (λr e=>by have:=u r e;omega),apart hs.2.1 L u K5,apart hs.2.2 L u K5⟩)
  (λs A B row hs L u=>by
   obtain⟨c,hc,hl,q⟩:=hs
   exact⟨c,aB c s A B row hc L (λr e=>by have:=u r e;omega),apart hl L u K5,apart q L u K5⟩)
  ?round ⟨vI,vL,vD⟩).mono ?behind
 case round =>
  rintro j x X ⟨aQ,aA,aT⟩ aW;have aH:w.heap.size+1<X.heap.size:=(zI.1 aA).1;have hy:=run_yield (P:=P) (args:=encs x) aA (by rw[G];exact aU x);rw[G] at hy;refine⟨fn,_,assign,body,hy,roundIn_of_wpIn aP (aM _ x X _ K5 (λa2 W E aI=>⟨_,run_beginRound ((E.block _ aH).trans aA) (by rw[G]),?_⟩))⟩;clear hy;have hl:=(E.block _ aH).trans aA;have q:=(E.block _ (show w.heap.size<X.heap.size by omega)).trans aT;have hi:=H.grow aQ E;have aV:=(aD j x) () X W none aW ⟨E.os,E.tape,E.output,E.size,λk q _=>E.block k q⟩ (λr e=>by cases e);have aG:w.heap.size+1<W.heap.size:=(zI.1 hl).1;have bL:(W.putObj (w.heap.size+1) (.loop {f .ready none with state:=.busy})).heap[w.heap.size+1]?=some (.loop {f .ready none with state:=.busy}):=gn aG;have bD:(W.putObj (w.heap.size+1) (.loop {f .ready none with state:=.busy})).heap[w.heap.size]?=some (.deferred (some [])):=(nP K5).trans q;refine wpIn_mono (aN _ j x _ _ (by simp;omega) (H.putObj _ hi K5) ((aD j x).putObj (s:=()) _ aV K5 hl rfl) ((aJ x a2).putObj (s:=()) _ aI K5 hl rfl)) ?_
  -- the round's end
  have fin:∀(C:Option ff) (U:World),qf (λ_=>True) w.heap.size (W.putObj (w.heap.size+1) (.loop {f .ready none with state:=.busy})) U ->
    (Instr.endRound (w.heap.size+1) C).run P U=.ok (X3 C.isNone) (U.putObj (w.heap.size+1) (.loop (f (if C.isNone then .ready else .done) C))) /\
    U.heap[w.heap.size+1]?=some (.loop {f .ready none with state:=.busy}) /\
    (U.putObj (w.heap.size+1) (.loop (f (if C.isNone then .ready else .done) C))).heap[w.heap.size+1]?=some (.loop (f (if C.isNone then .ready else .done) C)) /\
    (U.putObj (w.heap.size+1) (.loop (f (if C.isNone then .ready else .done) C))).heap[w.heap.size]?=some (.deferred (some [])):=λC U O=>by
   have uL:=O.2 _ _ bL (λh=>by omega);have:=run_endRound (P:=P) C uL;rw[G] at this ⊢;exact⟨this,by rw[G] at uL;exact uL,gn (zI.1 uL).1,(nP K5).trans (O.2 _ _ bD (λh=>by omega))⟩
  have out:∀(c:ff) (U:World),qf (λ_=>True) w.heap.size (W.putObj (w.heap.size+1) (.loop {f .ready none with state:=.busy})) U->M c (j++[x]) U ->
    (∃c',M c' (j++[x]) (U.putObj (w.heap.size+1) (.loop (f .done (some c))))/\(U.putObj (w.heap.size+1) (.loop (f .done (some c)))).heap[w.heap.size+1]?=some (.loop (f .done (some c')))/\(U.putObj (w.heap.size+1) (.loop (f .done (some c)))).heap[w.heap.size]?=some (.deferred (some [])))/\qf (λ_=>True) V.heap.size X (U.putObj (w.heap.size+1) (.loop (f .done (some c)))):=λc U O aS=>by
   obtain⟨_,h3,Z,h5⟩:=fin (some c) U O;refine⟨⟨c,(aB c).putObj _ aS K5,Z,h5⟩,(qf.grow _ _ E).trans ⟨by have:=O.1;simpa using this,λk o q hm => ?_⟩⟩;have T:k≠w.heap.size+1:=λe=>hm K5 trivial
   rw[nP T];exact O.2 k o (by rw[nP T];exact q) (λh=>hm K5)
  rintro e a3 U z;cases e with
  | normal =>
   obtain⟨aC,aR⟩:=z;obtain⟨u,h3,Z,h5⟩:=fin none U aC.any;refine⟨_,_,u,.inl ⟨rfl,⟨H.putObj _ aR K5,Z,h5⟩,(qf.grow _ _ E).trans ⟨by have:=aC.1;simpa using this,λk o q hm => ?_⟩⟩⟩
   by_cases T:k=w.heap.size+1
   .subst T;rw[hl] at q;rw[<-q];exact Z
   .rw[nP T];exact aC.2 k o (by rw[nP T];exact q) (λh=>hm K5)
  | ret=>exact⟨_,_,(fin (some .ret) U z.1).1,.inr ⟨rfl,out .ret U z.1 z.2⟩⟩
  | exit id=>exact⟨_,_,(fin (some (.exit id)) U z.1).1,.inr ⟨rfl,out (.exit id) U z.1 z.2⟩⟩
  | goto t=>exact⟨_,_,(fin (some (.goto t)) U z.1).1,.inr ⟨rfl,out (.goto t) U z.1 z.2⟩⟩
  | panic ch=>exact z.elim
  | outgrown=>exact z.elim
 case behind =>
  rintro e U ⟨⟨v,rfl⟩,(⟨xs,hS,hi,hl,q⟩|⟨j,aL,c,hi,hl,q⟩)⟩
  .have u:=fM (P:=P) hl (by rw[G];simp);rw[G] at u;exact⟨none,_,u,aO _ xs _ (zG _) hS (H.putObj _ hi K5) ((nP K5).trans q)⟩
  .have u:=fM (P:=P) hl (by rw[G];simp);rw[G] at u;exact⟨some c,_,u,aZ _ c j _ (zG _) aL ((aB c).putObj _ hi K5) ((nP K5).trans q)⟩
end
end
section
open Go Go.RowKit xq Go.Shelf
section
variable {F:Fence}{n:Nat}{P:gF}{w w':World}{ops:Array nh}{rest:List nh}{o:nh}{a:gh}{Q:mh->gh->World->Prop}
theorem Qw {v:Value}(k:o.guard=none)(T:nS)(x:nO)(e:o.op=.load T x)(q:(nQ a.eval o).run P w=.ok (.value v) w')(h:mx F n P ops Q rest (a.put o.dst v) w'):mx F n P ops Q (o::rest) a w :=
 fH k λr f=>by unfold Oper.wpIn;refine⟨by simp[eO,e],?_⟩;rw[lR F _ _ (by rw[e];intro c j;cases j),q];exact f _ _ h
theorem QG {v:Value}(k:o.guard=none)(T:nS)(e:o.op=.alloc T)(q:(nQ a.eval o).run P w=.ok (.value v) w')(h:mx F n P ops Q rest (a.put o.dst v) w'):mx F n P ops Q (o::rest) a w :=
 fH k λr f=>by unfold Oper.wpIn;refine⟨by simp[eO,e],?_⟩;rw[lR F _ _ (by rw[e];intro c j;cases j),q];exact f _ _ h
theorem jj (r:o.guard=none)(T:nS)(x y:nO)(e:o.op=.store T x y)(g:Nat){t:nS}{cs cs':Y7}(s:a.eval x=Y9 g)(u:a.eval y=Q0 cs'){m:Nat}(j:yw P T m)(k:za w g t cs)(hn:cs.size=m)
  (hs:cs'.size=cs.size) (h1:∀v∈cs'.toList,v.oneCell'=true) (h:mx F n P ops Q rest (a.put o.dst gQ) (w.setRow g cs')):mx F n P ops Q (o::rest) a w :=
 fH r λz f=>by unfold Oper.wpIn;refine⟨by simp[eO,e],?_⟩;rw[lR F _ _ (by rw[e];intro c q;cases q)];unfold nQ;simp only[e,s,u,Instr.storeAt,lX,gJ,ny,nc,Qy (hn▸j) k hs h1];exact f _ _ h
end
attribute [local go_sem] Oper.semAt_some
def ju (xs:List (Nat×Y4))(k:Nat):Nat×Y4:=xs.getD (xs.length-1-k) (0,qy)
theorem wR (n:Nat)(aI:2<=n)(l s g o c:Nat)(xs:List (Nat×Y4))(hw:Pw xs)(A:Y5)(Z:0<xs.length->A=some ⟨g,o,K3⟩)(aF:xs.length<=c)(hL:xs.length<=1000000)(J G:List Nat->World->Prop)(E:Nat)
  (hY:∀f k W,J f W->(k=f.length/\k<xs.length)->YieldAt nv (n-1) Y3 l #[Y1 Q4 ((xs.length:Int)-1-k),Q0 (kV (ju xs k)).toArray] W λe W' =>
   (e=Y0 (X3 true)/\J (f++[k]) W'/\qf (λ_=>False) E W W')\/(e=Y0 (X3 false)/\G (f++[k]) W'/\qf (λ_=>True) E W W'))
  (W:World) (aC:W.cell? ⟨s,0,K3⟩=some (X1 A xs.length c)) (hr:∀k,(h:k<xs.length)->W.rangeAt g (o+k*65) (kV xs[k])) (X:J [] W) :
  mQ nv n Y3 344 #[.func (.yield l) #[] #[],Y9 (K4 ⟨s,0,K3⟩)] W λe W'=>(∃v,e=Y0 v) /\
   ((∃U,U.length=xs.length/\J U W')\/(∃f,(f.length<=xs.length/\0<f.length)/\G f W')):=by
 have h1:1<=n:=K5
 have aJ:IntKind.i64.wrap ((xs.length:Int)-1)=(xs.length:Int)-1:=zg _;refine gy func344 rfl trivial ?_ rfl;simp only[ntmps344,zR,zK,zY,yB,yC,qC,qD,qO,qG,zQ,zW]
 gi_wp2
 gi_loopw [3] (λi wr=>∃(q:Int) (f:List Nat),i=Y1 Q4 q/\q=(xs.length:Int)-1-f.length/\f.length<=xs.length/\J f wr/\qf (λ_=>False) 0 W wr)
  (λi _=>(intOf i+1).toNat)
 case atStart=>exact⟨(xs.length:Int)-1,[],rfl,by simp,by simp,X,qf.refl _ _ _⟩
 case round =>
  obtain⟨q,f,rfl,hq,hb,H,C⟩:=hrel;have aG:wr.cell? ⟨s,0,K3⟩=some (X1 A xs.length c):=C.cell (p:=⟨s,0,K3⟩) aC (λh=>by simp)
  by_cases aH:0<=q
  .have r:xs.length-1-f.length<xs.length:=K5
   obtain rfl:=Z K5;obtain⟨m,u⟩:∃m:Nat,m=xs.length-1-f.length:=⟨_,rfl⟩;rw[<-u] at r;have aE:q=(m:Int):=K5
   subst aE;have N:wr.rangeAt g (o+m*65) (kV xs[m]):=λj v hj=>C.cell (p:=⟨g,o+m*65+j,K3⟩) (hr m r j v hj) (λh=>by simp)
   have B:(kV xs[m]).length=65:=vT (hw _ (qJ r));obtain⟨fn,tmps,assign,body,T,hR⟩:=hY f f.length wr H ⟨rfl,by omega⟩;have L:ju xs f.length=xs[m]:=by unfold ju;rw[<-u,qT,zM r];rfl
   rw[L,show (xs.length:Int)-1-(f.length:Int)=(m:Int) from by omega] at T;obtain⟨x,O⟩:=Z9 (xs[m]);rw[<-O] at T N B;have aK:IntKind.i64.wrap ((m:Int)-1)=(m:Int)-1:=zg _;have z:=nI hq;have V:=nI B;clear hq O L u B
   gi_wp2_with (refine Qw rfl _ _ rfl (yQ Kc N V.out rfl rfl) ?_)
   refine hR.mono ?_;have I:=z.out;rintro e W3 (⟨rfl,aA,M⟩|⟨rfl,aB,_⟩)
   .have aD:qf (λ_=>False) 0 W W3:=C.trans ⟨M.1,λk o r u=>M.2 k o r (λh=>by simp)⟩;clear I
    gi_wp2
    go_roundw
    case rel=>exact⟨(m:Int)-1,f++[f.length],rfl,by simp;have:=z.out;omega,by simp;have:=z.out;omega,aA,aD⟩
    case measure=>simp[intOf]
   .have hl:(f++[f.length]).length<=xs.length/\0<(f++[f.length]).length:=by simp;omega
    clear I
    gi_wp2
    exact nT (mF rfl _ _ _) rfl ⟨⟨_,rfl⟩,.inr ⟨_,hl,aB⟩⟩
  .obtain⟨hs⟩:Nonempty (f.length=xs.length):=⟨by omega⟩
   gi_wp2
   go_end0;exact⟨⟨_,rfl⟩,.inl ⟨f,hs,H⟩⟩
theorem Ce (n:Nat)(L:2<=n)(e g o c:Nat)(xs:List (Nat×Y4))(N:Pw xs)(A:Y5)(u:0<xs.length->A=some ⟨g,o,K3⟩)(C:xs.length<=c)(B:xs.length<=1000000)(w:World)(z:e<w.heap.size)
  (G:w.cell? e=some (X1 A xs.length c)) (H:0<xs.length->g<w.heap.size) (M:∀k,(h:k<xs.length)->w.rangeAt g (o+k*65) (kV xs[k])) :
  wV nv n Y3 344 #[Y9 e] (λk:Nat=>#[Y1 Q4 ((xs.length:Int)-1-k),Q0 (kV (ju xs k)).toArray]) (λ_=>False)
   (λf k _=>k=f.length/\k<xs.length) (λO=>O.length=xs.length) (λf=>f.length<=xs.length/\0<f.length) w:=λl J r W q _ _ E s =>
 wR n L l e g o c xs N A u C B J r W.heap.size E W ((q.cell (p:=⟨e,0,K3⟩) z).trans G) (λk h j v I=>(q.cell (p:=⟨g,o+k*65+j,K3⟩) (H K5)).trans (M k h j v I)) s
end
section
open Go Go.RowKit xq Go.Shelf
attribute [local go_sem] Oper.semAt_some
theorem Mt (g:Nat->Y4)(xs:List (Nat×Y4))(k:Nat):∀m,m<=xs.length->(∀j,(h:j<xs.length)->j<m->xs[j].1≠k)->laid g (xs.take m) k=g k
 | 0,_,_=>rfl
 | m+1,hm,hno=>by rw[JH g xs m K5];unfold KD;rw[if_neg (λe=>hno m K5 K5 e.symm)];exact Mt g xs k m K5 (λj h f=>hno j h K5)
theorem Mv (g:Nat->Y4)(xs:List (Nat×Y4))(k i:Nat)(hi:i<xs.length)(f:xs[i].1=k):∀m,i+1+m<=xs.length->(∀j,(h:j<xs.length)->i<j->j<i+1+m->xs[j].1≠k)->laid g (xs.take (i+1+m)) k=xs[i].2
 | 0,_,_=>by rw[Nat.add_zero,JH g xs i hi];unfold KD;rw[if_pos f.symm]
 | m+1,hm,hno=>by rw[<-mg,JH g xs (i+1+m) K5];unfold KD;rw[if_neg (λe=>hno (i+1+m) K5 K5 K5 e.symm)];exact Mv g xs k i hi f m K5 (λj h h1 q=>hno j h h1 K5)
theorem DY (xs:List (Nat×Y4))(j:Nat)(h:j<xs.length):ju xs j=xs[xs.length-1-j]:=by
 unfold ju;rw[qT,zM K5];rfl
theorem Cd (g:Nat->Y4)(xs:List (Nat×Y4))(k:Nat)(h:∀j,j<xs.length->(ju xs j).1≠k):laid g xs k=g k:=by
 have:=Mt g xs k xs.length (zG _) (λj f _=>by
  have h1:=h (xs.length-1-j) K5;rw[DY _ _ K5] at h1;have e:xs.length-1-(xs.length-1-j)=j:=K5
  simpa only[e] using h1)
 rwa [List.take_length] at this
theorem EI (g:Nat->Y4)(xs:List (Nat×Y4))(k m:Nat)(r:m<xs.length)(h:∀j,j<m->(ju xs j).1≠k)(q:(ju xs m).1=k):laid g xs k=(ju xs m).2:=by
 rw[DY _ _ r] at q ⊢
 have:=Mv g xs k (xs.length-1-m) K5 q m K5 (λj s h1 h2=>by
  have f:=h (xs.length-1-j) K5;rw[DY _ _ K5] at f;have e:xs.length-1-(xs.length-1-j)=j:=K5
  simpa only[e] using f)
 have e:xs.length-1-m+1+m=xs.length:=K5
 rwa [e,List.take_length] at this
section
variable {w:World}{o:nh}{ρ:nO->Value}
theorem Gc (e:o.op=.alloc 341):(nQ ρ o).run Y3 w=.ok (.value (Y9 w.heap.size)) (w.alloc (Q9 (qy.map b8).toArray 341)):=by
 simp[nQ,e,Instr.alloc,newVar,newRow,go_sem,nM];rfl
theorem SO (T:nS)(x y:nO)(h:o.op=.store T x y)(g:Nat){t:nS}{cs cs':Y7}(j:ρ x=Y9 g)(k:ρ y=Q0 cs'){m:Nat}(e:yw Y3 T m)(f:za w g t cs)(hn:cs.size=m)(hs:cs'.size=cs.size)(h1:∀v∈cs'.toList,v.oneCell'=true):(nQ ρ o).run Y3 w=.ok .skip (w.setRow g cs'):=by
 unfold nQ;simp only[h,j,k,Instr.storeAt,lX,gJ,ny,nc,Qy (hn▸e) f hs h1]
end
theorem sN (t:Y7)(i j:Tmp)(a b:Value):((#[i,j]:Array Tmp).zip #[a,b]).foldl (λt (p,v)=>t.setIfInBounds p v) t=(t.setIfInBounds i a).setIfInBounds j b:=by
 simp
theorem Kq:∀(xs:List (Nat×Y4)) (g:Nat->Y4),(∀m,(g m).length=64)->Pw xs->∀k,(laid g xs k).length=64
 | [],g,hg,_,k=>hg k
 | x::xs,g,hg,hw,k=>Kq xs (KD g x.1 x.2) (λm=>by
   unfold KD;split
   .exact hw x K9
   .exact hg m) (λy e=>hw y (by simp[e])) k
theorem DX {xs:List (Nat×Y4)}(e:Pw xs)(j:Nat):(ju xs j).2.length=64:=by
 unfold ju;rw[qT];cases h:xs[xs.length-1-j]? with
 | none=>decide
 | some x=>exact e x (List.mem_of_getElem? h)
theorem VE {B:Nat}{w V:World}(h:nH B w V)(D:Nat)(o:Obj)(e:B<=D):nH B w (V.putObj D o) :=
 h.trans ⟨rfl,rfl,rfl,by simp,λk f=>nP K5⟩
theorem DW {V:World}{g:Nat}{t:nS}{cs:Y7}(h:za V g t cs)(D:Nat)(o:Obj)(e:g≠D):za (V.putObj D o) g t cs:=(nP e).trans h
abbrev pE (p k hs g6 len c:Nat)(A:Y5)(d m:Value):gh :=
 {tmps:=#[Y9 p,Y1 Q4 (k:Int),gQ,Y9 hs,Y9 (hs+1:Nat),gQ,Y9 g6,Y9 p,Y9 p,Y9 (K4 ⟨p,2,K3⟩),X1 A len c,
   .func (.func 344) #[] #[Y9 (hs+1+1:Nat)],d,m,gQ,gQ,gQ,gQ,gQ,gQ,gQ,gQ,gQ,gQ,gQ,gQ],defers:=[]}
theorem uq (n:Nat)(A:Y5)(len f:Nat)(w:World):mQ nv n Y3 309 #[X1 A len f] w λe w'=>e=Y0 (.func (.func 344) #[] #[Y9 w.heap.size])/\w.alloc (Q9 #[X1 A len f] 112)=w':=by
 refine gy func309 rfl trivial ?_ rfl;simp only[ntmps309,zR,zK,zY,yB,yC,qC,qD,qO,qG,zQ,zW]
 gi_wp2
 go_ret;exact⟨rfl,rfl⟩
theorem Is (n:Nat)(hn:6<=n)(w:World)(p many:Nat)(g:Nat->Y4)(xs:List (Nat×Y4))(left:Int)(stops:Bool)(hD:yN w p many g xs left stops)(hl:xs.length<=1000000)(k:Nat):mQ nv n Y3 262 #[Y9 p,Y1 Q4 (k:Int)] w λe w'=>e=Y0 (Qx (laid g xs k))/\nH w.heap.size w w':=by
 obtain⟨r,A,c,hb,hm,hw,hx⟩:=hD.has;have h1:1<=n:=K5
 obtain⟨W2,T⟩:=Z9 ((w.alloc (Q9 #[Y1 Q4 (k:Int)] 3)).alloc (Q9 (qy.map b8).toArray 341));have aA:nH w.heap.size w W2:=by rw[T];exact((nF _ w).alloc (zG _) _).alloc K9 _
 have s2:W2.heap.size=w.heap.size+1+1:=by rw[T];simp
 have bk:za W2 w.heap.size 3 #[Y1 Q4 (k:Int)]:=by rw[T];exact(za.new w _ _).alloc _
 have bs:za W2 (w.heap.size+1) 341 (qy.map b8).toArray:=by have:=za.new (w.alloc (Q9 #[Y1 Q4 (k:Int)] 3)) 341 (qy.map b8).toArray;rw[nG] at this;rw[T];exact this
 have c2:W2.cell? ⟨p,2,K3⟩=some (X1 A xs.length c):=by rw[aA.cell (p:=⟨p,2,K3⟩) hb.lt,hb.cell];rfl
 have aG:=nI T;refine callsIn_of_wp_marks func262 rfl trivial ?_ rfl;simp only[ntmps262,zR,zK,zY,yB,yC,qC,qD,qO,qG,zQ,zW];clear T
 gi_wp2_with (first
  |(refine QG rfl _ rfl (Gc rfl) ?_;rw[nG,<-aG.out])
  |(refine⟨trivial,?_⟩;gi_at_call 309;refine(uq (n-1) _ _ _ _).mono ?_;rintro e w' ⟨rfl,rfl⟩))
 have aT:=hx.le;obtain⟨s,M,hA⟩:∃s M,0<xs.length->A=some ⟨s,M,K3⟩/\s<w.heap.size:=by
  by_cases h0:0<xs.length
  .obtain⟨s,M,e,hg,_⟩:=hx.pO h0;exact⟨s,M,λ_=>⟨e,hg⟩⟩
  .exact⟨0,0,λh=>absurd h h0⟩
 have aW:∀j,(h:j<xs.length)->w.rangeAt s (M+j*65) (kV xs[j]):=λj h=>by obtain⟨e,hg⟩:=hA K5;subst e;exact SK.elem ⟨hw,hx⟩ j h
 obtain⟨W4,H⟩:=Z9 (W2.alloc (Q9 #[X1 A xs.length c] 112));have aI:nH w.heap.size w W4:=by rw[H];exact aA.alloc aA.size _
 have s4:W4.heap.size=w.heap.size+1+1+1:=by rw[H];simp[s2]
 have aL:za W4 w.heap.size 3 #[Y1 Q4 (k:Int)]:=by rw[H];exact bk.alloc _
 have aM:za W4 (w.heap.size+1) 341 (qy.map b8).toArray:=by rw[H];exact bs.alloc _
 have aR:W4.cell? (w.heap.size+1+1:Nat)=some (X1 A xs.length c):=by rw[H,<-s2];exact(za.new W2 112 #[X1 A xs.length c]).boxed
 rw[<-H];have aU:w.cell? p=some (Q1 (some r)):=by rw[hb.cell];rfl
 have aV:=hb.lt;clear H bk bs c2 aG s2 aA;refine VQ rfl h1 (gf:=344) (lb:=#[Y9 (w.heap.size+1+1:Nat)]) rfl trivial (zb.eo func344)
  (Ce (n-1) K5 (w.heap.size+1+1) s M c xs hw A (λh=>(hA h).1) aT hl W4 K5 aR (λh=>by have:=(hA h).2;omega) (λj h i v hi=>(aI.cell (p:=⟨s,M+j*65+i,K3⟩) (hA K5).2).trans (aW j h i v hi))) (nF _ _) (λ_=>rfl)
  (λf V=>nH w.heap.size w V/\za V w.heap.size 3 #[Y1 Q4 (k:Int)]/\za V (w.heap.size+1) 341 (qy.map b8).toArray/\(∀j,j<f.length->(ju xs j).1≠k))
  (λcd _ V=>cd=.ret/\nH w.heap.size w V/\za V (w.heap.size+1) 341 ((laid g xs k).map b8).toArray)
  ?own ?own2 ?ownR ⟨aI,aL,aM,λj h=>by simp at h⟩
  (λj a V=>∃q,a=pE p k w.heap.size q xs.length c A (Y1 Q4 ((xs.length:Int)-1-j)) (Q0 (kV (ju xs j)).toArray)/\za V q 366 (kV (ju xs j)).toArray)
  ?ownA ?assign ?body ?done ?stop
 case own =>
  rintro f X Y row ⟨h1,h2,h3,h4⟩ z C;exact⟨Ul (B:=W4.heap.size) K5 h1.size h1 z C,h2.oF K5 z C,h3.oF K5 z C,h4⟩
 case own2 =>
  rintro cd f X Y row ⟨e,h1,h3⟩ z C;exact⟨e,Ul (B:=W4.heap.size) K5 h1.size h1 z C,h3.oF K5 z C⟩
 case ownR=>exact λf x=>ownFrom_pure _ _
 case ownA =>
  rintro j a ⟨⟩ X Y row ⟨q,e,h⟩ z C;refine⟨q,e,h.grown z (λe2 => ?_)⟩;obtain⟨_,o,ho,hc⟩:=C q e2.symm;have h':X.heap[q]?=some (Q9 (kV (ju xs j)).toArray 366 (0,0)):=h;rw[h'] at ho;cases ho;cases hc
 case assign =>
  intro l1 j V K hV Z;have U:=DX hw j;generalize ju xs j=x at *;have aH:=vT U;have G:(kV x).toArray.size=(kV (0,qy)).toArray.size:=by rw[zR,zR,aH];rfl
  have n0:=za.new V 366 (kV (0,qy)).toArray;have nb:=n0.setRow (kV x).toArray;have aO:nH V.heap.size V ((V.alloc (Q9 (kV (0,qy)).toArray 366)).setRow V.heap.size (kV x).toArray):=zf ((nF _ V).alloc (zG _) _) (zG _) _;have N:=nI G;clear G aH U;rw[sN];simp only[zA,zF,zE]
  gi_wp2_with (first
   |(refine QG rfl _ rfl (MX rfl) ?_)
   |(refine jj rfl 366 (.tmp 6) (.tmp 13) rfl V.heap.size rfl rfl Kc n0 J0 N.out (Kl _) ?_))
  exact Z _ _ aO ⟨V.heap.size,rfl,nb⟩
 case body =>
  rintro l1 f j V a aZ ⟨hB,aC,E,L⟩ ⟨rfl,hj⟩ ⟨q,rfl,h6⟩;have U:=DX hw f.length;have I:=EI g xs k f.length hj L;have aB:(ju xs f.length).1≠k->∀j,j<(f++[f.length]).length->(ju xs j).1≠k:=λh j hj=>by
   simp at hj
   by_cases e:j=f.length
   .subst e;exact h
   .exact L j K5
  generalize ju xs f.length=x at *;obtain⟨x1,x2⟩:=x;simp only at U I aB;have d0:V.cell? ⟨q,0,K3⟩=K4 (Y1 Q4 (x1:Int)):=by rw[h6.cell];rfl
  have ck:V.cell? w.heap.size=K4 (Y1 Q4 (k:Int)):=aC.boxed;have dr:V.rangeAt q 1 (x2.map b8):=λj v hj=>by rw[h6.cell];simpa[kV,Nat.add_comm] using hj
  have aD:(x2.map b8).length=64:=by rw[qH];exact U
  have G:(x2.map b8).toArray.size=(qy.map b8).toArray.size:=by rw[zR,aD];rfl
  have aK:=nI aD;have N:=nI G;have aY:=nI L;clear aD G U L
  by_cases aF:x1=k
  .subst aF;have aS:=nI (I rfl);clear I aB
   gi_wp2_with (first
    |(refine Qw rfl _ _ rfl (yQ jH dr aK.out rfl rfl) ?_)
    |(refine jj rfl _ (.tmp 4) (.tmp 19) rfl (w.heap.size+1) rfl rfl jH E J0 N.out (Zt _) ?_))
   rw[aS.out];exact⟨⟨by simp,λk o hk hm=>(ng _ _ _ _ (by intro e;subst e;exact hm K5 trivial)).trans hk⟩,rfl,zf hB K5 _,E.setRow _⟩
  .have a0:¬ (x1:Int)=(k:Int):=K5
   have aQ:=nI (aB aF);clear I aB aF
   gi_wp2
   exact⟨qf.refl _ _ _,hB,aC,E,aQ.out⟩
 case done =>
  rintro D ys V hD hS ⟨hB,aC,E,L⟩ Z;have I:=Cd g xs k (by rw[<-hS];exact L);have aJ:(g k).length=64:=hm.len k;have O:V.drew.cell? p=some (Q1 (some r))/\V.drew.cell? w.heap.size=K4 (Y1 Q4 (k:Int))/\kv V.drew r g:=⟨(hB.drew.cell (p:=⟨p,0,K3⟩) aV).trans aU,aC.boxed,hm.grow hB.drew⟩;have G:((g k).map b8).toArray.size=(qy.map b8).toArray.size:=by rw[zR,qH,aJ];rfl
  have N:=nI G;have HF:=nI I;clear G I aJ L hS
  gi_wp2
  refine wpIn_wide.2 ?_;refine wp_region_noPanic ?_;refine zb.st (λW=>W.cell? p=some (Q1 (some r))/\W.cell? w.heap.size=K4 (Y1 Q4 (k:Int))/\kv W r g) 6 ?_;refine zb.q 0 (Y9 p) O ?_;refine zb.q 1 (Y9 p) O ?_;refine zb.q 2 (Y9 p) O ?_;refine zb.t 3 (Q1 (some r)) rfl O (λW u=>by have e:=u.1;go_simp) ?_;refine zb.t 4 (Y1 Q4 (k:Int)) rfl O (λW u=>by have e:=u.2.1;go_simp) ?_;simp only[Z8];refine zb.t 5 (Qx (g k)) rfl O (λW u=>Cw u.2.2 rfl rfl rfl) ?_;simp only[Z8];refine zb.n 6 ?_;refine zb.opS (w':=V.drew.setRow (w.heap.size+1) ((g k).map b8).toArray) rfl rfl (SO _ (.tmp 4) (.tmp 25) rfl (w.heap.size+1) rfl rfl jH E J0 N.out (Zt _)) ⟨λh=>absurd rfl h,?_⟩;simp only[zD,zC,zB,nJ];refine zb.dn ?_;have aX:za (V.drew.setRow (w.heap.size+1) ((g k).map b8).toArray) (w.heap.size+1) 341 ((laid g xs k).map b8).toArray:=by rw[HF.out];exact za.setRow (w:=V.drew) E _
  have aN:nH w.heap.size w (V.drew.setRow (w.heap.size+1) ((g k).map b8).toArray):=zf hB.drew K5 _;have aP:(V.drew.setRow (w.heap.size+1) ((g k).map b8).toArray).heap[D]?=some (.deferred (some [])):=(ng _ _ _ _ K5).trans Z;have aE:((laid g xs k).map b8).toArray.size=64:=by rw[HF.out,N.out];rfl
  generalize V.drew.setRow (w.heap.size+1) ((g k).map b8).toArray=V5 at *;simp only[NoPanic]
  gi_wp2
  refine⟨by simp,.inl ⟨_,_,rfl,mV aP,?_⟩⟩;exact⟨_,yL 4 rfl rfl jH (DW aX D _ K5) aE,rfl,VE aN D _ K5⟩
 case stop =>
  rintro D cd f V hD hS ⟨rfl,hB,E⟩ Z;have aE:((laid g xs k).map b8).toArray.size=64:=by rw[zR,qH,Kq xs g hm.len hw k]
  gi_wp2
  refine⟨by simp,.inl ⟨_,_,rfl,mV Z,?_⟩⟩;exact⟨_,yL 4 rfl rfl jH (DW E D _ K5) aE,rfl,VE hB D _ K5⟩
end
section
open Go Go.RowKit xq
section
variable (w:World)(p many:Nat)(g:Nat->Y4)(xs:List (Nat×Y4))(left:Int)(stops:Bool)
theorem uI (z:yN w p many g xs left stops)(hs:(stops&&left==0)=false)(k:Nat)(C:k<many)(h f:World)(s:nH w.heap.size w h)(j:nH h.heap.size h f)
  (q:za h w.heap.size 75 #[Y9 (K4 ⟨p,0,K3⟩)]) (b1:za h (w.heap.size+1) 3 #[Y1 Q4 (k:Int)]) :
  nK Y3 230 #[Y9 (K4 ⟨p,0,K3⟩),X1 f.heap.size 2 2] (f.alloc (Q9 #[.func (.func 308) #[] #[Y9 (w.heap.size+1:Nat),Y9 w.heap.size],Y1 Q4 4,.func (.func 293) #[Y9 (K4 ⟨p,0,K3⟩)] #[],Y1 Q4 140] 322))
   λe w'=>e=Y0 (Y1 Q4 0)/\nH f.heap.size f w':=by
 have h1:=z.grow (s.trans (j.mono s.size));have r:=Fy f p many g xs left stops h1 (YL w.heap.size (w.heap.size+1) many k) (Ql p left stops)
  (RI f p many g xs left stops k _ _ h1 (q.below j q.lt) (b1.below j b1.lt)) (Dc f p many g xs left stops h1)
 have hf:vm [YL w.heap.size (w.heap.size+1) many k,Ql p left stops]=0:=by
  have u:¬ many<=k:=K5
  have B:(Ql p left stops).b=false:=hs;simp[vm,YL,u,B]
 rw[hf] at r;exact r
theorem Ls (C:yN w p many g xs left stops)(hs:(stops&&left==0)=false)(k:Nat)(hk:k<many)(hl:xs.length<=1000000):nK Y3 197 #[Y9 p,Y1 Q4 (k:Int)] w λe w'=>∃q,e=Y0 (Q2 #[X1 (K4 ⟨q,0,K3⟩) 64 64,Y1 Q4 0])/\qv w' w'.heap.size (K4 ⟨q,0,K3⟩) 64 (laid g xs k)/\nH w.heap.size w w':=by
 have O:=UG w p k;have M:=λu G f s U V=>uI w p many g xs left stops C hs k hk u G f s U V
 have H:∀W,nH w.heap.size w W->nK Y3 262 #[Y9 p,Y1 Q4 (k:Int)] W λe w'=>e=Y0 (Qx (laid g xs k))/\nH W.heap.size W w':=λW hW=>callsIn_wide.1 (Is 6 (zG _) W p many g xs left stops (C.grow hW) hl k)
 have E:(laid g xs k).length=64:=by obtain⟨r,A,c,hb,hm,hw,hx⟩:=C.has;exact Kq xs g hm.len hw k
 generalize laid g xs k=y at *;have I:(y.map b8).toArray.size=(qy.map b8).toArray.size:=by rw[zR,qH,E];rfl
 have N:=nI E;have T:=nI I;unfold Qx at H;clear hs E I
 go_enter func197,ntmps197
 go_wp2_with (first
  |(go_at_call 261;refine O.mono ?_;rintro e u ⟨rfl,s1,s2,f⟩)
  |(go_at_call 231;refine(KF u p).mono ?_;rintro e G ⟨rfl,s⟩)
  |(go_at_call 230;refine(M u G f s s1 s2).mono ?_;rintro e w3 ⟨rfl,X⟩;have z:nH w.heap.size w w3:=f.trans ((s.trans (X.mono s.size)).mono f.size))
  |(go_at_call 262;refine(H _ z).mono ?_;rintro e w4 ⟨rfl,Z⟩;have B:nH w.heap.size w w4:=z.trans (Z.mono z.size);have L:=za.new w4 341 (qy.map b8).toArray)
  |(refine zp rfl (Gc rfl) ?_)
  |(refine vC jH L T.out (Zt _) ?_))
 refine nT (nj rfl _ _ _) rfl ?_;have nb:=L.setRow (y.map b8).toArray;have aA:nH w.heap.size w ((w4.alloc (Q9 (qy.map b8).toArray 341)).setRow w4.heap.size (y.map b8).toArray):=zf (B.alloc B.size _) B.size _;refine⟨w4.heap.size,rfl,⟨by rw[N.out];exact zG _,by omega,(λh=>by cases h),λ_=>⟨w4.heap.size,0,rfl,nb.lt,λj hj => ?_⟩⟩,aA⟩;rw[nb.cell,qA];simp[hj,b8]
end
section
variable (fr pg n:Int)
theorem Gs (W:World)(g:Nat)(f:za W g 74 #[Y1 Q4 fr,Y1 Q4 pg])(h1:1<=fr/\fr<=2000)(h2:1<=pg/\pg<=2000):nK Y3 162 #[Y9 g] W λe w'=>e=Y0 (Y1 Q4 (2+9*fr+8*pg))/\W=w':=by
 have r:W.cell? g=K4 (Y1 Q4 fr):=by rw[f.cell];rfl
 have s:W.cell? ⟨g,1,K3⟩=K4 (Y1 Q4 pg):=by rw[f.cell];rfl
 have h:IntKind.i64.wrap (9*fr)=9*fr:=zg _;have j:IntKind.i64.wrap (2+9*fr)=2+9*fr:=zg _;have k:IntKind.i64.wrap (8*pg)=8*pg:=zg _;have q:IntKind.i64.wrap (2+9*fr+8*pg)=2+9*fr+8*pg:=zg _
 go_enter func162,ntmps162
 go_wp2;go_ret;exact⟨rfl,rfl⟩
theorem DD (W:World)(g:Nat)(f:za W g 3 #[Y1 Q4 n])(h1:0<=n/\n<2000):nK Y3 236 #[Y9 g] W λe w'=>e=Y0 (Y1 Q4 (2+9*n))/\W=w':=by
 have k:W.cell? g=K4 (Y1 Q4 n):=by rw[f.cell];rfl
 have h:IntKind.i64.wrap (9*n)=9*n:=zg _;have j:IntKind.i64.wrap (2+9*n)=2+9*n:=zg _
 go_enter func236,ntmps236
 go_wp2;go_ret;exact⟨rfl,rfl⟩
theorem MH (W:World)(g f:Nat)(h:za W g 74 #[Y1 Q4 fr,Y1 Q4 pg])(j:za W f 3 #[Y1 Q4 n])(h1:1<=fr/\fr<=2000)(h2:0<=n/\n<2000):nK Y3 259 #[Y9 g,Y9 f] W λe w'=>e=Y0 (Y1 Q4 (2+9*fr+8*n))/\W=w':=by
 have u:W.cell? g=K4 (Y1 Q4 fr):=by rw[h.cell];rfl
 have z:W.cell? f=K4 (Y1 Q4 n):=by rw[j.cell];rfl
 have k:IntKind.i64.wrap (9*fr)=9*fr:=zg _;have q:IntKind.i64.wrap (2+9*fr)=2+9*fr:=zg _;have r:IntKind.i64.wrap (8*n)=8*n:=zg _;have s:IntKind.i64.wrap (2+9*fr+8*n)=2+9*fr+8*n:=zg _
 go_enter func259,ntmps259
 go_wp2;go_ret;exact⟨rfl,rfl⟩
def ur (r e:Int):Value:=Q2 #[Y1 Q4 (if e=0 then r else 0),Y1 Q4 e]
theorem Dt (w:World):nK Y3 101 #[Q0 #[Y1 Q4 fr,Y1 Q4 pg]] w λe w'=>e=Y0 (ur (2+9*fr+8*pg) (Mk (yz fr pg) 0 1))/\nH w.heap.size w w':=by
 have h:nH w.heap.size w (w.alloc (Q9 #[Y1 Q4 fr,Y1 Q4 pg] 74)):=(nF _ w).alloc (zG _) _;have k:=za.new w 74 #[Y1 Q4 fr,Y1 Q4 pg];have H:=Zd fr pg 0 1 (2+9*fr+8*pg) 162 #[Y9 w.heap.size] (zb.eo func162) (w.alloc (Q9 #[Y1 Q4 fr,Y1 Q4 pg] 74))
  (λf _ _ W j=>Gs fr pg W _ (k.below j K9) ((vQ fr pg).1 f).1 ((vQ fr pg).1 f).2)
 unfold ur;generalize Mk (yz fr pg) 0 1=e at *;generalize (if e=0 then 2+9*fr+8*pg else 0)=v at *
 go_enter func101,ntmps101
 go_wp2_with fail
 refine H.mono ?_;rintro e w' ⟨rfl,hB⟩;go_wp2;refine nT (nj rfl _ _ _) rfl ?_;exact⟨rfl,h.trans (hB.mono K9)⟩
theorem ML (w:World):nK Y3 175 #[Q0 #[Y1 Q4 fr,Y1 Q4 pg],Y1 Q4 n] w λe w'=>e=Y0 (ur (2+9*n) (Mk (yz fr pg) n fr))/\nH w.heap.size w w':=by
 have h:nH w.heap.size w ((w.alloc (Q9 #[Y1 Q4 fr,Y1 Q4 pg] 74)).alloc (Q9 #[Y1 Q4 n] 3)):=((nF _ w).alloc (zG _) _).alloc K9 _;have f:=za.new (w.alloc (Q9 #[Y1 Q4 fr,Y1 Q4 pg] 74)) 3 #[Y1 Q4 n];rw[nG] at f;have H:=Zd fr pg n fr (2+9*n) 236 #[Y9 (w.heap.size+1:Nat)] (zb.eo func236) ((w.alloc (Q9 #[Y1 Q4 fr,Y1 Q4 pg] 74)).alloc (Q9 #[Y1 Q4 n] 3))
  (λk q hn W j=>DD n W _ (f.below j K9) (by have:=(vQ fr pg).1 k;omega))
 unfold ur;generalize Mk (yz fr pg) n fr=e at *;generalize (if e=0 then 2+9*n else 0)=v at *
 go_enter func175,ntmps175
 go_wp2_with fail
 refine H.mono ?_;rintro e w' ⟨rfl,hB⟩;go_wp2;refine nT (nj rfl _ _ _) rfl ?_;exact⟨rfl,h.trans (hB.mono (by simp;omega))⟩
theorem FG (w:World):nK Y3 195 #[Q0 #[Y1 Q4 fr,Y1 Q4 pg],Y1 Q4 n] w λe w'=>e=Y0 (ur (2+9*fr+8*n) (Mk (yz fr pg) n pg))/\nH w.heap.size w w':=by
 have k:nH w.heap.size w ((w.alloc (Q9 #[Y1 Q4 fr,Y1 Q4 pg] 74)).alloc (Q9 #[Y1 Q4 n] 3)):=((nF _ w).alloc (zG _) _).alloc K9 _;have h:=za.new (w.alloc (Q9 #[Y1 Q4 fr,Y1 Q4 pg] 74)) 3 #[Y1 Q4 n];have q:=(za.new w 74 #[Y1 Q4 fr,Y1 Q4 pg]).alloc (Q9 #[Y1 Q4 n] 3);rw[nG] at h;have H:=Zd fr pg n pg (2+9*fr+8*n) 259 #[Y9 w.heap.size,Y9 (w.heap.size+1:Nat)] (zb.eo func259) ((w.alloc (Q9 #[Y1 Q4 fr,Y1 Q4 pg] 74)).alloc (Q9 #[Y1 Q4 n] 3))
  (λj r hn W f=>MH fr pg n W _ _ (q.below f (by simp;omega)) (h.below f K9) (by have:=(vQ fr pg).1 j;omega) (by have:=(vQ fr pg).1 j;omega))
 unfold ur;generalize Mk (yz fr pg) n pg=e at *;generalize (if e=0 then 2+9*fr+8*n else 0)=v at *
 go_enter func195,ntmps195
 go_wp2_with fail
 refine H.mono ?_;rintro e w' ⟨rfl,hB⟩;go_wp2;refine nT (nj rfl _ _ _) rfl ?_;exact⟨rfl,k.trans (hB.mono (by simp;omega))⟩
end
def ZC (d:Y5)(fr pg:Int)(sr ep:Nat)(sz:Int)(A:Y5)(n c:Nat):Y7:=#[Y9 d,Y1 Q4 fr,Y1 Q4 pg,Y1 Q6 (sr:Int),Y1 Q6 (ep:Int),Y1 Q4 sz,X1 A n c]
section
variable {w:World}{l d:Nat}{fr pg:Int}{sr ep:Nat}{sz:Int}{A:Y5}{n c:Nat}
theorem Zn (f:za w l 171 (ZC (K4 ⟨d,0,K3⟩) fr pg sr ep sz A n c)):nK Y3 179 #[Y9 l] w λe w'=>e=Y0 (X3 false)/\w=w':=by
 have c0:w.cell? l=K4 (Y9 d):=by rw[f.cell];rfl
 go_enter func179,ntmps179
 go_wp2;go_ret;exact⟨rfl,rfl⟩
theorem PF (f:za w l 171 (ZC (K4 ⟨d,0,K3⟩) fr pg sr ep sz A n c)):nK Y3 178 #[Y9 l] w λe w'=>e=Y0 (Y9 d)/\w=w':=by
 have h:=Zn f;have c0:w.cell? l=K4 (Y9 d):=by rw[f.cell];rfl
 go_enter func178,ntmps178
 go_wp2_with (go_at_call 179;refine h.mono ?_;rintro e w' ⟨rfl,rfl⟩)
 go_ret;exact⟨rfl,rfl⟩
theorem PB (f:za w l 171 (ZC (K4 ⟨d,0,K3⟩) fr pg sr ep sz A n c)):nK Y3 108 #[Y9 l] w λe w'=>e=Y0 (Y1 Q4 sz)/\w=w':=by
 have h:=Zn f;have c5:w.cell? ⟨l,5,K3⟩=K4 (Y1 Q4 sz):=by rw[f.cell];rfl
 go_enter func108,ntmps108
 go_wp2_with (go_at_call 179;refine h.mono ?_;rintro e w' ⟨rfl,rfl⟩)
 go_ret;exact⟨rfl,rfl⟩
end
section
variable {w:World}{v:Value}
end

theorem vE (w:World)(p:Nat)(cs:Y7):w.grownBy (w.setRow p cs) (some p):=⟨rfl,rfl,rfl,by simp[World.setRow],λk _ f=>ng w p k cs (λe=>f (by rw[e]))⟩
section
variable (w:World)(p many:Nat)(g:Nat->Y4)(xs:List (Nat×Y4))(left:Int)(stops:Bool)
end
theorem AN (g:Nat->Y4)(xs ys:List (Nat×Y4)):laid g (xs++ys)=laid (laid g xs) ys:=by unfold laid;rw[List.foldl_append]
theorem AM (g:Nat->Y4)(xs:List (Nat×Y4))(a:Nat)(l:Y4)(k:Nat):laid g (xs++[(a,l)]) k=if k=a then l else laid g xs k:=by rw[AN];rfl
section
variable {ρ:nO->Value}{w:World}{o:nh}{x y:nO}
end
structure re where
 f:Nat
 bd:Y7
 lb:Y7
def re.val (x:re):Value:=.func (.func x.f) x.bd x.lb
theorem UJ (w:World)(g c:Nat)(fs:List re)(I:Nat->World->Prop)(R:Int->World->Prop)(hl:fs.length<=100)
  (B:∀(k:Nat) (s:k<fs.length) W,I k W->W.cell? ⟨g,k,K3⟩=some fs[k].val)
  (q:∀(k:Nat) (s:k<fs.length) W,I k W->(∀args W,(gm fs[k].f args).run Y3 W=.ok (.enter fs[k].f args) W)/\nK Y3 fs[k].f (fs[k].bd++fs[k].lb) W λe w'=>(e=Y0 (Y1 Q4 0)/\I (k+1) w')\/∃x:Int,x≠0/\e=Y0 (Y1 Q4 x)/\R x w')
  (E:I 0 w) :
  nK Y3 170 #[X1 g fs.length c] w λe w'=>(e=Y0 (Y1 Q4 0)/\I fs.length w')\/∃x:Int,x≠0/\e=Y0 (Y1 Q4 x)/\R x w':=by
 go_enter func170,ntmps170
 go_wp2
 go_loopw [8] (λi wr=>∃k:Nat,k<=fs.length/\i=Y1 Q4 (k:Int)/\I k wr) (λi _=>fs.length-(intOf i).toNat)
 case atStart=>exact⟨0,by omega,rfl,E⟩
 case round =>
  obtain⟨k,s,rfl,h⟩:=hrel
  by_cases u:k<fs.length
  .have hc:=B k u wr h;obtain⟨r,j⟩:=q k u wr h;obtain⟨x,C⟩:=Z9 (fs[k]);rw[<-C] at hc r j;have H:IntKind.i64.wrap ((k:Int)+1)=(k:Int)+1:=zg _;obtain⟨N,M,O⟩:=x;unfold re.val at hc;simp only at hc r j;clear C q B;go_wp2;refine j.mono ?_;rintro e L (⟨rfl,h1⟩|⟨z,G,rfl,h1⟩)
   .go_wp2
    go_roundw
    case rel=>exact⟨k+1,by omega,by simp,h1⟩
    case measure=>simp[intOf];omega
   .go_wp2;go_ret;exact .inr ⟨z,G,rfl,h1⟩
  .obtain rfl:k=fs.length:=K5
   go_wp2;go_ret;exact .inl ⟨rfl,h⟩
def Jm (G:Nat->Y4)(at_:Nat):Nat->Y4
 | 0=>[]
 | m+1=>Jm G at_ m++G (at_+m)
theorem Yr {G:Nat->Y4}(e:∀k,(G k).length=64)(at_:Nat):∀m,(Jm G at_ m).length=64*m
 | 0=>rfl
 | m+1=>by
  show (Jm G at_ m++G (at_+m)).length=_
  rw[zH,Yr e at_ m,e];omega
theorem Nr {w:World}{p many:Nat}{g:Nat->Y4}{xs:List (Nat×Y4)}{left:Int}{stops:Bool}(e:yN w p many g xs left stops)(k:Nat):(laid g xs k).length=64:=by
 obtain⟨r,A,c,j,f,h,q⟩:=e.has;exact Kq xs g f.len h k
theorem SX (w:World)(l d many:Nat)(g:Nat->Y4)(xs:List (Nat×Y4))(left:Int)(stops:Bool)(j:yN w d many g xs left stops)(hs:(stops&&left==0)=false)(hl:xs.length<=1000000)(hc:w.cell? l=K4 (Y9 d))(U:l<w.heap.size)(at_ m:Nat)(X:at_+m<=many)(aB:many<=1000000):nK Y3 164 #[Y9 l,Y1 Q4 (at_:Int),Y1 Q4 (m:Int)] w λe w'=>∃A c,e=Y0 (Q2 #[X1 A (64*m) c,Y1 Q4 0])/\qv w' w'.heap.size A c (Jm (laid g xs) at_ m)/\nH w.heap.size w w':=by
 have r:=Nr j;have s:∀(k:Nat) (W:World),k<many->nH w.heap.size w W->nK Y3 197 #[Y9 d,Y1 Q4 (k:Int)] W λe w'=>∃q z,Hid (z=Value.slice (K4 ⟨q,0,K3⟩) 64 64)/\e=Y0 (Q2 #[z,Y1 Q4 0])/\qv w' w'.heap.size (K4 ⟨q,0,K3⟩) 64 (laid g xs k)/\nH W.heap.size W w':=λk W H hB=>(Ls W d many g xs left stops (j.grow hB) hs k H hl).mono λe w' ⟨q,h1,h2,M⟩=>⟨q,_,nI rfl,h1,h2,M⟩
 generalize laid g xs=G at *;clear j
 go_enter func164,ntmps164
 go_wp2
 go_loopw [12,6] (λi v wr=>∃k:Nat,k<=m/\i=Y1 Q4 (k:Int)/\yY wr w.heap.size v (Jm G at_ k)/\nH w.heap.size w wr) (λi _ _=>m-(intOf i).toNat)
 case atStart=>exact⟨0,by omega,rfl,yY.nil _ _,nF _ _⟩
 case round =>
  obtain⟨k,H,rfl,own,hB⟩:=hrel
  by_cases aA:k<m
  .have Z:wr.cell? l=K4 (Y9 d):=(hB.cell (p:=⟨l,0,K3⟩) U).trans hc;have O:=s (at_+k) wr K5 hB;have aC:IntKind.i64.wrap ((at_:Int)+(k:Int))=((at_+k:Nat):Int):=by rw[zg _];omega
   have aD:IntKind.i64.wrap ((k:Int)+1)=(k:Int)+1:=zg _;have f:=Yr r at_ k;have E:=r (at_+k);have I:=nI f;have B:=nI E;clear s f E
   go_wp2_with (first
    |(go_at_call 197;refine O.mono ?_;rintro e w2 ⟨q,z,L,rfl,u,C⟩;have own2:=qn own C;have h:=hB.trans (C.mono hB.size))
    |(at_builtin;refine GF rfl (.tmp 29) (.tmp 30) rfl w.heap.size u6 (Jm G at_ k) rfl own2 _ (K4 ⟨q,0,K3⟩) 64 (G (at_+k)) (by rw[B.out];exact L.out) u (by rw[I.out,B.out];omega) h.size ?_;intro v3 w3 V T;have N:=h.trans (zo T h.size (zj own2))))
   go_roundw
   case rel=>exact⟨k+1,by omega,by simp,V,N⟩
   case measure=>simp[intOf];omega
  .obtain rfl:k=m:=K5
   obtain⟨A,c,rfl,u⟩:=own.inB;have f:=Yr r at_ k;rw[f];clear s;go_wp2;exact nT (nj rfl _ _ _) rfl ⟨A,c,rfl,u,hB⟩
end
section
open Go Go.RowKit Go.Shelf
attribute [local go_sem] Oper.semAt_some
def wU:Obj->Prop
 | Q9 cs _ fr=>cs.size<=64/\fr=(0,0)
 | .loop _=>True
 | .deferred _=>True
 | _=>False
def JB {β : Type}(B:Nat)(I : β -> World->Prop):Prop:=∀s X Y row,I s X->X.grownBy Y row->(∀r,row=some r->B<=r/\∃o:Obj,X.heap[r]?=some o/\wU o)->I s Y
theorem JB.grow {β : Type}{B:Nat}{I : β -> World->Prop}(h:JB B I){s : β}{X Y:World}(hs:I s X)(f:nH X.heap.size X Y):I s Y:=h s X Y none hs ⟨f.os,f.tape,f.output,f.size,λk j _=>f.block k j⟩ (λr e=>by cases e)
theorem JB.alloc {β : Type}{B:Nat}{I : β -> World->Prop}(h:JB B I){s : β}{X:World}(o:Obj)(hs:I s X):I s (X.alloc o):=h.grow hs ((nF _ X).alloc (zG _) _)
theorem JB.drew {β : Type}{B:Nat}{I : β -> World->Prop}(h:JB B I){s : β}{X:World}(hs:I s X):I s X.drew:=h.grow hs (nF _ X).drew
theorem JB.putObj {β : Type}{B:Nat}{I : β -> World->Prop}(h:JB B I){s : β}{X:World}{l:Nat}{o':Obj}(o:Obj)(hs:I s X)(hl:B<=l)(j:X.heap[l]?=some o')(f:wU o'):I s (X.putObj l o) :=
 h s X _ (some l) hs (grownBy_putObj' X l o) (λr e=>by cases e;exact⟨hl,_,j,f⟩)
theorem JB.setCell {β : Type}{B:Nat}{I : β -> World->Prop}(h:JB B I){s : β}{X:World}{p:nN}{t:nS}{cs:Y7}(v:Value)(hs:I s X)(hl:B<=p.block)(f:za X p.block t cs)(hc:cs.size<=64):I s (X.setCell p v) :=
 h s X _ (some p.block) hs ⟨rfl,rfl,rfl,by simp,λk _ j=>nU X p v k (λe=>j (by rw[e]))⟩ (λr e=>by cases e;exact⟨hl,_,f,hc,rfl⟩)
def rT {α : Type}(F:Fence)(n:Nat)(P:gF)(g:Nat)(lb:Y7)(encs : α -> Y7)(Mu:Nat->Prop)(Rd:List α -> α -> World->Prop)(S Sp:List α -> Prop)(w:World):Prop :=
 ∀(l:Nat) (J Jx:List α -> World->Prop) (W:World),nH w.heap.size w W->JB W.heap.size J->JB W.heap.size Jx ->
  (∀pre x W1,J pre W1->Rd pre x W1->YieldAt F (n-1) P l (encs x) W1 λe W' =>
   (e=Y0 (X3 true)/\J (pre++[x]) W'/\qf Mu W.heap.size W1 W')\/(e=Y0 (X3 false)/\Jx (pre++[x]) W'/\qf (λ_=>True) W.heap.size W1 W')) ->
  J [] W ->
  mQ F n P g (#[.func (.yield l) #[] #[]]++lb) W λe W'=>(∃v,e=Y0 v)/\((∃xs,S xs/\J xs W')\/(∃pre,Sp pre/\Jx pre W'))
section
variable {F:Fence}{n:Nat}{P:gF}{w:World}
theorem XK {α : Type}{g:nO}{ps:Array Tmp}{assign body:ff}{Q:mh->gh->World->Prop}{a:gh}
  (aQ:F.round=none) (h1:1<=n) {gf:Nat} {lb:Y7} (hg:a.eval g=.func (.func gf) #[] lb) (aF:F.fn gf) (eg:∀args w,(gm gf args).run P w=.ok (.enter gf args) w)
  {encs : α -> Y7} {Mu:Nat->Prop} {Rd:List α -> α -> World->Prop} {S Sp:List α -> Prop} {w0:World} (aR:rT F (n-1) P gf lb encs Mu Rd S Sp w0)
  (aC:nH w0.heap.size w0 w) (aO:∀x,(encs x).size=ps.size)
  (I:List α -> World->Prop) (H:ff->List α -> World->Prop) (L:JB w.heap.size I) (aA:∀c,JB w.heap.size (H c)) (aG:∀q x,OwnFrom w.heap.size (λ(_:Unit) W=>Rd q x W)) (h0:I [] w) (a₁ : α -> gh)
  (aI:∀(l:Nat) (x : α) (W:World) (K:gh->World->Prop),K (a₁ x) W ->
   assign.wpIn (F.inRound l) (n-1-1) P (Exit.then K (λ_ _ _=>False)) {tmps:=(ps.zip (encs x)).foldl (λt (p,v)=>t.setIfInBounds p v) a.tmps,defers:=[]} W)
  (aJ:∀(l:Nat) (q:List α) (x : α) (W:World),I q W->Rd q x W->body.wpIn (F.inRound l) (n-1-1) P (Bp Mu w.heap.size I H (q++[x]) W) (a₁ x) W)
  (aK:∀(D:Nat) (xs:List α) (W:World),w.heap.size<=D->S xs->I xs W->W.heap[D]?=some (.deferred (some []))->Q .normal {a with defers:={target:=.collected D,args:=#[]}::a.defers} W)
  (aS:∀(D:Nat) (c:ff) (q:List α) (W:World),w.heap.size<=D->Sp q->H c q W->W.heap[D]?=some (.deferred (some []))->c.wpIn F n P Q {a with defers:={target:=.collected D,args:=#[]}::a.defers} W) :
  (fz g ps assign body).wpIn F n P Q a w:=by
 refine wpIn_rangeFunc λfn aL => ?_
 rw[aQ]
 -- the loop's record, and the world that bears it and the block for deferred calls
 obtain⟨f,E⟩:∃f:LoopState->Option ff->Loop,f=λst pe => {state:=st,pending:=pe,fn,tmps:=a.tmps,params:=ps,assign,body,defers:=w.heap.size}:=⟨_,rfl⟩
 obtain⟨V,M⟩:∃V,(w.alloc (.deferred (some []))).alloc (.loop (f .ready none))=V:=⟨_,rfl⟩;have vL:V.heap[w.heap.size+1]?=some (.loop (f .ready none)):=by
  subst M;have:=mB (w.alloc (.deferred (some []))) (.loop (f .ready none))
  rwa [nG] at this
 have vD:V.heap[w.heap.size]?=some (.deferred (some [])):=by subst M;exact(mT _ _ _ K9).trans (mB w _)
 have vI:I [] V:=by subst M;exact L.alloc _ (L.alloc _ h0)
 have vS:V.heap.size=w.heap.size+2:=by subst M;simp
 have vB:nH w0.heap.size w0 V:=by subst M;exact aC.trans ((((nF _ w).alloc (zG _) _).alloc K9 _).mono aC.size)
 refine⟨w.heap.size+1,[{target:=.collected w.heap.size,args:=#[]}],V,{target:=.fn (.func gf) lb,args:=#[.func (.yield (w.heap.size+1)) #[] #[]]},V,gf,#[.func (.yield (w.heap.size+1)) #[] #[]]++lb,V,?_,?_,?_,?_,λ_=>h1,?_⟩
 .rw[<-M,E];exact run_enterLoop_outer _ _ _ _ _
 .simp only[resolve,hg];simp[go_sem]
 .intro f' aD;simp[Target.leads] at aD;subst aD;exact aF
 .simp[invoke,go_sem,eg]
 have apart:∀{A B:World} {row:Option Nat} {k:Nat} {o:Obj},A.heap[k]?=some o->A.grownBy B row->(∀r,row=some r->V.heap.size<=r)->k<V.heap.size->B.heap[k]?=some o:=λu hg j aE =>
  (hg.block _ (zI.1 u).1 (λe=>by have:=j _ e.symm;omega)).trans u
 refine(aR (w.heap.size+1)
  (λq W=>I q W/\W.heap[w.heap.size+1]?=some (.loop (f .ready none))/\W.heap[w.heap.size]?=some (.deferred (some [])))
  (λq W=>∃c,H c q W/\W.heap[w.heap.size+1]?=some (.loop (f .done (some c)))/\W.heap[w.heap.size]?=some (.deferred (some [])))
  V vB
  (λs A B row hs G j=>⟨L s A B row hs.1 G (λr e=>⟨by have:=(j r e).1;omega,(j r e).2⟩),apart hs.2.1 G (λr e=>(j r e).1) K5,apart hs.2.2 G (λr e=>(j r e).1) K5⟩)
  (λs A B row hs G j=>by
   obtain⟨c,hc,hl,u⟩:=hs
   exact⟨c,aA c s A B row hc G (λr e=>⟨by have:=(j r e).1;omega,(j r e).2⟩),apart hl G (λr e=>(j r e).1) K5,apart u G (λr e=>(j r e).1) K5⟩)
  ?round ⟨vI,vL,vD⟩).mono ?behind
 case round =>
  rintro q x W ⟨hi,hl,u⟩ aP;have aE:w.heap.size+1<W.heap.size:=(zI.1 hl).1;have hy:=run_yield (P:=P) (args:=encs x) hl (by rw[E];exact aO x);rw[E] at hy;refine⟨fn,_,assign,body,hy,roundIn_of_wpIn aL (aI _ x W _ ⟨_,run_beginRound hl (by rw[E]),?_⟩)⟩;clear hy;have bL:(W.putObj (w.heap.size+1) (.loop {f .ready none with state:=.busy})).heap[w.heap.size+1]?=some (.loop {f .ready none with state:=.busy}):=gn aE;have bD:(W.putObj (w.heap.size+1) (.loop {f .ready none with state:=.busy})).heap[w.heap.size]?=some (.deferred (some [])):=(nP K5).trans u;refine wpIn_mono (aJ _ q x _ (L.putObj _ hi K5 hl trivial) ((aG q x).putObj (s:=()) _ aP K5 hl rfl)) ?_
  -- the round's end
  have fin:∀(C:Option ff) (U:World),qf (λ_=>True) w.heap.size (W.putObj (w.heap.size+1) (.loop {f .ready none with state:=.busy})) U ->
    (Instr.endRound (w.heap.size+1) C).run P U=.ok (X3 C.isNone) (U.putObj (w.heap.size+1) (.loop (f (if C.isNone then .ready else .done) C))) /\
    U.heap[w.heap.size+1]?=some (.loop {f .ready none with state:=.busy}) /\
    (U.putObj (w.heap.size+1) (.loop (f (if C.isNone then .ready else .done) C))).heap[w.heap.size+1]?=some (.loop (f (if C.isNone then .ready else .done) C)) /\
    (U.putObj (w.heap.size+1) (.loop (f (if C.isNone then .ready else .done) C))).heap[w.heap.size]?=some (.deferred (some [])):=λC U N=>by
   have Z:=N.2 _ _ bL (λh=>by omega);have:=run_endRound (P:=P) C Z;rw[E] at this ⊢;exact⟨this,by rw[E] at Z;exact Z,gn (zI.1 Z).1,(nP K5).trans (N.2 _ _ bD (λh=>by omega))⟩
  have out:∀(c:ff) (U:World),qf (λ_=>True) w.heap.size (W.putObj (w.heap.size+1) (.loop {f .ready none with state:=.busy})) U->H c (q++[x]) U ->
    (∃c',H c' (q++[x]) (U.putObj (w.heap.size+1) (.loop (f .done (some c))))/\(U.putObj (w.heap.size+1) (.loop (f .done (some c)))).heap[w.heap.size+1]?=some (.loop (f .done (some c')))/\(U.putObj (w.heap.size+1) (.loop (f .done (some c)))).heap[w.heap.size]?=some (.deferred (some [])))/\qf (λ_=>True) V.heap.size W (U.putObj (w.heap.size+1) (.loop (f .done (some c)))):=λc U N aN=>by
   obtain⟨_,h3,T,h5⟩:=fin (some c) U N;refine⟨⟨c,(aA c).putObj _ aN K5 h3 trivial,T,h5⟩,by have:=N.1;simpa using this,λk o u X => ?_⟩;have O:k≠w.heap.size+1:=λe=>X K5 trivial
   rw[nP O];exact N.2 k o (by rw[nP O];exact u) (λh=>X K5)
  rintro e a3 U z;cases e with
  | normal =>
   obtain⟨aB,aM⟩:=z;obtain⟨j,h3,T,h5⟩:=fin none U aB.any;refine⟨_,_,j,.inl ⟨rfl,⟨L.putObj _ aM K5 h3 trivial,T,h5⟩,by have:=aB.1;simpa using this,λk o u X => ?_⟩⟩
   by_cases O:k=w.heap.size+1
   .subst O;rw[hl] at u;rw[<-u];exact T
   .rw[nP O];exact aB.2 k o (by rw[nP O];exact u) (λh=>X K5)
  | ret=>exact⟨_,_,(fin (some .ret) U z.1).1,.inr ⟨rfl,out .ret U z.1 z.2⟩⟩
  | exit id=>exact⟨_,_,(fin (some (.exit id)) U z.1).1,.inr ⟨rfl,out (.exit id) U z.1 z.2⟩⟩
  | goto t=>exact⟨_,_,(fin (some (.goto t)) U z.1).1,.inr ⟨rfl,out (.goto t) U z.1 z.2⟩⟩
  | panic ch=>exact z.elim
  | outgrown=>exact z.elim
 case behind =>
  rintro e U ⟨⟨v,rfl⟩,(⟨xs,hS,hi,hl,u⟩|⟨q,aH,c,hi,hl,u⟩)⟩
  .have j:=fM (P:=P) hl (by rw[E];simp);rw[E] at j;exact⟨none,_,j,aK _ xs _ (zG _) hS (L.putObj _ hi K5 hl trivial) ((nP K5).trans u)⟩
  .have j:=fM (P:=P) hl (by rw[E];simp);rw[E] at j;exact⟨some c,_,j,aS _ c q _ (zG _) aH ((aA c).putObj _ hi K5 hl trivial) ((nP K5).trans u)⟩
end
end
section
open Go Go.RowKit xq Go.Shelf
attribute [local go_sem] Oper.semAt_some
theorem EG (n:Nat)(aL:2<=n)(l j h g o c L:Nat)(A:Y5)(O:0<L->A=some ⟨g,o,K3⟩)(aF:L<=c)(hL:L<=1000000)(aG:c<=9223372036854775807)(J z:List Nat->World->Prop)(Mu:Nat->Prop)(aA:¬ Mu j)(Z:¬ Mu h)(s:Nat)
  (hY:∀f k W,J f W->(k=f.length/\64*k<L)->YieldAt nv (n-1) Y3 l #[X1 (K4 ⟨g,o+64*k,K3⟩) (kS L k) (kS L k)] W λe W' =>
   (e=Y0 (X3 true)/\J (f++[k]) W'/\qf Mu s W W')\/(e=Y0 (X3 false)/\z (f++[k]) W'/\qf (λ_=>True) s W W'))
  (W:World) (U:JB W.heap.size J) (G:W.cell? ⟨j,0,K3⟩=some (X1 A L c)) (E:W.cell? ⟨h,0,K3⟩=K4 (Y1 Q4 64)) (N:J [] W) :
  mQ nv n Y3 132 #[.func (.yield l) #[] #[],Y9 (K4 ⟨j,0,K3⟩),Y9 (K4 ⟨h,0,K3⟩)] W λe W'=>(∃v,e=Y0 v) /\
   ((∃M,M.length=XV L/\J M W')\/(∃f,f.length<=XV L/\z f W')):=by
 have h1:1<=n:=K5
 refine gy func132 rfl trivial ?_ rfl;simp only[ntmps132,zR,zK,zY,yB,yC,qC,qD,qO,qG,zQ,zW]
 gi_wp2
 gi_loopw [4] (λi wr=>∃(q:Nat) (f:List Nat),i=Y1 Q4 q/\q=64*f.length/\q<L+64/\J f wr/\tV j h W wr)
  (λi _=>L+64-(intOf i).toNat)
 case atStart=>exact⟨0,[],rfl,rfl,by omega,N,rfl,rfl⟩
 case round =>
  obtain⟨q,f,rfl,hq,hb,B,I⟩:=hrel;have aB:wr.cell? ⟨j,0,K3⟩=some (X1 A L c):=I.1.trans G;have aC:wr.cell? ⟨h,0,K3⟩=K4 (Y1 Q4 64):=I.2.trans E
  by_cases aH:q<L
  .obtain rfl:=O K5;obtain⟨m,r⟩:=Z9 (kS L f.length);have hm:(if ((L-q:Nat):Int)<64 then ((L-q:Nat):Int) else 64)=(m:Int):=by rw[r];unfold kS;rw[<-hq];split<;>omega
   have aI:0<m:=by rw[r];unfold kS;omega
   have aJ:q+m<=L:=by rw[r];unfold kS;omega
   have aK:m<=64:=by rw[r];unfold kS;omega
   have V:J f wr.drew:=U.drew B;obtain⟨fn,tmps,assign,body,hy,hR⟩:=hY f f.length wr.drew V ⟨rfl,by omega⟩;rw[<-r,<-hq] at hy;have aN:IntKind.i64.wrap ((q:Int)+(m:Int))=(q:Int)+(m:Int):=jy _;have aM:IntKind.i64.wrap ((q:Int)+64)=(q:Int)+64:=jy _;have u:=nI hq;clear hq r
   gi_wp2
   gi_region
   gi_wp2
   refine hR.mono ?_;have C:=u.out;rintro e W3 (⟨rfl,T,H⟩|⟨rfl,X,_⟩)
   .have aD:W3.cell? ⟨h,0,K3⟩=K4 (Y1 Q4 64):=H.cell (p:=⟨h,0,K3⟩) aC (λ_=>Z);have aE:tV j h W W3:=⟨(H.cell (p:=⟨j,0,K3⟩) aB (λ_=>aA)).trans G.symm,aD.trans E.symm⟩;clear C
    gi_wp2
    go_roundw
    case rel=>exact⟨q+64,f++[f.length],rfl,by simp;have:=u.out;omega,by omega,T,aE⟩
    case measure=>simp[intOf];omega
   .have hl:(f++[f.length]).length<=XV L:=by simp;unfold XV;omega
    clear C
    gi_wp2
    exact nT (mF rfl _ _ _) rfl ⟨⟨_,rfl⟩,.inr ⟨_,hl,X⟩⟩
  .obtain⟨hs⟩:Nonempty (f.length=XV L):=⟨by unfold XV;omega⟩
   gi_wp2
   go_end0;exact⟨⟨_,rfl⟩,.inl ⟨f,hs,B⟩⟩
theorem Pn (n:Nat)(T:2<=n)(f e g o c L:Nat)(A:Y5)(s:0<L->A=some ⟨g,o,K3⟩)(E:L<=c)(C:L<=1000000)(M:c<=9223372036854775807)(Mu:Nat->Prop)(H:¬ Mu f)(G:¬ Mu e)(w:World)(z:f<w.heap.size)(u:e<w.heap.size)
  (O:w.cell? f=some (X1 A L c)) (N:w.cell? e=K4 (Y1 Q4 64)) :
  rT nv n Y3 132 #[Y9 f,Y9 e] (λk:Nat=>#[X1 (K4 ⟨g,o+64*k,K3⟩) (kS L k) (kS L k)]) Mu
   (λh k _=>k=h.length/\64*k<L) (λU=>U.length=XV L) (λh=>h.length<=XV L) w:=λl J q W j B _ I r =>
 EG n T l f e g o c L A s E C M J q Mu H G W.heap.size I W B ((j.cell (p:=⟨f,0,K3⟩) z).trans O) ((j.cell (p:=⟨e,0,K3⟩) u).trans N) r
section
variable {n₀:Nat}
theorem Az (n:Nat)(bG:6<=n)(l L:Nat)(A:Y5)(c:Nat)(b:Y4)(hb:b.length<=1000000)(J I:List (Nat×(Y5×Nat))->World->Prop)(W:World)
  (Mu:Nat->Prop) (aR:0<b.length->∀g o,A=some ⟨g,o,K3⟩->¬ Mu g) (u:JB W.heap.size J) (aD:JB W.heap.size I)
  (hY:∀f (x:Nat×(Y5×Nat)) E,J f E->(x.1=f.length/\64*x.1<b.length/\qv E E.heap.size x.2.1 x.2.2 (YJ b x.1))->YieldAt nv (n-1) Y3 l #[Y1 Q4 (x.1:Int),X1 x.2.1 (kS b.length x.1) x.2.2] E λe W' =>
   (e=Y0 (X3 true)/\J (f++[x]) W'/\qf Mu W.heap.size E W')\/(e=Y0 (X3 false)/\I (f++[x]) W'/\qf (λ_=>True) W.heap.size E W'))
  (hg:L<n₀) (a2:n₀<=W.heap.size) (aT:W.cell? ⟨L,0,K3⟩=some (X1 A b.length c)) (N:qv W n₀ A c b) (h0:J [] W) :
  mQ nv n Y3 296 #[.func (.yield l) #[] #[],Y9 (K4 ⟨L,0,K3⟩)] W λe W'=>(∃v,e=Y0 v) /\
   ((∃ys,ys.length=XV b.length/\J ys W')\/(∃f,f.length<=XV b.length/\I f W')):=by
 have aZ:=N.le;have a0:=N.max;have h1:1<=n:=K5
 refine callsIn_of_wp_marks func296 rfl trivial ?_ rfl;simp only[ntmps296,zR,zK,zY,yB,yC,qC,qD,qO,qG,zQ,zW]
 gi_wp2
 refine jc ?_
 gi_wp2
 refine wpIn_label ?_;have M:nH n₀ W ((W.alloc (Q9 #[.func (.yield l) #[] #[]] 217)).alloc (Q9 #[Y1 Q4 0] 3)):=((nF _ W).alloc a2 _).alloc (by simp;omega) _;have aU:=(M.cell (p:=⟨L,0,K3⟩) hg).trans aT
 gi_wp2_with (refine⟨trivial,?_⟩;gi_at_call 81;refine(wI (n-1) _ _ _ _).mono ?_;rintro e w' ⟨rfl,rfl⟩)
 obtain⟨W2,H⟩:=Z9 ((W.alloc (Q9 #[.func (.yield l) #[] #[]] 217)).alloc (Q9 #[Y1 Q4 0] 3));have s2:W2.heap.size=W.heap.size+1+1:=by rw[H];simp
 have aK:za W2 W.heap.size 217 #[.func (.yield l) #[] #[]]:=by rw[H];exact(za.new W _ _).alloc _
 have aG:za W2 (W.heap.size+1) 3 #[Y1 Q4 ((0:Nat):Int)]:=by have:=za.new (W.alloc (Q9 #[.func (.yield l) #[] #[]] 217)) 3 #[Y1 Q4 ((0:Nat):Int)];rw[nG] at this;rw[H];exact this
 have aC:J [] W2:=by rw[H];exact u.alloc _ (u.alloc _ h0)
 rw[<-H] at M ⊢;clear H aU;obtain⟨W4,s⟩:=Z9 ((W2.alloc (Q9 #[X1 A b.length c] 129)).alloc (Q9 #[Y1 Q4 64] 3));have s4:W4.heap.size=W.heap.size+4:=by rw[s];simp;omega
 have a4:za W4 W.heap.size 217 #[.func (.yield l) #[] #[]]:=by rw[s];exact(aK.alloc _).alloc _
 have a3:za W4 (W.heap.size+1) 3 #[Y1 Q4 ((0:Nat):Int)]:=by rw[s];exact(aG.alloc _).alloc _
 have aP:J [] W4:=by rw[s];exact u.alloc _ (u.alloc _ aC)
 have aM:nH n₀ W W4:=by rw[s];exact(M.alloc K5 _).alloc (by simp;omega) _
 have aW:W4.cell? (W.heap.size+1+1:Nat)=some (X1 A b.length c):=by rw[s,<-s2];exact((za.new W2 129 #[X1 A b.length c]).alloc _).boxed
 have aV:W4.cell? (W.heap.size+1+1+1:Nat)=K4 (Y1 Q4 64):=by have:=(za.new (W2.alloc (Q9 #[X1 A b.length c] 129)) 3 #[Y1 Q4 64]).boxed;rw[nG,s2] at this;rw[s];exact this
 rw[<-s];clear s aK aG aC M;obtain⟨g,o,hA⟩:∃g o,0<b.length->A=some ⟨g,o,none⟩:=by
  by_cases aE:0<b.length
  .obtain⟨g,o,e,_⟩:=N.pO aE;exact⟨g,o,λ_=>e⟩
  .exact⟨0,0,λh=>absurd h aE⟩
 refine XK rfl h1 (gf:=132) (lb:=#[Y9 (W.heap.size+1+1:Nat),Y9 (W.heap.size+1+1+1:Nat)]) rfl trivial (zb.eo func132)
  (Pn (n-1) K5 (W.heap.size+1+1) (W.heap.size+1+1+1) g o c b.length A hA aZ hb a0 (λk=>(k<W.heap.size/\Mu k)\/k=W.heap.size+1) K5 K5 W4 K5 K5 aW aV) (nF _ _) (λ_=>rfl)
  (λf V=>(∃xs:List (Nat×(Y5×Nat)),xs.length=f.length/\J xs V)/\za V W.heap.size 217 #[.func (.yield l) #[] #[]]/\za V (W.heap.size+1) 3 #[Y1 Q4 (f.length:Int)]/\qv V n₀ A c b/\W.heap.size<=V.heap.size)
  (λZ f V=>Z=.exit 0/\∃xs:List (Nat×(Y5×Nat)),xs.length=f.length/\I xs V)
  ?own ?own2 ?ownR ⟨⟨[],rfl,aP⟩,a4,a3,N.below aM,by omega⟩ ?act ?assign ?body ?done ?stop
 case own =>
  rintro f X Y row ⟨⟨xs,C,q⟩,h1,h2,h3,h4⟩ B j;exact⟨⟨xs,C,u xs X Y row q B (λr e=>⟨by have:=(j r e).1;omega,(j r e).2⟩)⟩,h1.oF K5 B (λr e=>(j r e).1),h2.oF K5 B (λr e=>(j r e).1),h3.grown K5 B (λr e=>by have:=(j r e).1;omega),zT h4 B.size⟩
 case own2 =>
  rintro Z f X Y row ⟨e,xs,C,q⟩ B j;exact⟨e,xs,C,aD xs X Y row q B (λr e=>⟨by have:=(j r e).1;omega,(j r e).2⟩)⟩
 case ownR=>exact λf x=>ownFrom_pure _ _
 case assign =>
  intro l1 x V K z
  gi_wp2
  exact z
 case body =>
  rintro l1 f k V ⟨⟨xs,aB,q⟩,hy,aA,hB,a9⟩ ⟨rfl,aF⟩;have bD:=hy.boxed;have bA:=aA.boxed;have a8:1<=n-1-1:=K5
  obtain rfl:=hA K5;have aY:=CX hB aF;have hC:=Yl V.drew _ _ _ ((aY.drew).more (show n₀<=V.drew.heap.size by show n₀<=V.heap.size;omega)) (by rw[jZ];unfold kS;omega);rw[jZ] at hC
  gi_wp2
  gi_region_with (first
   |(refine⟨trivial,?_⟩;gi_at_call 112;refine(fJ l1 (callsIn_wide.2 hC)).mono ?_;rintro e W6 ⟨v6,rfl,a7,aN⟩;obtain⟨T,U,rfl,aX⟩:=a7.inB;rw[jZ];have G:nH V.heap.size V W6:=(nF _ V).drew.trans aN;have aQ:J xs W6:=u.grow q G;have aJ:f.length=xs.length:=aB.symm;obtain⟨fn,tmps,assign,body,a6,hR⟩:=hY xs (f.length,(T,U)) W6 aQ ⟨aJ,aF,aX⟩;have aL:=hy.below G hy.lt;have aH:=aA.below G aA.lt;have bE:=aL.boxed;have bB:=aH.boxed;have aO:=hB.below (G.mono (show n₀<=V.heap.size by omega));simp only at a6;clear aJ)
   |(refine(Vt hR).mono ?_;rintro e W7 aI;obtain⟨r,rfl,j⟩:=IK aI;clear aI))
  all_goals
   have s6:=G.size;have k6:=qf.grow (λk=>(k<W.heap.size/\Mu k)\/k=W.heap.size+1) W4.heap.size G;have bH:IntKind.i64.wrap ((f.length:Int)+1)=(f.length:Int)+1:=jy _;rcases j with⟨rfl,hJ7,hk7⟩|⟨rfl,hJx7,hk7⟩
   .have a5:=hk7.blk aL (λh=>by omega);have O:=hk7.blk aH (λh=>by omega);have aS:=hk7.dy aO aR;have bC:=O.boxed;have bF:=O.free 0
    gi_wp2
    refine⟨(k6.trans ⟨hk7.1,λk o hk hm=>hk7.2 k o hk (λh a1=>hm K5 (.inl ⟨h,a1⟩))⟩).trans (qf.setCell _ ⟨W.heap.size+1,0,K3⟩ _ (by simp;omega) (.inr rfl)),⟨xs++[(f.length,T,U)],by simp[aB],u.setCell (p:=⟨W.heap.size+1,0,K3⟩) _ hJ7 K9 O (by show 1<=64;decide)⟩,a5.other K9 _,?_,aS.pR (λp hp=>mZ _ _ _ _ (λe=>by subst e;simp at hp;omega)),?_⟩
    .have:=O.set 0 (Y1 Q4 ((f.length:Int)+1));simpa using this
    .have:=hk7.1;simp;omega
   .gi_wp2
    exact⟨k6.any.trans ⟨hk7.1,λk o hk hm=>hk7.2 k o hk (λh=>hm K5)⟩,rfl,xs++[(f.length,T,U)],by simp[aB],hJx7⟩
 case done =>
  rintro D ys V hD hS ⟨⟨xs,C,q⟩,_⟩ z
  gi_wp2
  simp only[lv];refine⟨by simp,.inl ⟨_,_,rfl,mV z,?_⟩⟩;exact⟨_,mF rfl _ _ _,⟨_,rfl⟩,.inl ⟨xs,by rw[C,hS],u.putObj _ q K5 z trivial⟩⟩
 case stop =>
  rintro D Z f V hD hS ⟨rfl,xs,C,q⟩ z
  gi_wp2
  simp only[lv];refine⟨by simp,.inl ⟨_,_,rfl,mV z,?_⟩⟩;exact⟨_,mF rfl _ _ _,⟨_,rfl⟩,.inr ⟨xs,by rw[C];exact hS,aD.putObj _ q K5 z trivial⟩⟩
theorem CS (n:Nat)(G:6<=n)(e:Nat)(A:Y5)(c:Nat)(b:Y4)(z:b.length<=1000000)(Mu:Nat->Prop)(s:0<b.length->∀g o,A=some ⟨g,o,K3⟩->¬ Mu g)(w:World)(C:e<n₀)(h:n₀<=w.heap.size)
  (B:w.cell? e=some (X1 A b.length c)) (E:qv w n₀ A c b) :
  rT nv n Y3 296 #[Y9 e] (Ax b.length) Mu (sb b) (λI=>I.length=XV b.length) (λH=>H.length<=XV b.length) w:=λl J j W f q r u k =>
 Az n G l e A c b z J j W Mu s q r u C (zT h f.size) ((f.cell (p:=⟨e,0,K3⟩) (by simp;omega)).trans B) (E.below (f.mono h)) k
end
end
section
open Go Go.RowKit xq
def XW (Q:mh->gh->World->Prop):mh->gh->World->Prop
 | .outgrown,_,_=>False
 | e,a,w=>Q e a w
theorem XW.imp {Q:mh->gh->World->Prop}:∀(e:mh) (a:gh) (w:World),XW Q e a w->Q e a w:=λe a w h=>by
 cases e<;>first|exact h|exact(h:False).elim
theorem LD {Q:mh->gh->World->Prop}:¬ LetsOut (XW Q):=λ⟨_,_,h⟩=>h
def GM (ops:Array nh):Bool:=ops.toList.all λo=>match o.op with | .defer _=>false|_=>true
section
variable {P:gF}{ops:Array nh}{Q:mh->gh->World->Prop}{n l:Nat}
theorem FH {o:nh}{a:gh}{w:World}{K j:gh->World->Prop}(hd:∀c,o.op≠.defer c)(f:∀a w,K a w->j a w)(h:o.wp P a w K (XW Q)):o.wpIn (Fence.wide.inRound l) n P a w j (XW Q):=by
 refine⟨λ_ _=>trivial,?_⟩;have e:o.semAt (Fence.wide.inRound l).round a.eval=nQ a.eval o:=gG l _ o hd;rw[e];unfold mW at h;generalize (nQ a.eval o).run P w=r at *;have nd:∀{p:Prop},((Fence.wide.inRound l).depth.isSome=true->p):=λh=>by cases h
 cases r with
 | ok x w' =>
  cases x<;>simp only[Oper.upon,Oper.uponIn] at h ⊢ <;>
   first
    | exact f _ _ h
    |(refine⟨nd,fJ l ((callsIn_wide.2 h).mono λe q k => ?_)⟩;cases e<;>first|exact f _ _ k|exact k)
    | exact⟨nd,λc cs _=>let ⟨v,q,r,s⟩:=h c cs;⟨v,q,f _ _ r,stepsIn_wide.2 s⟩⟩
    | exact h.elim
 | halt x w'=>cases x<;>simp only[Oper.upon,Oper.uponIn] at h ⊢<;>first|exact h|exact h.elim
theorem FK (h:GM ops=true){i:Nat}{o:nh}(f:ops[i]?=some o):∀c,o.op≠.defer c:=by
 intro c hc;unfold GM at h;rw[yF] at h;have e:o∈ops.toList:=by obtain⟨h1,h2⟩:=zI.1 f;subst h2;simp
 have:=h o e;rw[hc] at this;cases this
theorem Di (hd:GM ops=true):∀(e:Nat) (listed:Array Bool) (a:gh) (w:World),wpAny P .any ops (XW Q) e listed a w->wpAnyIn (Fence.wide.inRound l) n P .any ops (XW Q) e listed a w:=by
 intro e
 induction e with
 | zero=>exact λlisted a w h=>h
 | succ e ih =>
  intro listed a w h;refine⟨h.1,λi hi => ?_⟩;have hs:=h.2 i hi;unfold wpOp at hs;unfold wpOpIn;split
  .rename_i ho
   rw[ho] at hs;exact ih _ _ _ hs
  .rename_i o ho
   rw[ho] at hs;simp only at hs
   by_cases f:gS o (yielded ops a.tmps)=true
   .rw[if_pos f] at hs ⊢;rcases hs with h1|⟨_,h2⟩
    .exact FH (FK hd ho) (λa w=>ih _ a w) h1
    .exact(LD h2).elim
   .rw[if_neg f] at hs ⊢;exact⟨λ_ _=>trivial,ih _ _ _ hs⟩
end
namespace Qu
end Qu
end
section
open Go Go.RowKit xq Go.Shelf
attribute [local go_sem] Oper.semAt_some
theorem za.dt {B g:Nat}{t:nS}{cs:Y7}(k:g<B){W W':World}{row:Option Nat}(h:za W g t cs)(f:W.grownBy W' row)(j:∀r,row=some r->B<=r):za W' g t cs :=
 h.grown f (λe=>by have:=j g e.symm;omega)
theorem Cc {B n₀:Nat}{w:World}(hB:n₀<=B){W W':World}{row:Option Nat}(k:n₀<=W.heap.size)(h:nH n₀ w W)(f:W.grownBy W' row)(j:∀r,row=some r->B<=r):nH n₀ w W' :=
 h.trans (zo f k (λr e=>zT hB (j r e)))
theorem TE {P:gF}{ps e:Array nS}{j:Bool}(d:Nat)(t:nS)(w:World)(f:Fn)(xs k:Y7)(h:P.underlying t=some (.func ps e j)):(fE (d+1) t (.func f xs k) .nilFunc).run P w=.ok false w:=by
 simp[fE,gK h,nM]
theorem MZ {F:Fence}{n f:Nat}{P:gF}{C:ff}{Q:mh->gh->World->Prop}{a0:gh}{w0:World}(S:gh->gh->World->Prop)(h1:∀e:mh->gh->World->Prop,(∀a w,S a0 a w->e .normal a w)->C.wpIn F n P e a0 w0)(h2:∀a w,S a0 a w->Q .normal a w):C.wpIn F n P (Exit.inBlock f Q) a0 w0 :=
 h1 _ h2
theorem Jr (V:World)(D:Nat)(o:Obj){g:Nat}(h:D≠g):(V.putObj D o).heap[g]?=V.heap[g]?:=by
 simp[World.putObj,h]
theorem Yu {fn:Func}{P:gF}{a:gh}{w:World}{v:Value}{p:nN}{t:nS}(k:Tmp)(h:fn.results=#[.cell k t])(j:a.eval (.tmp k)=Y9 (some p))(f:(isAgg t).run P w=.ok false w)(q:w.cell? p=some v):(results fn a.tmps).run P w=.ok v w:=by
 have e:a.tmps.getD k gQ=Y9 (some p):=j;unfold results;simp only[h];simp[-zX,e,loadVar,asAddr,f,q,nM]
end
end Go.Proofs.YtohmkffoojdahaaGreat
