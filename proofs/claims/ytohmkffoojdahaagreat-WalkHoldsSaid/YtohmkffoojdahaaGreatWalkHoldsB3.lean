/- Texts that the proof of WalkHolds leans on, part 3. -/
import Derived.OrdersHeld
import Derived.Deep.OwnRows
import Derived.Deep.DeepCutAuto
import Derived.Deep.CutBlock
import Derived.Test.YtohmkffoojdahaaGreatWalkHoldsB2
open Nat renaming reduceAdd->yJ,reduceSub->yK
open Array renaming getD_eq_getD_getElem?->zV
set_option linter.unusedVariables false
set_option linter.unusedSimpArgs false
set_option maxRecDepth 100000
set_option maxHeartbeats 8000000

open Array renaming replicate->dO
open Go renaming Calls->pr,Addr->px,Operand->py,execOp->oB,TypeId->oD,Oper->oM,Program->oV,maxLen->oo,undef->ou,Act->oy,callFunc->dF,CallsIn->dw,Exit->nF,wpListIn->nH,YieldsIf->mV
open Go.Act renaming put->pj
open Go.Code renaming region->gF
open Go.Deferred renaming ofValue->nh
open Go.Exit renaming jump->mM
open Go.Fence renaming wide->oS
open Go.Instr renaming sureAddr->gH
open Go.Oper renaming wp->de,about->mg
open Go.Region renaming ready->oP,binds->oT,wanted->og,noSelect->nc,Mode->gu,free->mJ
open Go.Result renaming andThen->pv
open Go.RowKit renaming Below->ph
open Go.World renaming cell?->nD
open Go.Proofs.Tryz renaming prog->Y3
open Go.Proofs.Tryz
namespace Go.Proofs.YtohmkffoojdahaaGreat
section
open Go Go.RowKit vA
structure Ux where
 f:Nat
 bd:Y7
 lb:Y7
 e:Int
 b:Bool
def Ux.fn (x:Ux):Value:=.func (.func x.f) x.bd x.lb
def Ym (l:List Ux):Y8:=(l.map λx=>[x.fn,.int .i64 x.e]).flatten
theorem MZ (x:Ux)(l:List Ux):Ym (x::l)=x.fn :: .int .i64 x.e::Ym l:=rfl
theorem Tq (l:List Ux):(Ym l).length=l.length*2:=by
 induction l with
 | nil=>rfl
 | cons x l ih=>rw[MZ,zL,zL,ih,zL];omega
theorem Bf (l:List Ux)(k:Nat)(f:k<l.length):(Ym l)[k*2]?=some l[k].fn/\(Ym l)[k*2+1]?=some (.int .i64 l[k].e):=by
 induction l generalizing k with
 | nil=>simp at f
 | cons x l ih =>
  cases k with
  | zero=>exact⟨rfl,rfl⟩
  | succ k =>
   have:=ih k (by simpa using f);rw[MZ];have e:(k+1)*2=k*2+1+1:=by omega
   rw[e];simpa using this
theorem Hw (l:List Ux):∀v∈Ym l,v.oneCell'=true:=by
 intro v e;unfold Ym at e;obtain⟨m,f,e⟩:=List.mem_flatten.1 e;obtain⟨x,_,rfl⟩:=qP.1 f;simp at e;rcases e with rfl|rfl<;>rfl
def vg:List Ux->Int
 | []=>0
 | x::l=>if x.b then x.e else vg l
theorem ND (l:List Ux)(k:Nat)(r:k<l.length)(s:∀j (h:j<l.length),j<k->l[j].b=false)(f:l[k].b=true):vg l=l[k].e:=by
 induction l generalizing k with
 | nil=>simp at r
 | cons x l ih =>
  cases k with
  | zero=>simp at f;simp[vg,f]
  | succ k =>
   have q:=s 0 (by simp) (by omega);simp at q;have:=ih k (by simpa using r) (λj h u=>by have:=s (j+1) (by simpa using h) (by omega);simpa using this) (by simpa using f);simp[vg,q,this]
theorem UD (l:List Ux)(f:∀j (h:j<l.length),l[j].b=false):vg l=0:=by
 induction l with
 | nil=>rfl
 | cons x l ih =>
  have e:=f 0 (by simp);simp at e;have:=ih (λj h=>by have:=f (j+1) (by simpa using h);simpa using this);simp[vg,e,this]
theorem tM:Zj 363 322 2 16 (.agg #[.nilFunc,.int .i64 0]):=⟨underlying363,by kernel_rfl,by kernel_rfl,by decide⟩
theorem VC:yx Y3 322 2:=⟨⟨_,underlying322,rfl⟩,by kernel_rfl⟩
theorem Up (f:Nat)(bd lb:Y7)(e:Int):∀v∈(#[.func (.func f) bd lb,.int .i64 e]:Y7).toList,v.oneCell'=true:=by
 intro v h;simp at h;rcases h with rfl|rfl<;>rfl
def EH (w:World)(l:List Ux):Prop:=∀x∈l,(∀args w,(dF x.f args).run Y3 w=.ok (.enter x.f args) w)/\∀W,ph w.heap.size w W->pr Y3 x.f (x.bd++x.lb) W λe w'=>e=Y0 (.bool x.b)/\ph W.heap.size W w'
def wQ (e:Int)(a:oy):Prop:=∃u0 u1 u2 u3 u5 u6 u7 u8 u9 u10 u11 u12 u13 u14 u15 u16 u17 u18 u19 u20 u21 u22 u23 u24,a={tmps:=#[u0,u1,u2,u3,.int .i64 e,u5,u6,u7,u8,u9,u10,u11,u12,u13,u14,u15,u16,u17,u18,u19,u20,u21,u22,u23,u24],defers:=[]}
theorem Zd (w:World)(p many:Nat)(g:Nat->Y4)(xs:List (Nat×Y4))(left:Int)(stops:Bool)(hD:yR w p many g xs left stops)(l:List Ux)(A:Y5)(c:Nat)
  (aG:yp w w.heap.size 2 A l.length c (Ym l)) (hl:l.length<=100) (aJ:EH w l) :
  pr Y3 230 #[.pointer (some ⟨p,0,none⟩),.slice A l.length c] w λe w'=>e=Y0 (.int .i64 (vg l))/\ph w.heap.size w w':=by
 obtain⟨a0,O⟩:∃a0:Ux,a0=⟨163,#[.pointer (some ⟨p,0,none⟩)],#[],1,false⟩:=⟨_,rfl⟩;have aA:ph w.heap.size w (w.alloc (.cells #[.func (.func 163) #[.pointer (some ⟨p,0,none⟩)] #[],.int .i64 1] 322)):=(pf _ w).alloc (zG _) _;have aC:(w.alloc (.cells #[.func (.func 163) #[.pointer (some ⟨p,0,none⟩)] #[],.int .i64 1] 322)).ownsRow w.heap.size 322 2 (.slice (some ⟨w.heap.size,0,none⟩) 1 1) 1 (Ym [a0]):=by rw[O];exact World.ownsRow_lit w #[.func (.func 163) #[.pointer (some ⟨p,0,none⟩)] #[],.int .i64 1] 1 (zG _) (by unfold oo;omega) rfl
 have aH:=aG.below aA;have aD:vg (a0::l)=vg l:=by rw[O];rfl
 have aN:EH w (a0::l):=by
  intro x r;rcases qM.1 r with rfl|r
  ·rw[O];exact⟨dj func163 (by kernel_rfl) rfl,λW hB=>(Jg W p many g xs left stops (hD.grow hB)).mono λe w' ⟨h1,h2⟩=>⟨h1,h2▸pf _ _⟩⟩
  ·exact aJ x r
 rw[<-aD];obtain⟨v,q⟩:=Z9 (vg (a0::l));rw[<-q];have hV:=pk q;clear aD aJ hD q
 go_enter func230,ntmps230
 go_wp2_with fail
 refine wp_scope_jumps (rest:=?rest) 0 (λa w'=>wQ v a/\ph w.heap.size w w') (λ_ _=>0) ?hf ?first ?pass
 case hf=>exact rfl
 case pass =>
  rintro a w' ⟨⟨u0,u1,u2,u3,u5,u6,u7,u8,u9,u10,u11,u12,u13,u14,u15,u16,u17,u18,u19,u20,u21,u22,u23,u24,rfl⟩,hB⟩;go_wp2;simp only[mM];go_wp2;go_ret;exact⟨rfl,hB⟩
 case first =>
  go_wp2_with (at_builtin;refine xy rfl tM (.tmp 10) (.tmp 11) rfl w.heap.size (.slice (some ⟨w.heap.size,0,none⟩) 1 1) 1 (Ym [a0]) rfl aC _ A l.length c (Ym l) rfl aH (by unfold oo;omega) (by omega) (by simp) ?_;intro v1 Z aL B;have s:=aA.trans (zl B aA.size (zh aC));obtain⟨A1,c1,rfl,aI⟩:=qn aL (λv q=>by rcases qA.1 q with h|h;exact Hw _ v h;exact Hw _ v h))
  have N:∀k,k<1+l.length->k<(a0::l).length:=λk h=>by simp;omega
  have aM:∀k,k<(a0::l).length->k<1+l.length:=λk h=>by simp at h;omega
  have aE:Ym [a0]++Ym l=Ym (a0::l):=rfl;rw[aE] at aI;clear aC aL B aH aG aE O;generalize a0::l=f at *
  go_loopw [14] (λi wr=>∃k:Nat,k<=1+l.length/\i=.int .i64 k/\Hid (∀j (h:j<f.length),j<k->f[j].b=false)/\ph Z.heap.size Z wr) (λi _=>1+l.length-(intOf i).toNat)
  case atStart=>exact⟨0,by omega,rfl,pk (λj h hj=>by omega),pf _ _⟩
  case round =>
   obtain⟨k,hk,rfl,U,u⟩:=hrel
   by_cases T:k<1+l.length
   ·obtain⟨M,X,rfl,B,hr⟩:=aI.rC (by omega);have aO:=N k T;obtain⟨q1,q2⟩:=Bf f k (N k T);have c1:wr.cell? ⟨M,X+k*2,none⟩=some f[k].fn:=(u.cell (p:=⟨M,X+k*2,none⟩) B).trans (hr _ _ q1);have c2:wr.cell? ⟨M,X+k*2+1,none⟩=some (.int .i64 f[k].e):=(u.cell (p:=⟨M,X+k*2+1,none⟩) B).trans (hr _ _ q2);obtain⟨aF,z⟩:=aN f[k] (qI (N k T));have C:f[k].b=true->v=f[k].e:=λh=>by rw[hV.out];exact ND _ k (N k T) U.out h
    have aK:f[k].b=false->∀j (h:j<f.length),j<k+1->f[j].b=false:=λhb j h hj=>by
     by_cases e:j=k
     ·subst e;exact hb
     ·exact U.out j h (by omega)
    have aP:IntKind.i64.wrap ((k:Int)+1)=(k:Int)+1:=zg _;obtain⟨x,r⟩:=Z9 (f[k]);rw[<-r] at c1 c2 aF z C;have V:x.b=false->Hid (∀j (h:j<f.length),j<k+1->f[j].b=false):=λh=>pk (aK (by rw[<-r];exact h))
    unfold Ux.fn at c1;clear hr q1 q2 aK r U;obtain⟨I,G,L,H,xr⟩:=x;simp only at c1 c2 aF z C V;have nb:=(za.new wr 322 #[.nilFunc,.int .i64 0]).setRow #[.func (.func I) G L,.int .i64 H];have E:ph Z.heap.size Z ((wr.alloc (.cells #[.nilFunc,.int .i64 0] 322)).setRow wr.heap.size #[.func (.func I) G L,.int .i64 H]):=zf (u.alloc u.size _) u.size _;have d0:((wr.alloc (.cells #[.nilFunc,.int .i64 0] 322)).setRow wr.heap.size #[.func (.func I) G L,.int .i64 H]).cell? ⟨wr.heap.size,0,none⟩=some (.func (.func I) G L):=by rw[nb.cell];rfl
    have d1:((wr.alloc (.cells #[.nilFunc,.int .i64 0] 322)).setRow wr.heap.size #[.func (.func I) G L,.int .i64 H]).cell? ⟨wr.heap.size,1,none⟩=some (.int .i64 H):=by rw[nb.cell];rfl
    have hC:=z _ (s.trans (E.mono s.size));cases xr with
    | true =>
     have q:=C rfl;subst q;clear C V z
     go_wp2_with (refine zt rfl 322 (.tmp 6) (.tmp 17) rfl wr.heap.size rfl rfl VC (za.new wr 322 #[.nilFunc,.int .i64 0]) (by rfl) (by rfl) (Up _ _ _ _) ?_)
     refine hC.mono ?_;rintro e w2 ⟨rfl,aB⟩;go_wp2
     go_step3
     exact⟨rfl,by repeat (first|exact rfl|apply Exists.intro),s.trans ((E.trans (aB.mono E.size)).mono s.size)⟩
    | false =>
     have hN:=V rfl;clear C V z
     go_wp2_with (refine zt rfl 322 (.tmp 6) (.tmp 17) rfl wr.heap.size rfl rfl VC (za.new wr 322 #[.nilFunc,.int .i64 0]) (by rfl) (by rfl) (Up _ _ _ _) ?_)
     refine hC.mono ?_;rintro e w2 ⟨rfl,aB⟩;go_wp2;exact⟨⟨k+1,by omega,by simp,hN,E.trans (aB.mono E.size)⟩,by simp[intOf];omega⟩
   ·obtain rfl:k=1+l.length:=by omega
    have h0:v=0:=by rw[hV.out];exact UD _ (λj h=>U.out j h (aM j h))
    subst h0;go_wp2;simp only[mM];go_ret;exact⟨rfl,s.trans (u.mono s.size)⟩
theorem IW (w:World)(n:Nat)(h1:1<=n)(h2:n<=40000):pr Y3 35 #[.int .i64 (n:Int)] w λe w'=>∃p,e=Y0 (.tuple #[.pointer (some ⟨p,0,none⟩),.int .i64 0])/\w.heap.size<=p/\yR w' p n (λ_=>qx) [] 0 false/\ph w.heap.size w w':=by
 have q:¬ (n:Int)<1:=by omega
 have r:¬ (40000:Int)<(n:Int):=by omega
 have h:zw (w.alloc (.map #[] 0)) w.heap.size #[] 0:=heap_alloc_new w _;have hB:ph w.heap.size w (w.alloc (.map #[] 0)):=(pf _ w).alloc (zG _) _;have j:=hB.alloc hB.size (.cells (wh w.heap.size n none 0 0 0 false) 114);have f:=za.new (w.alloc (.map #[] 0)) 114 (wh w.heap.size n none 0 0 0 false);unfold wh at *
 go_enter func35,ntmps35
 go_wp2_with (refine Qq rfl rfl ?_;intro _)
 refine oE (oN rfl _ _ _) rfl ⟨w.heap.size+1,?_,by omega,?_,j⟩
 ·simp
 ·rw[pq] at f;refine⟨w.heap.size,none,0,f,⟨λ_=>by decide,#[],0,(nE _ _ _ h.lt).trans h,?_⟩,FQ.mt _ _⟩;have:UT (λ_=>qx)=λ_=>none:=by funext k;simp[UT]
  rw[this];exact⟨YI.empty,MapKept.stamped_empty 0⟩
section
variable (w:World)(p many:Nat)(g:Nat->Y4)(xs:List (Nat×Y4))(left:Int)(stops:Bool)
theorem Vl (at_:Int):pr Y3 261 #[.pointer (some ⟨p,0,none⟩),.int .i64 at_] w λe w' =>
   e=Y0 (.agg #[.func (.func 308) #[] #[.pointer (some ⟨w.heap.size+1,0,none⟩),.pointer (some ⟨w.heap.size,0,none⟩)],.int .i64 4])/\za w' w.heap.size 75 #[.pointer (some ⟨p,0,none⟩)]/\za w' (w.heap.size+1) 3 #[.int .i64 at_]/\ph w.heap.size w w':=by
 have hB:ph w.heap.size w (((w.alloc (.cells #[.pointer (some ⟨p,0,none⟩)] 75)).alloc (.cells #[.int .i64 at_] 3)).alloc (.cells #[.nilFunc,.int .i64 0] 322)):=(((pf _ w).alloc (zG _) _).alloc (by simp) _).alloc (by simp;omega) _;have j:=((za.new w 75 #[.pointer (some ⟨p,0,none⟩)]).alloc (.cells #[.int .i64 at_] 3)).alloc (.cells #[.nilFunc,.int .i64 0] 322);have h:=(za.new (w.alloc (.cells #[.pointer (some ⟨p,0,none⟩)] 75)) 3 #[.int .i64 at_]).alloc (.cells #[.nilFunc,.int .i64 0] 322);have f:=za.new ((w.alloc (.cells #[.pointer (some ⟨p,0,none⟩)] 75)).alloc (.cells #[.int .i64 at_] 3)) 322 #[.nilFunc,.int .i64 0];rw[pq] at h;rw[pq,pq] at f
 go_enter func261,ntmps261
 go_wp2_with (refine zt rfl 322 (.tmp 4) (.tmp 6) rfl (w.heap.size+1+1) rfl rfl VC f (by rfl) (by rfl) (Up _ _ _ _) ?_)
 refine oQ (yM 4 rfl rfl VC (f.setRow _) (by rfl)) rfl ⟨rfl,j.rB (by omega) _,h.rB (by omega) _,zf hB (by omega) _⟩
theorem Jp:pr Y3 231 #[.pointer (some ⟨p,0,none⟩)] w λe w' =>
   e=Y0 (.agg #[.func (.func 293) #[.pointer (some ⟨p,0,none⟩)] #[],.int .i64 140])/\ph w.heap.size w w':=by
 have hB:ph w.heap.size w (w.alloc (.cells #[.nilFunc,.int .i64 0] 322)):=(pf _ w).alloc (zG _) _;have f:=za.new w 322 #[.nilFunc,.int .i64 0]
 go_enter func231,ntmps231
 go_wp2_with (refine zt rfl 322 (.tmp 2) (.tmp 5) rfl w.heap.size rfl rfl VC f (by rfl) (by rfl) (Up _ _ _ _) ?_)
 refine oQ (yM 2 rfl rfl VC (f.setRow _) (by rfl)) rfl ⟨rfl,zf hB (zG _) _⟩
theorem Me (b:Nat)(A:Y5)(n c:Nat)(h:za w b 129 #[.slice A n c]):pr Y3 297 #[.pointer (some ⟨b,0,none⟩)] w λe w'=>e=Y0 (.bool ((n:Int) != 64))/\ph w.heap.size w w':=by
 have hc:=h.boxed
 go_enter func297,ntmps297
 go_wp2;go_ret;exact⟨rfl,pf _ _⟩
theorem Mv (at_:Int)(f j:Nat)(h:yR w p many g xs left stops)(k:za w f 75 #[.pointer (some ⟨p,0,none⟩)])(h1:za w j 3 #[.int .i64 at_]):pr Y3 308 #[.pointer (some ⟨j,0,none⟩),.pointer (some ⟨f,0,none⟩)] w λe w'=>e=Y0 (.bool (decide (at_<0)||decide ((many:Int)<=at_)))/\ph w.heap.size w w':=by
 obtain⟨r,A,c,q,z,B⟩:=h.has;have c1:w.cell? ⟨p,1,none⟩=some (.int .i64 (many:Int)):=by rw[q.cell];rfl
 have s:=k.boxed;have u:=h1.boxed;rcases ha:decide (at_<0) with _|_
 ·rw[Bool.false_or]
  go_enter func308,ntmps308
  go_wp2_with fail
  go_region
  go_wp2;go_ret;exact⟨by simp,(pf _ w).drew⟩
 ·rw[Bool.true_or]
  go_enter func308,ntmps308
  go_wp2_with fail
  go_region
  go_wp2;go_ret;exact⟨by simp,(pf _ w).drew⟩
def FH (b n:Nat):Ux:=⟨297,#[],#[.pointer (some ⟨b,0,none⟩)],2,(n:Int) != 64⟩
def YE (s0 s1 many:Nat)(at_:Int):Ux:=⟨308,#[],#[.pointer (some ⟨s1,0,none⟩),.pointer (some ⟨s0,0,none⟩)],4,decide (at_<0)||decide ((many:Int)<=at_)⟩
def Qe (p:Nat)(left:Int)(stops:Bool):Ux:=⟨293,#[.pointer (some ⟨p,0,none⟩)],#[],140,stops&&left==0⟩
def QQ (w:World)(x:Ux):Prop:=(∀args w,(dF x.f args).run Y3 w=.ok (.enter x.f args) w)/\∀W,ph w.heap.size w W->pr Y3 x.f (x.bd++x.lb) W λe w'=>e=Y0 (.bool x.b)/\ph W.heap.size W w'
theorem wF (b:Nat)(A:Y5)(n c:Nat)(h:za w b 129 #[.slice A n c]):QQ w (FH b n) :=
 ⟨dj func297 (by kernel_rfl) rfl,λW hB=>Me W b A n c (h.below hB h.lt)⟩
theorem Ma (at_:Int)(e f:Nat)(h:yR w p many g xs left stops)(j:za w e 75 #[.pointer (some ⟨p,0,none⟩)])(h1:za w f 3 #[.int .i64 at_]):QQ w (YE e f many at_) :=
 ⟨dj func308 (by kernel_rfl) rfl,λW hB=>Mv W p many g xs left stops at_ e f (h.grow hB) (j.below hB j.lt) (h1.below hB h1.lt)⟩
theorem Hz (h:yR w p many g xs left stops):QQ w (Qe p left stops) :=
 ⟨dj func293 (by kernel_rfl) rfl,λW hB=>(DL W p many g xs left stops (h.grow hB)).mono λe w' ⟨h1,h2⟩=>⟨h1,h2▸pf _ _⟩⟩
end
theorem QQ.grow {w w':World}{x:Ux}(h:QQ w x)(hB:ph w.heap.size w w'):QQ w' x:=⟨h.1,λW e=>h.2 W (hB.trans (e.mono hB.size))⟩
theorem Hv (w:World)(l:List Ux)(h:l.length<=100):yp (w.alloc (.cells (Ym l).toArray 322)) (w.alloc (.cells (Ym l).toArray 322)).heap.size 2 (some ⟨w.heap.size,0,none⟩) l.length l.length (Ym l) :=
 ⟨zG _,by omega,(λe=>by cases e),Tq l,Hw l,λ_=>⟨w.heap.size,0,rfl,by simp,λj v f=>by
  rw[(za.new w 322 (Ym l).toArray).cell,qC]
  simpa using f⟩⟩
def laid (g:Nat->Y4)(xs:List (Nat×Y4)):Nat->Y4:=xs.foldl (λg x=>Jn g x.1 x.2) g
theorem Zu (g:Nat->Y4)(xs:List (Nat×Y4))(k:Nat)(h:k<xs.length):laid g (xs.take (k+1))=Jn (laid g (xs.take k)) xs[k].1 xs[k].2:=by
 unfold laid;rw[List.take_add_one,zM h,List.foldl_append];rfl
section
variable {w:World}{o:oM}{ρ:py->Value}
theorem Du (f:o.op=.alloc 366):(oB ρ o).run Y3 w=.ok (.value (.pointer (some ⟨w.heap.size,0,none⟩))) (w.alloc (.cells (kT (0,qx)).toArray 366)):=by
 have e:(Y3.info? 366).map (λi=>i.zero)=some (some Ni):=by kernel_rfl
 obtain⟨i,h,e⟩:=Option.map_eq_some_iff.1 e;have hq:zeroCells366=(kT (0,qx)).toArray:=by kernel_rfl
 simp[oB,f,Instr.alloc,newVar,newRow,go_sem,hq,pv]
end
theorem IV (w:World)(r:Nat)(g:Nat->Y4)(A:Y5)(c:Nat)(xs:List (Nat×Y4))(h:kj w r g)(I:FQ w w.heap.size A c xs)(hl:xs.length<=1000000):pr Y3 232 #[.map (some r),.slice A xs.length c] w λe w'=>e=Y0 (.map (some w.heap.size))/\kj w' w.heap.size (laid g xs)/\ph w.heap.size w w':=by
 have T:=RT w r g h;have U:laid g (xs.take xs.length)=laid g xs:=by rw[dD]
 have aA:=Zu g xs;obtain⟨F,hF⟩:=Z9 (λk=>laid g (xs.take k))
 have N:F 0=g:=by rw[hF];rfl
 have O:F xs.length=laid g xs:=by rw[hF];exact U
 have aH:Hid (∀k (h:k<xs.length),F (k+1)=Jn (F k) xs[k].1 xs[k].2):=pk (by rw[hF];exact aA);rw[<-O];clear U aA hF O
 go_enter func232,ntmps232
 go_wp2_with (go_at_call 294;refine T.mono ?_;rintro e w1 ⟨rfl,X,aG⟩)
 rw[<-N] at X;clear T N h
 go_loopw [12] (λi wr=>∃k:Nat,k<=xs.length/\i=.int .i64 k/\kj wr w.heap.size (F k)/\ph w.heap.size w wr) (λi _=>xs.length-(intOf i).toNat)
 case atStart=>exact⟨0,by omega,rfl,X,aG⟩
 case round =>
  obtain⟨k,hk,rfl,H,u⟩:=hrel
  by_cases G:k<xs.length
  ·obtain⟨M,o1,rfl,aJ,_⟩:=I.2.rC (by omega);have z:wr.rangeAt M (o1+k*65) (kT xs[k]):=λj v E=>(u.cell (p:=⟨M,o1+k*65+j,none⟩) aJ).trans (I.elem k G j v E)
   have q:xs[k].2.length=64:=I.1 _ (qI G);have hs:=aH.out k G;have aL:IntKind.i64.wrap ((k:Int)+1)=(k:Int)+1:=zg _;obtain⟨x,aB⟩:=Z9 (xs[k]);rw[<-aB] at z q hs;obtain⟨s,f⟩:=x;have C:=vP q;simp only at q hs;have hS:=pk hs;have aD:=pk C;have HR:=pk z;have n0:=za.new wr 366 (kT (0,qx)).toArray;have aC:(kT (s,f)).toArray.size=(kT (0,qx)).toArray.size:=by rw[zR,zR,C];rfl
   have nb:=n0.setRow (kT (s,f)).toArray;have L:ph w.heap.size w ((wr.alloc (.cells (kT (0,qx)).toArray 366)).setRow wr.heap.size (kT (s,f)).toArray):=zf (u.alloc u.size _) u.size _;obtain⟨W,B⟩:=Z9 ((wr.alloc (.cells (kT (0,qx)).toArray 366)).setRow wr.heap.size (kT (s,f)).toArray);rw[<-B] at nb L;have aI:kj W w.heap.size (F k):=by rw[B];have h1:=H.grow ((pf _ wr).alloc (zG _) (.cells (kT (0,qx)).toArray 366));exact h1.below (zf (pf wr.heap.size _) (zG _) _) H.lt
   have d0:W.cell? ⟨wr.heap.size,0,none⟩=some (.int .i64 (s:Int)):=by rw[nb.cell];rfl
   have dr:W.rangeAt wr.heap.size 1 (f.map b8):=λj v E=>by rw[nb.cell];simpa[kT,Nat.add_comm] using E
   have hP:=Ex W w.heap.size s (F k) f q aI;have V:(f.map b8).length=64:=by rw[qE];exact q
   have aE:=pk V;have aF:=pk aC;have HW:=pk B;clear hs q C z aB aC V B
   go_wp2_with (first
    | (refine zr rfl (yX KJ HR.out aD.out rfl rfl) ?_)
    | (refine zr rfl (Du rfl) ?_)
    | (refine vW KJ n0 aF.out (KS _) ?_;rw[<-HW.out])
    | (refine zr rfl (yX jC dr aE.out rfl rfl) ?_)
    | (go_at_call 295;refine hP.mono ?_;rintro e w2 ⟨⟨v2,rfl⟩,Z,aK⟩))
   rw[<-hS.out] at Z;exact⟨⟨k+1,by omega,by simp,Z,zl aK L.size (λr z=>by cases z;exact zG _) |> L.trans⟩,by simp[intOf];omega⟩
  ·obtain rfl:k=xs.length:=by omega
   go_wp2;go_ret;exact⟨rfl,H,u⟩
theorem jX {w w':World}(h:ph w.heap.size w w')(p:Nat):w.grownBy w' (some p):=⟨h.os,h.tape,h.output,h.size,λj e _=>h.block j e⟩
def tz (stops:Bool)(left:Int):Int:=if stops then left-1 else left
theorem qq.rT {w:World}{B q b o c:Nat}{l:Y4}(h:qq w B (some ⟨b,o,none⟩) c l)(f:0<l.length){r many n c':Nat}{A:Y5}{left:Int}{stops:Bool}{T:oD}(j:za w q T (wh r many A n c' left stops)):b≠q:=by
 intro e;subst e;obtain⟨s,o',e,_,hc⟩:=h.rC f;injection e with e
 injection e with e1 e2
 subst e1 e2;have h1:=hc 0 f;rw[j.cell] at h1;have k:=Array.mem_of_getElem? h1;simp[wh] at k
section
variable (w:World)(p many:Nat)(g:Nat->Y4)(xs:List (Nat×Y4))(left:Int)(stops:Bool)
theorem FE (j:yR w p many g xs left stops)(a b c:Ux)(ha:QQ w a)(k:QQ w b)(hc:QQ w c):pr Y3 230 #[.pointer (some ⟨p,0,none⟩),.slice (some ⟨w.heap.size,0,none⟩) 3 3] (w.alloc (.cells #[a.fn,.int .i64 a.e,b.fn,.int .i64 b.e,c.fn,.int .i64 c.e] 322)) λe w'=>e=Y0 (.int .i64 (vg [a,b,c]))/\ph w.heap.size w w':=by
 have hB:ph w.heap.size w (w.alloc (.cells (Ym [a,b,c]).toArray 322)):=(pf _ w).alloc (zG _) _
 have h:=Zd _ p many g xs left stops (j.grow hB) [a,b,c] _ _ (Hv w [a,b,c] (by simp)) (by simp) (λx f=>by
  simp at f;rcases f with rfl|rfl|rfl
  ·exact ha.grow hB
  ·exact k.grow hB
  ·exact hc.grow hB)
 exact h.mono λe w' ⟨h1,h2⟩=>⟨h1,hB.trans (h2.mono hB.size)⟩
theorem FF (j:yR w p many g xs left stops)(a b:Ux)(ha:QQ w a)(k:QQ w b):pr Y3 230 #[.pointer (some ⟨p,0,none⟩),.slice (some ⟨w.heap.size,0,none⟩) 2 2] (w.alloc (.cells #[a.fn,.int .i64 a.e,b.fn,.int .i64 b.e] 322)) λe w'=>e=Y0 (.int .i64 (vg [a,b]))/\ph w.heap.size w w':=by
 have hB:ph w.heap.size w (w.alloc (.cells (Ym [a,b]).toArray 322)):=(pf _ w).alloc (zG _) _
 have h:=Zd _ p many g xs left stops (j.grow hB) [a,b] _ _ (Hv w [a,b] (by simp)) (by simp) (λx f=>by
  simp at f;rcases f with rfl|rfl
  ·exact ha.grow hB
  ·exact k.grow hB)
 exact h.mono λe w' ⟨h1,h2⟩=>⟨h1,hB.trans (h2.mono hB.size)⟩
theorem FG (j:yR w p many g xs left stops)(a:Ux)(ha:QQ w a):pr Y3 230 #[.pointer (some ⟨p,0,none⟩),.slice (some ⟨w.heap.size,0,none⟩) 1 1] (w.alloc (.cells #[a.fn,.int .i64 a.e] 322)) λe w'=>e=Y0 (.int .i64 (vg [a]))/\ph w.heap.size w w':=by
 have hB:ph w.heap.size w (w.alloc (.cells (Ym [a]).toArray 322)):=(pf _ w).alloc (zG _) _
 have h:=Zd _ p many g xs left stops (j.grow hB) [a] _ _ (Hv w [a] (by simp)) (by simp) (λx f=>by
  simp at f;rcases f with rfl
  exact ha.grow hB)
 exact h.mono λe w' ⟨h1,h2⟩=>⟨h1,hB.trans (h2.mono hB.size)⟩
theorem GI (B:yR w p many g xs left stops)(hs:(stops&&left==0)=false)(hl:xs.length<=1000000)(h1 : -1000000<=left)(h2:left<=9223372036854775807):pr Y3 169 #[.pointer (some ⟨p,0,none⟩)] w λe w'=>e=Y0 (.int .i64 0)/\yR w' p many (laid g xs) [] (tz stops left) stops/\w.grownBy w' (some p):=by
 have E:=Jp w p;have C:∀W,ph w.heap.size w W->pr Y3 230 #[.pointer (some ⟨p,0,none⟩),.slice (some ⟨W.heap.size,0,none⟩) 1 1] (W.alloc (.cells #[.func (.func 293) #[.pointer (some ⟨p,0,none⟩)] #[],.int .i64 140] 322)) λe w'=>e=Y0 (.int .i64 0)/\ph W.heap.size W w':=by
  intro W hB;have:=FG W p many g xs left stops (B.grow hB) (Qe p left stops) (Hz W p many g xs left stops (B.grow hB))
  have hf:vg [Qe p left stops]=0:=UD _ (λj h=>by
   have:j=0:=by simp at h;omega
   subst this
   exact hs)
  rw[hf] at this;exact this
 clear hs
 go_enter func169,ntmps169
 go_wp2_with (first
  | (go_at_call 231;refine E.mono ?_;rintro e w1 ⟨rfl,s⟩)
  | (go_at_call 230;refine(C _ s).mono ?_;rintro e w2 ⟨rfl,G⟩))
 have z:ph w.heap.size w w2:=s.trans (G.mono s.size);have L:=B.grow z;obtain⟨r,A,c,u,U,X⟩:=L.has;have c0:w2.drew.cell? ⟨p,0,none⟩=some (.map (some r)):=by rw[show w2.drew.cell? ⟨p,0,none⟩=w2.cell? ⟨p,0,none⟩ from rfl,u.cell];rfl
 have c2:w2.drew.cell? ⟨p,2,none⟩=some (.slice A xs.length c):=by rw[show w2.drew.cell? ⟨p,2,none⟩=w2.cell? ⟨p,2,none⟩ from rfl,u.cell];rfl
 have k:ph w2.heap.size w2 w2.drew:=(pf _ w2).drew;have I:=IV w2.drew r g A c xs (U.grow k) (X.grow k) hl;clear C E s G
 go_region_with (go_at_call 232;refine I.mono ?_;rintro e f ⟨rfl,V,H⟩;have q:za f p _ _:=u.below (k.trans (H.mono k.size)) u.lt;have Z:=q.free 0;have f2:=q.free 2;have k0:f.cell? ⟨p,0,none⟩=some (.map (some r)):=(by rw[q.cell];rfl);have k2:f.cell? ⟨p,2,none⟩=some (.slice A xs.length c):=(by rw[q.cell];rfl))
 all_goals
  have M:yR ((f.setCell ⟨p,0,none⟩ (.map (some w2.heap.size))).setCell ⟨p,2,none⟩ (.slice none 0 0)) p many (laid g xs) [] left stops:=⟨w2.heap.size,none,0,(q.set 0 _).set 2 _,(V.setCell _ _).setCell _ _,FQ.mt _ _⟩;have O:w.grownBy ((f.setCell ⟨p,0,none⟩ (.map (some w2.heap.size))).setCell ⟨p,2,none⟩ (.slice none 0 0)) (some p):=zz (jX (z.trans ((k.trans (H.mono k.size)).mono z.size)) p) (zz (ja f ⟨p,0,none⟩ _) (ja _ ⟨p,2,none⟩ _));generalize (f.setCell ⟨p,0,none⟩ (.map (some w2.heap.size))).setCell ⟨p,2,none⟩ (.slice none 0 0)=w5 at *
  go_wp2_with (go_at_call 233;refine(Hg _ p many _ [] left stops M h1 h2).mono ?_;rintro e w6 ⟨⟨v,rfl⟩,N,T,-⟩)
  go_ret;exact⟨rfl,N,zz O T⟩
end
namespace zb
section
variable {P:oV}{ops:Array oM}{Q:nF->oy->World->Prop}{md:gu}{S:World->Prop}{fin:Nat}
def wpAnyF (P:oV)(md:gu)(ops:Array oM)(Q:nF->oy->World->Prop)(S:World->Prop)(fin:Nat):Nat->Array Bool->oy->World->Prop
 | 0,listed,a,w=>oP md ops listed=[]/\Q .normal a w
 | fuel+1,listed,a,w =>
  (oP md ops listed=[]->Q .normal a w) /\
  ∀i∈oP md ops listed,wpOp P ops Q i (λa' w'=>(i≠fin->S w')/\wpAnyF P md ops Q S fin fuel (listed.setIfInBounds i true) a' w') a w
theorem to_any:∀(e:Nat) (listed:Array Bool) (a:oy) (w:World),wpAnyF P md ops Q S fin e listed a w->wpAny P md ops Q e listed a w
 | 0,_,_,_,h=>h
 | e+1,_,_,_,h=>⟨h.1,λi k=>wpOp_mono (λf w' j=>to_any e _ f w' j.2) (h.2 i k)⟩
def waitsFor (md:gu)(ops:Array oM)(i j:Nat):Bool:=match ops[i]? with|some o=>o.after.toList.any λe=>oT md e&&e.on==j|none=>false
theorem waits_spec {i j:Nat}{o:oM}(h:waitsFor md ops i j=true)(r:ops[i]?=some o):∃e∈o.after,oT md e=true/\e.on=j:=by
 simp only[waitsFor,r,List.any_eq_true,Bool.and_eq_true,beq_iff_eq] at h;obtain⟨e,q,f,k⟩:=h;exact⟨e,Array.mem_toList_iff.1 q,f,k⟩
theorem first {i:Nat}{r:oM}{v:Value}(N:ops[i]?=some r)(X:∀(j:Nat) (o:oM) cs b,ops[j]?=some o->o.op≠.select cs b)
  (hQ:∀c a w,Q (.panic c) (a.put r.dst v) w->Q (.panic c) a w) (aC:waitsFor md ops fin i=true) :
  ∀(u:Nat) (listed:Array Bool) (a:oy) (w:World),
   (∀j s,ops[j]?=some s->j≠i->listed.getD j true=false->(∀e∈s.after,oT md e=true->e.on≠i)->r.apart ops s=true) ->
   i∈oP md ops listed->mV P ops S r v a->S w ->
   wpAnyF P md ops Q S fin u (listed.setIfInBounds i true) (a.put r.dst v) w->wpAnyF P md ops Q S fin (u+1) listed a w:=by
 intro u
 induction u with
 | zero =>
  intro listed a w _ q G z H;refine⟨λh=>(by rw[h] at q;cases q),λj C => ?_⟩
  by_cases f:j=i
  ·subst f;exact G.wpOp N z ⟨λ_=>z,H⟩
  ·have:=gj C f;rw[H.1] at this;cases this
 | succ u ih =>
  intro listed a w T q G z H;refine⟨λh=>(by rw[h] at q;cases q),λj C => ?_⟩
  by_cases f:j=i
  ·subst f;exact G.wpOp N z ⟨λ_=>z,H⟩
  ·have h1:=H.2 j (gj C f);obtain⟨V,s,E,aA⟩:=mem_ready.1 C;have W:∀e∈s.after,oT md e=true->e.on≠i:=λe M L aB=>by
    have h1:=aA e M L;have O:=(mem_ready.1 q).1;rw[aB] at h1;rcases Nat.lt_or_ge i listed.size with I | I
    ·simp[I] at O h1;rw[O] at h1;cases h1
    ·simp[ov I] at h1
   have aE:j≠fin:=λe=>by subst e;obtain⟨e,M,L,aH⟩:=waits_spec aC E;exact W e M L aH
   have h2:=wpOp_putIf E (T j s E f V W) (λcs b=>X i r cs b N) (λcs b=>X j s cs b E) hQ G h1;have aD:∀k ok,ops[k]?=some ok->k≠i->(listed.setIfInBounds j true).getD k true=false ->
     (∀e∈ok.after,oT md e=true->e.on≠i)->r.apart ops ok=true:=λk ok hk aF Z aG=>by
    refine T k ok hk aF ?_ aG
    by_cases U:j=k
    ·subst U;exact V
    ·rw[getD_set_ne true U] at Z;exact Z
   refine wpOp_mono (λa' w' B=>⟨B.2.1,ih (listed.setIfInBounds j true) a' w' aD (gj q (Ne.symm f)) B.1 (B.2.1 aE) ?_⟩) h2;rw[Array.setIfInBounds_comm _ _ f];exact B.2.2
theorem take {f:Nat}{listed:Array Bool}{a:oy}{w:World}(i:Nat){e:oM}(v:Value)(j:ops[i]?=some e)
  (hs:nc ops=true) (hf:mJ md ops listed i=true) (s:(oP md ops listed).contains i=true) (r:waitsFor md ops fin i=true)
  (k:∀c a w,Q (.panic c) (a.put e.dst v) w->Q (.panic c) a w) (q:S w) (u:mV P ops S e v a)
  (h:wpAnyF P md ops Q S fin f (listed.setIfInBounds i true) (a.put e.dst v) w):wpAnyF P md ops Q S fin (f+1) listed a w :=
 first j (Region.noSelect_spec hs) k r f listed a w (Region.free_spec j hf) (by simpa using s) u q h
theorem yld {o:oM}{v:Value}{a:oy}(e:o.guard=none)(h:∀w,S w->(oB a.eval o).run P w=.ok (.value v) w):mV P ops S o v a:=.inl ⟨by simp[og,e],h⟩
theorem one {e:Nat}{listed:Array Bool}{a:oy}{w:World}(i:Nat)(q:oP md ops listed=[i])
  (h:wpOp P ops Q i (λr w'=>(i≠fin->S w')/\wpAnyF P md ops Q S fin e (listed.setIfInBounds i true) r w') a w):wpAnyF P md ops Q S fin (e+1) listed a w :=
 ⟨λf=>(by rw[q] at f;cases f),λj k=>by
  rw[q] at k;obtain rfl:j=i:=by simpa using k
  exact h⟩
theorem two {h:Nat}{listed:Array Bool}{a:oy}{w:World}(i j:Nat)(r:oP md ops listed=[i,j])
  (h1:wpOp P ops Q i (λf w'=>(i≠fin->S w')/\wpAnyF P md ops Q S fin h (listed.setIfInBounds i true) f w') a w)
  (h2:wpOp P ops Q j (λf w'=>(j≠fin->S w')/\wpAnyF P md ops Q S fin h (listed.setIfInBounds j true) f w') a w):wpAnyF P md ops Q S fin (h+1) listed a w :=
 ⟨λq=>(by rw[r] at q;cases q),λk e=>by
  rw[r] at e;rcases qM.1 e with rfl|e
  ·exact h1
  ·obtain rfl:k=j:=by simpa using e
   exact h2⟩
theorem done {e:Nat}{listed:Array Bool}{a:oy}{w:World}(f:oP md ops listed=[])(h:Q .normal a w):wpAnyF P md ops Q S fin e listed a w:=by
 cases e with
 | zero=>exact⟨f,h⟩
 | succ n=>exact⟨λ_=>h,by rw[f];simp⟩
theorem start {f:Nat}{a:oy}{w:World}(S:World->Prop)(fin:Nat)(e:P.follows .mixedOrders=true)(h:wpAnyF P .any ops Q S fin ops.size (dO ops.size false) a w.drew):(gF f ops true).wp P Q a w :=
 wp_region_any e (to_any _ _ _ _ h)
theorem opV {i:Nat}{o:oM}{K:oy->World->Prop}{a:oy}{w w':World}(v:Value)(f:ops[i]?=some o)(e:o.guard=none)(j:(oB a.eval o).run P w=.ok (.value v) w')(h:K (a.put o.dst v) w'):wpOp P ops Q i K a w:=by
 unfold wpOp;simp only[f];rw[if_pos (by simp[og,e])];left;unfold de;rw[j];exact h
theorem opS {i:Nat}{o:oM}{K:oy->World->Prop}{a:oy}{w w':World}(f:ops[i]?=some o)(e:o.guard=none)(j:(oB a.eval o).run P w=.ok .skip w')(h:K (a.put o.dst ou) w'):wpOp P ops Q i K a w:=by
 unfold wpOp;simp only[f];rw[if_pos (by simp[og,e])];left;unfold de;rw[j];exact h
theorem opC {i:Nat}{o:oM}{K:oy->World->Prop}{a:oy}{w:World}(f:FuncId)(xs:Array py)(z:Array oD)(s:ops[i]?=some o)(r:o.guard=none)(hc:o.op=.call {callee:=.value (.func f),args:=xs,argTypes:=z})
  (q:∀args w,(dF f args).run P w=.ok (.enter f args) w) (args:Y7) (ha:xs.map a.eval=args) (h:pr P f args w λe w'=>∃v,e=Y0 v/\K (a.put o.dst v) w'):wpOp P ops Q i K a w:=by
 unfold wpOp;simp only[s];rw[if_pos (by simp[og,r])];left;have u:(oB a.eval o).run P w=.ok (.enter f args) w:=by have j:a.eval (.func f)=.func (.func f) #[] #[]:=rfl;simp[oB,hc,resolve,ha,j,nh,invoke,q args w]
 unfold de;rw[u,Oper.upon_enter];refine h.mono ?_;rintro e w' ⟨v,rfl,k⟩;exact k
theorem n {e:Nat}{listed:Array Bool}{a:oy}{w:World}(i:Nat)(h:wpOp P ops Q i (λf w'=>(i≠fin->S w')/\wpAnyF P md ops Q S fin e (listed.setIfInBounds i true) f w') a w)(j:oP md ops listed=[i]:=by kernel_rfl):wpAnyF P md ops Q S fin (e+1) listed a w:=one i j h
theorem dn {e:Nat}{listed:Array Bool}{a:oy}{w:World}(h:Q .normal a w)(f:oP md ops listed=[]:=by kernel_rfl):wpAnyF P md ops Q S fin e listed a w:=done f h
theorem st {f:Nat}{a:oy}{w:World}(S:World->Prop)(fin:Nat)(h:wpAnyF P .any ops Q S fin ops.size (dO ops.size false) a w.drew)(e:P.follows .mixedOrders=true:=by kernel_rfl):(gF f ops true).wp P Q a w:=start S fin e h
theorem eo {f:FuncId}{fn:Func}{c:Code}(hf:P.funcs[f]?=some fn)(h:(fn.name== "runtime.NumGoroutine")=false:=by kernel_rfl)(e:fn.body=some c:=by rfl):Enters P f:=dj hf h e
theorem oC {i:Nat}{o:oM}{K:oy->World->Prop}{a:oy}{w:World}(f:FuncId)(xs:Array py)(j:Array oD)(args:Y7)(h:pr P f args w λe w'=>∃v,e=Y0 v/\K (a.put o.dst v) w')(k:∀args w,(dF f args).run P w=.ok (.enter f args) w)(r:ops[i]?=some o:=by rfl)(q:o.guard=none:=by rfl)(hc:o.op=.call {callee:=.value (.func f),args:=xs,argTypes:=j}:=by rfl)(ha:xs.map a.eval=args:=by simp only[List.map_toArray,List.map_cons,List.map_nil];rfl):wpOp P ops Q i K a w:=opC f xs j r q hc k args ha h
theorem t {f:Nat}{listed:Array Bool}{a:oy}{w:World}(i:Nat){e:oM}(v:Value)(s:ops[i]?=some e)(k:S w)(h1:∀W,S W->(oB a.eval e).run P W=.ok (.value v) W)(h:wpAnyF P md ops Q S fin f (listed.setIfInBounds i true) (a.put e.dst v) w)(hs:nc ops=true:=by kernel_rfl)(hf:mJ md ops listed i=true:=by kernel_rfl)(u:(oP md ops listed).contains i=true:=by kernel_rfl)(q:waitsFor md ops fin i=true:=by kernel_rfl)(j:∀c a w,Q (.panic c) (a.put e.dst v) w->Q (.panic c) a w:=by exact λ_ _ _ h=>h)(r:e.guard=none:=by rfl):wpAnyF P md ops Q S fin (f+1) listed a w :=
 take i v s hs hf u q j k (yld r h1) h
theorem q {f:Nat}{listed:Array Bool}{a:oy}{w:World}(i:Nat){e:oM}(v:Value)(k:S w)(h:wpAnyF P md ops Q S fin f (listed.setIfInBounds i true) (a.put e.dst v) w)(s:ops[i]?=some e:=by rfl)(h1:∀W,S W->(oB a.eval e).run P W=.ok (.value v) W:=by intro _ hW;(try dsimp only at hW);go_simp)(hs:nc ops=true:=by kernel_rfl)(hf:mJ md ops listed i=true:=by kernel_rfl)(u:(oP md ops listed).contains i=true:=by kernel_rfl)(q:waitsFor md ops fin i=true:=by kernel_rfl)(j:∀c a w,Q (.panic c) (a.put e.dst v) w->Q (.panic c) a w:=by exact λ_ _ _ h=>h)(r:e.guard=none:=by rfl):wpAnyF P md ops Q S fin (f+1) listed a w :=t i v s k h1 h hs hf u q j r
end
end zb
section
variable {w:World}{o:oM}{ρ:py->Value}{x y:py}
theorem Kc (off:Nat):∀(e:Y8) (k:Nat) (arr:Y7) (j:Nat),((e.zipIdx k).foldl (λcs x=>cs.setIfInBounds (off+x.snd) x.fst) arr)[j]?=if off+k<=j/\j<off+k+e.length/\j<arr.size then e[j-(off+k)]? else arr[j]?
 | [],k,arr,j=>by rw[if_neg (by simp;omega)];rfl
 | v::e,k,arr,j=>by
  rw[List.zipIdx_cons,List.foldl_cons,Kc off e (k+1)];simp only[Array.size_setIfInBounds,zL,zS]
  by_cases h1:off+(k+1)<=j/\j<off+(k+1)+e.length/\j<arr.size
  ·rw[if_pos h1,if_pos (by omega),show j-(off+k)=(j-(off+(k+1)))+1 from by omega];rfl
  ·rw[if_neg h1]
   by_cases h2:off+k=j
   ·subst h2
    by_cases f:off+k<arr.size
    ·rw[if_pos rfl,if_pos f,if_pos (by omega),Nat.sub_self];rfl
    ·rw[if_pos rfl,if_neg f,if_neg (by omega)];rw[ov (by omega)]
   ·rw[if_neg h2,if_neg (by omega)]
theorem BF (e:Y8)(arr:Y7)(hs:arr.size=e.length):e.zipIdx.foldl (λcs x=>cs.setIfInBounds x.snd x.fst) arr=e.toArray:=by
 apply Array.ext_getElem?;intro j;have h:=Kc 0 e 0 arr j;simp only[qC] at h;rw[h]
 by_cases f:j<e.length
 ·rw[if_pos (by omega)];simp
 ·rw[if_neg (by omega),ov (by omega),ov (by simp;omega)]
theorem tL (u:Value)(e:Y8)(arr:Y7)(hs:arr.size=e.length+1):e.zipIdx.foldl (λcs x=>cs.setIfInBounds (1+x.snd) x.fst) (arr.setIfInBounds 0 u)=(u::e).toArray:=by
 apply Array.ext_getElem?;intro j;rw[Kc 1 e 0];simp only[Array.size_setIfInBounds,zS];rcases j with _|j
 ·rw[if_neg (by omega),if_pos rfl,if_pos (by omega)];rfl
 ·by_cases f:j<e.length
  ·rw[if_pos (by omega),show j+1-(1+0)=j from by omega];simp
  ·rw[if_neg (by omega),if_neg (by omega),ov (by omega),ov (by simp;omega)]
theorem EP (k:Nat)(l:Y4)(e:o.op=.build 366 #[(0,x),(1,y)])(h1:ρ x=.int .i64 (k:Int))(h2:ρ y=.agg (l.map b8).toArray)(hl:l.length=64):(oB ρ o).run Y3 w=.ok (.value (.agg (kT (k,l)).toArray)) w:=by
 have f:zeroCells366.size=65:=by kernel_rfl
 have key:=tL (.int .i64 (k:Int)) (l.map b8) zeroCells366 (by rw[f,qE,hl]);simp[oB,e,h1,h2,go_sem,kT,pv,hl,key]
theorem Dt (k:Nat)(l:Y4)(hl:l.length=64)(f:o.op=.buildSlice 112 1 #[(0,x)])(h1:ρ x=.agg (kT (k,l)).toArray):(oB ρ o).run Y3 w=.ok (.value (.slice (some ⟨w.heap.size,0,none⟩) 1 1)) (w.alloc (.cells (kT (k,l)).toArray 366)):=by
 have e:=vP (x:=(k,l)) hl;have key:=λarr hs=>BF (kT (k,l)) arr hs
 rw[e] at key;simp[oB,f,h1,go_sem,pv,e,key]
theorem Ob (w:World)(k:Nat)(l:Y4)(hl:l.length=64):yp (w.alloc (.cells (kT (k,l)).toArray 366)) (w.alloc (.cells (kT (k,l)).toArray 366)).heap.size 65 (some ⟨w.heap.size,0,none⟩) 1 1 (kT (k,l)) :=
 ⟨zG _,by omega,(λe=>by cases e),by rw[vP hl],KS _,λ_=>⟨w.heap.size,0,rfl,by simp,λj v f=>by
  rw[(za.new w 366 (kT (k,l)).toArray).cell,qC]
  simpa using f⟩⟩
end
section
variable {w:World}{ops:Array oM}{i:Nat}{o:oM}{a:oy}{Q:nF->oy->World->Prop}{K:oy->World->Prop}
theorem wV (H:ops[i]?=some o)(C:o.guard=none){S T:oD}{sz j:Nat}{z:Value}(q:Zj S T sz j z)(s x:py)(hc:o.op=.call {callee:=.builtin .append,args:=#[s,x],argTypes:=#[S,S]})
  (base:Nat) (v:Value) (n:Nat) (cs:Y8) (hs:a.eval s=v) (I:w.ownsRow base T sz v n cs) (B:Nat) (A:Y5) (m c:Nat) (f:Y8) (M:a.eval x=.slice A m c) (E:yp w B sz A m c f)
  (G:n+m<=oo) (u:(n+m)*j<=140737488355328) (r:base<=w.heap.size)
  (h:∀e w',w'.ownsRow base T sz e (n+m) (cs++f)->w.grownBy w' v.ownBlock->K (a.put o.dst e) w'):wpOp Y3 ops Q i K a w:=by
 obtain⟨e,w',L,h2,k⟩:=GV (w:=w) o.type q base v n cs I B A m c f E G u r;refine zb.opV e H C (w':=w') ?_ (h e w' h2 k);unfold oB;simp only[hc,resolve,invoke,builtin,oY,oU,oO,zI,zJ,zN,hs,M,L]
end
section
variable (w:World)(p many:Nat)(g:Nat->Y4)(xs:List (Nat×Y4))(left:Int)(stops:Bool)
def ux (stops:Bool)(left:Int):Int:=if stops&&left==0 then 140 else 0
theorem AA (H:yR w p many g xs left stops)(k:Nat)(I:k<many)(A:Y5)(c:Nat)(w0 h f:World)(s:Nat)(hs:za w0 s 129 #[.slice A 64 c])(B:ph w.heap.size w w0)(j:ph w0.heap.size w0 h)(q:ph h.heap.size h f)
  (r:za h w0.heap.size 75 #[.pointer (some ⟨p,0,none⟩)]) (u:za h (w0.heap.size+1) 3 #[.int .i64 (k:Int)]) :
  pr Y3 230 #[.pointer (some ⟨p,0,none⟩),.slice (some ⟨f.heap.size,0,none⟩) 3 3] (f.alloc (.cells #[.func (.func 297) #[] #[.pointer (some ⟨s,0,none⟩)],.int .i64 2,.func (.func 308) #[] #[.pointer (some ⟨w0.heap.size+1,0,none⟩),.pointer (some ⟨w0.heap.size,0,none⟩)],.int .i64 4,.func (.func 293) #[.pointer (some ⟨p,0,none⟩)] #[],.int .i64 140] 322))
   λe w'=>e=Y0 (.int .i64 (ux stops left))/\ph f.heap.size f w':=by
 have h1:=H.grow (B.trans ((j.trans (q.mono j.size)).mono B.size));have G:=j.trans (q.mono j.size);have z:=FE f p many g xs left stops h1 (FH s 64) (YE w0.heap.size (w0.heap.size+1) many k) (Qe p left stops)
  (wF f s A 64 c (hs.below G hs.lt)) (Ma f p many g xs left stops k _ _ h1 (r.below q r.lt) (u.below q u.lt)) (Hz f p many g xs left stops h1)
 have hf:vg [FH s 64,YE w0.heap.size (w0.heap.size+1) many k,Qe p left stops]=ux stops left:=by
  have C:decide ((k:Int)<0)=false:=by simp
  have E:¬ many<=k:=by omega
  unfold ux;cases stops<;>by_cases hl:left=0<;>simp[vg,FH,YE,Qe,hl,C,E]
 rw[hf] at z;exact z
theorem Nq (hD:yR w p many g xs left stops)(hs:(stops&&left==0)=false)(k:Nat)(hk:k<many)(A:Y5)(c:Nat)(l:Y4)(hl:l.length=64)(a8:qq w w.heap.size A c l)(bB:xs.length<=1000000)(h1 : -1000000<=left)(h2:left<=9223372036854775807):pr Y3 235 #[.pointer (some ⟨p,0,none⟩),.int .i64 (k:Int),.slice A 64 c] w λe w'=>e=Y0 (.int .i64 0)/\yR w' p many g (xs++[(k,l)]) (tz stops left) stops/\w.grownBy w' (some p)/\∃b c,w'.cell? ⟨p,2,none⟩=some (.slice (some ⟨b,0,none⟩) (xs.length+1) c)/\w.heap.size<=b:=by
 have aN:ph w.heap.size w (w.alloc (.cells #[.slice A 64 c] 129)):=(pf _ w).alloc (zG _) _;have b0:=za.new w 129 #[.slice A 64 c];have HT:=Vl (w.alloc (.cells #[.slice A 64 c] 129)) p k;have Z:=λX w2 L O aX aY=>AA w p many g xs left stops hD k hk A c (w.alloc (.cells #[.slice A 64 c] 129)) X w2 w.heap.size b0 aN L O aX aY
 have hE:ux stops left=0:=by unfold ux;rw[hs];rfl
 rw[hE] at Z;have aA:(w.alloc (.cells #[.slice A 64 c] 129)).heap.size=w.heap.size+1:=pq _ _;rw[aA] at HT;simp only[aA] at Z;have aE:=pk aA;have C:=pk hl;obtain⟨gb,s,rfl,aQ,a4⟩:=a8.rC (by omega);clear hs hE aA hl
 go_enter func235,ntmps235
 go_wp2_with (first
  | (go_at_call 261;refine HT.mono ?_;rintro e X ⟨rfl,s1,s2,L⟩)
  | (go_at_call 231;refine(Jp X p).mono ?_;rintro e w2 ⟨rfl,O⟩)
  | (go_at_call 230;refine(Z X w2 L O s1 s2).mono ?_;rintro e w3 ⟨rfl,aO⟩))
 have z1:w.heap.size+1<=X.heap.size:=aE.out▸L.size;have aF:=L.trans ((O.trans (aO.mono O.size)).mono (by first|exact z1|exact L.size));have N:ph w.heap.size w w3:=aN.trans (aF.mono (by have:=aE.out;omega));have b3:=b0.below aF (by have:=aE.out;omega);have aZ:=hD.grow N;obtain⟨r,E,c3,hb,hm,hx⟩:=aZ.has;have k2:w3.cell? ⟨p,2,none⟩=some (.slice E xs.length c3):=by rw[hb.cell];rfl
 have k5:w3.cell? ⟨w.heap.size,0,none⟩=some (.slice (some ⟨gb,s,none⟩) 64 c):=by rw[b3.cell];rfl
 have aT:=hb.lt;have a9:=b3.lt;have aJ:w3.rangeAt gb s (l.map b8):=λj v H=>by
  have aS:j<l.length:=by have:=(qQ.1 H).1;simpa using this
  rw[N.cell (p:=⟨gb,s+j,none⟩) aQ,a4 j aS];simpa[aS,b8] using H
 have aH:gb<w3.heap.size:=zO aQ N.size;have aV:∀W,ph w3.heap.size w3 W->(Instr.loadAt 341 (.pointer (some ⟨gb,s,none⟩))).run Y3 W=.ok (.agg (l.map b8).toArray) W:=by intro W f;obtain⟨d,hu,hd⟩:=jC.desc;exact run_loadAt_mid (P:=Y3) W gb s 341 (l.map b8) d (λj v H=>(f.cell (p:=⟨gb,s+j,none⟩) aH).trans (aJ j v H)) hu hd (by rw[jC.size,qE,C.out])
 have aW:∀W,ph w3.heap.size w3 W->(loadVar 341 ⟨gb,s,none⟩).run Y3 W=.ok (.agg (l.map b8).toArray) W:=by intro W f;obtain⟨d,hu,hd⟩:=jC.desc;exact run_loadVar_mid (P:=Y3) W gb s 341 (l.map b8) d (λj v H=>(f.cell (p:=⟨gb,s+j,none⟩) aH).trans (aJ j v H)) hu hd (by rw[jC.size,qE,C.out])
 have aL:∀W,(Instr.arrayAt 341 (.slice (some ⟨gb,s,none⟩) 64 c)).run Y3 W=.ok (.pointer (some ⟨gb,s,none⟩)) W:=λW=>by simp[Instr.arrayAt,run_underlying underlying341,go_sem]
 have aC:∀W,ph w3.heap.size w3 W->W.cell? ⟨p,2,none⟩=some (.slice E xs.length c3):=λW f=>(f.cell (p:=⟨p,2,none⟩) aT).trans k2
 have aM:∀W,ph w3.heap.size w3 W->W.cell? ⟨w.heap.size,0,none⟩=some (.slice (some ⟨gb,s,none⟩) 64 c):=λW f=>(f.cell (p:=⟨w.heap.size,0,none⟩) a9).trans k5
 have aD:∀W,ph w3.heap.size w3 W->pr Y3 298 #[.slice E xs.length c3] W λe w'=>∃v,e=Y0 v/\w'.ownsRow W.heap.size 366 65 v xs.length (Kv xs)/\ph W.heap.size W w':=λW f=>RW W E c3 xs (hx.grow f) bB
 have q:ph w3.heap.size w3 w3.drew:=(pf _ w3).drew;have z:∀W cs T,ph w3.heap.size w3 W->ph w3.heap.size w3 (W.alloc (.cells cs T)):=λW cs T h=>h.alloc h.size _
 clear HT Z L O aO aF k2 k5;refine zb.st (λW=>ph w3.heap.size w3 W) 15 ?_;refine zb.q 0 (.pointer (some ⟨p,0,none⟩)) q ?_;refine zb.q 1 (.pointer (some ⟨p,0,none⟩)) q ?_;refine zb.q 2 (.pointer (some ⟨p,0,none⟩)) q ?_;refine zb.q 3 (.pointer (some ⟨p,2,none⟩)) q ?_;refine zb.q 6 (.int .i64 (k:Int)) q ?_;refine zb.t 7 (.slice (some ⟨gb,s,none⟩) 64 c) rfl q (λW f=>by have e:=aM W f;go_simp) ?_;refine zb.t 8 (.pointer (some ⟨gb,s,none⟩)) rfl q (λW f=>by have e:=aL W;go_simp) ?_;simp only[Z8];refine zb.t 9 (.agg (l.map b8).toArray) rfl q (λW f=>yX jC (λj v H=>(f.cell (p:=⟨gb,s+j,none⟩) aH).trans (aJ j v H)) (by rw[qE,C.out]) rfl rfl) ?_;simp only[Z8];refine zb.t 10 (.agg (kT (k,l)).toArray) rfl q (λW f=>EP k l rfl rfl rfl C.out) ?_;refine zb.t 4 (.slice E xs.length c3) rfl q (λW f=>by have e:=aC W f;go_simp) ?_;simp only[Z8];refine zb.two 5 11 (by kernel_rfl) ?_ ?_
 case' refine_1 =>
  refine zb.oC 298 #[.tmp 24] #[112] #[.slice E xs.length c3] ((aD _ q).mono ?_) (zb.eo func298);rintro e w4 ⟨v4,rfl,M,U⟩;have u:ph w3.heap.size w3 w4:=q.trans (U.mono q.size);refine⟨v4,rfl,λ_=>u,?_⟩;simp only[Z8];refine zb.n 11 ?_;refine zb.opV _ rfl rfl (Dt k l C.out rfl rfl) ⟨λ_=>z _ _ _ u,?_⟩;simp only[Z8];refine zb.n 12 ?_;refine wV rfl rfl Rm (.tmp 25) (.tmp 31) rfl w3.heap.size v4 xs.length (Kv xs) rfl (qw (yS M (zG _)) ((pf _ w4).alloc (zG _) _)) _ _ 1 1 (kT (k,l)) rfl (Ob w4 k l C.out) (by unfold oo;omega) (by omega) (z _ _ _ u).size ?_;intro v5 w5 aB V;have B:ph w3.heap.size w3 w5:=(z _ _ _ u).trans (zl V (z _ _ _ u).size (zh (yS M (zG _))));refine⟨λ_=>B,?_⟩;simp only[Z8];clear V M U u
 case' refine_2 =>
  refine zb.opV _ rfl rfl (Dt k l C.out rfl rfl) ⟨λ_=>z _ _ _ q,?_⟩;simp only[Z8];refine zb.n 5 ?_;refine zb.oC 298 #[.tmp 24] #[112] #[.slice E xs.length c3] ((aD _ (z _ _ _ q)).mono ?_) (zb.eo func298);rintro e w4 ⟨v4,rfl,M,U⟩;have u:ph w3.heap.size w3 w4:=(z _ _ _ q).trans (U.mono (z _ _ _ q).size);refine⟨v4,rfl,λ_=>u,?_⟩;simp only[Z8];refine zb.n 12 ?_;refine wV rfl rfl Rm (.tmp 25) (.tmp 31) rfl w3.heap.size v4 xs.length (Kv xs) rfl (yS M (z _ _ _ q).size) _ _ 1 1 (kT (k,l)) rfl ((Ob w3.drew k l C.out).grow U) (by unfold oo;omega) (by omega) u.size ?_;intro v5 w5 aB V;have B:ph w3.heap.size w3 w5:=u.trans (zl V u.size (zh (yS M (z _ _ _ q).size)));refine⟨λ_=>B,?_⟩;simp only[Z8];clear V M U u
 all_goals
  have aG:=hb.below B aT;have c5:w5.cell? ⟨p,2,none⟩=some (.slice E xs.length c3):=aC _ B;have f5:=aG.free 2;have aK:(w5.setCell ⟨p,2,none⟩ v5).ownsRow w3.heap.size 366 65 v5 (xs.length+1) (Kv xs++kT (k,l)):=ql aB λr hr=>oI w5 ⟨p,2,none⟩ v5 r (λe=>by have:=zh aB r hr;simp at e;omega)
  obtain⟨I,G,rfl,aR⟩:=qn aK (λv hv=>by rcases qA.1 hv with h|h;exact Al _ v h;exact KS _ v h);refine zb.n 13 ?_;refine zb.opV (.pointer (some ⟨p,0,none⟩)) rfl rfl (by go_simp) ⟨λ_=>B,?_⟩;simp only[Z8];refine zb.n 14 ?_;refine zb.opV (.pointer (some ⟨p,2,none⟩)) rfl rfl (by go_simp) ⟨λ_=>B,?_⟩;simp only[Z8];refine zb.n 15 ?_;refine zb.opS (w':=w5.setCell ⟨p,2,none⟩ (.slice I (xs.length+1) G)) rfl rfl (by go_simp) ⟨λh=>absurd rfl h,?_⟩;simp only[zD,zC,zB,pj];refine zb.dn ?_;have aU:Tt (xs++[(k,l)]):=λx bA=>by
   rcases qA.1 bA with h|h
   ·exact hx.1 x h
   ·obtain rfl:x=(k,l):=by simpa using h
    exact C.out
  have aP:Kv (xs++[(k,l)])=Kv xs++kT (k,l):=by rw[Hd];simp[Kv]
  have aI:(xs++[(k,l)]).length=xs.length+1:=by simp
  have a0:yR (w5.setCell ⟨p,2,none⟩ (.slice I (xs.length+1) G)) p many g (xs++[(k,l)]) left stops:=by
   refine⟨r,I,G,?_,(hm.grow B).setCell _ _,aU,?_⟩
   ·rw[aI];exact aG.set 2 _
   ·rw[aI,aP];exact aR
  have a5:w.grownBy (w5.setCell ⟨p,2,none⟩ (.slice I (xs.length+1) G)) (some p):=zz (jX (N.trans (B.mono N.size)) p) (ja w5 ⟨p,2,none⟩ _);obtain⟨g9,h9,a7⟩:∃g9,I=some ⟨g9,0,none⟩/\w.heap.size<=g9:=by
   rcases aK.2 with⟨_,e⟩|⟨g9,cap,cur,e,hb9,_⟩
   ·omega
   ·injection e with e1
    exact⟨g9,e1,zT N.size hb9⟩
  have a2:(w5.setCell ⟨p,2,none⟩ (.slice I (xs.length+1) G)).cell? ⟨p,2,none⟩=some (.slice (some ⟨g9,0,none⟩) (xs.length+1) G):=by subst h9;exact World.cell?_setCell_same _ _ _ c5
  clear aB aK aR aG c5 f5 B aC aM aV aW aL aD z aU aP aI;generalize w5.setCell ⟨p,2,none⟩ (.slice I (xs.length+1) G)=w6 at *
  go_wp2_with (go_at_call 233;refine(Hg _ p many _ _ left stops a0 h1 h2).mono ?_;rintro e w7 ⟨⟨v,rfl⟩,a1,a6,a3⟩)
  go_ret;exact⟨rfl,a1,zz a5 a6,g9,G,a3.trans a2,a7⟩
end
section
variable (w:World)(p many:Nat)(g:Nat->Y4)(xs:List (Nat×Y4))(left:Int)(stops:Bool)
end

section
variable (w:World)(p many:Nat)(g:Nat->Y4)(xs:List (Nat×Y4))(left:Int)(stops:Bool)
end


section
variable {w:World}{ops:Array oM}{i:Nat}{o:oM}{a:oy}{Q:nF->oy->World->Prop}{K:oy->World->Prop}
end

section
variable (w:World)(p many:Nat)(g:Nat->Y4)(xs:List (Nat×Y4))(left:Int)(stops:Bool)
theorem Ih (h:yR w p many g xs left stops):pr Y3 102 #[.pointer (some ⟨p,0,none⟩)] w λe w'=>e=Y0 (.int .i64 (many:Int))/\w=w':=by
 have f:=Jg w p many g xs left stops h;obtain⟨r,A,c,j,k,q⟩:=h.has;have c1:w.cell? ⟨p,1,none⟩=some (.int .i64 (many:Int)):=by rw[j.cell];rfl
 go_enter func102,ntmps102
 go_wp2_with (go_at_call 163;refine f.mono ?_;rintro e w' ⟨rfl,rfl⟩)
 go_ret;exact⟨rfl,rfl⟩
end
end
section
open Go Go.RowKit Go.Shelf
attribute [local go_sem] Oper.semAt_some
def JT {β : Type}(B:Nat)(I : β -> World->Prop):Prop:=∀s X Y row,I s X->X.grownBy Y row->(∀r,row=some r->B<=r)->I s Y
theorem JT.alloc {β : Type}{B:Nat}{I : β -> World->Prop}(h:JT B I){s : β}{X:World}(o:Obj)(hs:I s X):I s (X.alloc o) :=
 h s X _ none hs ⟨rfl,rfl,rfl,by simp,λk f _=>nE X o k f⟩ (λr e=>by cases e)
theorem JT.putObj {β : Type}{B:Nat}{I : β -> World->Prop}(h:JT B I){s : β}{X:World}{l:Nat}(o:Obj)(hs:I s X)(hl:B<=l):I s (X.putObj l o):=h s X _ (some l) hs (grownBy_putObj' X l o) (λr e=>by cases e;exact hl)
theorem JT.grow {β : Type}{B:Nat}{I : β -> World->Prop}(h:JT B I){s : β}{X Y:World}(hs:I s X)(f:ph X.heap.size X Y):I s Y:=h s X Y none hs ⟨f.os,f.tape,f.output,f.size,λk j _=>f.block k j⟩ (λr e=>by cases e)
def qf (Mu:Nat->Prop)(B:Nat)(W W':World):Prop:=W.heap.size<=W'.heap.size/\∀k o,W.heap[k]?=some o->(k<B->¬ Mu k)->W'.heap[k]?=some o
theorem qf.refl (Mu:Nat->Prop)(B:Nat)(W:World):qf Mu B W W:=⟨zG _,λ_ _ h _=>h⟩
theorem qf.trans {Mu:Nat->Prop}{B:Nat}{X Y Z:World}(h:qf Mu B X Y)(k:qf Mu B Y Z):qf Mu B X Z:=⟨zT h.1 k.1,λi o f e=>k.2 i o (h.2 i o f e) e⟩
theorem qf.any {Mu:Nat->Prop}{B:Nat}{X Y:World}(h:qf Mu B X Y):qf (λ_=>True) B X Y:=⟨h.1,λk o f j=>h.2 k o f (λe=>absurd trivial (j e))⟩
theorem qf.grow (Mu:Nat->Prop)(B:Nat){X Y:World}(h:ph X.heap.size X Y):qf Mu B X Y:=⟨h.size,λk o e _=>(h.block k (zK.1 e).1).trans e⟩
theorem qf.setCell {Mu:Nat->Prop}{B:Nat}(X:World)(p:px)(v:Value)(j:p.block<B)(h:Mu p.block):qf Mu B X (X.setCell p v) :=
 ⟨by simp,λk o f hn=>(oI X p v k (λe=>hn (by rw[e];exact j) (by rw[e];exact h))).trans f⟩
theorem qf.cell {Mu:Nat->Prop}{B:Nat}{X Y:World}(h:qf Mu B X Y){p:px}{v:Value}(hc:X.cell? p=some v)(j:p.block<B->¬ Mu p.block):Y.cell? p=some v:=by
 have f:∃o,X.heap[p.block]?=some o:=by
  cases e:X.heap[p.block]? with
  | none=>simp[nD,e] at hc
  | some o=>exact⟨o,rfl⟩
 obtain⟨o,e⟩:=f;rw[oG ((h.2 _ o e j).trans e.symm)];exact hc
theorem qf.blk {Mu:Nat->Prop}{B:Nat}{X Y:World}(h:qf Mu B X Y){g:Nat}{t:oD}{cs:Y7}(e:za X g t cs)(f:g<B->¬ Mu g):za Y g t cs:=h.2 _ _ e f
def tP {α : Type}(F:Fence)(n:Nat)(P:oV)(g:Nat)(lb:Y7)(encs : α -> Y7)(Mu:Nat->Prop)(Rd:List α -> α -> World->Prop)(S Sp:List α -> Prop)(w:World):Prop :=
 ∀(l:Nat) (J Jx:List α -> World->Prop) (W:World),ph w.heap.size w W->JT W.heap.size J->JT W.heap.size Jx ->
  (∀pre x W1,J pre W1->Rd pre x W1->YieldAt F (n-1) P l (encs x) W1 λe W' =>
   (e=Y0 (.bool true)/\J (pre++[x]) W'/\qf Mu W.heap.size W1 W')∨(e=Y0 (.bool false)/\Jx (pre++[x]) W'/\qf (λ_=>True) W.heap.size W1 W')) ->
  J [] W ->
  dw F n P g (#[.func (.yield l) #[] #[]]++lb) W λe W'=>(∃v,e=Y0 v)/\((∃xs,S xs/\J xs W')∨(∃pre,Sp pre/\Jx pre W'))
def wU {α : Type}(Mu:Nat->Prop)(B:Nat)(I:List α -> World->Prop)(Ix:Code->List α -> World->Prop)(xs:List α)(W:World):nF->oy->World->Prop
 | .normal,_,W'=>qf Mu B W W'/\I xs W'
 | .ret,_,W'=>qf (λ_=>True) B W W'/\Ix .ret xs W'
 | .exit id,_,W'=>qf (λ_=>True) B W W'/\Ix (.exit id) xs W'
 | .goto t,_,W'=>qf (λ_=>True) B W W'/\Ix (.goto t) xs W'
 | .panic _,_,_=>False
 | .outgrown,_,_=>False
section
variable {F:Fence}{n:Nat}{P:oV}{w:World}
end
theorem qq.rL {B:Nat}(A:Y5)(c:Nat)(l:Y4):OwnFrom B (λ(_:Unit) W=>qq W W.heap.size A c l):=λ_ X Y row hs f s =>
 ⟨hs.le,hs.max,hs.nil,λhl=>by
  obtain⟨g,o,h,k,hc⟩:=hs.rC hl
  exact⟨g,o,h,zO k f.size,λj q=>cell_kept (hc j q) f (λr e=>(s r e).2)⟩⟩
end
end Go.Proofs.YtohmkffoojdahaaGreat
namespace vA
inductive tq (l:List UInt8):List (Nat×Nat)->Nat->Prop
 | nil:tq l [] 0
 | snoc {pre:List (Nat×Nat)} {p v u:Nat}:tq l pre p->rd (l.drop p)=some (v,u)->tq l (pre++[(p,v)]) (p+u)
end vA
namespace Go.Proofs.YtohmkffoojdahaaGreat
section
open Go Go.RowKit vA Go.Shelf
attribute [local go_sem] Oper.semAt_some
theorem jw (n:Int)(h0 : -9223372036854775808<=n:=by omega)(h1:n<9223372036854775808:=by omega):IntKind.i64.wrap n=n:=by
 simp[IntKind.wrap,IntKind.bits,IntKind.signed];split<;>omega
theorem Xh {P:oV}{n:Nat}{c:Code}{Q:nF->oy->World->Prop}{a:oy}{w:World}(h:c.wpIn oS n P (Exit.noGoto Q) a w):(Code.scope c).wpIn oS n P Q a w:=wpIn_wide.2 (wp_scope_straight (wpIn_wide.1 h))
section
variable {w0:World}{n₀:Nat}
end
end
section
open Go Go.RowKit vA Go.Shelf
attribute [local go_sem] Oper.semAt_some
def kQ (L k:Nat):Nat:=min 64 (L-64*k)
def XD (L:Nat):Nat:=(L+63) / 64
def wo (Bs Bn:Nat)(W W':World):Prop:=W'.cell? ⟨Bs,0,none⟩=W.cell? ⟨Bs,0,none⟩/\W'.cell? ⟨Bn,0,none⟩=W.cell? ⟨Bn,0,none⟩
theorem BX (n:Nat)(A:Y5)(len f:Nat)(w:World):dw oS n Y3 81 #[.slice A len f,.int .i64 64] w λe w'=>e=Y0 (.func (.func 132) #[] #[.pointer (some ⟨w.heap.size,0,none⟩),.pointer (some ⟨w.heap.size+1,0,none⟩)])/\(w.alloc (.cells #[.slice A len f] 129)).alloc (.cells #[.int .i64 64] 3)=w':=by
 refine dN func81 rfl trivial ?_ rfl;simp only[ntmps81,zR,zL,zY,yJ,yK,qG,qH,qS,qL,zQ,zX]
 gi_wp2
 go_ret;exact⟨rfl,rfl⟩
theorem NJ (w:World)(A:Y5)(c:Nat)(b:Y4)(h:qq w w.heap.size A c b)(hl:b.length<=1000000):pr Y3 234 #[.slice A b.length c] w λe w'=>∃g f c2,e=Y0 (.func (.func 296) #[] #[.pointer (some ⟨g,0,none⟩)])/\za w' g 129 #[.slice f b.length c2]/\qq w' w'.heap.size f c2 b/\ph w.heap.size w w':=by
 go_enter func234,ntmps234
 go_wp2_with (go_at_call 112;refine(YZ w A c b h (by omega)).mono ?_;rintro x j ⟨v,rfl,own,hB⟩;obtain⟨f,c2,rfl,k⟩:=own.inB)
 go_ret;have ha:=(pf j.heap.size j).alloc (zG _) (.cells #[.slice f b.length c2] 129);exact⟨_,f,c2,rfl,za.new _ _ _,(k.below ha).more ha.size,hB.trans (ha.mono hB.size)⟩
def YD (b:Y4)(k:Nat):Y4:=(b.drop (64*k)).take 64
theorem jW (b:Y4)(k:Nat):(YD b k).length=kQ b.length k:=by simp[YD,kQ]
theorem za.ra {B g:Nat}{t:oD}{cs:Y7}(k:g<B){W W':World}{row:Option Nat}(h:za W g t cs)(f:W.grownBy W' row)(j:∀r,row=some r->B<=r):za W' g t cs :=
 h.grown f (λe=>by have:=j g e.symm;omega)
theorem UP {B n₀:Nat}{w:World}(hB:n₀<=B){W W':World}{row:Option Nat}(k:n₀<=W.heap.size)(h:ph n₀ w W)(f:W.grownBy W' row)(j:∀r,row=some r->B<=r):ph n₀ w W' :=
 h.trans (zl f k (λr e=>zT hB (j r e)))
theorem Vb {n m l e:Nat}{P:oV}{f:FuncId}{tmps:Y7}{assign body:Code}{w:World}{R:Ending->World->Prop}(h:RoundIn oS n P l f tmps assign body w R):RoundIn (Fence.wide.inRound e) m P l f tmps assign body w R :=
 ⟨h.1,λc cs _=>h.2 c cs (room_wide _)⟩
theorem NQ {W:World}{B g o c k:Nat}{b:Y4}(h:qq W B (some ⟨g,o,none⟩) c b)(u:64*k<b.length):qq W B (some ⟨g,o+64*k,none⟩) (kQ b.length k) (YD b k):=by
 have hl:=jW b k;refine⟨by omega,by unfold kQ;omega,(λh=>by cases h),λ_ => ?_⟩;obtain⟨s,o',e,q,hc⟩:=h.rC (by omega);injection e with e
 injection e with e1 e2
 subst e1 e2;refine⟨g,o+64*k,rfl,q,λj f => ?_⟩;have r:64*k+j<b.length:=by rw[hl] at f;unfold kQ at f;omega
 have:=hc (64*k+j) r;rw[dq,this];simp[YD]
theorem qf.pX {Mu Nu:Nat->Prop}{B n₀:Nat}{X Y:World}(h:qf Mu B X Y){A:Y5}{c:Nat}{l:Y4}(f:qq X n₀ A c l)(r:0<l.length->∀g o,A=some ⟨g,o,none⟩->¬ Nu g)(hs:∀g,g<n₀->g<B->¬ Nu g->¬ Mu g:=by first|exact λg _ _ h=>h|(intro g h1 h2 s;simp only at *;omega)):qq Y n₀ A c l :=
 ⟨f.le,f.max,f.nil,λhl=>by
  obtain⟨g,o,e,k,hc⟩:=f.rC hl
  exact⟨g,o,e,k,λj q=>h.cell (hc j q) (λhB=>hs g k hB (r hl g o e))⟩⟩
theorem EI {e:Ending}{p q:Prop}(h:(e=Y0 (.bool true)/\p)∨(e=Y0 (.bool false)/\q)):∃r,e=Y0 (.bool r)/\((r=true/\p)∨(r=false/\q)):=by
 rcases h with⟨rfl,h⟩|⟨rfl,h⟩
 ·exact⟨true,rfl,.inl ⟨rfl,h⟩⟩
 ·exact⟨false,rfl,.inr ⟨rfl,h⟩⟩
section
variable {n₀:Nat}
def BO (L:Nat)(x:Nat×(Y5×Nat)):Y7:=#[.int .i64 (x.1:Int),.slice x.2.1 (kQ L x.1) x.2.2]
def tW (b:Y4)(pre:List (Nat×(Y5×Nat)))(x:Nat×(Y5×Nat))(W:World):Prop:=x.1=pre.length/\64*x.1<b.length/\qq W W.heap.size x.2.1 x.2.2 (YD b x.1)
end
end
section
open Go Go.RowKit Go.Shelf
attribute [local go_sem] Oper.semAt_some
section
variable {F:Fence}{n:Nat}{P:oV}{w:World}
theorem Kx {α : Type}{g:py}{ps:Array Tmp}{assign body:Code}{Q:nF->oy->World->Prop}{a:oy}
  (aX:F.round=none) (h1:1<=n) {gf:Nat} {lb:Y7} (hg:a.eval g=.func (.func gf) #[] lb) (aK:F.fn gf) (eg:∀args w,(dF gf args).run P w=.ok (.enter gf args) w)
  {encs : α -> Y7} {Mu:Nat->Prop} {Rd:List α -> α -> World->Prop} {S Sp:List α -> Prop} {w0:World} (aY:tP F (n-1) P gf lb encs Mu Rd S Sp w0)
  (aE:ph w0.heap.size w0 w) (aU:∀x,(encs x).size=ps.size)
  (I:List α -> World->Prop) (M:Code->List α -> World->Prop) (H:JT w.heap.size I) (aB:∀c,JT w.heap.size (M c)) (aD:∀j x,OwnFrom w.heap.size (λ(_:Unit) W=>Rd j x W)) (h0:I [] w) (As : α -> oy->World->Prop) (aJ:∀x a,OwnFrom w.heap.size (λ(_:Unit) W=>As x a W))
  (aM:∀(l:Nat) (x : α) (W:World) (K:oy->World->Prop),w.heap.size<=W.heap.size->(∀a W',ph W.heap.size W W'->As x a W'->K a W') ->
   assign.wpIn (F.inRound l) (n-1-1) P (Exit.then K (λ_ _ _=>False)) {tmps:=(ps.zip (encs x)).foldl (λt (p,v)=>t.setIfInBounds p v) a.tmps,defers:=[]} W)
  (aN:∀(l:Nat) (j:List α) (x : α) (W:World) (a:oy),w.heap.size<=W.heap.size->I j W->Rd j x W->As x a W->body.wpIn (F.inRound l) (n-1-1) P (wU Mu w.heap.size I M (j++[x]) W) a W)
  (aO:∀(D:Nat) (xs:List α) (W:World),w.heap.size<=D->S xs->I xs W->W.heap[D]?=some (.deferred (some []))->Q .normal {a with defers:={target:=.collected D,args:=#[]}::a.defers} W)
  (aZ:∀(D:Nat) (c:Code) (j:List α) (W:World),w.heap.size<=D->Sp j->M c j W->W.heap[D]?=some (.deferred (some []))->c.wpIn F n P Q {a with defers:={target:=.collected D,args:=#[]}::a.defers} W) :
  (Code.rangeFunc g ps assign body).wpIn F n P Q a w:=by
 refine wpIn_rangeFunc λfn aP => ?_
 rw[aX]
 -- the loop's record, and the world that bears it and the block for deferred calls
 obtain⟨f,G⟩:∃f:LoopState->Option Code->Loop,f=λst pe => {state:=st,pending:=pe,fn,tmps:=a.tmps,params:=ps,assign,body,defers:=w.heap.size}:=⟨_,rfl⟩
 obtain⟨V,N⟩:∃V,(w.alloc (.deferred (some []))).alloc (.loop (f .ready none))=V:=⟨_,rfl⟩;have vL:V.heap[w.heap.size+1]?=some (.loop (f .ready none)):=by
  subst N;have:=nS (w.alloc (.deferred (some []))) (.loop (f .ready none))
  rwa [pq] at this
 have vD:V.heap[w.heap.size]?=some (.deferred (some [])):=by subst N;exact(nE _ _ _ (by simp)).trans (nS w _)
 have vI:I [] V:=by subst N;exact H.alloc _ (H.alloc _ h0)
 have vS:V.heap.size=w.heap.size+2:=by subst N;simp
 have vB:ph w0.heap.size w0 V:=by subst N;exact aE.trans ((((pf _ w).alloc (zG _) _).alloc (by simp) _).mono aE.size)
 refine⟨w.heap.size+1,[{target:=.collected w.heap.size,args:=#[]}],V,{target:=.fn (.func gf) lb,args:=#[.func (.yield (w.heap.size+1)) #[] #[]]},V,gf,#[.func (.yield (w.heap.size+1)) #[] #[]]++lb,V,?_,?_,?_,?_,λ_=>h1,?_⟩
 ·rw[<-N,G];exact run_enterLoop_outer _ _ _ _ _
 ·simp only[resolve,hg];simp[go_sem]
 ·intro f' aF;simp[Target.leads] at aF;subst aF;exact aK
 ·simp[invoke,go_sem,eg]
 have apart:∀{A B:World} {row:Option Nat} {k:Nat} {o:Obj},A.heap[k]?=some o->A.grownBy B row->(∀r,row=some r->V.heap.size<=r)->k<V.heap.size->B.heap[k]?=some o:=λq hg u aG =>
  (hg.block _ (zK.1 q).1 (λe=>by have:=u _ e.symm;omega)).trans q
 refine(aY (w.heap.size+1)
  (λj W=>I j W/\W.heap[w.heap.size+1]?=some (.loop (f .ready none))/\W.heap[w.heap.size]?=some (.deferred (some [])))
  (λj W=>∃c,M c j W/\W.heap[w.heap.size+1]?=some (.loop (f .done (some c)))/\W.heap[w.heap.size]?=some (.deferred (some [])))
  V vB
  (λs A B row hs L u=>⟨H s A B row hs.1 L (λr e=>by have:=u r e;omega),apart hs.2.1 L u (by omega),apart hs.2.2 L u (by omega)⟩)
  (λs A B row hs L u=>by
   obtain⟨c,hc,hl,q⟩:=hs
   exact⟨c,aB c s A B row hc L (λr e=>by have:=u r e;omega),apart hl L u (by omega),apart q L u (by omega)⟩)
  ?round ⟨vI,vL,vD⟩).mono ?behind
 case round =>
  rintro j x X ⟨aQ,aA,aT⟩ aW;have aH:w.heap.size+1<X.heap.size:=(zK.1 aA).1;have hy:=run_yield (P:=P) (args:=encs x) aA (by rw[G];exact aU x);rw[G] at hy;refine⟨fn,_,assign,body,hy,roundIn_of_wpIn aP (aM _ x X _ (by omega) (λa2 W E aI=>⟨_,run_beginRound ((E.block _ aH).trans aA) (by rw[G]),?_⟩))⟩;clear hy;have hl:=(E.block _ aH).trans aA;have q:=(E.block _ (show w.heap.size<X.heap.size by omega)).trans aT;have Z:=H.grow aQ E;have aV:=(aD j x) () X W none aW ⟨E.os,E.tape,E.output,E.size,λk q _=>E.block k q⟩ (λr e=>by cases e);have aG:w.heap.size+1<W.heap.size:=(zK.1 hl).1;have bL:(W.putObj (w.heap.size+1) (.loop {f .ready none with state:=.busy})).heap[w.heap.size+1]?=some (.loop {f .ready none with state:=.busy}):=nY aG;have bD:(W.putObj (w.heap.size+1) (.loop {f .ready none with state:=.busy})).heap[w.heap.size]?=some (.deferred (some [])):=(oK (by omega)).trans q;refine wpIn_mono (aN _ j x _ _ (by simp;omega) (H.putObj _ Z (by omega)) ((aD j x).putObj (s:=()) _ aV (by omega) hl rfl) ((aJ x a2).putObj (s:=()) _ aI (by omega) hl rfl)) ?_
  -- the round's end
  have fin:∀(C:Option Code) (U:World),qf (λ_=>True) w.heap.size (W.putObj (w.heap.size+1) (.loop {f .ready none with state:=.busy})) U ->
    (Instr.endRound (w.heap.size+1) C).run P U=.ok (.bool C.isNone) (U.putObj (w.heap.size+1) (.loop (f (if C.isNone then .ready else .done) C))) /\
    U.heap[w.heap.size+1]?=some (.loop {f .ready none with state:=.busy}) /\
    (U.putObj (w.heap.size+1) (.loop (f (if C.isNone then .ready else .done) C))).heap[w.heap.size+1]?=some (.loop (f (if C.isNone then .ready else .done) C)) /\
    (U.putObj (w.heap.size+1) (.loop (f (if C.isNone then .ready else .done) C))).heap[w.heap.size]?=some (.deferred (some [])):=λC U O=>by
   have uL:=O.2 _ _ bL (λh=>by omega);have:=run_endRound (P:=P) C uL;rw[G] at this ⊢;exact⟨this,by rw[G] at uL;exact uL,nY (zK.1 uL).1,(oK (by omega)).trans (O.2 _ _ bD (λh=>by omega))⟩
  have out:∀(c:Code) (U:World),qf (λ_=>True) w.heap.size (W.putObj (w.heap.size+1) (.loop {f .ready none with state:=.busy})) U->M c (j++[x]) U ->
    (∃c',M c' (j++[x]) (U.putObj (w.heap.size+1) (.loop (f .done (some c))))/\(U.putObj (w.heap.size+1) (.loop (f .done (some c)))).heap[w.heap.size+1]?=some (.loop (f .done (some c')))/\(U.putObj (w.heap.size+1) (.loop (f .done (some c)))).heap[w.heap.size]?=some (.deferred (some [])))/\qf (λ_=>True) V.heap.size X (U.putObj (w.heap.size+1) (.loop (f .done (some c)))):=λc U O aS=>by
   obtain⟨_,h3,h4,h5⟩:=fin (some c) U O;refine⟨⟨c,(aB c).putObj _ aS (by omega),h4,h5⟩,(qf.grow _ _ E).trans ⟨by have:=O.1;simpa using this,λk o q hm => ?_⟩⟩;have T:k≠w.heap.size+1:=λe=>hm (by omega) trivial
   rw[oK T];exact O.2 k o (by rw[oK T];exact q) (λh=>hm (by omega))
  rintro e a3 U z;cases e with
  | normal =>
   obtain⟨aC,aR⟩:=z;obtain⟨u,h3,h4,h5⟩:=fin none U aC.any;refine⟨_,_,u,.inl ⟨rfl,⟨H.putObj _ aR (by omega),h4,h5⟩,(qf.grow _ _ E).trans ⟨by have:=aC.1;simpa using this,λk o q hm => ?_⟩⟩⟩
   by_cases T:k=w.heap.size+1
   ·subst T;rw[hl] at q;rw[<-q];exact h4
   ·rw[oK T];exact aC.2 k o (by rw[oK T];exact q) (λh=>hm (by omega))
  | ret=>exact⟨_,_,(fin (some .ret) U z.1).1,.inr ⟨rfl,out .ret U z.1 z.2⟩⟩
  | exit id=>exact⟨_,_,(fin (some (.exit id)) U z.1).1,.inr ⟨rfl,out (.exit id) U z.1 z.2⟩⟩
  | goto t=>exact⟨_,_,(fin (some (.goto t)) U z.1).1,.inr ⟨rfl,out (.goto t) U z.1 z.2⟩⟩
  | panic ch=>exact z.elim
  | outgrown=>exact z.elim
 case behind =>
  rintro e U ⟨⟨v,rfl⟩,(⟨xs,hS,Z,hl,q⟩|⟨j,aL,c,Z,hl,q⟩)⟩
  ·have u:=run_endLoop (P:=P) hl (by rw[G];simp);rw[G] at u;exact⟨none,_,u,aO _ xs _ (zG _) hS (H.putObj _ Z (by omega)) ((oK (by omega)).trans q)⟩
  ·have u:=run_endLoop (P:=P) hl (by rw[G];simp);rw[G] at u;exact⟨some c,_,u,aZ _ c j _ (zG _) aL ((aB c).putObj _ Z (by omega)) ((oK (by omega)).trans q)⟩
end
end
section
open Go Go.RowKit vA Go.Shelf
section
variable {F:Fence}{n:Nat}{P:oV}{w w':World}{ops:Array oM}{rest:List oM}{o:oM}{a:oy}{Q:nF->oy->World->Prop}
theorem Qr {v:Value}(k:o.guard=none)(T:oD)(x:py)(e:o.op=.load T x)(q:(oB a.eval o).run P w=.ok (.value v) w')(h:nH F n P ops Q rest (a.put o.dst v) w'):nH F n P ops Q (o::rest) a w :=
 gm k λr f=>by unfold Oper.wpIn;refine⟨by simp[mg,e],?_⟩;rw[nu F _ _ (by rw[e];intro c j;cases j),q];exact f _ _ h
theorem QB {v:Value}(k:o.guard=none)(T:oD)(e:o.op=.alloc T)(q:(oB a.eval o).run P w=.ok (.value v) w')(h:nH F n P ops Q rest (a.put o.dst v) w'):nH F n P ops Q (o::rest) a w :=
 gm k λr f=>by unfold Oper.wpIn;refine⟨by simp[mg,e],?_⟩;rw[nu F _ _ (by rw[e];intro c j;cases j),q];exact f _ _ h
theorem jg (r:o.guard=none)(T:oD)(x y:py)(e:o.op=.store T x y)(g:Nat){t:oD}{cs cs':Y7}(s:a.eval x=.pointer (some ⟨g,0,none⟩))(u:a.eval y=.agg cs'){m:Nat}(j:yx P T m)(k:za w g t cs)(hn:cs.size=m)
  (hs:cs'.size=cs.size) (h1:∀v∈cs'.toList,v.oneCell'=true) (h:nH F n P ops Q rest (a.put o.dst ou) (w.setRow g cs')):nH F n P ops Q (o::rest) a w :=
 gm r λz f=>by unfold Oper.wpIn;refine⟨by simp[mg,e],?_⟩;rw[nu F _ _ (by rw[e];intro c q;cases q)];unfold oB;simp only[e,s,u,Instr.storeAt,gH,oY,oU,oO,Qt (hn▸j) k hs h1];exact f _ _ h
end
attribute [local go_sem] Oper.semAt_some
def jt (xs:List (Nat×Y4))(k:Nat):Nat×Y4:=xs.getD (xs.length-1-k) (0,qx)
theorem Be (n:Nat)(aI:2<=n)(l s g o c:Nat)(xs:List (Nat×Y4))(hw:Tt xs)(A:Y5)(Z:0<xs.length->A=some ⟨g,o,none⟩)(aF:xs.length<=c)(hL:xs.length<=1000000)(J G:List Nat->World->Prop)(E:Nat)
  (hY:∀f k W,J f W->(k=f.length/\k<xs.length)->YieldAt oS (n-1) Y3 l #[.int .i64 ((xs.length:Int)-1-k),.agg (kT (jt xs k)).toArray] W λe W' =>
   (e=Y0 (.bool true)/\J (f++[k]) W'/\qf (λ_=>False) E W W')∨(e=Y0 (.bool false)/\G (f++[k]) W'/\qf (λ_=>True) E W W'))
  (W:World) (aC:W.cell? ⟨s,0,none⟩=some (.slice A xs.length c)) (hr:∀k,(h:k<xs.length)->W.rangeAt g (o+k*65) (kT xs[k])) (X:J [] W) :
  dw oS n Y3 344 #[.func (.yield l) #[] #[],.pointer (some ⟨s,0,none⟩)] W λe W'=>(∃v,e=Y0 v) /\
   ((∃U,U.length=xs.length/\J U W')∨(∃f,(f.length<=xs.length/\0<f.length)/\G f W')):=by
 have h1:1<=n:=by omega
 have aJ:IntKind.i64.wrap ((xs.length:Int)-1)=(xs.length:Int)-1:=zg _;refine dN func344 rfl trivial ?_ rfl;simp only[ntmps344,zR,zL,zY,yJ,yK,qG,qH,qS,qL,zQ,zX]
 gi_wp2
 gi_loopw [3] (λi wr=>∃(q:Int) (f:List Nat),i=.int .i64 q/\q=(xs.length:Int)-1-f.length/\f.length<=xs.length/\J f wr/\qf (λ_=>False) 0 W wr)
  (λi _=>(intOf i+1).toNat)
 case atStart=>exact⟨(xs.length:Int)-1,[],rfl,by simp,by simp,X,qf.refl _ _ _⟩
 case round =>
  obtain⟨q,f,rfl,hq,hb,H,C⟩:=hrel;have aG:wr.cell? ⟨s,0,none⟩=some (.slice A xs.length c):=C.cell (p:=⟨s,0,none⟩) aC (λh=>by simp)
  by_cases aH:0<=q
  ·have r:xs.length-1-f.length<xs.length:=by omega
   obtain rfl:=Z (by omega);obtain⟨m,u⟩:∃m:Nat,m=xs.length-1-f.length:=⟨_,rfl⟩;rw[<-u] at r;have aE:q=(m:Int):=by omega
   subst aE;have N:wr.rangeAt g (o+m*65) (kT xs[m]):=λj v hj=>C.cell (p:=⟨g,o+m*65+j,none⟩) (hr m r j v hj) (λh=>by simp)
   have B:(kT xs[m]).length=65:=vP (hw _ (qI r));obtain⟨fn,tmps,assign,body,T,hR⟩:=hY f f.length wr H ⟨rfl,by omega⟩;have L:jt xs f.length=xs[m]:=by unfold jt;rw[<-u,qT,zM r];rfl
   rw[L,show (xs.length:Int)-1-(f.length:Int)=(m:Int) from by omega] at T;obtain⟨x,O⟩:=Z9 (xs[m]);rw[<-O] at T N B;have aK:IntKind.i64.wrap ((m:Int)-1)=(m:Int)-1:=zg _;have z:=pk hq;have V:=pk B;clear hq O L u B
   gi_wp2_with (refine Qr rfl _ _ rfl (yX KJ N V.out rfl rfl) ?_)
   refine hR.mono ?_;have I:=z.out;rintro e W3 (⟨rfl,aA,M⟩|⟨rfl,aB,_⟩)
   ·have aD:qf (λ_=>False) 0 W W3:=C.trans ⟨M.1,λk o r u=>M.2 k o r (λh=>by simp)⟩;clear I
    gi_wp2
    go_roundw
    case rel=>exact⟨(m:Int)-1,f++[f.length],rfl,by simp;have:=z.out;omega,by simp;have:=z.out;omega,aA,aD⟩
    case measure=>simp[intOf]
   ·have hl:(f++[f.length]).length<=xs.length/\0<(f++[f.length]).length:=by simp;omega
    clear I
    gi_wp2
    exact oE (dS rfl _ _ _) rfl ⟨⟨_,rfl⟩,.inr ⟨_,hl,aB⟩⟩
  ·obtain⟨hs⟩:Nonempty (f.length=xs.length):=⟨by omega⟩
   gi_wp2
   go_end0;exact⟨⟨_,rfl⟩,.inl ⟨f,hs,H⟩⟩
theorem NW (n:Nat)(L:2<=n)(e g o c:Nat)(xs:List (Nat×Y4))(N:Tt xs)(A:Y5)(u:0<xs.length->A=some ⟨g,o,none⟩)(C:xs.length<=c)(B:xs.length<=1000000)(w:World)(z:e<w.heap.size)
  (G:w.cell? ⟨e,0,none⟩=some (.slice A xs.length c)) (H:0<xs.length->g<w.heap.size) (M:∀k,(h:k<xs.length)->w.rangeAt g (o+k*65) (kT xs[k])) :
  tP oS n Y3 344 #[.pointer (some ⟨e,0,none⟩)] (λk:Nat=>#[.int .i64 ((xs.length:Int)-1-k),.agg (kT (jt xs k)).toArray]) (λ_=>False)
   (λf k _=>k=f.length/\k<xs.length) (λO=>O.length=xs.length) (λf=>f.length<=xs.length/\0<f.length) w:=λl J r W q _ _ E s =>
 Be n L l e g o c xs N A u C B J r W.heap.size E W ((q.cell (p:=⟨e,0,none⟩) z).trans G) (λk h j v I=>(q.cell (p:=⟨g,o+k*65+j,none⟩) (H (by omega))).trans (M k h j v I)) s
end
section
open Go Go.RowKit vA Go.Shelf
attribute [local go_sem] Oper.semAt_some
theorem ML (g:Nat->Y4)(xs:List (Nat×Y4))(k:Nat):∀m,m<=xs.length->(∀j,(h:j<xs.length)->j<m->xs[j].1≠k)->laid g (xs.take m) k=g k
 | 0,_,_=>rfl
 | m+1,hm,hno=>by rw[Zu g xs m (by omega)];unfold Jn;rw[if_neg (λe=>hno m (by omega) (by omega) e.symm)];exact ML g xs k m (by omega) (λj h f=>hno j h (by omega))
theorem MM (g:Nat->Y4)(xs:List (Nat×Y4))(k i:Nat)(f:i<xs.length)(q:xs[i].1=k):∀m,i+1+m<=xs.length->(∀j,(h:j<xs.length)->i<j->j<i+1+m->xs[j].1≠k)->laid g (xs.take (i+1+m)) k=xs[i].2
 | 0,_,_=>by rw[Nat.add_zero,Zu g xs i f];unfold Jn;rw[if_pos q.symm]
 | m+1,hm,hno=>by rw[<-dq,Zu g xs (i+1+m) (by omega)];unfold Jn;rw[if_neg (λe=>hno (i+1+m) (by omega) (by omega) (by omega) e.symm)];exact MM g xs k i f q m (by omega) (λj h h1 r=>hno j h h1 (by omega))
theorem Hu (xs:List (Nat×Y4))(j:Nat)(h:j<xs.length):jt xs j=xs[xs.length-1-j]:=by
 unfold jt;rw[qT,zM (by omega)];rfl
theorem NV (g:Nat->Y4)(xs:List (Nat×Y4))(k:Nat)(h:∀j,j<xs.length->(jt xs j).1≠k):laid g xs k=g k:=by
 have:=ML g xs k xs.length (zG _) (λj f _=>by
  have h1:=h (xs.length-1-j) (by omega);rw[Hu _ _ (by omega)] at h1;have e:xs.length-1-(xs.length-1-j)=j:=by omega
  simpa only[e] using h1)
 rwa [dD] at this
theorem OI (g:Nat->Y4)(xs:List (Nat×Y4))(k m:Nat)(r:m<xs.length)(h:∀j,j<m->(jt xs j).1≠k)(q:(jt xs m).1=k):laid g xs k=(jt xs m).2:=by
 rw[Hu _ _ r] at q ⊢
 have:=MM g xs k (xs.length-1-m) (by omega) q m (by omega) (λj s h1 h2=>by
  have f:=h (xs.length-1-j) (by omega);rw[Hu _ _ (by omega)] at f;have e:xs.length-1-(xs.length-1-j)=j:=by omega
  simpa only[e] using f)
 have e:xs.length-1-m+1+m=xs.length:=by omega
 rwa [e,dD] at this
section
variable {w:World}{o:oM}{ρ:py->Value}
theorem GB (e:o.op=.alloc 341):(oB ρ o).run Y3 w=.ok (.value (.pointer (some ⟨w.heap.size,0,none⟩))) (w.alloc (.cells (qx.map b8).toArray 341)):=by
 simp[oB,e,Instr.alloc,newVar,newRow,go_sem,pv];rfl
theorem FV (T:oD)(x y:py)(h:o.op=.store T x y)(g:Nat){t:oD}{cs cs':Y7}(j:ρ x=.pointer (some ⟨g,0,none⟩))(k:ρ y=.agg cs'){m:Nat}(e:yx Y3 T m)(f:za w g t cs)(hn:cs.size=m)(hs:cs'.size=cs.size)(h1:∀v∈cs'.toList,v.oneCell'=true):(oB ρ o).run Y3 w=.ok .skip (w.setRow g cs'):=by
 unfold oB;simp only[h,j,k,Instr.storeAt,gH,oY,oU,oO,Qt (hn▸e) f hs h1]
end
theorem tK (t:Y7)(i j:Tmp)(a b:Value):((#[i,j]:Array Tmp).zip #[a,b]).foldl (λt (p,v)=>t.setIfInBounds p v) t=(t.setIfInBounds i a).setIfInBounds j b:=by
 simp
theorem KV:∀(xs:List (Nat×Y4)) (g:Nat->Y4),(∀m,(g m).length=64)->Tt xs->∀k,(laid g xs k).length=64
 | [],g,hg,_,k=>hg k
 | x::xs,g,hg,hw,k=>KV xs (Jn g x.1 x.2) (λm=>by
   unfold Jn;split
   ·exact hw x (by simp)
   ·exact hg m) (λy e=>hw y (by simp[e])) k
theorem Ht {xs:List (Nat×Y4)}(e:Tt xs)(j:Nat):(jt xs j).2.length=64:=by
 unfold jt;rw[qT];cases h:xs[xs.length-1-j]? with
 | none=>decide
 | some x=>exact e x (List.mem_of_getElem? h)
theorem Kk {B:Nat}{w V:World}(h:ph B w V)(D:Nat)(o:Obj)(e:B<=D):ph B w (V.putObj D o) :=
 h.trans ⟨rfl,rfl,rfl,by simp,λk f=>oK (by omega)⟩
theorem Hs {V:World}{g:Nat}{t:oD}{cs:Y7}(h:za V g t cs)(D:Nat)(o:Obj)(e:g≠D):za (V.putObj D o) g t cs:=(oK e).trans h
abbrev tn (p k hs g6 len c:Nat)(A:Y5)(d m:Value):oy :=
 {tmps:=#[.pointer (some ⟨p,0,none⟩),.int .i64 (k:Int),ou,.pointer (some ⟨hs,0,none⟩),.pointer (some ⟨hs+1,0,none⟩),ou,.pointer (some ⟨g6,0,none⟩),.pointer (some ⟨p,0,none⟩),.pointer (some ⟨p,0,none⟩),.pointer (some ⟨p,2,none⟩),.slice A len c,
   .func (.func 344) #[] #[.pointer (some ⟨hs+1+1,0,none⟩)],d,m,ou,ou,ou,ou,ou,ou,ou,ou,ou,ou,ou,ou],defers:=[]}
theorem wA (n:Nat)(A:Y5)(len f:Nat)(w:World):dw oS n Y3 309 #[.slice A len f] w λe w'=>e=Y0 (.func (.func 344) #[] #[.pointer (some ⟨w.heap.size,0,none⟩)])/\w.alloc (.cells #[.slice A len f] 112)=w':=by
 refine dN func309 rfl trivial ?_ rfl;simp only[ntmps309,zR,zL,zY,yJ,yK,qG,qH,qS,qL,zQ,zX]
 gi_wp2
 go_ret;exact⟨rfl,rfl⟩
theorem El (n:Nat)(hn:6<=n)(w:World)(p many:Nat)(g:Nat->Y4)(xs:List (Nat×Y4))(left:Int)(stops:Bool)(hD:yR w p many g xs left stops)(hl:xs.length<=1000000)(k:Nat):dw oS n Y3 262 #[.pointer (some ⟨p,0,none⟩),.int .i64 (k:Int)] w λe w'=>e=Y0 (Qs (laid g xs k))/\ph w.heap.size w w':=by
 obtain⟨r,A,c,hb,hm,hw,hx⟩:=hD.has;have h1:1<=n:=by omega
 obtain⟨W2,T⟩:=Z9 ((w.alloc (.cells #[.int .i64 (k:Int)] 3)).alloc (.cells (qx.map b8).toArray 341));have aA:ph w.heap.size w W2:=by rw[T];exact((pf _ w).alloc (zG _) _).alloc (by simp) _
 have s2:W2.heap.size=w.heap.size+1+1:=by rw[T];simp
 have bk:za W2 w.heap.size 3 #[.int .i64 (k:Int)]:=by rw[T];exact(za.new w _ _).alloc _
 have bs:za W2 (w.heap.size+1) 341 (qx.map b8).toArray:=by have:=za.new (w.alloc (.cells #[.int .i64 (k:Int)] 3)) 341 (qx.map b8).toArray;rw[pq] at this;rw[T];exact this
 have c2:W2.cell? ⟨p,2,none⟩=some (.slice A xs.length c):=by rw[aA.cell (p:=⟨p,2,none⟩) hb.lt,hb.cell];rfl
 have aG:=pk T;refine du func262 rfl trivial ?_ rfl;simp only[ntmps262,zR,zL,zY,yJ,yK,qG,qH,qS,qL,zQ,zX];clear T
 gi_wp2_with (first
  | (refine QB rfl _ rfl (GB rfl) ?_;rw[pq,<-aG.out])
  | (refine⟨trivial,?_⟩;gi_at_call 309;refine(wA (n-1) _ _ _ _).mono ?_;rintro e w' ⟨rfl,rfl⟩))
 have aT:=hx.le;obtain⟨s,M,hA⟩:∃s M,0<xs.length->A=some ⟨s,M,none⟩/\s<w.heap.size:=by
  by_cases h0:0<xs.length
  ·obtain⟨s,M,e,hg,_⟩:=hx.rC h0;exact⟨s,M,λ_=>⟨e,hg⟩⟩
  ·exact⟨0,0,λh=>absurd h h0⟩
 have aW:∀j,(h:j<xs.length)->w.rangeAt s (M+j*65) (kT xs[j]):=λj h=>by obtain⟨e,hg⟩:=hA (by omega);subst e;exact FQ.elem ⟨hw,hx⟩ j h
 obtain⟨W4,H⟩:=Z9 (W2.alloc (.cells #[.slice A xs.length c] 112));have aI:ph w.heap.size w W4:=by rw[H];exact aA.alloc aA.size _
 have s4:W4.heap.size=w.heap.size+1+1+1:=by rw[H];simp[s2]
 have aL:za W4 w.heap.size 3 #[.int .i64 (k:Int)]:=by rw[H];exact bk.alloc _
 have aM:za W4 (w.heap.size+1) 341 (qx.map b8).toArray:=by rw[H];exact bs.alloc _
 have aR:W4.cell? ⟨w.heap.size+1+1,0,none⟩=some (.slice A xs.length c):=by rw[H,<-s2];exact(za.new W2 112 #[.slice A xs.length c]).boxed
 rw[<-H];have aU:w.cell? ⟨p,0,none⟩=some (.map (some r)):=by rw[hb.cell];rfl
 have aV:=hb.lt;clear H bk bs c2 aG s2 aA;refine Kx rfl h1 (gf:=344) (lb:=#[.pointer (some ⟨w.heap.size+1+1,0,none⟩)]) rfl trivial (zb.eo func344)
  (NW (n-1) (by omega) (w.heap.size+1+1) s M c xs hw A (λh=>(hA h).1) aT hl W4 (by omega) aR (λh=>by have:=(hA h).2;omega) (λj h i v hi=>(aI.cell (p:=⟨s,M+j*65+i,none⟩) (hA (by omega)).2).trans (aW j h i v hi))) (pf _ _) (λ_=>rfl)
  (λf V=>ph w.heap.size w V/\za V w.heap.size 3 #[.int .i64 (k:Int)]/\za V (w.heap.size+1) 341 (qx.map b8).toArray/\(∀j,j<f.length->(jt xs j).1≠k))
  (λcd _ V=>cd=.ret/\ph w.heap.size w V/\za V (w.heap.size+1) 341 ((laid g xs k).map b8).toArray)
  ?own ?own2 ?ownR ⟨aI,aL,aM,λj h=>by simp at h⟩
  (λj a V=>∃q,a=tn p k w.heap.size q xs.length c A (.int .i64 ((xs.length:Int)-1-j)) (.agg (kT (jt xs j)).toArray)/\za V q 366 (kT (jt xs j)).toArray)
  ?ownA ?assign ?body ?done ?stop
 case own =>
  rintro f X Y row ⟨h1,h2,h3,h4⟩ z C;exact⟨UP (B:=W4.heap.size) (by omega) h1.size h1 z C,h2.ra (by omega) z C,h3.ra (by omega) z C,h4⟩
 case own2 =>
  rintro cd f X Y row ⟨e,h1,h3⟩ z C;exact⟨e,UP (B:=W4.heap.size) (by omega) h1.size h1 z C,h3.ra (by omega) z C⟩
 case ownR=>exact λf x=>ownFrom_pure _ _
 case ownA =>
  rintro j a ⟨⟩ X Y row ⟨q,e,h⟩ z C;refine⟨q,e,h.grown z (λe2 => ?_)⟩;obtain⟨_,o,ho,hc⟩:=C q e2.symm;have h':X.heap[q]?=some (.cells (kT (jt xs j)).toArray 366 (0,0)):=h;rw[h'] at ho;cases ho;cases hc
 case assign =>
  intro l1 j V K hV Z;have U:=Ht hw j;generalize jt xs j=x at *;have aH:=vP U;have G:(kT x).toArray.size=(kT (0,qx)).toArray.size:=by rw[zR,zR,aH];rfl
  have n0:=za.new V 366 (kT (0,qx)).toArray;have nb:=n0.setRow (kT x).toArray;have aO:ph V.heap.size V ((V.alloc (.cells (kT (0,qx)).toArray 366)).setRow V.heap.size (kT x).toArray):=zf ((pf _ V).alloc (zG _) _) (zG _) _;have N:=pk G;clear G aH U;rw[tK];simp only[zA,zF,zE]
  gi_wp2_with (first
   | (refine QB rfl _ rfl (Du rfl) ?_)
   | (refine jg rfl 366 (.tmp 6) (.tmp 13) rfl V.heap.size rfl rfl KJ n0 (by rfl) N.out (KS _) ?_))
  exact Z _ _ aO ⟨V.heap.size,rfl,nb⟩
 case body =>
  rintro l1 f j V a aZ ⟨hB,aC,E,L⟩ ⟨rfl,hj⟩ ⟨q,rfl,h6⟩;have U:=Ht hw f.length;have I:=OI g xs k f.length hj L;have aB:(jt xs f.length).1≠k->∀j,j<(f++[f.length]).length->(jt xs j).1≠k:=λh j hj=>by
   simp at hj
   by_cases e:j=f.length
   ·subst e;exact h
   ·exact L j (by omega)
  generalize jt xs f.length=x at *;obtain⟨x1,x2⟩:=x;simp only at U I aB;have d0:V.cell? ⟨q,0,none⟩=some (.int .i64 (x1:Int)):=by rw[h6.cell];rfl
  have ck:V.cell? ⟨w.heap.size,0,none⟩=some (.int .i64 (k:Int)):=aC.boxed;have dr:V.rangeAt q 1 (x2.map b8):=λj v hj=>by rw[h6.cell];simpa[kT,Nat.add_comm] using hj
  have aD:(x2.map b8).length=64:=by rw[qE];exact U
  have G:(x2.map b8).toArray.size=(qx.map b8).toArray.size:=by rw[zR,aD];rfl
  have aK:=pk aD;have N:=pk G;have aY:=pk L;clear aD G U L
  by_cases aF:x1=k
  ·subst aF;have aS:=pk (I rfl);clear I aB
   gi_wp2_with (first
    | (refine Qr rfl _ _ rfl (yX jC dr aK.out rfl rfl) ?_)
    | (refine jg rfl _ (.tmp 4) (.tmp 19) rfl (w.heap.size+1) rfl rfl jC E (by rfl) N.out (Zb _) ?_))
   rw[aS.out];exact⟨⟨by simp,λk o hk hm=>(oL _ _ _ _ (by intro e;subst e;exact hm (by omega) trivial)).trans hk⟩,rfl,zf hB (by omega) _,E.setRow _⟩
  ·have a0:¬ (x1:Int)=(k:Int):=by omega
   have aQ:=pk (aB aF);clear I aB aF
   gi_wp2
   exact⟨qf.refl _ _ _,hB,aC,E,aQ.out⟩
 case done =>
  rintro D ys V hD hS ⟨hB,aC,E,L⟩ Z;have I:=NV g xs k (by rw[<-hS];exact L);have aJ:(g k).length=64:=hm.len k;have O:V.drew.cell? ⟨p,0,none⟩=some (.map (some r))/\V.drew.cell? ⟨w.heap.size,0,none⟩=some (.int .i64 (k:Int))/\kj V.drew r g:=⟨(hB.drew.cell (p:=⟨p,0,none⟩) aV).trans aU,aC.boxed,hm.grow hB.drew⟩;have G:((g k).map b8).toArray.size=(qx.map b8).toArray.size:=by rw[zR,qE,aJ];rfl
  have N:=pk G;have HF:=pk I;clear G I aJ L hS
  gi_wp2
  refine wpIn_wide.2 ?_;refine wp_region_noPanic ?_;refine zb.st (λW=>W.cell? ⟨p,0,none⟩=some (.map (some r))/\W.cell? ⟨w.heap.size,0,none⟩=some (.int .i64 (k:Int))/\kj W r g) 6 ?_;refine zb.q 0 (.pointer (some ⟨p,0,none⟩)) O ?_;refine zb.q 1 (.pointer (some ⟨p,0,none⟩)) O ?_;refine zb.q 2 (.pointer (some ⟨p,0,none⟩)) O ?_;refine zb.t 3 (.map (some r)) rfl O (λW u=>by have e:=u.1;go_simp) ?_;refine zb.t 4 (.int .i64 (k:Int)) rfl O (λW u=>by have e:=u.2.1;go_simp) ?_;simp only[Z8];refine zb.t 5 (Qs (g k)) rfl O (λW u=>No u.2.2 rfl rfl rfl) ?_;simp only[Z8];refine zb.n 6 ?_;refine zb.opS (w':=V.drew.setRow (w.heap.size+1) ((g k).map b8).toArray) rfl rfl (FV _ (.tmp 4) (.tmp 25) rfl (w.heap.size+1) rfl rfl jC E (by rfl) N.out (Zb _)) ⟨λh=>absurd rfl h,?_⟩;simp only[zD,zC,zB,pj];refine zb.dn ?_;have aX:za (V.drew.setRow (w.heap.size+1) ((g k).map b8).toArray) (w.heap.size+1) 341 ((laid g xs k).map b8).toArray:=by rw[HF.out];exact za.setRow (w:=V.drew) E _
  have aN:ph w.heap.size w (V.drew.setRow (w.heap.size+1) ((g k).map b8).toArray):=zf hB.drew (by omega) _;have aP:(V.drew.setRow (w.heap.size+1) ((g k).map b8).toArray).heap[D]?=some (.deferred (some [])):=(oL _ _ _ _ (by omega)).trans Z;have aE:((laid g xs k).map b8).toArray.size=64:=by rw[HF.out,N.out];rfl
  generalize V.drew.setRow (w.heap.size+1) ((g k).map b8).toArray=V5 at *;simp only[NoPanic]
  gi_wp2
  refine⟨by simp,.inl ⟨_,_,rfl,dt aP,?_⟩⟩;exact⟨_,yM 4 rfl rfl jC (Hs aX D _ (by omega)) aE,rfl,Kk aN D _ (by omega)⟩
 case stop =>
  rintro D cd f V hD hS ⟨rfl,hB,E⟩ Z;have aE:((laid g xs k).map b8).toArray.size=64:=by rw[zR,qE,KV xs g hm.len hw k]
  gi_wp2
  refine⟨by simp,.inl ⟨_,_,rfl,dt Z,?_⟩⟩;exact⟨_,yM 4 rfl rfl jC (Hs E D _ (by omega)) aE,rfl,Kk hB D _ (by omega)⟩
end
section
open Go Go.RowKit vA
section
variable (w:World)(p many:Nat)(g:Nat->Y4)(xs:List (Nat×Y4))(left:Int)(stops:Bool)
theorem AJ (B:yR w p many g xs left stops)(hs:(stops&&left==0)=false)(k:Nat)(E:k<many)(h f:World)(u:ph w.heap.size w h)(j:ph h.heap.size h f)
  (q:za h w.heap.size 75 #[.pointer (some ⟨p,0,none⟩)]) (r:za h (w.heap.size+1) 3 #[.int .i64 (k:Int)]) :
  pr Y3 230 #[.pointer (some ⟨p,0,none⟩),.slice (some ⟨f.heap.size,0,none⟩) 2 2] (f.alloc (.cells #[.func (.func 308) #[] #[.pointer (some ⟨w.heap.size+1,0,none⟩),.pointer (some ⟨w.heap.size,0,none⟩)],.int .i64 4,.func (.func 293) #[.pointer (some ⟨p,0,none⟩)] #[],.int .i64 140] 322))
   λe w'=>e=Y0 (.int .i64 0)/\ph f.heap.size f w':=by
 have h1:=B.grow (u.trans (j.mono u.size));have s:=FF f p many g xs left stops h1 (YE w.heap.size (w.heap.size+1) many k) (Qe p left stops)
  (Ma f p many g xs left stops k _ _ h1 (q.below j q.lt) (r.below j r.lt)) (Hz f p many g xs left stops h1)
 have hf:vg [YE w.heap.size (w.heap.size+1) many k,Qe p left stops]=0:=by
  have z:¬ many<=k:=by omega
  have C:(Qe p left stops).b=false:=hs;simp[vg,YE,z,C]
 rw[hf] at s;exact s
theorem Po (C:yR w p many g xs left stops)(hs:(stops&&left==0)=false)(k:Nat)(hk:k<many)(hl:xs.length<=1000000):pr Y3 197 #[.pointer (some ⟨p,0,none⟩),.int .i64 (k:Int)] w λe w'=>∃q,e=Y0 (.tuple #[.slice (some ⟨q,0,none⟩) 64 64,.int .i64 0])/\qq w' w'.heap.size (some ⟨q,0,none⟩) 64 (laid g xs k)/\ph w.heap.size w w':=by
 have O:=Vl w p k;have M:=λu G f s U V=>AJ w p many g xs left stops C hs k hk u G f s U V
 have H:∀W,ph w.heap.size w W->pr Y3 262 #[.pointer (some ⟨p,0,none⟩),.int .i64 (k:Int)] W λe w'=>e=Y0 (Qs (laid g xs k))/\ph W.heap.size W w':=λW hW=>callsIn_wide.1 (El 6 (zG _) W p many g xs left stops (C.grow hW) hl k)
 have E:(laid g xs k).length=64:=by obtain⟨r,A,c,hb,hm,hw,hx⟩:=C.has;exact KV xs g hm.len hw k
 generalize laid g xs k=y at *;have I:(y.map b8).toArray.size=(qx.map b8).toArray.size:=by rw[zR,qE,E];rfl
 have N:=pk E;have T:=pk I;unfold Qs at H;clear hs E I
 go_enter func197,ntmps197
 go_wp2_with (first
  | (go_at_call 261;refine O.mono ?_;rintro e u ⟨rfl,s1,s2,f⟩)
  | (go_at_call 231;refine(Jp u p).mono ?_;rintro e G ⟨rfl,s⟩)
  | (go_at_call 230;refine(M u G f s s1 s2).mono ?_;rintro e w3 ⟨rfl,X⟩;have z:ph w.heap.size w w3:=f.trans ((s.trans (X.mono s.size)).mono f.size))
  | (go_at_call 262;refine(H _ z).mono ?_;rintro e w4 ⟨rfl,Z⟩;have B:ph w.heap.size w w4:=z.trans (Z.mono z.size);have L:=za.new w4 341 (qx.map b8).toArray)
  | (refine zr rfl (GB rfl) ?_)
  | (refine vW jC L T.out (Zb _) ?_))
 refine oE (oN rfl _ _ _) rfl ?_;have nb:=L.setRow (y.map b8).toArray;have aA:ph w.heap.size w ((w4.alloc (.cells (qx.map b8).toArray 341)).setRow w4.heap.size (y.map b8).toArray):=zf (B.alloc B.size _) B.size _;refine⟨w4.heap.size,rfl,⟨by rw[N.out];exact zG _,by omega,(λh=>by cases h),λ_=>⟨w4.heap.size,0,rfl,nb.lt,λj hj => ?_⟩⟩,aA⟩;rw[nb.cell,qC];simp[hj,b8]
end
section
variable (fr pg n:Int)
theorem GU (W:World)(g:Nat)(f:za W g 74 #[.int .i64 fr,.int .i64 pg])(h1:1<=fr/\fr<=2000)(h2:1<=pg/\pg<=2000):pr Y3 162 #[.pointer (some ⟨g,0,none⟩)] W λe w'=>e=Y0 (.int .i64 (2+9*fr+8*pg))/\W=w':=by
 have r:W.cell? ⟨g,0,none⟩=some (.int .i64 fr):=by rw[f.cell];rfl
 have s:W.cell? ⟨g,1,none⟩=some (.int .i64 pg):=by rw[f.cell];rfl
 have h:IntKind.i64.wrap (9*fr)=9*fr:=zg _;have j:IntKind.i64.wrap (2+9*fr)=2+9*fr:=zg _;have k:IntKind.i64.wrap (8*pg)=8*pg:=zg _;have q:IntKind.i64.wrap (2+9*fr+8*pg)=2+9*fr+8*pg:=zg _
 go_enter func162,ntmps162
 go_wp2;go_ret;exact⟨rfl,rfl⟩
theorem Hc (W:World)(g:Nat)(f:za W g 3 #[.int .i64 n])(h1:0<=n/\n<2000):pr Y3 236 #[.pointer (some ⟨g,0,none⟩)] W λe w'=>e=Y0 (.int .i64 (2+9*n))/\W=w':=by
 have k:W.cell? ⟨g,0,none⟩=some (.int .i64 n):=by rw[f.cell];rfl
 have h:IntKind.i64.wrap (9*n)=9*n:=zg _;have j:IntKind.i64.wrap (2+9*n)=2+9*n:=zg _
 go_enter func236,ntmps236
 go_wp2;go_ret;exact⟨rfl,rfl⟩
theorem De (W:World)(g f:Nat)(h:za W g 74 #[.int .i64 fr,.int .i64 pg])(j:za W f 3 #[.int .i64 n])(h1:1<=fr/\fr<=2000)(h2:0<=n/\n<2000):pr Y3 259 #[.pointer (some ⟨g,0,none⟩),.pointer (some ⟨f,0,none⟩)] W λe w'=>e=Y0 (.int .i64 (2+9*fr+8*n))/\W=w':=by
 have u:W.cell? ⟨g,0,none⟩=some (.int .i64 fr):=by rw[h.cell];rfl
 have z:W.cell? ⟨f,0,none⟩=some (.int .i64 n):=by rw[j.cell];rfl
 have k:IntKind.i64.wrap (9*fr)=9*fr:=zg _;have q:IntKind.i64.wrap (2+9*fr)=2+9*fr:=zg _;have r:IntKind.i64.wrap (8*n)=8*n:=zg _;have s:IntKind.i64.wrap (2+9*fr+8*n)=2+9*fr+8*n:=zg _
 go_enter func259,ntmps259
 go_wp2;go_ret;exact⟨rfl,rfl⟩
def wB (r e:Int):Value:=.tuple #[.int .i64 (if e=0 then r else 0),.int .i64 e]
theorem DP (w:World):pr Y3 101 #[.agg #[.int .i64 fr,.int .i64 pg]] w λe w'=>e=Y0 (wB (2+9*fr+8*pg) (ME (xB fr pg) 0 1))/\ph w.heap.size w w':=by
 have h:ph w.heap.size w (w.alloc (.cells #[.int .i64 fr,.int .i64 pg] 74)):=(pf _ w).alloc (zG _) _;have k:=za.new w 74 #[.int .i64 fr,.int .i64 pg];have H:=ZM fr pg 0 1 (2+9*fr+8*pg) 162 #[.pointer (some ⟨w.heap.size,0,none⟩)] (zb.eo func162) (w.alloc (.cells #[.int .i64 fr,.int .i64 pg] 74))
  (λf _ _ W j=>GU fr pg W _ (k.below j (by simp)) ((vN fr pg).1 f).1 ((vN fr pg).1 f).2)
 unfold wB;generalize ME (xB fr pg) 0 1=e at *;generalize (if e=0 then 2+9*fr+8*pg else 0)=v at *
 go_enter func101,ntmps101
 go_wp2_with fail
 refine H.mono ?_;rintro e w' ⟨rfl,hB⟩;go_wp2;refine oE (oN rfl _ _ _) rfl ?_;exact⟨rfl,h.trans (hB.mono (by simp))⟩
theorem Dh (w:World):pr Y3 175 #[.agg #[.int .i64 fr,.int .i64 pg],.int .i64 n] w λe w'=>e=Y0 (wB (2+9*n) (ME (xB fr pg) n fr))/\ph w.heap.size w w':=by
 have h:ph w.heap.size w ((w.alloc (.cells #[.int .i64 fr,.int .i64 pg] 74)).alloc (.cells #[.int .i64 n] 3)):=((pf _ w).alloc (zG _) _).alloc (by simp) _;have f:=za.new (w.alloc (.cells #[.int .i64 fr,.int .i64 pg] 74)) 3 #[.int .i64 n];rw[pq] at f;have H:=ZM fr pg n fr (2+9*n) 236 #[.pointer (some ⟨w.heap.size+1,0,none⟩)] (zb.eo func236) ((w.alloc (.cells #[.int .i64 fr,.int .i64 pg] 74)).alloc (.cells #[.int .i64 n] 3))
  (λk q hn W j=>Hc n W _ (f.below j (by simp)) (by have:=(vN fr pg).1 k;omega))
 unfold wB;generalize ME (xB fr pg) n fr=e at *;generalize (if e=0 then 2+9*n else 0)=v at *
 go_enter func175,ntmps175
 go_wp2_with fail
 refine H.mono ?_;rintro e w' ⟨rfl,hB⟩;go_wp2;refine oE (oN rfl _ _ _) rfl ?_;exact⟨rfl,h.trans (hB.mono (by simp;omega))⟩
theorem RO (w:World):pr Y3 195 #[.agg #[.int .i64 fr,.int .i64 pg],.int .i64 n] w λe w'=>e=Y0 (wB (2+9*fr+8*n) (ME (xB fr pg) n pg))/\ph w.heap.size w w':=by
 have k:ph w.heap.size w ((w.alloc (.cells #[.int .i64 fr,.int .i64 pg] 74)).alloc (.cells #[.int .i64 n] 3)):=((pf _ w).alloc (zG _) _).alloc (by simp) _;have h:=za.new (w.alloc (.cells #[.int .i64 fr,.int .i64 pg] 74)) 3 #[.int .i64 n];have q:=(za.new w 74 #[.int .i64 fr,.int .i64 pg]).alloc (.cells #[.int .i64 n] 3);rw[pq] at h;have H:=ZM fr pg n pg (2+9*fr+8*n) 259 #[.pointer (some ⟨w.heap.size,0,none⟩),.pointer (some ⟨w.heap.size+1,0,none⟩)] (zb.eo func259) ((w.alloc (.cells #[.int .i64 fr,.int .i64 pg] 74)).alloc (.cells #[.int .i64 n] 3))
  (λj r hn W f=>De fr pg n W _ _ (q.below f (by simp;omega)) (h.below f (by simp)) (by have:=(vN fr pg).1 j;omega) (by have:=(vN fr pg).1 j;omega))
 unfold wB;generalize ME (xB fr pg) n pg=e at *;generalize (if e=0 then 2+9*fr+8*n else 0)=v at *
 go_enter func195,ntmps195
 go_wp2_with fail
 refine H.mono ?_;rintro e w' ⟨rfl,hB⟩;go_wp2;refine oE (oN rfl _ _ _) rfl ?_;exact⟨rfl,k.trans (hB.mono (by simp;omega))⟩
end
def Xj (d:Y5)(fr pg:Int)(sr ep:Nat)(sz:Int)(A:Y5)(n c:Nat):Y7:=#[.pointer d,.int .i64 fr,.int .i64 pg,.int .u64 (sr:Int),.int .u64 (ep:Int),.int .i64 sz,.slice A n c]
section
variable {w:World}{l d:Nat}{fr pg:Int}{sr ep:Nat}{sz:Int}{A:Y5}{n c:Nat}
theorem ZU (f:za w l 171 (Xj (some ⟨d,0,none⟩) fr pg sr ep sz A n c)):pr Y3 179 #[.pointer (some ⟨l,0,none⟩)] w λe w'=>e=Y0 (.bool false)/\w=w':=by
 have c0:w.cell? ⟨l,0,none⟩=some (.pointer (some ⟨d,0,none⟩)):=by rw[f.cell];rfl
 go_enter func179,ntmps179
 go_wp2;go_ret;exact⟨rfl,rfl⟩
theorem TG (f:za w l 171 (Xj (some ⟨d,0,none⟩) fr pg sr ep sz A n c)):pr Y3 178 #[.pointer (some ⟨l,0,none⟩)] w λe w'=>e=Y0 (.pointer (some ⟨d,0,none⟩))/\w=w':=by
 have h:=ZU f;have c0:w.cell? ⟨l,0,none⟩=some (.pointer (some ⟨d,0,none⟩)):=by rw[f.cell];rfl
 go_enter func178,ntmps178
 go_wp2_with (go_at_call 179;refine h.mono ?_;rintro e w' ⟨rfl,rfl⟩)
 go_ret;exact⟨rfl,rfl⟩
theorem TA (f:za w l 171 (Xj (some ⟨d,0,none⟩) fr pg sr ep sz A n c)):pr Y3 108 #[.pointer (some ⟨l,0,none⟩)] w λe w'=>e=Y0 (.int .i64 sz)/\w=w':=by
 have h:=ZU f;have j:w.cell? ⟨l,5,none⟩=some (.int .i64 sz):=by rw[f.cell];rfl
 go_enter func108,ntmps108
 go_wp2_with (go_at_call 179;refine h.mono ?_;rintro e w' ⟨rfl,rfl⟩)
 go_ret;exact⟨rfl,rfl⟩
end
section
variable {w:World}{v:Value}
end

theorem vC (w:World)(p:Nat)(cs:Y7):w.grownBy (w.setRow p cs) (some p):=⟨rfl,rfl,rfl,by simp[World.setRow],λk _ f=>oL w p k cs (λe=>f (by rw[e]))⟩
section
variable (w:World)(p many:Nat)(g:Nat->Y4)(xs:List (Nat×Y4))(left:Int)(stops:Bool)
end
theorem Cs (g:Nat->Y4)(xs ys:List (Nat×Y4)):laid g (xs++ys)=laid (laid g xs) ys:=by unfold laid;rw[List.foldl_append]
theorem Cr (g:Nat->Y4)(xs:List (Nat×Y4))(a:Nat)(l:Y4)(k:Nat):laid g (xs++[(a,l)]) k=if k=a then l else laid g xs k:=by rw[Cs];rfl
section
variable {ρ:py->Value}{w:World}{o:oM}{x y:py}
end
structure uu where
 f:Nat
 bd:Y7
 lb:Y7
def uu.val (x:uu):Value:=.func (.func x.f) x.bd x.lb
theorem Vo (w:World)(g c:Nat)(fs:List uu)(I:Nat->World->Prop)(R:Int->World->Prop)(hl:fs.length<=100)
  (B:∀(k:Nat) (s:k<fs.length) W,I k W->W.cell? ⟨g,k,none⟩=some fs[k].val)
  (q:∀(k:Nat) (s:k<fs.length) W,I k W->(∀args W,(dF fs[k].f args).run Y3 W=.ok (.enter fs[k].f args) W)/\pr Y3 fs[k].f (fs[k].bd++fs[k].lb) W λe w'=>(e=Y0 (.int .i64 0)/\I (k+1) w')∨∃x:Int,x≠0/\e=Y0 (.int .i64 x)/\R x w')
  (E:I 0 w) :
  pr Y3 170 #[.slice (some ⟨g,0,none⟩) fs.length c] w λe w'=>(e=Y0 (.int .i64 0)/\I fs.length w')∨∃x:Int,x≠0/\e=Y0 (.int .i64 x)/\R x w':=by
 go_enter func170,ntmps170
 go_wp2
 go_loopw [8] (λi wr=>∃k:Nat,k<=fs.length/\i=.int .i64 (k:Int)/\I k wr) (λi _=>fs.length-(intOf i).toNat)
 case atStart=>exact⟨0,by omega,rfl,E⟩
 case round =>
  obtain⟨k,s,rfl,h⟩:=hrel
  by_cases u:k<fs.length
  ·have hc:=B k u wr h;obtain⟨r,j⟩:=q k u wr h;obtain⟨x,C⟩:=Z9 (fs[k]);rw[<-C] at hc r j;have H:IntKind.i64.wrap ((k:Int)+1)=(k:Int)+1:=zg _;obtain⟨N,M,O⟩:=x;unfold uu.val at hc;simp only at hc r j;clear C q B;go_wp2;refine j.mono ?_;rintro e L (⟨rfl,h1⟩|⟨z,G,rfl,h1⟩)
   ·go_wp2
    go_roundw
    case rel=>exact⟨k+1,by omega,by simp,h1⟩
    case measure=>simp[intOf];omega
   ·go_wp2;go_ret;exact .inr ⟨z,G,rfl,h1⟩
  ·obtain rfl:k=fs.length:=by omega
   go_wp2;go_ret;exact .inl ⟨rfl,h⟩
def JZ (G:Nat->Y4)(at_:Nat):Nat->Y4
 | 0=>[]
 | m+1=>JZ G at_ m++G (at_+m)
theorem Ye {G:Nat->Y4}(e:∀k,(G k).length=64)(at_:Nat):∀m,(JZ G at_ m).length=64*m
 | 0=>rfl
 | m+1=>by
  show (JZ G at_ m++G (at_+m)).length=_
  rw[zH,Ye e at_ m,e];omega
theorem Ii {w:World}{p many:Nat}{g:Nat->Y4}{xs:List (Nat×Y4)}{left:Int}{stops:Bool}(e:yR w p many g xs left stops)(k:Nat):(laid g xs k).length=64:=by
 obtain⟨r,A,c,j,f,h,q⟩:=e.has;exact KV xs g f.len h k
theorem Fc (w:World)(l d many:Nat)(g:Nat->Y4)(xs:List (Nat×Y4))(left:Int)(stops:Bool)(j:yR w d many g xs left stops)(hs:(stops&&left==0)=false)(hl:xs.length<=1000000)(hc:w.cell? ⟨l,0,none⟩=some (.pointer (some ⟨d,0,none⟩)))(U:l<w.heap.size)(at_ m:Nat)(X:at_+m<=many)(aB:many<=1000000):pr Y3 164 #[.pointer (some ⟨l,0,none⟩),.int .i64 (at_:Int),.int .i64 (m:Int)] w λe w'=>∃A c,e=Y0 (.tuple #[.slice A (64*m) c,.int .i64 0])/\qq w' w'.heap.size A c (JZ (laid g xs) at_ m)/\ph w.heap.size w w':=by
 have r:=Ii j;have s:∀(k:Nat) (W:World),k<many->ph w.heap.size w W->pr Y3 197 #[.pointer (some ⟨d,0,none⟩),.int .i64 (k:Int)] W λe w'=>∃q z,Hid (z=Value.slice (some ⟨q,0,none⟩) 64 64)/\e=Y0 (.tuple #[z,.int .i64 0])/\qq w' w'.heap.size (some ⟨q,0,none⟩) 64 (laid g xs k)/\ph W.heap.size W w':=λk W H hB=>(Po W d many g xs left stops (j.grow hB) hs k H hl).mono λe w' ⟨q,h1,h2,M⟩=>⟨q,_,pk rfl,h1,h2,M⟩
 generalize laid g xs=G at *;clear j
 go_enter func164,ntmps164
 go_wp2
 go_loopw [12,6] (λi v wr=>∃k:Nat,k<=m/\i=.int .i64 (k:Int)/\yZ wr w.heap.size v (JZ G at_ k)/\ph w.heap.size w wr) (λi _ _=>m-(intOf i).toNat)
 case atStart=>exact⟨0,by omega,rfl,yZ.nil _ _,pf _ _⟩
 case round =>
  obtain⟨k,H,rfl,own,hB⟩:=hrel
  by_cases aA:k<m
  ·have Z:wr.cell? ⟨l,0,none⟩=some (.pointer (some ⟨d,0,none⟩)):=(hB.cell (p:=⟨l,0,none⟩) U).trans hc;have O:=s (at_+k) wr (by omega) hB;have aC:IntKind.i64.wrap ((at_:Int)+(k:Int))=((at_+k:Nat):Int):=by rw[zg _];omega
   have aD:IntKind.i64.wrap ((k:Int)+1)=(k:Int)+1:=zg _;have f:=Ye r at_ k;have E:=r (at_+k);have I:=pk f;have B:=pk E;clear s f E
   go_wp2_with (first
    | (go_at_call 197;refine O.mono ?_;rintro e w2 ⟨q,z,L,rfl,u,C⟩;have own2:=qw own C;have h:=hB.trans (C.mono hB.size))
    | (at_builtin;refine Ug rfl (.tmp 29) (.tmp 30) rfl w.heap.size u6 (JZ G at_ k) rfl own2 _ (some ⟨q,0,none⟩) 64 (G (at_+k)) (by rw[B.out];exact L.out) u (by rw[I.out,B.out];omega) h.size ?_;intro v3 w3 V T;have N:=h.trans (zl T h.size (zh own2))))
   go_roundw
   case rel=>exact⟨k+1,by omega,by simp,V,N⟩
   case measure=>simp[intOf];omega
  ·obtain rfl:k=m:=by omega
   obtain⟨A,c,rfl,u⟩:=own.inB;have f:=Ye r at_ k;rw[f];clear s;go_wp2;exact oE (oN rfl _ _ _) rfl ⟨A,c,rfl,u,hB⟩
end
section
open Go Go.RowKit Go.Shelf
attribute [local go_sem] Oper.semAt_some
def Bh:Obj->Prop
 | .cells cs _ fr=>cs.size<=64/\fr=(0,0)
 | .loop _=>True
 | .deferred _=>True
 | _=>False
def Zn {β : Type}(B:Nat)(I : β -> World->Prop):Prop:=∀s X Y row,I s X->X.grownBy Y row->(∀r,row=some r->B<=r/\∃o:Obj,X.heap[r]?=some o/\Bh o)->I s Y
theorem Zn.grow {β : Type}{B:Nat}{I : β -> World->Prop}(h:Zn B I){s : β}{X Y:World}(hs:I s X)(f:ph X.heap.size X Y):I s Y:=h s X Y none hs ⟨f.os,f.tape,f.output,f.size,λk j _=>f.block k j⟩ (λr e=>by cases e)
theorem Zn.alloc {β : Type}{B:Nat}{I : β -> World->Prop}(h:Zn B I){s : β}{X:World}(o:Obj)(hs:I s X):I s (X.alloc o):=h.grow hs ((pf _ X).alloc (zG _) _)
theorem Zn.drew {β : Type}{B:Nat}{I : β -> World->Prop}(h:Zn B I){s : β}{X:World}(hs:I s X):I s X.drew:=h.grow hs (pf _ X).drew
theorem Zn.putObj {β : Type}{B:Nat}{I : β -> World->Prop}(h:Zn B I){s : β}{X:World}{l:Nat}{o':Obj}(o:Obj)(hs:I s X)(hl:B<=l)(j:X.heap[l]?=some o')(f:Bh o'):I s (X.putObj l o) :=
 h s X _ (some l) hs (grownBy_putObj' X l o) (λr e=>by cases e;exact⟨hl,_,j,f⟩)
theorem Zn.setCell {β : Type}{B:Nat}{I : β -> World->Prop}(h:Zn B I){s : β}{X:World}{p:px}{t:oD}{cs:Y7}(v:Value)(hs:I s X)(hl:B<=p.block)(f:za X p.block t cs)(hc:cs.size<=64):I s (X.setCell p v) :=
 h s X _ (some p.block) hs ⟨rfl,rfl,rfl,by simp,λk _ j=>oI X p v k (λe=>j (by rw[e]))⟩ (λr e=>by cases e;exact⟨hl,_,f,hc,rfl⟩)
def ui {α : Type}(F:Fence)(n:Nat)(P:oV)(g:Nat)(lb:Y7)(encs : α -> Y7)(Mu:Nat->Prop)(Rd:List α -> α -> World->Prop)(S Sp:List α -> Prop)(w:World):Prop :=
 ∀(l:Nat) (J Jx:List α -> World->Prop) (W:World),ph w.heap.size w W->Zn W.heap.size J->Zn W.heap.size Jx ->
  (∀pre x W1,J pre W1->Rd pre x W1->YieldAt F (n-1) P l (encs x) W1 λe W' =>
   (e=Y0 (.bool true)/\J (pre++[x]) W'/\qf Mu W.heap.size W1 W')∨(e=Y0 (.bool false)/\Jx (pre++[x]) W'/\qf (λ_=>True) W.heap.size W1 W')) ->
  J [] W ->
  dw F n P g (#[.func (.yield l) #[] #[]]++lb) W λe W'=>(∃v,e=Y0 v)/\((∃xs,S xs/\J xs W')∨(∃pre,Sp pre/\Jx pre W'))
section
variable {F:Fence}{n:Nat}{P:oV}{w:World}
theorem Ys {α : Type}{g:py}{ps:Array Tmp}{assign body:Code}{Q:nF->oy->World->Prop}{a:oy}
  (aQ:F.round=none) (h1:1<=n) {gf:Nat} {lb:Y7} (hg:a.eval g=.func (.func gf) #[] lb) (aF:F.fn gf) (eg:∀args w,(dF gf args).run P w=.ok (.enter gf args) w)
  {encs : α -> Y7} {Mu:Nat->Prop} {Rd:List α -> α -> World->Prop} {S Sp:List α -> Prop} {w0:World} (aR:ui F (n-1) P gf lb encs Mu Rd S Sp w0)
  (aC:ph w0.heap.size w0 w) (aO:∀x,(encs x).size=ps.size)
  (I:List α -> World->Prop) (H:Code->List α -> World->Prop) (L:Zn w.heap.size I) (aA:∀c,Zn w.heap.size (H c)) (aG:∀q x,OwnFrom w.heap.size (λ(_:Unit) W=>Rd q x W)) (h0:I [] w) (a₁ : α -> oy)
  (aI:∀(l:Nat) (x : α) (W:World) (K:oy->World->Prop),K (a₁ x) W ->
   assign.wpIn (F.inRound l) (n-1-1) P (Exit.then K (λ_ _ _=>False)) {tmps:=(ps.zip (encs x)).foldl (λt (p,v)=>t.setIfInBounds p v) a.tmps,defers:=[]} W)
  (aJ:∀(l:Nat) (q:List α) (x : α) (W:World),I q W->Rd q x W->body.wpIn (F.inRound l) (n-1-1) P (wU Mu w.heap.size I H (q++[x]) W) (a₁ x) W)
  (aK:∀(D:Nat) (xs:List α) (W:World),w.heap.size<=D->S xs->I xs W->W.heap[D]?=some (.deferred (some []))->Q .normal {a with defers:={target:=.collected D,args:=#[]}::a.defers} W)
  (aS:∀(D:Nat) (c:Code) (q:List α) (W:World),w.heap.size<=D->Sp q->H c q W->W.heap[D]?=some (.deferred (some []))->c.wpIn F n P Q {a with defers:={target:=.collected D,args:=#[]}::a.defers} W) :
  (Code.rangeFunc g ps assign body).wpIn F n P Q a w:=by
 refine wpIn_rangeFunc λfn aL => ?_
 rw[aQ]
 -- the loop's record, and the world that bears it and the block for deferred calls
 obtain⟨f,E⟩:∃f:LoopState->Option Code->Loop,f=λst pe => {state:=st,pending:=pe,fn,tmps:=a.tmps,params:=ps,assign,body,defers:=w.heap.size}:=⟨_,rfl⟩
 obtain⟨V,M⟩:∃V,(w.alloc (.deferred (some []))).alloc (.loop (f .ready none))=V:=⟨_,rfl⟩;have vL:V.heap[w.heap.size+1]?=some (.loop (f .ready none)):=by
  subst M;have:=nS (w.alloc (.deferred (some []))) (.loop (f .ready none))
  rwa [pq] at this
 have vD:V.heap[w.heap.size]?=some (.deferred (some [])):=by subst M;exact(nE _ _ _ (by simp)).trans (nS w _)
 have vI:I [] V:=by subst M;exact L.alloc _ (L.alloc _ h0)
 have vS:V.heap.size=w.heap.size+2:=by subst M;simp
 have vB:ph w0.heap.size w0 V:=by subst M;exact aC.trans ((((pf _ w).alloc (zG _) _).alloc (by simp) _).mono aC.size)
 refine⟨w.heap.size+1,[{target:=.collected w.heap.size,args:=#[]}],V,{target:=.fn (.func gf) lb,args:=#[.func (.yield (w.heap.size+1)) #[] #[]]},V,gf,#[.func (.yield (w.heap.size+1)) #[] #[]]++lb,V,?_,?_,?_,?_,λ_=>h1,?_⟩
 ·rw[<-M,E];exact run_enterLoop_outer _ _ _ _ _
 ·simp only[resolve,hg];simp[go_sem]
 ·intro f' aD;simp[Target.leads] at aD;subst aD;exact aF
 ·simp[invoke,go_sem,eg]
 have apart:∀{A B:World} {row:Option Nat} {k:Nat} {o:Obj},A.heap[k]?=some o->A.grownBy B row->(∀r,row=some r->V.heap.size<=r)->k<V.heap.size->B.heap[k]?=some o:=λu hg j aE =>
  (hg.block _ (zK.1 u).1 (λe=>by have:=j _ e.symm;omega)).trans u
 refine(aR (w.heap.size+1)
  (λq W=>I q W/\W.heap[w.heap.size+1]?=some (.loop (f .ready none))/\W.heap[w.heap.size]?=some (.deferred (some [])))
  (λq W=>∃c,H c q W/\W.heap[w.heap.size+1]?=some (.loop (f .done (some c)))/\W.heap[w.heap.size]?=some (.deferred (some [])))
  V vB
  (λs A B row hs G j=>⟨L s A B row hs.1 G (λr e=>⟨by have:=(j r e).1;omega,(j r e).2⟩),apart hs.2.1 G (λr e=>(j r e).1) (by omega),apart hs.2.2 G (λr e=>(j r e).1) (by omega)⟩)
  (λs A B row hs G j=>by
   obtain⟨c,hc,hl,u⟩:=hs
   exact⟨c,aA c s A B row hc G (λr e=>⟨by have:=(j r e).1;omega,(j r e).2⟩),apart hl G (λr e=>(j r e).1) (by omega),apart u G (λr e=>(j r e).1) (by omega)⟩)
  ?round ⟨vI,vL,vD⟩).mono ?behind
 case round =>
  rintro q x W ⟨T,hl,u⟩ aP;have aE:w.heap.size+1<W.heap.size:=(zK.1 hl).1;have hy:=run_yield (P:=P) (args:=encs x) hl (by rw[E];exact aO x);rw[E] at hy;refine⟨fn,_,assign,body,hy,roundIn_of_wpIn aL (aI _ x W _ ⟨_,run_beginRound hl (by rw[E]),?_⟩)⟩;clear hy;have bL:(W.putObj (w.heap.size+1) (.loop {f .ready none with state:=.busy})).heap[w.heap.size+1]?=some (.loop {f .ready none with state:=.busy}):=nY aE;have bD:(W.putObj (w.heap.size+1) (.loop {f .ready none with state:=.busy})).heap[w.heap.size]?=some (.deferred (some [])):=(oK (by omega)).trans u;refine wpIn_mono (aJ _ q x _ (L.putObj _ T (by omega) hl trivial) ((aG q x).putObj (s:=()) _ aP (by omega) hl rfl)) ?_
  -- the round's end
  have fin:∀(C:Option Code) (U:World),qf (λ_=>True) w.heap.size (W.putObj (w.heap.size+1) (.loop {f .ready none with state:=.busy})) U ->
    (Instr.endRound (w.heap.size+1) C).run P U=.ok (.bool C.isNone) (U.putObj (w.heap.size+1) (.loop (f (if C.isNone then .ready else .done) C))) /\
    U.heap[w.heap.size+1]?=some (.loop {f .ready none with state:=.busy}) /\
    (U.putObj (w.heap.size+1) (.loop (f (if C.isNone then .ready else .done) C))).heap[w.heap.size+1]?=some (.loop (f (if C.isNone then .ready else .done) C)) /\
    (U.putObj (w.heap.size+1) (.loop (f (if C.isNone then .ready else .done) C))).heap[w.heap.size]?=some (.deferred (some [])):=λC U N=>by
   have uL:=N.2 _ _ bL (λh=>by omega);have:=run_endRound (P:=P) C uL;rw[E] at this ⊢;exact⟨this,by rw[E] at uL;exact uL,nY (zK.1 uL).1,(oK (by omega)).trans (N.2 _ _ bD (λh=>by omega))⟩
  have out:∀(c:Code) (U:World),qf (λ_=>True) w.heap.size (W.putObj (w.heap.size+1) (.loop {f .ready none with state:=.busy})) U->H c (q++[x]) U ->
    (∃c',H c' (q++[x]) (U.putObj (w.heap.size+1) (.loop (f .done (some c))))/\(U.putObj (w.heap.size+1) (.loop (f .done (some c)))).heap[w.heap.size+1]?=some (.loop (f .done (some c')))/\(U.putObj (w.heap.size+1) (.loop (f .done (some c)))).heap[w.heap.size]?=some (.deferred (some [])))/\qf (λ_=>True) V.heap.size W (U.putObj (w.heap.size+1) (.loop (f .done (some c)))):=λc U N aN=>by
   obtain⟨_,h3,X,h5⟩:=fin (some c) U N;refine⟨⟨c,(aA c).putObj _ aN (by omega) h3 trivial,X,h5⟩,by have:=N.1;simpa using this,λk o u Z => ?_⟩;have O:k≠w.heap.size+1:=λe=>Z (by omega) trivial
   rw[oK O];exact N.2 k o (by rw[oK O];exact u) (λh=>Z (by omega))
  rintro e a3 U z;cases e with
  | normal =>
   obtain⟨aB,aM⟩:=z;obtain⟨j,h3,X,h5⟩:=fin none U aB.any;refine⟨_,_,j,.inl ⟨rfl,⟨L.putObj _ aM (by omega) h3 trivial,X,h5⟩,by have:=aB.1;simpa using this,λk o u Z => ?_⟩⟩
   by_cases O:k=w.heap.size+1
   ·subst O;rw[hl] at u;rw[<-u];exact X
   ·rw[oK O];exact aB.2 k o (by rw[oK O];exact u) (λh=>Z (by omega))
  | ret=>exact⟨_,_,(fin (some .ret) U z.1).1,.inr ⟨rfl,out .ret U z.1 z.2⟩⟩
  | exit id=>exact⟨_,_,(fin (some (.exit id)) U z.1).1,.inr ⟨rfl,out (.exit id) U z.1 z.2⟩⟩
  | goto t=>exact⟨_,_,(fin (some (.goto t)) U z.1).1,.inr ⟨rfl,out (.goto t) U z.1 z.2⟩⟩
  | panic ch=>exact z.elim
  | outgrown=>exact z.elim
 case behind =>
  rintro e U ⟨⟨v,rfl⟩,(⟨xs,hS,T,hl,u⟩|⟨q,aH,c,T,hl,u⟩)⟩
  ·have j:=run_endLoop (P:=P) hl (by rw[E];simp);rw[E] at j;exact⟨none,_,j,aK _ xs _ (zG _) hS (L.putObj _ T (by omega) hl trivial) ((oK (by omega)).trans u)⟩
  ·have j:=run_endLoop (P:=P) hl (by rw[E];simp);rw[E] at j;exact⟨some c,_,j,aS _ c q _ (zG _) aH ((aA c).putObj _ T (by omega) hl trivial) ((oK (by omega)).trans u)⟩
end
end
section
open Go Go.RowKit vA Go.Shelf
attribute [local go_sem] Oper.semAt_some
theorem OG (n:Nat)(aL:2<=n)(l j h g o c L:Nat)(A:Y5)(O:0<L->A=some ⟨g,o,none⟩)(aF:L<=c)(hL:L<=1000000)(aG:c<=9223372036854775807)(J z:List Nat->World->Prop)(Mu:Nat->Prop)(aA:¬ Mu j)(Z:¬ Mu h)(s:Nat)
  (hY:∀f k W,J f W->(k=f.length/\64*k<L)->YieldAt oS (n-1) Y3 l #[.slice (some ⟨g,o+64*k,none⟩) (kQ L k) (kQ L k)] W λe W' =>
   (e=Y0 (.bool true)/\J (f++[k]) W'/\qf Mu s W W')∨(e=Y0 (.bool false)/\z (f++[k]) W'/\qf (λ_=>True) s W W'))
  (W:World) (U:Zn W.heap.size J) (G:W.cell? ⟨j,0,none⟩=some (.slice A L c)) (E:W.cell? ⟨h,0,none⟩=some (.int .i64 64)) (N:J [] W) :
  dw oS n Y3 132 #[.func (.yield l) #[] #[],.pointer (some ⟨j,0,none⟩),.pointer (some ⟨h,0,none⟩)] W λe W'=>(∃v,e=Y0 v) /\
   ((∃M,M.length=XD L/\J M W')∨(∃f,f.length<=XD L/\z f W')):=by
 have h1:1<=n:=by omega
 refine dN func132 rfl trivial ?_ rfl;simp only[ntmps132,zR,zL,zY,yJ,yK,qG,qH,qS,qL,zQ,zX]
 gi_wp2
 gi_loopw [4] (λi wr=>∃(q:Nat) (f:List Nat),i=.int .i64 q/\q=64*f.length/\q<L+64/\J f wr/\wo j h W wr)
  (λi _=>L+64-(intOf i).toNat)
 case atStart=>exact⟨0,[],rfl,rfl,by omega,N,rfl,rfl⟩
 case round =>
  obtain⟨q,f,rfl,hq,hb,B,I⟩:=hrel;have aB:wr.cell? ⟨j,0,none⟩=some (.slice A L c):=I.1.trans G;have aC:wr.cell? ⟨h,0,none⟩=some (.int .i64 64):=I.2.trans E
  by_cases aH:q<L
  ·obtain rfl:=O (by omega);obtain⟨m,r⟩:=Z9 (kQ L f.length);have hm:(if ((L-q:Nat):Int)<64 then ((L-q:Nat):Int) else 64)=(m:Int):=by rw[r];unfold kQ;rw[<-hq];split<;>omega
   have aI:0<m:=by rw[r];unfold kQ;omega
   have aJ:q+m<=L:=by rw[r];unfold kQ;omega
   have aK:m<=64:=by rw[r];unfold kQ;omega
   have V:J f wr.drew:=U.drew B;obtain⟨fn,tmps,assign,body,hy,hR⟩:=hY f f.length wr.drew V ⟨rfl,by omega⟩;rw[<-r,<-hq] at hy;have aN:IntKind.i64.wrap ((q:Int)+(m:Int))=(q:Int)+(m:Int):=jw _;have aM:IntKind.i64.wrap ((q:Int)+64)=(q:Int)+64:=jw _;have u:=pk hq;clear hq r
   gi_wp2
   gi_region
   gi_wp2
   refine hR.mono ?_;have C:=u.out;rintro e W3 (⟨rfl,T,H⟩|⟨rfl,X,_⟩)
   ·have aD:W3.cell? ⟨h,0,none⟩=some (.int .i64 64):=H.cell (p:=⟨h,0,none⟩) aC (λ_=>Z);have aE:wo j h W W3:=⟨(H.cell (p:=⟨j,0,none⟩) aB (λ_=>aA)).trans G.symm,aD.trans E.symm⟩;clear C
    gi_wp2
    go_roundw
    case rel=>exact⟨q+64,f++[f.length],rfl,by simp;have:=u.out;omega,by omega,T,aE⟩
    case measure=>simp[intOf];omega
   ·have hl:(f++[f.length]).length<=XD L:=by simp;unfold XD;omega
    clear C
    gi_wp2
    exact oE (dS rfl _ _ _) rfl ⟨⟨_,rfl⟩,.inr ⟨_,hl,X⟩⟩
  ·obtain⟨hs⟩:Nonempty (f.length=XD L):=⟨by unfold XD;omega⟩
   gi_wp2
   go_end0;exact⟨⟨_,rfl⟩,.inl ⟨f,hs,B⟩⟩
theorem Tk (n:Nat)(T:2<=n)(f e g o c L:Nat)(A:Y5)(s:0<L->A=some ⟨g,o,none⟩)(E:L<=c)(C:L<=1000000)(M:c<=9223372036854775807)(Mu:Nat->Prop)(H:¬ Mu f)(G:¬ Mu e)(w:World)(z:f<w.heap.size)(u:e<w.heap.size)
  (O:w.cell? ⟨f,0,none⟩=some (.slice A L c)) (N:w.cell? ⟨e,0,none⟩=some (.int .i64 64)) :
  ui oS n Y3 132 #[.pointer (some ⟨f,0,none⟩),.pointer (some ⟨e,0,none⟩)] (λk:Nat=>#[.slice (some ⟨g,o+64*k,none⟩) (kQ L k) (kQ L k)]) Mu
   (λh k _=>k=h.length/\64*k<L) (λU=>U.length=XD L) (λh=>h.length<=XD L) w:=λl J q W j B _ I r =>
 OG n T l f e g o c L A s E C M J q Mu H G W.heap.size I W B ((j.cell (p:=⟨f,0,none⟩) z).trans O) ((j.cell (p:=⟨e,0,none⟩) u).trans N) r
section
variable {n₀:Nat}
theorem BP (n:Nat)(bG:6<=n)(l L:Nat)(A:Y5)(c:Nat)(b:Y4)(hb:b.length<=1000000)(J I:List (Nat×(Y5×Nat))->World->Prop)(W:World)
  (Mu:Nat->Prop) (aR:0<b.length->∀g o,A=some ⟨g,o,none⟩->¬ Mu g) (u:Zn W.heap.size J) (aD:Zn W.heap.size I)
  (hY:∀f (x:Nat×(Y5×Nat)) E,J f E->(x.1=f.length/\64*x.1<b.length/\qq E E.heap.size x.2.1 x.2.2 (YD b x.1))->YieldAt oS (n-1) Y3 l #[.int .i64 (x.1:Int),.slice x.2.1 (kQ b.length x.1) x.2.2] E λe W' =>
   (e=Y0 (.bool true)/\J (f++[x]) W'/\qf Mu W.heap.size E W')∨(e=Y0 (.bool false)/\I (f++[x]) W'/\qf (λ_=>True) W.heap.size E W'))
  (hg:L<n₀) (a2:n₀<=W.heap.size) (aT:W.cell? ⟨L,0,none⟩=some (.slice A b.length c)) (N:qq W n₀ A c b) (h0:J [] W) :
  dw oS n Y3 296 #[.func (.yield l) #[] #[],.pointer (some ⟨L,0,none⟩)] W λe W'=>(∃v,e=Y0 v) /\
   ((∃ys,ys.length=XD b.length/\J ys W')∨(∃f,f.length<=XD b.length/\I f W')):=by
 have aZ:=N.le;have a0:=N.max;have h1:1<=n:=by omega
 refine du func296 rfl trivial ?_ rfl;simp only[ntmps296,zR,zL,zY,yJ,yK,qG,qH,qS,qL,zQ,zX]
 gi_wp2
 refine Xh ?_
 gi_wp2
 refine wpIn_label ?_;have M:ph n₀ W ((W.alloc (.cells #[.func (.yield l) #[] #[]] 217)).alloc (.cells #[.int .i64 0] 3)):=((pf _ W).alloc a2 _).alloc (by simp;omega) _;have aU:=(M.cell (p:=⟨L,0,none⟩) hg).trans aT
 gi_wp2_with (refine⟨trivial,?_⟩;gi_at_call 81;refine(BX (n-1) _ _ _ _).mono ?_;rintro e w' ⟨rfl,rfl⟩)
 obtain⟨W2,H⟩:=Z9 ((W.alloc (.cells #[.func (.yield l) #[] #[]] 217)).alloc (.cells #[.int .i64 0] 3));have s2:W2.heap.size=W.heap.size+1+1:=by rw[H];simp
 have aK:za W2 W.heap.size 217 #[.func (.yield l) #[] #[]]:=by rw[H];exact(za.new W _ _).alloc _
 have aG:za W2 (W.heap.size+1) 3 #[.int .i64 ((0:Nat):Int)]:=by have:=za.new (W.alloc (.cells #[.func (.yield l) #[] #[]] 217)) 3 #[.int .i64 ((0:Nat):Int)];rw[pq] at this;rw[H];exact this
 have aC:J [] W2:=by rw[H];exact u.alloc _ (u.alloc _ h0)
 rw[<-H] at M ⊢;clear H aU;obtain⟨W4,s⟩:=Z9 ((W2.alloc (.cells #[.slice A b.length c] 129)).alloc (.cells #[.int .i64 64] 3));have s4:W4.heap.size=W.heap.size+4:=by rw[s];simp;omega
 have a4:za W4 W.heap.size 217 #[.func (.yield l) #[] #[]]:=by rw[s];exact(aK.alloc _).alloc _
 have a3:za W4 (W.heap.size+1) 3 #[.int .i64 ((0:Nat):Int)]:=by rw[s];exact(aG.alloc _).alloc _
 have aP:J [] W4:=by rw[s];exact u.alloc _ (u.alloc _ aC)
 have aM:ph n₀ W W4:=by rw[s];exact(M.alloc (by omega) _).alloc (by simp;omega) _
 have aW:W4.cell? ⟨W.heap.size+1+1,0,none⟩=some (.slice A b.length c):=by rw[s,<-s2];exact((za.new W2 129 #[.slice A b.length c]).alloc _).boxed
 have aV:W4.cell? ⟨W.heap.size+1+1+1,0,none⟩=some (.int .i64 64):=by have:=(za.new (W2.alloc (.cells #[.slice A b.length c] 129)) 3 #[.int .i64 64]).boxed;rw[pq,s2] at this;rw[s];exact this
 rw[<-s];clear s aK aG aC M;obtain⟨g,o,hA⟩:∃g o,0<b.length->A=some ⟨g,o,none⟩:=by
  by_cases aE:0<b.length
  ·obtain⟨g,o,e,_⟩:=N.rC aE;exact⟨g,o,λ_=>e⟩
  ·exact⟨0,0,λh=>absurd h aE⟩
 refine Ys rfl h1 (gf:=132) (lb:=#[.pointer (some ⟨W.heap.size+1+1,0,none⟩),.pointer (some ⟨W.heap.size+1+1+1,0,none⟩)]) rfl trivial (zb.eo func132)
  (Tk (n-1) (by omega) (W.heap.size+1+1) (W.heap.size+1+1+1) g o c b.length A hA aZ hb a0 (λk=>(k<W.heap.size/\Mu k)∨k=W.heap.size+1) (by omega) (by omega) W4 (by omega) (by omega) aW aV) (pf _ _) (λ_=>rfl)
  (λf V=>(∃xs:List (Nat×(Y5×Nat)),xs.length=f.length/\J xs V)/\za V W.heap.size 217 #[.func (.yield l) #[] #[]]/\za V (W.heap.size+1) 3 #[.int .i64 (f.length:Int)]/\qq V n₀ A c b/\W.heap.size<=V.heap.size)
  (λZ f V=>Z=.exit 0/\∃xs:List (Nat×(Y5×Nat)),xs.length=f.length/\I xs V)
  ?own ?own2 ?ownR ⟨⟨[],rfl,aP⟩,a4,a3,N.below aM,by omega⟩ ?act ?assign ?body ?done ?stop
 case own =>
  rintro f X Y row ⟨⟨xs,C,q⟩,h1,h2,h3,h4⟩ B j;exact⟨⟨xs,C,u xs X Y row q B (λr e=>⟨by have:=(j r e).1;omega,(j r e).2⟩)⟩,h1.ra (by omega) B (λr e=>(j r e).1),h2.ra (by omega) B (λr e=>(j r e).1),h3.grown (by omega) B (λr e=>by have:=(j r e).1;omega),zT h4 B.size⟩
 case own2 =>
  rintro Z f X Y row ⟨e,xs,C,q⟩ B j;exact⟨e,xs,C,aD xs X Y row q B (λr e=>⟨by have:=(j r e).1;omega,(j r e).2⟩)⟩
 case ownR=>exact λf x=>ownFrom_pure _ _
 case assign =>
  intro l1 x V K z
  gi_wp2
  exact z
 case body =>
  rintro l1 f k V ⟨⟨xs,aB,q⟩,hy,aA,hB,a9⟩ ⟨rfl,aF⟩;have bD:=hy.boxed;have bA:=aA.boxed;have a8:1<=n-1-1:=by omega
  obtain rfl:=hA (by omega);have aY:=NQ hB aF;have hC:=YZ V.drew _ _ _ ((aY.drew).more (show n₀<=V.drew.heap.size by show n₀<=V.heap.size;omega)) (by rw[jW];unfold kQ;omega);rw[jW] at hC
  gi_wp2
  gi_region_with (first
   | (refine⟨trivial,?_⟩;gi_at_call 112;refine(gr l1 (callsIn_wide.2 hC)).mono ?_;rintro e W6 ⟨v6,rfl,a7,aN⟩;obtain⟨T,U,rfl,aX⟩:=a7.inB;rw[jW];have G:ph V.heap.size V W6:=(pf _ V).drew.trans aN;have aQ:J xs W6:=u.grow q G;have aJ:f.length=xs.length:=aB.symm;obtain⟨fn,tmps,assign,body,a6,hR⟩:=hY xs (f.length,(T,U)) W6 aQ ⟨aJ,aF,aX⟩;have aL:=hy.below G hy.lt;have aH:=aA.below G aA.lt;have bE:=aL.boxed;have bB:=aH.boxed;have aO:=hB.below (G.mono (show n₀<=V.heap.size by omega));simp only at a6;clear aJ)
   | (refine(Vb hR).mono ?_;rintro e W7 aI;obtain⟨r,rfl,j⟩:=EI aI;clear aI))
  all_goals
   have s6:=G.size;have k6:=qf.grow (λk=>(k<W.heap.size/\Mu k)∨k=W.heap.size+1) W4.heap.size G;have bH:IntKind.i64.wrap ((f.length:Int)+1)=(f.length:Int)+1:=jw _;rcases j with⟨rfl,hJ7,hk7⟩|⟨rfl,hJx7,hk7⟩
   ·have a5:=hk7.blk aL (λh=>by omega);have O:=hk7.blk aH (λh=>by omega);have aS:=hk7.pX aO aR;have bC:=O.boxed;have bF:=O.free 0
    gi_wp2
    refine⟨(k6.trans ⟨hk7.1,λk o hk hm=>hk7.2 k o hk (λh a1=>hm (by omega) (.inl ⟨h,a1⟩))⟩).trans (qf.setCell _ ⟨W.heap.size+1,0,none⟩ _ (by simp;omega) (.inr rfl)),⟨xs++[(f.length,T,U)],by simp[aB],u.setCell (p:=⟨W.heap.size+1,0,none⟩) _ hJ7 (by simp) O (by show 1<=64;decide)⟩,a5.other (by simp) _,?_,aS.rE (λp hp=>World.cell?_setCell_other _ _ _ _ (λe=>by subst e;simp at hp;omega)),?_⟩
    ·have:=O.set 0 (.int .i64 ((f.length:Int)+1));simpa using this
    ·have:=hk7.1;simp;omega
   ·gi_wp2
    exact⟨k6.any.trans ⟨hk7.1,λk o hk hm=>hk7.2 k o hk (λh=>hm (by omega))⟩,rfl,xs++[(f.length,T,U)],by simp[aB],hJx7⟩
 case done =>
  rintro D ys V hD hS ⟨⟨xs,C,q⟩,_⟩ z
  gi_wp2
  simp only[Exit.noGoto];refine⟨by simp,.inl ⟨_,_,rfl,dt z,?_⟩⟩;exact⟨_,dS rfl _ _ _,⟨_,rfl⟩,.inl ⟨xs,by rw[C,hS],u.putObj _ q (by omega) z trivial⟩⟩
 case stop =>
  rintro D Z f V hD hS ⟨rfl,xs,C,q⟩ z
  gi_wp2
  simp only[Exit.noGoto];refine⟨by simp,.inl ⟨_,_,rfl,dt z,?_⟩⟩;exact⟨_,dS rfl _ _ _,⟨_,rfl⟩,.inr ⟨xs,by rw[C];exact hS,aD.putObj _ q (by omega) z trivial⟩⟩
theorem NK (n:Nat)(G:6<=n)(e:Nat)(A:Y5)(c:Nat)(b:Y4)(z:b.length<=1000000)(Mu:Nat->Prop)(s:0<b.length->∀g o,A=some ⟨g,o,none⟩->¬ Mu g)(w:World)(C:e<n₀)(h:n₀<=w.heap.size)
  (B:w.cell? ⟨e,0,none⟩=some (.slice A b.length c)) (E:qq w n₀ A c b) :
  ui oS n Y3 296 #[.pointer (some ⟨e,0,none⟩)] (BO b.length) Mu (tW b) (λI=>I.length=XD b.length) (λH=>H.length<=XD b.length) w:=λl J j W f q r u k =>
 BP n G l e A c b z J j W Mu s q r u C (zT h f.size) ((f.cell (p:=⟨e,0,none⟩) (by simp;omega)).trans B) (E.below (f.mono h)) k
end
end
section
open Go Go.RowKit vA
def XF (Q:nF->oy->World->Prop):nF->oy->World->Prop
 | .outgrown,_,_=>False
 | e,a,w=>Q e a w
theorem XF.imp {Q:nF->oy->World->Prop}:∀(e:nF) (a:oy) (w:World),XF Q e a w->Q e a w:=λe a w h=>by
 cases e<;>first|exact h|exact(h:False).elim
theorem Tz {Q:nF->oy->World->Prop}:¬ LetsOut (XF Q):=λ⟨_,_,h⟩=>h
def Ul (ops:Array oM):Bool:=ops.toList.all λo=>match o.op with | .defer _=>false|_=>true
section
variable {P:oV}{ops:Array oM}{Q:nF->oy->World->Prop}{n l:Nat}
theorem RP {o:oM}{a:oy}{w:World}{K j:oy->World->Prop}(hd:∀c,o.op≠.defer c)(f:∀a w,K a w->j a w)(h:o.wp P a w K (XF Q)):o.wpIn (Fence.wide.inRound l) n P a w j (XF Q):=by
 refine⟨λ_ _=>trivial,?_⟩;have e:o.semAt (Fence.wide.inRound l).round a.eval=oB a.eval o:=oW l _ o hd;rw[e];unfold de at h;generalize (oB a.eval o).run P w=r at *;have nd:∀{p:Prop},((Fence.wide.inRound l).depth.isSome=true->p):=λh=>by cases h
 cases r with
 | ok x w' =>
  cases x<;>simp only[Oper.upon,Oper.uponIn] at h ⊢ <;>
   first
    | exact f _ _ h
    | (refine⟨nd,gr l ((callsIn_wide.2 h).mono λe q k => ?_)⟩;cases e<;>first|exact f _ _ k|exact k)
    | exact⟨nd,λc cs _=>let ⟨v,q,r,s⟩:=h c cs;⟨v,q,f _ _ r,stepsIn_wide.2 s⟩⟩
    | exact h.elim
 | halt x w'=>cases x<;>simp only[Oper.upon,Oper.uponIn] at h ⊢<;>first|exact h|exact h.elim
theorem RS (h:Ul ops=true){i:Nat}{o:oM}(f:ops[i]?=some o):∀c,o.op≠.defer c:=by
 intro c hc;unfold Ul at h;rw[yC] at h;have e:o∈ops.toList:=by obtain⟨h1,h2⟩:=zK.1 f;subst h2;simp
 have:=h o e;rw[hc] at this;cases this
theorem DF (hd:Ul ops=true):∀(e:Nat) (listed:Array Bool) (a:oy) (w:World),wpAny P .any ops (XF Q) e listed a w->wpAnyIn (Fence.wide.inRound l) n P .any ops (XF Q) e listed a w:=by
 intro e
 induction e with
 | zero=>exact λlisted a w h=>h
 | succ e ih =>
  intro listed a w h;refine⟨h.1,λi j => ?_⟩;have hs:=h.2 i j;unfold wpOp at hs;unfold wpOpIn;split
  ·rename_i ho
   rw[ho] at hs;exact ih _ _ _ hs
  ·rename_i o ho
   rw[ho] at hs;simp only at hs
   by_cases f:og o (yielded ops a.tmps)=true
   ·rw[if_pos f] at hs ⊢;rcases hs with h1|⟨_,h2⟩
    ·exact RP (RS hd ho) (λa w=>ih _ a w) h1
    ·exact(Tz h2).elim
   ·rw[if_neg f] at hs ⊢;exact⟨λ_ _=>trivial,ih _ _ _ hs⟩
end
namespace Qp
end Qp
end
section
open Go Go.RowKit vA Go.Shelf
attribute [local go_sem] Oper.semAt_some
theorem za.pR {B g:Nat}{t:oD}{cs:Y7}(k:g<B){W W':World}{row:Option Nat}(h:za W g t cs)(f:W.grownBy W' row)(j:∀r,row=some r->B<=r):za W' g t cs :=
 h.grown f (λe=>by have:=j g e.symm;omega)
theorem EX {F:Fence}{n f:Nat}{P:oV}{C:Code}{Q:nF->oy->World->Prop}{a0:oy}{w0:World}(S:oy->oy->World->Prop)(h1:∀e:nF->oy->World->Prop,(∀a w,S a0 a w->e .normal a w)->C.wpIn F n P e a0 w0)(h2:∀a w,S a0 a w->Q .normal a w):C.wpIn F n P (Exit.inBlock f Q) a0 w0 :=
 h1 _ h2
theorem Pz (V:World)(D:Nat)(o:Obj){g:Nat}(h:D≠g):(V.putObj D o).heap[g]?=V.heap[g]?:=by
 simp[World.putObj,h]
theorem DQ {fn:Func}{P:oV}{a:oy}{w:World}{v:Value}{p:px}{t:oD}(k:Tmp)(h:fn.results=#[.cell k t])(j:a.eval (.tmp k)=.pointer (some p))(f:(isAgg t).run P w=.ok false w)(q:w.cell? p=some v):(results fn a.tmps).run P w=.ok v w:=by
 have e:a.tmps.getD k ou=.pointer (some p):=j;unfold results;simp only[h];simp[-zV,e,loadVar,asAddr,f,q,pv]
end
section
open Go Go.RowKit vA Go.Shelf
attribute [local go_sem] Oper.semAt_some
theorem yR.rh {B p many:Nat}{g:Nat->Y4}{xs:List (Nat×Y4)}{left:Int}{stops:Bool}(Z:p<B){X Y:World}{row:Option Nat}(h:yR X p many g xs left stops)(s:X.grownBy Y row)(V:∀r,row=some r->B<=r/\∃o:Obj,X.heap[r]?=some o/\Bh o):yR Y p many g xs left stops:=by
 cases row with
 | none=>exact h.grow ⟨s.os,s.tape,s.output,s.size,λk W=>s.block k W (λe=>by cases e)⟩
 | some q =>
  obtain⟨hq,o,z,hs⟩:=V q rfl;clear V;cases o with
  | cells cs T fr =>
   obtain⟨h1,rfl⟩:=hs;exact h.other (show za X q T cs from z) h1 (by omega) s
  | loop lp =>
   obtain⟨r,A,c,L,u,U,f⟩:=h.has;have O:r≠q:=λe=>by subst e;obtain⟨es,G,h1,_⟩:=u.rC;have I:X.heap[r]?=some (.map es G):=h1;rw[I] at z;cases z
   refine⟨r,A,c,L.grown s (λe=>by injection e;omega),u.rE (s.block r u.lt (λe=>O (by injection e))),U,?_⟩;refine⟨f.le,f.max,f.nil,f.len,f.one,λH => ?_⟩;obtain⟨b,o,e,C,E⟩:=f.rC H;subst e;have M:b≠q:=λe=>by subst e;have h2:=E 0 ((Kv xs)[0]'(by rw[f.len];omega)) (zM (by rw[f.len];omega));simp[nD,z] at h2
   exact⟨b,o,rfl,zO C s.size,λj v N=>(oG (s.block b C (λe=>M (by injection e)))).trans (E j v N)⟩
  | deferred dd =>
   obtain⟨r,A,c,L,u,U,f⟩:=h.has;have O:r≠q:=λe=>by subst e;obtain⟨es,G,h1,_⟩:=u.rC;have I:X.heap[r]?=some (.map es G):=h1;rw[I] at z;cases z
   refine⟨r,A,c,L.grown s (λe=>by injection e;omega),u.rE (s.block r u.lt (λe=>O (by injection e))),U,?_⟩;refine⟨f.le,f.max,f.nil,f.len,f.one,λH => ?_⟩;obtain⟨b,o,e,C,E⟩:=f.rC H;subst e;have M:b≠q:=λe=>by subst e;have h2:=E 0 ((Kv xs)[0]'(by rw[f.len];omega)) (zM (by rw[f.len];omega));simp[nD,z] at h2
   exact⟨b,o,rfl,zO C s.size,λj v N=>(oG (s.block b C (λe=>M (by injection e)))).trans (E j v N)⟩
  | _=>exact hs.elim
namespace zb
theorem startR {P:oV}{ops:Array oM}{Q:nF->oy->World->Prop}{j l m:Nat}{a:oy}{w:World}(S:World->Prop)(fin:Nat)(f:P.follows .mixedOrders=true)(e:Ul ops=true)(h:wpAnyF P .any ops (XF Q) S fin ops.size (dO ops.size false) a w.drew):(gF j ops true).wpIn (Fence.wide.inRound l) m P Q a w :=
 wpIn_mono (Q:=XF Q) (wpIn_region_any f (DF e _ _ _ _ (to_any _ _ _ _ h))) XF.imp
end zb
def JD (at_:Nat)(b:Y4)(m:Nat):List (Nat×Y4):=(List.range m).map λi=>(at_+i,YD b i)
theorem Ns (at_:Nat)(b:Y4)(m:Nat):JD at_ b (m+1)=JD at_ b m++[(at_+m,YD b m)]:=by unfold JD;rw[List.range_succ,qW];rfl
theorem JU (at_:Nat)(b:Y4)(m:Nat):(JD at_ b m).length=m:=by unfold JD;simp
theorem xU {a b c:World}{row j:Option Nat}{B:Nat}(h:a.grownBy b row)(k:b.grownBy c j)(hB:a.heap.size<=B)(q:∀r,j=some r->B<=r):a.grownBy c row :=
 ⟨k.os.trans h.os,k.tape.trans h.tape,k.output.trans h.output,zT h.size k.size,λi f hn=>(k.block i (zO f h.size) (λe=>by have:=q i e.symm;omega)).trans (h.block i f hn)⟩
theorem Ho {X Y:World}{row:Option Nat}{p:px}{v:Value}(hc:X.cell? p=some v)(e:X.grownBy Y row)(hl:p.block<X.heap.size)(hn:some p.block≠row):Y.cell? p=some v:=(oG (e.block _ hl hn)).trans hc
theorem ER (n:Nat)(hn:8<=n)(w:World)(l d many:Nat)(g:Nat->Y4)(xs:List (Nat×Y4))(left:Int)(M:yR w d many g xs left false)(hl:xs.length<=900000)(h1l : -1000000<=left)(aU:left<=9223372036854775807)
  (hc:w.cell? ⟨l,0,none⟩=some (.pointer (some ⟨d,0,none⟩))) (a5:l≠d) (a6:l<w.heap.size) (at_ m:Nat) (A:Y5) (c:Nat) (b:Y4) (aP:qq w w.heap.size A c b) (aB:b.length=64*m) (hm:m<=16) (a9:at_+m<=many) (bB:many<=1000000) :
  dw oS n Y3 173 #[.pointer (some ⟨l,0,none⟩),.int .i64 (at_:Int),.slice A b.length c] w λe w'=>e=Y0 (.int .i64 0)/\yR w' d many g (xs++JD at_ b m) left false/\w.grownBy w' (some d):=by
 have h1:1<=n:=by omega
 have aM:=M.lt;have b0:=((za.new w 306 #[.pointer (some ⟨l,0,none⟩)]).alloc (.cells #[.int .i64 (at_:Int)] 3)).alloc (.cells #[.int .i64 0] 27);have b1:=(za.new (w.alloc (.cells #[.pointer (some ⟨l,0,none⟩)] 306)) 3 #[.int .i64 (at_:Int)]).alloc (.cells #[.int .i64 0] 27);have b2:=za.new ((w.alloc (.cells #[.pointer (some ⟨l,0,none⟩)] 306)).alloc (.cells #[.int .i64 (at_:Int)] 3)) 27 #[.int .i64 0];rw[pq] at b1;rw[pq,pq] at b2;have aA:ph w.heap.size w (((w.alloc (.cells #[.pointer (some ⟨l,0,none⟩)] 306)).alloc (.cells #[.int .i64 (at_:Int)] 3)).alloc (.cells #[.int .i64 0] 27)) :=
  (((pf _ w).alloc (zG _) _).alloc (by simp) _).alloc (by simp;omega) _
 have HC:=NJ _ A c b ((aP.below aA).more aA.size) (by omega);have aF:=pk aB;have bA:b.length<=1024:=by omega
 clear aB;refine du func173 rfl trivial ?_ rfl;simp only[ntmps173,zR,zL,zY,yJ,yK,qG,qH,qS,qL,zQ,zX]
 gi_wp2_with (refine⟨trivial,?_⟩;gi_at_call 234;refine(callsIn_wide.2 HC).mono ?_;rintro e j ⟨gB,A2,c2,rfl,aO,aQ,O⟩)
 obtain⟨L⟩:Nonempty (ph w.heap.size w j):=⟨aA.trans (O.mono aA.size)⟩;have bC:w.heap.size+3<=j.heap.size:=by have:=O.size;simp at this;omega
 have aG:=M.grow L;have c0:=b0.below O b0.lt;have c1:=b1.below O b1.lt;have aT:=b2.below O b2.lt;have a4:j.cell? ⟨l,0,none⟩=some (.pointer (some ⟨d,0,none⟩)):=(L.cell (p:=⟨l,0,none⟩) a6).trans hc;have aZ:w.grownBy j (some d):=⟨L.os,L.tape,L.output,L.size,λk N _=>L.block k N⟩;have aJ:0<b.length->∀g o,A2=some ⟨g,o,none⟩->¬ g=d:=λh0 g o e=>by subst e;obtain⟨r,A',c',hb,_⟩:=aG.has;exact aQ.rT h0 hb
 clear b0 b1 b2 aA HC M hc aP O;refine EX (λa0 a V=>∃D,a={a0 with defers:={target:=.collected D,args:=#[]}::a0.defers}/\V.heap[D]?=some (.deferred (some []))/\j.heap.size<=D/\yR V d many g (xs++JD at_ b m) left false/\za V (w.heap.size+1+1) 27 #[.int .i64 0]/\w.grownBy V (some d)) ?_ ?_
 ·intro Q' hQ;refine Ys rfl h1 (gf:=296) (lb:=#[.pointer (some ⟨gB,0,none⟩)]) rfl trivial (zb.eo func296)
   (NK (n₀:=j.heap.size) (n-1) (by omega) gB A2 c2 b (by omega) (λk=>k=d) aJ j aO.lt (zG _) aO.boxed aQ) (pf _ _) (λ_=>rfl)
   (λf V=>yR V d many g (xs++JD at_ b f.length) left false/\za V w.heap.size 306 #[.pointer (some ⟨l,0,none⟩)]/\za V (w.heap.size+1) 3 #[.int .i64 (at_:Int)]/\za V (w.heap.size+1+1) 27 #[.int .i64 0]/\V.cell? ⟨l,0,none⟩=some (.pointer (some ⟨d,0,none⟩))/\w.grownBy V (some d)/\j.heap.size<=V.heap.size)
   (λ_ _ _=>False)
   ?own ?own2 ?ownR ⟨by rw[show JD at_ b ([]:List (Nat×(Y5×Nat))).length=[] from rfl,yE];exact aG,c0,c1,aT,a4,aZ,zG _⟩ ?act ?assign ?body ?done ?stop
  case own =>
   rintro f X Y row ⟨E,q,G,i4,i5,i6,i7⟩ C hr;have aC:∀r,row=some r->j.heap.size<=r:=λr e=>(hr r e).1
   exact⟨E.rh (B:=j.heap.size) (by omega) C hr,q.pR (B:=j.heap.size) (by omega) C aC,G.pR (B:=j.heap.size) (by omega) C aC,i4.pR (B:=j.heap.size) (by omega) C aC,Ho i5 C (by simp;omega) (λe=>by have:=aC _ e.symm;simp at this;omega),xU i6 C (by omega) aC,zT i7 C.size⟩
  case own2=>exact λc f X Y row h _ _=>h
  case ownR =>
   rintro f x _ X Y row ⟨s,u,e3⟩ C hr;exact⟨s,u,qq.rL (B:=j.heap.size) _ _ _ () X Y row e3 C hr⟩
  case assign =>
   intro l1 x V K T;simp only[BO]
   gi_wp2
   exact T
  case body =>
   rintro l1 f ⟨x1,U,c6⟩ V ⟨E,q,G,i4,i5,i6,i7⟩ ⟨aR,aS,aE⟩;simp only at aR aS aE;subst aR;have aB:=aF.out;have N:f.length<m:=by omega
   have aD:kQ b.length f.length=64:=by unfold kQ;omega
   have aL:(YD b f.length).length=64:=by rw[jW,aD]
   have aK:(xs++JD at_ b f.length).length=xs.length+f.length:=by rw[zH,JU]
   have HW:=Nq V.drew d many g (xs++JD at_ b f.length) left false (E.grow (pf _ _).drew) rfl (at_+f.length) (by omega) U c6 _ aL (aE.drew) (by rw[aK];omega) h1l aU;rw[Int.natCast_add] at HW;have k0:=q.boxed;have k1:=G.boxed;have a8:IntKind.i64.wrap ((at_:Int)+(f.length:Int))=(at_:Int)+(f.length:Int):=by rw[zg _]
   simp only[aD];clear aB aD aL aK aS aJ;have z:V.drew.cell? ⟨w.heap.size,0,none⟩=some (.pointer (some ⟨l,0,none⟩))/\V.drew.cell? ⟨l,0,none⟩=some (.pointer (some ⟨d,0,none⟩))/\V.drew.cell? ⟨w.heap.size+1,0,none⟩=some (.int .i64 (at_:Int)):=⟨k0,i5,k1⟩
   gi_wp2_with fail
   refine zb.startR (λW:World=>W.cell? ⟨w.heap.size,0,none⟩=some (.pointer (some ⟨l,0,none⟩))/\W.cell? ⟨l,0,none⟩=some (.pointer (some ⟨d,0,none⟩))/\W.cell? ⟨w.heap.size+1,0,none⟩=some (.int .i64 (at_:Int))) 9 (by kernel_rfl) (by kernel_rfl) ?_;refine zb.q 0 (.pointer (some ⟨l,0,none⟩)) z ?_;refine zb.q 1 (.pointer (some ⟨l,0,none⟩)) z ?_;refine zb.q 2 (.pointer (some ⟨l,0,none⟩)) z ?_;refine zb.q 3 (.pointer (some ⟨d,0,none⟩)) z ?_;refine zb.q 4 (.int .i64 (at_:Int)) z ?_;refine zb.q 5 (.int .i64 (f.length:Int)) z ?_;refine zb.q 6 (.int .i64 ((at_:Int)+(f.length:Int))) z ?_;refine zb.q 7 (.slice U 64 c6) z ?_;simp only[Z8];refine zb.n 8 ?_;refine zb.oC 235 #[.tmp 17,.tmp 20,.tmp 21] #[75,3,129] #[.pointer (some ⟨d,0,none⟩),.int .i64 ((at_:Int)+(f.length:Int)),.slice U 64 c6] (HW.mono ?_) (zb.eo func235);rintro e W6 ⟨rfl,aH,aN,_⟩;have I:V.grownBy W6 (some d):=(yP V (some d)).trans aN;have q0:=q.grown I (λe=>by injection e with e;omega);have q1:=G.grown I (λe=>by injection e with e;omega);have q2:=i4.grown I (λe=>by injection e with e;omega);have q3:W6.cell? ⟨l,0,none⟩=some (.pointer (some ⟨d,0,none⟩)):=Ho i5 I (by show l<V.heap.size;omega) (λe=>by injection e with e;exact a5 e);have q6:=I.size;refine⟨_,rfl,λ_=>⟨q0.boxed,q3,q1.boxed⟩,?_⟩;simp only[Z8];refine zb.n 9 (zb.opV (w':=W6) (.int .i64 0) rfl rfl (by go_simp) ⟨λh=>absurd rfl h,zb.dn ?_⟩);simp only[Z8];have a2:yR W6 d many g (xs++JD at_ b (f++[(f.length,U,c6)]).length) left false:=by rw[show (f++[(f.length,U,c6)]).length=f.length+1 by simp,Ns,<-qO];exact aH
   have a3:qf (λk=>k=d) j.heap.size V W6:=⟨q6,λk o N hm=>(I.block k (zK.1 N).1 (λe=>by injection e with e;exact hm (by omega) e)).trans N⟩;have a1:=i6.trans I;clear HW z aH aN k0 k1 a8 aE;dsimp only[XF]
   gi_wp2
   exact⟨a3,a2,q0,q1,q2,q3,a1,by omega⟩
  case done =>
   rintro D ys V M hS ⟨E,q,G,i4,i5,i6,i7⟩ T;have aB:=aF.out;have a7:ys.length=m:=by rw[hS];unfold XD;omega
   rw[a7] at E;exact hQ _ _ ⟨D,rfl,T,M,E,i4,i6⟩
  case stop =>
   rintro D c f V M hS h;exact h.elim
 rintro a V ⟨D,rfl,T,M,E,q,G⟩;have k3:=q.boxed;have f3:=q.free 0
 gi_wp2
 have b6:=q.set 0 (.int .i64 0);have aI:(V.setCell ⟨w.heap.size+1+1,0,none⟩ (.int .i64 0)).heap[D]?=some (.deferred (some [])):=(oI V ⟨w.heap.size+1+1,0,none⟩ (.int .i64 0) D (by simp;omega)).trans T;have g1:V.grownBy (V.setCell ⟨w.heap.size+1+1,0,none⟩ (.int .i64 0)) (some (w.heap.size+1+1)):=⟨rfl,rfl,rfl,by simp,λk _ N=>oI V _ _ k (λe=>N (by rw[e]))⟩;have aV:=E.rh (B:=w.heap.size) aM g1 (λr e=>by cases e;exact⟨by omega,_,q,by decide,rfl⟩);have aX:=xU G g1 (zG _) (λr e=>by cases e;omega);clear k3 f3 g1 E q G T;generalize V.setCell ⟨w.heap.size+1+1,0,none⟩ (.int .i64 0)=Z at *;have g2:=grownBy_putObj' Z D (.deferred none);have aW:=aV.rh (B:=w.heap.size) aM g2 (λr e=>by cases e;exact⟨by omega,_,aI,trivial⟩);have aY:=xU aX g2 (zG _) (λr e=>by cases e;omega);refine⟨by simp,.inl ⟨D,_,rfl,dt aI,?_⟩⟩;have b7:za (Z.putObj D (.deferred none)) (w.heap.size+1+1) 27 #[.int .i64 0]:=(Pz Z D (.deferred none) (g:=w.heap.size+1+1) (by omega)).trans b6;exact⟨.int .i64 0,DQ (p:=⟨w.heap.size+1+1,0,none⟩) 6 rfl rfl (by simp[go_sem]) b7.boxed,rfl,aW,aY⟩
theorem KA (w:World)(l d many:Nat)(g:Nat->Y4)(xs:List (Nat×Y4))(left:Int)(h:yR w d many g xs left false)(hl:xs.length<=900000)(h1l : -1000000<=left)(f:left<=9223372036854775807)
  (hc:w.cell? ⟨l,0,none⟩=some (.pointer (some ⟨d,0,none⟩))) (r:l≠d) (s:l<w.heap.size) (at_ m:Nat) (A:Y5) (c:Nat) (b:Y4) (q:qq w w.heap.size A c b) (k:b.length=64*m) (u:m<=16) (j:at_+m<=many) (z:many<=1000000) :
  pr Y3 173 #[.pointer (some ⟨l,0,none⟩),.int .i64 (at_:Int),.slice A b.length c] w λe w'=>e=Y0 (.int .i64 0)/\yR w' d many g (xs++JD at_ b m) left false/\w.grownBy w' (some d) :=
 callsIn_wide.1 (ER 8 (zG _) w l d many g xs left h hl h1l f hc r s at_ m A c b q k u j z)
end
end Go.Proofs.YtohmkffoojdahaaGreat
