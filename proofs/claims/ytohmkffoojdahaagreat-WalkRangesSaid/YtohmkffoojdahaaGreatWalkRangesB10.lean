/- Texts that the proof of WalkRanges leans on, part 10. -/
import Derived.Shelf.Strings.Builder1
import Derived.Shelf.Spec.SlicesInsert
import Derived.Test.YtohmkffoojdahaaGreatWalkRangesB9
open List renaming replicate->zP
set_option linter.unusedVariables false
set_option linter.unusedSimpArgs false
set_option maxRecDepth 100000
set_option maxHeartbeats 8000000

open ByteArray renaming empty->nX
open Go renaming Calls->nK,Addr->nN,Operand->nO,execOp->nQ,TypeId->nS,Oper->nh,maxLen->gP,Ending->mH,Exit->mh,goInt->eH
open Go.Act renaming put->nJ
open Go.Builtin renaming copy_->gw
open Go.Extern.SlicesOverlaps renaming overlaps->fW
open Go.Proofs renaming wpList_copy_runI->fa
open Go.Result renaming andThen->nM
open Go.RowKit renaming Below->nH
open Go.World renaming setRow->gM,shape?->lu,frozen?->lz
open Go.Proofs.Tryz renaming prog->Y3
open Go.Proofs.Tryz
open Go.Value renaming int->Y1,pointer->Y9,slice->X1,bool->X3,string->X9,agg->Q0,tuple->Q2,map->Q1
open Go.IntKind renaming i64->Q4,u8->Q5,u64->Q6
open Go.Obj renaming cells->Q9
open Option renaming none->K3,some->K4
namespace Go.Proofs.YtohmkffoojdahaaGreat
section
open Go Go.RowKit xq
section
variable {w:World}{o:nh}{ρ:nO->Value}{x y:nO}
theorem My (l:List (Value×Nat)):∀a:Y7,(l.foldl (λcs x=>cs.setIfInBounds x.snd x.fst) a).size=a.size:=by
 induction l with
 | nil=>intro a;rfl
 | cons b l ih=>intro a;rw[List.foldl_cons,ih];simp
theorem rG (d:Y8)(m:Value)(arr:Y7)(hs:arr.size=d.length+1):(d.zipIdx.foldl (λcs x=>cs.setIfInBounds x.snd x.fst) arr).setIfInBounds d.length m=(d++[m]).toArray:=by
 apply Array.ext_getElem?;intro j;have h:=Kx 0 d 0 arr;simp only[qA] at h;have f:(d++[m]).toArray[j]?=(d++[m])[j]?:=by simp
 rw[f,zS,My]
 by_cases e:d.length=j
 .subst e;rw[if_pos rfl,if_pos K5,qU (zG _)];simp
 .rw[if_neg e,h j]
  by_cases h2:j<d.length
  .rw[if_pos K5,List.getElem?_append_left h2];rfl
  .rw[if_neg K5,Array.getElem?_eq_none K5,lB (by simp;omega)]
theorem IS (s:qj)(hs:s.roots.length=16)(M:Nat)(D:Int->Option Y4)(d:o.op=.build 214 #[(0,x),(1,y)])(h1:ρ x=Q0 (xR s).toArray)(h2:ρ y=Q1 (some M)):(nQ ρ o).run Y3 w=.ok (.value (Q0 (ZI ⟨s,M,D⟩).toArray)) w:=by
 have hl:=zq hs;have key:=rG (xR s) (Q1 (some M)) #[Y1 Q4 0,Y1 Q4 0,Y1 Q4 0,Y1 Q4 0,Y1 Q4 0,Y1 Q4 0,Y1 Q4 0,Y1 Q4 0,Y1 Q4 0,Y1 Q4 0,Y1 Q4 0,Y1 Q4 0,Y1 Q4 0,Y1 Q4 0,Y1 Q4 0,Y1 Q4 0,Y1 Q4 0,Y1 Q4 0,Y1 Q4 0,.map none] (by rw[hl];rfl);rw[hl] at key;simp[nQ,d,h1,h2,go_sem,ZI,nM,hl,key,My]
theorem IM (m:xo)(e:m.s.roots.length=16)(f:o.op=.buildSlice 126 1 #[(0,x)])(h1:ρ x=Q0 (ZI m).toArray):(nQ ρ o).run Y3 w=.ok (.value (X1 w.heap.size 1 1)) (w.alloc (Q9 (ZI m).toArray 214)):=by
 have d:=YE e;have key:=λarr hs=>Ah (ZI m) arr hs
 rw[d] at key;simp[nQ,f,h1,go_sem,nM,d,key]
end
section
variable {w:World}{ops:Array nh}{i:Nat}{o:nh}{a:Act}{Q:mh->Act->World->Prop}{K:Act->World->Prop}
theorem rB (f:ops[i]?=some o)(e:o.guard=none){S:nS}(s x:nO)(hc:o.op=.call {callee:=.builtin .append,args:=#[s,x],argTypes:=#[S,S]})
  (v d v':Value) (w':World) (hs:a.eval s=v) (q:a.eval x=d) (j:(Builtin.append_ #[S,S] o.type #[v,d]).run Y3 w=.ok v' w') (h:K (a.put o.dst v') w'):wpOp Y3 ops Q i K a w:=by
 refine zb.opV v' f e (w':=w') ?_ h;unfold nQ;simp only[hc,resolve,invoke,builtin,gJ,ny,nc,zJ,zL,zN,hs,q,j]
end
section
variable {W0 W W':World}{K:xB}{p:Nat}{v v':yj}{st last:qj}{under:Bool}{mk:Value}{ms:List xo}
theorem vi.db (h:vi W0 K v W):∀k y,v.D k=some y->0<=k/\k<(K.P:Int):=λk y d=>by
 have h1:=jr.1 d;have:=(h.ro k y true h1).1;exact this
theorem vi.dx (h:vi W0 K v W):sY K v.D:=⟨h.db,by
 have h1:sT K.P v.D<=ZL K.P v.c.V:=Qq (List.nodup_range.filter _) (λk d=>by
  rw[yD,List.mem_range] at d;rw[kj];refine⟨d.1,?_⟩;obtain⟨y,f⟩:=Option.isSome_iff_exists.1 d.2;have h2:=jr.1 f;cases e:v.c.V (k:Int) with
  | none=>rw[show v.R (k:Int)=none from Lq e] at h2;cases h2
  | some x=>rfl)
 have:=h.cn
 omega⟩
theorem Tf (h:qx W0 K p v st last true mk W)(hK:K.Ok)(hM:vg W0 K v ms mk W)(hn:ms.length<=900):nK Y3 74 #[Y9 p] W λe w'=>∃M mk',e=Y0 (Q2 #[Y1 Q4 (ms.length:Int),Y1 Q4 0])/\qx W0 K p v st last true mk' w'/\vg W0 K v (ms++[⟨st,M,v.D⟩]) mk' w'/\ze (λk=>k=p\/Ut mk k) W w':=by
 have HA:=h.oI true;have aO:=zq h.hs;have aQ:=h.ca.cs.fh.up.size;have aL:=h.ca.oE;have aK:=h.ca.dx
 go_enter func74,ntmps74
 go_wp2_with (go_at_call 72;refine HA.mono ?_;rintro e w1 ⟨rfl,aB⟩)
 obtain⟨w1d,aN⟩:∃x,x=w1.drew:=⟨_,rfl⟩;have B:nH W.heap.size W w1d:=by rw[aN];exact aB.trans ((nF _ _).drew.mono aB.size)
 have h1:=h.grow B;have aD:=hM.grow B;have j:w1d.rangeAt p 0 (xR st)/\w1d.cell? ⟨p,40,K3⟩=some mk:=⟨h1.pY,h1.dW⟩;have HD:=callsIn_wide.1 (NY 10 (zG _) h1 hK);refine zb.st (λW':World=>W'.rangeAt p 0 (xR st)/\W'.cell? ⟨p,40,K3⟩=some mk) 16 ?_;rw[<-aN];refine zb.q 0 (Y9 p) j ?_;refine zb.q 1 (Y9 p) j ?_;refine zb.q 2 (Y9 p) j ?_;refine zb.q 3 (Y9 (K4 ⟨p,40,K3⟩)) j ?_;refine zb.q 4 (mk) j ?_;refine zb.q 5 (Y9 p) j ?_;refine zb.q 6 (Y9 p) j ?_;refine zb.q 7 (Y9 p) j ?_;simp only[Z8];refine zb.t 8 (Q0 (xR st).toArray) rfl j (λW ⟨d,f⟩=>by exact yQ QB d aO rfl rfl) ?_;refine zb.q 9 (Y9 p) j ?_;simp only[Z8];refine zb.n 10 ?_;refine zb.oC 126 #[.tmp 19] #[45] #[Y9 p] (HD.mono ?_) (zb.eo func126);rintro e q ⟨M,rfl,aG,aP,F⟩;have h2:=h1.grow F;have aE:=aD.grow F;have V:q.rangeAt p 0 (xR st)/\q.cell? ⟨p,40,K3⟩=some mk:=⟨h2.pY,h2.dW⟩;refine⟨_,rfl,λ_=>V,?_⟩;simp only[Z8];refine zb.n 11 (zb.opV (w':=q) _ rfl rfl (IS st h.hs M v.D rfl rfl rfl) ⟨λ_=>V,?_⟩);simp only[Z8];obtain⟨w3,Z⟩:∃x,x=q.alloc (Q9 (ZI ⟨st,M,v.D⟩).toArray 214):=⟨_,rfl⟩;have G:nH q.heap.size q w3:=by rw[Z];exact(nF _ _).alloc (zG _) _
 have I:=h2.grow G;have C:=aE.grow G;have aH:=aG.grow G;have aJ:za w3 q.heap.size 214 (ZI ⟨st,M,v.D⟩).toArray:=by rw[Z];exact za.new _ _ _
 have aI:w3.rangeAt p 0 (xR st)/\w3.cell? ⟨p,40,K3⟩=some mk:=⟨I.pY,I.dW⟩;refine zb.n 12 (zb.opV (w':=w3) _ rfl rfl (by rw[Z];exact IM ⟨st,M,v.D⟩ h.hs rfl rfl) ⟨λ_=>aI,?_⟩);simp only[Z8];have P:nH W.heap.size W w3:=B.trans ((F.trans (G.mono F.size)).mono B.size);obtain⟨mk',w4,X,U,H,aM⟩:=C.row.append 126 K5 (by have:=P.size;omega) ⟨st,M,v.D⟩ h.hs q.heap.size aJ;have L:∀k,Ut mk k->kX w3 k:=λk r=>(C.row.blk k r).1
 have u:=I.pT H L (λk r=>(C.row.blk k r).2)
 have T:vg W0 K v (ms++[⟨st,M,v.D⟩]) mk' w4:=⟨U,λx s=>by
  rcases zZ.1 s with s|s
  .exact⟨(C.maps x s).1.pT H L,(C.maps x s).2⟩
  .rw[qL] at s;subst s
   exact⟨aH.pT H L,λe=>by have h7:M<W.heap.size:=aL _ e;have:=B.size;omega,aK⟩⟩
 have E:w4.rangeAt p 0 (xR st)/\w4.cell? ⟨p,40,K3⟩=some mk:=⟨u.pY,u.dW⟩;obtain⟨N,c4,rfl,_⟩:=U.has;have aA:(ms++[(⟨st,M,v.D⟩:xo)]).length=ms.length+1:=by simp
 rw[aA] at X aM T;refine zb.n 13 (rB rfl rfl (.tmp 14) (.tmp 22) rfl mk _ _ w4 rfl rfl X ⟨λ_=>E,?_⟩);simp only[Z8];have f4:=u.pb.free 40;obtain⟨O,S⟩:=u.oG (mk':=X1 N (ms.length+1) c4);have aF:=T.own u S;refine zb.n 14 (zb.opV (w':=w4) (Y9 p) rfl rfl (by obtain⟨d,f⟩:=E;go_simp) ⟨λ_=>E,?_⟩);simp only[Z8];refine zb.n 15 (zb.opV (w':=w4) (Y9 (K4 ⟨p,40,K3⟩)) rfl rfl (by obtain⟨d,f⟩:=E;go_simp) ⟨λ_=>E,?_⟩);simp only[Z8];refine zb.n 16 (zb.opS (w':=w4.setCell ⟨p,40,K3⟩ (X1 N (ms.length+1) c4)) rfl rfl K8 ⟨λh=>absurd rfl h,zb.dn ?_⟩);simp only[zD,zC,zB,nJ];have c5:=O.dW;have hW:IntKind.i64.wrap (((ms.length+1:Nat):Int)-1)=(ms.length:Int):=by rw[show ((ms.length+1:Nat):Int)-1=(ms.length:Int) by omega];exact zg _
 have aC:ze (λk=>k=p\/Ut mk k) W (w4.setCell ⟨p,40,K3⟩ (X1 N (ms.length+1) c4)):=(ze.below P).trans ((H.more λk r _ => .inr r).trans (S.more λk r _ => .inl r));have H5:=nI O;have HM:=nI aF;have HG:=nI aC;clear h h1 h2 I u hM aD aE C T U H aM X L j V aI E aG aH aJ B F G P HD HA aK aL aC aF O S f4 aA;go_wp2
 go_ret2
 exact⟨M,_,rfl,H5.out,HM.out,HG.out⟩
end
end
section
open Go Go.RowKit xq Go.Shelf Go.Sort

end
section
open Go Go.RowKit xq
section
variable {ρ:nO->Value}{w:World}{o:nh}{x z m:nO}
theorem th {g n c k:Nat}(h:o.op=.slice 126 x none (some z) (some m))(h1:ρ x=X1 g n c)(d:ρ z=Y1 Q4 (k:Int))(e:ρ m=Y1 Q4 (k:Int))(hn:k<=c):(nQ ρ o).run Y3 w=.ok (.value (X1 g k k)) w:=by
 have ht:Y3.underlying 126=some (.slice (Y3.elem 126)):=K6
 have f:(k:Int)<=(c:Int):=K5
 simp[nQ,h,h1,d,e,go_sem,run_sliceAt_slice _ _ _ _ _ _ ht,nM,f]
end
section
variable {W0 W W':World}{K:xB}{p:Nat}{v v':yj}{st last:qj}{under:Bool}{mk:Value}{ms:List xo}
theorem vi.oy (h:vi W0 K v W){k:Nat}{T:nS}{cs:Y7}(f:za W k T cs)(h1:T≠114)(h2:T≠171)(d:T≠185)(e:T≠194):¬ K.mu v k:=λj=>by
 exact yW.pU h.cs.ca f d e j
theorem ZM.elem {B:Nat}(h:ZM B W mk ms)(n:Nat)(hn:n<ms.length):∃g c,mk=X1 (K4 ⟨g,0,K3⟩) ms.length c/\ms.length<=c/\g<W.heap.size/\W.rangeAt g (n*20) (ZI ms[n]):=by
 obtain⟨A,c,e,h1,_,r,u⟩:=h.has;cases A with
 | none=>have:=r rfl;omega
 | some a =>
  obtain⟨g,cur,rfl,_,f,_,_,s⟩:=u a rfl;refine⟨g,c,e,h1,f.lt,λj x d => ?_⟩;have C:=Nk h.dQ n hn;have q:=(qM.1 d).1;rw[YE (h.dQ _ (qJ hn))] at q;rw[f.cell,qP];rw[<-C,List.getElem?_take_of_lt q,mD,<-s] at d;have E:=(qM.1 d).1;rw[List.getElem?_take_of_lt (by simp at E;omega)] at d;exact d
end
section
variable {W0 W W':World}{K:xB}{p:Nat}{v v' v9:yj}{st last:qj}{mk:Value}{ms:List xo}{D:Int->Option Y4}{A:Y5}{ks:List Nat}{b i:Nat}{cs:Y7}{wr w9:World}
end
section
variable {W0 W W':World}{K:xB}{p:Nat}{v v':yj}{st last st' last':qj}{under under':Bool}{mk mk':Value}{ms:List xo}
theorem qx.od (h:qx W0 K p v st last under mk W){k:Nat}{T:nS}{cs:Y7}(e:za W k T cs)(h1:T≠114)(h2:T≠171)(f:T≠185)(j:T≠194)(q:T≠128):¬ qi K p v k:=λd=>by
 rcases d with rfl|d
 .exact zh e h.pb q rfl
 .exact h.ca.oy e h1 h2 f j d
theorem vg.dN (h:vg W0 K v ms mk W)(d:qx W0 K p v st last under mk' W)(q:ze (qi K p v) W W')(u:zz K W v v'):vg W0 K v' ms mk W' :=
 ⟨h.row.pR q (λk r=>by
  rintro(e|e)
  .subst e;exact(h.row.blk k r).1.pU d.pb K7
  .exact d.ca.dj (h.row.blk k r).1 e),λx B=>by
  obtain⟨h1,h2,s⟩:=h.maps x B;refine⟨h1.pv q d.sms (λe => ?_),λe => ?_,s⟩
  .rcases e with e|e
   .obtain⟨es,C,f,j,_⟩:=h1.has;rw[e] at j;exact j.pf d.pb rfl
   .exact h2 e
  .rcases u _ e with e|e
   .exact h2 e
   .have:=h1.lt
    omega⟩
end
theorem Ui {w:World}{a f r P:Nat}{room now hh mm:Int}{V:qt}(h:yW w a f r P room now hh mm V):nK Y3 147 #[Y9 a] w λe w'=>e=Y0 (Y9 f)/\w=w':=by
 have d:=jt h.cb;have c0:w.cell? a=K4 (Y9 f):=(h.cb.cell _).trans rfl
 go_enter func147,ntmps147
 go_wp2_with (go_at_call 109;refine d.mono ?_;rintro e w' ⟨rfl,rfl⟩)
 go_ret;exact⟨rfl,rfl⟩
def jD (K:xB)(D:Int->Option Y4):Prop:=∀l:List Nat,(∀p b,D p=some b->p.toNat∈l)->K.room<=(l.length:Int)
theorem vi.tight {W0 W:World}{K:xB}{v:yj}(h:vi W0 K v W)(hn:Dg K.P K.room v.c.V):jD K v.D:=λl hl=>hn.dm (λp b e=>hl p b (jr.2 e)) (λk u e=>(h.ro k u.y u.d (vw e)).1.1)
def YW:Y4:=zP 512 0
structure Cm (K:xB)(v v':yj)(st st':qj)(n x:Int):Prop where
 nn:v'.N<=v.N+2
 ii:v'.i=v.i
 yy:v'.Y K=v.Y K
 sz:v'.S.sz=v.S.sz
 dd:(x=0/\st.first=0/\n=st.size/\st.size<K.pg/\st'={st with size:=st.size+1}/\v'.D=λj=>if j=n then some YW else v.D j) \/
  (x=0/\st.first≠0/\n=st.first/\st'={st with first:=(xH ((v.view K st.first.toNat).take 4):Int),many:=st.many-1}/\v'.D=λj=>if j=n then some YW else v.D j) \/
  (x≠0/\n=0/\st'=st/\v'.D=v.D/\((st.first=0/\K.pg<=st.size/\x=160)\/jD K v.D\/(st.first≠0/\(st.size<=(xH ((v.view K st.first.toNat).take 4):Int)\/st.many-1<0))))
theorem SV {ρ:nO->Value}{o:nh}{w:World}(d:o.op=.alloc 125):(nQ ρ o).run Y3 w=.ok (.value (Y9 w.heap.size)) (w.alloc (Q9 #[Y1 Q4 0,Y1 Q4 0,Y1 Q4 0,Y1 Q4 0,Y1 Q4 0,Y1 Q4 0,Y1 Q4 0,Y1 Q4 0,Y1 Q4 0,Y1 Q4 0,Y1 Q4 0,Y1 Q4 0,Y1 Q4 0,Y1 Q4 0,Y1 Q4 0,Y1 Q4 0,Y1 Q4 0,Y1 Q4 0,Y1 Q4 0] 125)):=by
 simp[nQ,d,Instr.alloc,newVar,newRow,go_sem,nM]
theorem ze.oH {Mu:Nat->Prop}{a c:World}(h:ze Mu a c){b j:Nat}{u:Value}(e:a.heap.size<=b):ze Mu a (c.setCell ⟨b,j,K3⟩ u) :=
 ⟨h.os,h.tape,h.output,by simpa using h.size,λk d hn=>(Below.heap_setCell c ⟨b,j,K3⟩ u k (by show k≠b;omega)).trans (h.block k d hn)⟩
theorem qx.pQ {W0 X:World}{K:xB}{p:Nat}{v:yj}{st last:qj}{under:Bool}{mk:Value}(h:qx W0 K p v st last under mk X){b:Nat}{T:nS}{cs:Y7}(q:za X b T cs)(hs:cs.size<=64)(r:∀n,cs[0]? ≠ K4 (Y1 Q6 n))(s:W0.heap.size<=b)(B:¬ K.mu v b)(hf:b≠K.f)(C:b≠p)(j:Nat)(u:Value):qx W0 K p v st last under mk (X.setCell ⟨b,j,K3⟩ u):=by
 have d:ze (λk=>k=b) X (X.setCell ⟨b,j,K3⟩ u):=ze.setCell _ _ _ rfl;have E:QY X b:=⟨.inr (.inl ⟨T,cs,q,hs,r⟩),.inr (.inl ⟨T,cs,q,hs⟩)⟩;exact⟨h.ca.pR d (λk e=>by subst e;exact E) (λk e=>by subst e;exact s) (λk e=>by subst e;exact⟨B,hf⟩),d.blk h.pb (λe=>C e.symm),h.np,h.hs,h.hl⟩
def Jc (W0:World)(K:xB)(p:Nat)(v:yj)(st last:qj)(mk:Value)(W:World)(e:mH)(w':World):Prop:=∃n x v' st',e=Y0 (Q2 #[Y1 Q4 n,Y1 Q4 x])/\qx W0 K p v' st' last true mk w'/\Cm K v v' st st' n x/\zz K W v v'/\ze (qi K p v) W w'
theorem Jc.mk {W0:World}{K:xB}{p:Nat}{v:yj}{st last:qj}{mk:Value}{W:World}{e:mH}{w':World}(h:∃n x v' st',e=Y0 (Q2 #[Y1 Q4 n,Y1 Q4 x])/\qx W0 K p v' st' last true mk w'/\Cm K v v' st st' n x/\zz K W v v'/\ze (qi K p v) W w'):Jc W0 K p v st last mk W e w':=h
-- THE WALK
section
variable {W0 W:World}{K:xB}{p:Nat}{v:yj}{st last:qj}{mk:Value}
theorem Tg (h:qx W0 K p v st last true mk W)(hK:K.Ok)(hN:v.N<=700000)(cL:1<=st.size/\st.size<=(K.P:Int))(hf:0<=st.first/\st.first<(K.P:Int))(hm:0<=st.many/\st.many<=1000)(cD:¬ st.first=0->(v.D st.first).isSome=true):nK Y3 89 #[Y9 p] W (Jc W0 K p v st last mk W):=by
 have HA:=h.oI true;have aV:=zq h.hs;have cJ:=hK.P2;have cK:=hK.hP
 go_enter func89,ntmps89
 go_wp2_with (go_at_call 72;refine HA.mono ?_;rintro e w1 ⟨rfl,a2⟩)
 obtain⟨w1d,bH⟩:∃x,x=w1.drew:=⟨_,rfl⟩;have aE:nH W.heap.size W w1d:=by rw[bH];exact a2.trans ((nF _ _).drew.mono a2.size)
 have h1:=h.grow aE;have q:w1d.rangeAt p 0 (xR st)/\w1d.cell? ⟨p,1,K3⟩=K4 (Y1 Q4 st.first):=⟨h1.pY,h1.de⟩;refine zb.st (λW':World=>W'.rangeAt p 0 (xR st)/\W'.cell? ⟨p,1,K3⟩=K4 (Y1 Q4 st.first)) 99 ?_;rw[<-bH];refine zb.q0 0 (Y9 p) q ?_;refine zb.q0 1 (Y9 p) q ?_;refine zb.q0 2 (Y9 p) q ?_;simp only[Z8];refine zb.t0 3 (Q0 (xR st).toArray) rfl q (λW ⟨e0,S⟩=>by exact yQ QB e0 aV rfl rfl) ?_;refine zb.q0 4 (Y9 p) q ?_;refine zb.q0 5 (Y9 p) q ?_;refine zb.q0 6 (Y9 p) q ?_;refine zb.q0 7 (Y9 (K4 ⟨p,1,K3⟩)) q ?_;refine zb.q0 8 (Y1 Q4 st.first) q ?_;simp only[Z8];obtain⟨b,hb⟩:=Z9 w1d.heap.size;obtain⟨w2,aW⟩:=Z9 (w1d.alloc (Q9 #[Y1 Q4 0,Y1 Q4 0,Y1 Q4 0,Y1 Q4 0,Y1 Q4 0,Y1 Q4 0,Y1 Q4 0,Y1 Q4 0,Y1 Q4 0,Y1 Q4 0,Y1 Q4 0,Y1 Q4 0,Y1 Q4 0,Y1 Q4 0,Y1 Q4 0,Y1 Q4 0,Y1 Q4 0,Y1 Q4 0,Y1 Q4 0] 125));have b2:za w2 b 125 #[Y1 Q4 0,Y1 Q4 0,Y1 Q4 0,Y1 Q4 0,Y1 Q4 0,Y1 Q4 0,Y1 Q4 0,Y1 Q4 0,Y1 Q4 0,Y1 Q4 0,Y1 Q4 0,Y1 Q4 0,Y1 Q4 0,Y1 Q4 0,Y1 Q4 0,Y1 Q4 0,Y1 Q4 0,Y1 Q4 0,Y1 Q4 0]:=by rw[aW,hb];exact za.new _ _ _
 have a3:nH w1d.heap.size w1d w2:=by rw[aW];exact(nF _ _).alloc (zG _) _
 have h2:=h1.grow a3;have bR:w2.rangeAt p 0 (xR st)/\w2.cell? ⟨p,1,K3⟩=K4 (Y1 Q4 st.first):=⟨h2.pY,h2.de⟩;refine zb.n 9 (zb.opV (w':=w2) (Y9 b) rfl rfl (by rw[aW,hb];exact SV rfl) ⟨λ_=>bR,?_⟩);simp only[Z8];obtain⟨w3,aX⟩:=Z9 (w2.setRow b (xR st).toArray);have b3:za w3 b 125 (xR st).toArray:=by rw[aX];exact b2.setRow _
 have a4:nH w1d.heap.size w1d w3:=by rw[aX];exact zf a3 (by rw[hb];exact zG _) _
 have G:=h1.grow a4;have a6:w3.rangeAt p 0 (xR st)/\w3.cell? ⟨p,1,K3⟩=K4 (Y1 Q4 st.first):=⟨G.pY,G.de⟩;refine zb.n 10 (zb.opS (w':=w3) rfl rfl (by rw[aX];exact SO _ _ _ rfl b rfl rfl QB b2 rfl (by simp[aV]) (by simpa using GH st)) ⟨λ_=>a6,?_⟩);simp only[zD,zC,zB,nJ];refine zb.n 11 (zb.opV (w':=w3) (Y1 Q4 st.first) rfl rfl K8 ⟨λ_=>a6,zb.dn ?_⟩);simp only[Z8];have X:nH W.heap.size W w3:=aE.trans (a4.mono aE.size);have bB:W.heap.size<=b:=by rw[hb];exact aE.size
 have aT:¬ K.mu v b:=λr=>by have:=h1.ca.oE _ r;omega
 have bC:b≠K.f:=by have:=h1.ca.cs.fh.fb.lt;omega
 have bD:b≠p:=by have:=h1.pb.lt;omega
 have bA:W0.heap.size<=b:=by have:=h.ca.cs.fh.up.size;omega
 clear q bR a6 aW aX b2 h2 HA h1 a2 aE a3 bH hb a4
 by_cases aI:st.first=0
 .have bK:w3.cell? b=K4 (Y1 Q4 st.size):=(b3.cell 0).trans (by simp[xR]);have a1:=G.oD;have cF:=Vb K.fr K.pg;have cN:IntKind.i64.wrap (st.size+1)=st.size+1:=zg _
  by_cases cE:K.pg<=st.size
  .have hF:Cm K v v st st 0 160:=⟨by omega,rfl,rfl,rfl,.inr (.inr ⟨by decide,rfl,rfl,rfl,.inl ⟨aI,cE,rfl⟩⟩)⟩;have T:=nI hF;clear hF
   go_wp2_with (first
    |(go_at_call 147;refine(Ui G.ca.cs.ca).mono ?_;rintro e w4 ⟨rfl,rfl⟩)
    | (go_at_call 110;refine(Yj G.ca.cs.fh.fb).mono ?_;rintro e w4 ⟨rfl,U⟩))
   exact nT (nj rfl _ _ _) rfl (Jc.mk ⟨0,160,v,st,rfl,G.grow U,T.out,λk r => .inl r,ze.below (X.trans (U.mono X.size))⟩)
  .go_wp2_with (first
    |(go_at_call 147;refine(Ui G.ca.cs.ca).mono ?_;rintro e w4 ⟨rfl,rfl⟩)
    | (go_at_call 110;refine(Yj G.ca.cs.fh.fb).mono ?_;rintro e w4 ⟨rfl,U⟩;have bY:=(U.cell (p:=⟨b,0,K3⟩) b3.lt).trans bK;have b0:=(b3.below U b3.lt).free 0))
   have b4:=b3.below U b3.lt;have h4:=G.grow U;have aA:ze (K.mu v) W w4:=ze.below (X.trans (U.mono X.size));have b5:=b4.set 0 (Y1 Q4 (st.size+1));have ea:(xR st).toArray.setIfInBounds 0 (Y1 Q4 (st.size+1))=(xR {st with size:=st.size+1}).toArray:=by simp[xR]
   rw[ea] at b5;obtain⟨B,H⟩:∃B:qj,B={st with size:=st.size+1}:=⟨_,rfl⟩;rw[<-H] at b5;have bG:B.roots.length=16:=by rw[H];exact h.hs
   have a0:=nI H;clear H;have h5:=h4.pQ b4 (by simp[aV]) (λn=>by simp[xR]) bA aT bC bD 0 (Y1 Q4 (st.size+1));have bP:ze (K.mu v) W (w4.setCell b (Y1 Q4 (st.size+1))):=aA.oH bB;generalize w4.setCell b (Y1 Q4 (st.size+1))=w5 at *;clear ea b4 h4 aA bY b0 U bK a1 G b3 X cF
   go_wp2_with fail
   have hd:=h5.grow (nF _ _).drew;have bd:za w5.drew b 125 (xR B).toArray:=b5;have q:=hd.oD;refine zb.st (λW':World=>W'.cell? ⟨p,19,K3⟩=K4 (Y9 K.a)) 99 ?_;refine zb.t0 0 (Y9 p) rfl q (λW d=>by obtain e0:=d;go_simp) ?_;refine zb.t0 1 (Y9 p) rfl q (λW d=>by obtain e0:=d;go_simp) ?_;refine zb.t0 2 (Y9 (K4 ⟨p,19,K3⟩)) rfl q (λW d=>by obtain e0:=d;go_simp) ?_;refine zb.t0 3 (Y9 K.a) rfl q (λW d=>by obtain e0:=d;go_simp) ?_;refine zb.t0 4 (Y1 Q4 st.size) rfl q (λW d=>by obtain e0:=d;go_simp) ?_;simp only[Z8];refine zb.n 5 ?_;refine zb.oC 113 #[.const (X1 none 0 0)] #[142] #[X1 none 0 0] ((Hc _).mono ?_) (zb.eo func113);rintro e w7 ⟨v7,rfl,aN,V⟩;obtain⟨A7,c7,rfl,aJ⟩:=aN.inB;have E:=hd.grow V;refine⟨_,rfl,λ_=>E.oD,?_⟩;simp only[Z8];simp only[mO];refine zb.n 6 ?_;refine zb.oC 65 #[.tmp 73,.tmp 74,.tmp 75] #[120,3,129] #[Y9 K.a,Y1 Q4 st.size,X1 A7 512 c7] ((FW E.ca hK K5 st.size A7 c7 YW rfl aJ).mono ?_) (zb.eo func65);rintro e w8 ⟨x,v8,rfl,aF,S,e2,e3,e4,hq,aK,L⟩;have F:=E.pS L aF;refine⟨_,rfl,λ_=>F.oD,?_⟩;simp only[Z8];refine zb.n 7 (zb.opV (w':=w8) (Y1 Q4 x) rfl rfl K8 ⟨λ_=>F.oD,zb.dn ?_⟩);simp only[Z8];have Z:nH w5.heap.size w5 w7:=(nF _ _).drew.trans (V.mono (zG _));have b8:za w8 b 125 (xR B).toArray:=L.blk (bd.below V bd.lt) aT;have bI:=bP.size;have aB:ze (qi K p v) W w8:=(bP.trans ((ze.below Z).trans L)).more λ_ r _ => .inr r
   have aH:zz K W v v8:=aK.mono (zT bI Z.size);have aL:B.roots.length=16:=bG;have aC:=zq aL
   have aM:x=0\/(x=160/\jD K v.D):=hq.elim (λh => .inl h.1) (λh => .inr (by
    rcases h.1 with h1|h1
    .omega
    .exact⟨h1.1,by have:=E.ca.tight h1.2;exact this⟩))
   clear q hd bd V aJ aN E aF aK Z
   by_cases O:x=0
   .subst O;have I:v8.D=λj=>if j=st.size then some YW else v.D j:=by
     rcases hq with h1|h1
     .exact h1.2.2
     .exact absurd h1.1 K5
    have a5:w8.rangeAt b 0 (xR B):=λj u hj=>by rw[qA,b8.cell];simpa using hj
    have a9:w8.there p 0 (xR B).toArray.size:=JL F.pb (by rw[ke F.hs F.hl];simp[aC]);obtain⟨h9,aG⟩:=F.setState aL;have hF:Cm K v v8 st B st.size 0:=⟨by omega,e2,e3,e4,.inl ⟨rfl,aI,rfl,by omega,a0.out,I⟩⟩;have T:=nI hF;have H9:=nI h9;have aZ:=nI (aB.trans (ze.more aG (λk r _ => .inl r)));clear hF I hq h9 aG L aB
    go_wp2_with (first
     |(refine zp rfl (yQ QB a5 aC rfl rfl) ?_)
     |(refine wpList_store_mid rfl 125 _ _ rfl p 0 (xR B).toArray rfl rfl a9 (by simpa[aC] using QB.size) (all_oneCell_toArray (GH _)) ?_)
     | (go_at_call 148;refine(Td _ _).mono ?_;rintro e w' ⟨rfl,rfl⟩))
    exact nT (nj rfl _ _ _) rfl (Jc.mk ⟨st.size,0,v8,_,rfl,H9.out,T.out,aH,aZ.out⟩)
   .have I:v8.D=v.D:=by
     rcases hq with h1|h1
     .exact absurd h1.1 O
     .exact h1.2
    have hF:Cm K v v8 st st 0 x:=⟨by omega,e2,e3,e4,.inr (.inr ⟨O,rfl,rfl,I,.inr (.inl (aM.elim (λh=>absurd h O) (λh=>h.2)))⟩)⟩;have T:=nI hF;clear hF I hq aM L
    go_wp2_with (go_at_call 148;refine(Mj _ _ _ O).mono ?_;rintro e w' ⟨rfl,rfl⟩)
    refine nu (nj rfl _ _ _) rfl ?_;exact Jc.mk ⟨0,x,v8,st,rfl,F,T.out,aH,aB⟩
 .obtain⟨y,bV⟩:=Option.isSome_iff_exists.1 (cD aI);have a1:=G.oD
  go_wp2_with fail
  refine(tR G.ca hK K5 st.first y bV).mono ?_;rintro e w4 ⟨v4,cA,bW,_,bN,r1,r2,r3,r4,r5,bF,aA⟩;have h4:=G.pS aA bN;have bO:ze (K.mu v) W w4:=(ze.below X).trans aA;have aS:zz K W v v4:=bF.mono X.size;have bE:¬ K.mu v4 b:=λr=>(bF b r).elim aT (λe=>by have:=b3.lt;omega)
  have b4:=aA.blk b3 aT;clear G b3 X aA bF bN a1;obtain⟨A4,c4,rfl,bT,_⟩:=cA;have bX:y=v.view K st.first.toNat:=by rw[jv,show ((st.first.toNat:Nat):Int)=st.first by omega,bV];rfl
  rw[bW];have bU:=bT.drew;have aO:=Dz w4.drew A4 c4 0 y bU bW K5;rw[fD] at aO;obtain⟨C,aU⟩:∃C:Int,C=(xH (y.take 4):Int):=⟨_,rfl⟩;rw[<-aU] at aO;rw[bX] at aU;have bJ:=nI aU;clear aU bX bT;have cM:IntKind.i64.wrap (st.many-1)=st.many-1:=zg _
  go_wp2_with fail
  have bM:=h4.grow (nF _ _).drew;have aP:za w4.drew b 125 (xR st).toArray:=b4;have q:w4.drew.cell? ⟨b,2,K3⟩=K4 (Y1 Q4 st.many):=(aP.cell 2).trans (by simp[xR]);refine zb.st (λW':World=>W'.cell? ⟨b,2,K3⟩=K4 (Y1 Q4 st.many)) 8 ?_;refine zb.t 0 (X1 A4 512 c4) rfl q (λW d=>by obtain e0:=d;go_simp) ?_;refine zb.t 2 (Y9 (K4 ⟨b,2,K3⟩)) rfl q (λW d=>by obtain e0:=d;go_simp) ?_;refine zb.t 3 (Y1 Q4 st.many) rfl q (λW d=>by obtain e0:=d;go_simp) ?_;refine zb.t 4 (Y1 Q4 (st.many-1)) rfl q (λW d=>by obtain e0:=d;go_simp) ?_;simp only[Z8];refine zb.n 1 ?_;refine zb.oC 69 #[.tmp 53,.const (Y1 Q4 0)] #[129,3] #[X1 A4 512 c4,Y1 Q4 0] (aO.mono ?_) (zb.eo func69);rintro e w5 ⟨rfl,aQ⟩;have h5:=bM.grow aQ;have b5:=aP.below aQ aP.lt;have a7:w5.cell? ⟨b,2,K3⟩=K4 (Y1 Q4 st.many):=(b5.cell 2).trans (by simp[xR]);refine⟨_,rfl,λ_=>a7,?_⟩;simp only[Z8];refine zb.t 5 (Y9 (K4 ⟨b,1,K3⟩)) rfl a7 (λW d=>by obtain e0:=d;go_simp) ?_;simp only[Z8];have bZ:w5.cell? ⟨b,1,K3⟩=K4 (Y1 Q4 st.first):=(b5.cell 1).trans (by simp[xR]);have b1:=b5.free 1;have b6:=b5.set 1 (Y1 Q4 C);have h6:=h5.pQ b5 (by simp[aV]) (λn=>by simp[xR]) bA bE bC bD 1 (Y1 Q4 C);have bQ:ze (K.mu v) W (w5.setCell ⟨b,1,K3⟩ (Y1 Q4 C)):=(bO.trans (ze.below ((nF _ _).drew.trans (aQ.mono (zG _))))).oH bB;have ea:(xR st).toArray.setIfInBounds 1 (Y1 Q4 C)=(xR {st with first:=C}).toArray:=by simp[xR]
  rw[ea] at b6;have a8:(w5.setCell ⟨b,1,K3⟩ (Y1 Q4 C)).cell? ⟨b,2,K3⟩=K4 (Y1 Q4 st.many):=(b6.cell 2).trans (by simp[xR]);refine zb.n 6 (zb.opS (w':=w5.setCell ⟨b,1,K3⟩ (Y1 Q4 C)) rfl rfl K8 ⟨λ_=>a8,?_⟩);simp only[zD,zC,zB,nJ];have b9:=b6.free 2;have b7:=b6.set 2 (Y1 Q4 (st.many-1));have E:=h6.pQ b6 (by simp[zq (s:={st with first:=C}) h.hs]) (λn=>by simp[xR]) bA bE bC bD 2 (Y1 Q4 (st.many-1));have aR:=bQ.oH (j:=2) (u:=Y1 Q4 (st.many-1)) bB;generalize w5.setCell ⟨b,1,K3⟩ (Y1 Q4 C)=w6 at *;refine zb.t 7 (Y9 (K4 ⟨b,2,K3⟩)) rfl a8 (λW d=>by obtain e0:=d;go_simp) ?_;simp only[Z8];have bL:(xR {st with first:=C}).toArray.setIfInBounds 2 (Y1 Q4 (st.many-1))=(xR {st with first:=C,many:=st.many-1}).toArray:=by simp[xR]
  rw[bL] at b7;refine zb.n 8 (zb.opS (w':=w6.setCell ⟨b,2,K3⟩ (Y1 Q4 (st.many-1))) rfl rfl K8 ⟨λh=>absurd rfl h,zb.dn ?_⟩);simp only[zD,zC,zB,nJ];generalize w6.setCell ⟨b,2,K3⟩ (Y1 Q4 (st.many-1))=aD at *;obtain⟨B,H⟩:∃B:qj,B={st with first:=C,many:=st.many-1}:=⟨_,rfl⟩;rw[<-H] at b7;have bG:B.roots.length=16:=by rw[H];exact h.hs
  have cG:aD.cell? b=K4 (Y1 Q4 st.size):=(b7.cell 0).trans (by rw[H];simp[xR]);have cH:aD.cell? ⟨b,1,K3⟩=K4 (Y1 Q4 C):=(b7.cell 1).trans (by rw[H];simp[xR]);have cI:aD.cell? ⟨b,2,K3⟩=K4 (Y1 Q4 (st.many-1)):=(b7.cell 2).trans (by rw[H];simp[xR]);have a0:=nI H;clear H q a7 a8 ea bL b1 b9 b5 b6 h5 h6 bQ bZ aQ aO bU bM aP b4 h4 bO;have bS:(st.size<=C\/st.many-1<0)->Cm K v v4 st st 0 190:=λhb=>⟨by omega,r2,r3,r4,.inr (.inr ⟨by decide,rfl,rfl,r5,.inr (.inr ⟨aI,by rw[<-bJ.out];exact hb⟩)⟩)⟩
  have aY:=nI bS;clear bS
  by_cases cB:st.size<=C
  .go_wp2;exact nT (nj rfl _ _ _) rfl (Jc.mk ⟨0,190,v4,st,rfl,E,aY.out (.inl cB),aS,aR.more λ_ r _ => .inr r⟩)
  by_cases cC:st.many-1<0
  .go_wp2;exact nT (nj rfl _ _ _) rfl (Jc.mk ⟨0,190,v4,st,rfl,E,aY.out (.inr cC),aS,aR.more λ_ r _ => .inr r⟩)
  clear aY
  go_wp2_with fail
  have hd:=E.grow (nF _ _).drew;have bd:za aD.drew b 125 (xR B).toArray:=b7;have q:=hd.oD;refine zb.st (λW':World=>W'.cell? ⟨p,19,K3⟩=K4 (Y9 K.a)) 99 ?_;refine zb.t0 0 (Y9 p) rfl q (λW d=>by obtain e0:=d;go_simp) ?_;refine zb.t0 1 (Y9 p) rfl q (λW d=>by obtain e0:=d;go_simp) ?_;refine zb.t0 2 (Y9 (K4 ⟨p,19,K3⟩)) rfl q (λW d=>by obtain e0:=d;go_simp) ?_;refine zb.t0 3 (Y9 K.a) rfl q (λW d=>by obtain e0:=d;go_simp) ?_;refine zb.t0 4 (Y1 Q4 st.first) rfl q (λW d=>by obtain e0:=d;go_simp) ?_;simp only[Z8];refine zb.n 5 ?_;refine zb.oC 113 #[.const (X1 none 0 0)] #[142] #[X1 none 0 0] ((Hc _).mono ?_) (zb.eo func113);rintro e w7 ⟨v7,rfl,aN,V⟩;obtain⟨A7,c7,rfl,aJ⟩:=aN.inB;have E:=hd.grow V;refine⟨_,rfl,λ_=>E.oD,?_⟩;simp only[Z8];simp only[mO];refine zb.n 6 ?_;refine zb.oC 65 #[.tmp 73,.tmp 74,.tmp 75] #[120,3,129] #[Y9 K.a,Y1 Q4 st.first,X1 A7 512 c7] ((FW E.ca hK K5 st.first A7 c7 YW rfl aJ).mono ?_) (zb.eo func65);rintro e w8 ⟨x,v8,rfl,aF,S,e2,e3,e4,hq,aK,L⟩;have F:=E.pS L aF;refine⟨_,rfl,λ_=>F.oD,?_⟩;simp only[Z8];refine zb.n 7 (zb.opV (w':=w8) (Y1 Q4 x) rfl rfl K8 ⟨λ_=>F.oD,zb.dn ?_⟩);simp only[Z8];have Z:nH aD.heap.size aD w7:=(nF _ _).drew.trans (V.mono (zG _));have b8:za w8 b 125 (xR B).toArray:=L.blk (bd.below V bd.lt) bE;have bI:=aR.size;have aB:ze (qi K p v) W w8:=((aR.more (Nu:=λk=>K.mu v k\/K.mu v4 k) (λ_ r _ => .inl r)).trans (((ze.below Z).trans L).more λ_ r _ => .inr r)).more (λk r hl => .inr (r.elim id (λh=>(aS k h).elim id (λe=>by omega))));have aH:zz K W v v8:=λk r=>((aK.mono (zT bI Z.size)) k r).elim (λh=>aS k h) .inr
  have aL:B.roots.length=16:=bG;have aC:=zq aL
  have aM:x=0\/(x=160/\jD K v.D):=hq.elim (λh => .inl h.1) (λh => .inr (by
   rcases h.1 with h1|h1
   .omega
   .exact⟨h1.1,by have:=E.ca.tight h1.2;rw[r5] at this;exact this⟩))
  clear q hd bd V aJ aN E aF aK Z
  by_cases O:x=0
  .subst O;have I:v8.D=λj=>if j=st.first then some YW else v.D j:=by
    rcases hq with h1|h1
    .rw[<-r5];exact h1.2.2
    .exact absurd h1.1 K5
   have a5:w8.rangeAt b 0 (xR B):=λj u hj=>by rw[qA,b8.cell];simpa using hj
   have a9:w8.there p 0 (xR B).toArray.size:=JL F.pb (by rw[ke F.hs F.hl];simp[aC]);obtain⟨h9,aG⟩:=F.setState aL;have hF:Cm K v v8 st B st.first 0:=⟨by omega,e2.trans r2,e3.trans r3,e4.trans r4,.inr (.inl ⟨rfl,aI,rfl,by rw[a0.out,bJ.out],I⟩)⟩;have T:=nI hF;have H9:=nI h9;have aZ:=nI (aB.trans (ze.more aG (λk r _ => .inl r)));clear hF I hq h9 aG L aB
   go_wp2_with (first
    |(refine zp rfl (yQ QB a5 aC rfl rfl) ?_)
    |(refine wpList_store_mid rfl 125 _ _ rfl p 0 (xR B).toArray rfl rfl a9 (by simpa[aC] using QB.size) (all_oneCell_toArray (GH _)) ?_)
    | (go_at_call 148;refine(Td _ _).mono ?_;rintro e w' ⟨rfl,rfl⟩))
   exact nT (nj rfl _ _ _) rfl (Jc.mk ⟨st.first,0,v8,_,rfl,H9.out,T.out,aH,aZ.out⟩)
  .have I:v8.D=v.D:=by
    rcases hq with h1|h1
    .exact absurd h1.1 O
    .exact h1.2.trans r5
   have hF:Cm K v v8 st st 0 x:=⟨by omega,e2.trans r2,e3.trans r3,e4.trans r4,.inr (.inr ⟨O,rfl,rfl,I,.inr (.inl (aM.elim (λh=>absurd h O) (λh=>h.2)))⟩)⟩;have T:=nI hF;clear hF I hq aM L
   go_wp2_with (go_at_call 148;refine(Mj _ _ _ O).mono ?_;rintro e w' ⟨rfl,rfl⟩)
   refine nu (nj rfl _ _ _) rfl ?_;exact Jc.mk ⟨0,x,v8,st,rfl,F,T.out,aH,aB⟩
end
def uC:qj:=⟨0,0,0,zP 16 0⟩
def vv:qj:=⟨1,0,0,zP 16 0⟩
section
variable {W0 W:World}{K:xB}{p:Nat}{v:yj}{st last:qj}{under:Bool}{mk:Value}
theorem qx.oP (h:qx W0 K p v st last under mk W)(n:Int):qx W0 K p v {st with size:=n} last under mk (W.setCell p (Y1 Q4 n))/\ze (λk=>k=p) W (W.setCell p (Y1 Q4 n)):=by
 have d:ze (λk=>k=p) W (W.setCell p (Y1 Q4 n)):=ze.setCell _ _ _ rfl;have e:=h.pb.set 0 (Y1 Q4 n);rw[Tk] at e;exact⟨h.own d e h.hs h.hl,d⟩
end
def IF (W0:World)(d f l many P:Nat)(fr pg room:Int)(W:World)(e:mH)(w':World):Prop :=
 ((2<=room/\room<=2000)/\∃p a r v,e=Y0 (Q2 #[Y9 (K4 ⟨p,0,K3⟩),Y1 Q4 0])/\qx W0 ⟨d,f,l,a,r,many,P,fr,pg,room⟩ p v vv vv false (X1 none 0 0) w'/\v.N<=3/\v.i<=2/\v.S.sz=1/\(v.D=λ_=>none)/\v.Y ⟨d,f,l,a,r,many,P,fr,pg,room⟩ 0=jh vv) \/
 (¬ (2<=room/\room<=2000)/\e=Y0 (Q2 #[Y9 none,Y1 Q4 2])/\nH W.heap.size W w')
theorem ET {W0:World}{d f l many P:Nat}{fr pg room:Int}{W:World}{e:mH}{w':World}(h:(2<=room/\room<=2000)/\∃p a r v,e=Y0 (Q2 #[Y9 (K4 ⟨p,0,K3⟩),Y1 Q4 0])/\qx W0 ⟨d,f,l,a,r,many,P,fr,pg,room⟩ p v vv vv false (X1 none 0 0) w'/\v.N<=3/\v.i<=2/\v.S.sz=1/\(v.D=λ_=>none)/\v.Y ⟨d,f,l,a,r,many,P,fr,pg,room⟩ 0=jh vv):IF W0 d f l many P fr pg room W e w':=.inl h
theorem uo (w:World)(x:Obj):nH w.heap.size w (w.alloc x):=(nF _ _).alloc (zG _) _
theorem Ud {R:kU}:∀{P:Nat},(∀(q:Nat) b,¬ q=0->¬ R (q:Int)=some (b,true))->∀{b},0<P->R ((0:Nat):Int)=some (b,true)->QS R P=[(0,b)]
 | 0,_,_,h,_=>absurd h K7
 | 1,_,b,_,h=>by
  show []++(match R ((0:Nat):Int) with|some (b,true)=>[(0,b)] | _=>[])=_
  rw[h];rfl
 | P+2,hn,b,_,h=>by
  have f:=Ud (P:=P+1) hn (Nat.succ_pos _) h;show QS R (P+1)++(match R ((P+1:Nat):Int) with|some (b,true)=>[(P+1,b)] | _=>[])=_
  rw[f];have h2:=λb=>hn (P+1) b K5
  cases e:R ((P+1:Nat):Int) with
  | none=>rfl
  | some x =>
   obtain⟨y,d⟩:=x;cases d with
   | false=>rfl
   | true=>exact absurd e (h2 y)
theorem Oz {R:kU}{P:Nat}{b:Y4}(hP:0<P)(h:R ((0:Nat):Int)=some (b,true))(hn:∀(q:Nat) b,¬ q=0->¬ R (q:Int)=some (b,true)):QS R P=[(0,b)]:=Ud hn hP h
theorem rL {W0 w:World}{d f l a r many P:Nat}{fr pg room:Int}(hP:(P:Int)=pg)(j:2<=room/\room<=2000)
  (h:wY W0 d f l a r many P fr pg room ⟨laid (λ_=>qy) (JP 1 (ko 1 1 0 0) 1),[],0,false⟩ ⟨1,1,0,[]⟩ ⟨0,0,0,λ_=>none⟩ w):vi W0 ⟨d,f,l,a,r,many,P,fr,pg,room⟩ ⟨λ_=>YW,⟨0⟩,⟨0,0,0,λ_=>none⟩,0,0⟩ w:=by
 refine⟨⟨⟨h.fh.up,h.fh.fb⟩,h.ca,h.nb,λk u hu=>by cases hu⟩,YU.Ok.zero,(λp b d e=>by cases e),?_⟩;have:ZL P (λ_=>none)=0:=by unfold ZL xJ jW;simp
 show (ZL P (λ_=>none):Int)<=room
 rw[this];omega
theorem NN {W0 W:World}{d f l many P:Nat}{fr pg room:Int}(h:VL W0 d f l many fr pg ⟨laid (λ_=>qy) (JP 1 (ko 1 1 0 0) 1),[],0,false⟩ ⟨1,1,0,[]⟩ W)(bG:yz fr pg=true)(hm:(many:Int)=2+9*fr+8*pg)(b0:many<=40000)(hP:(P:Int)=pg)(bR:P<=900)(hr:2<=room/\room<=2000)(bW:(P:Int)<=room):nK Y3 38 #[Y9 f,Y1 Q4 room] W (IF W0 d f l many P fr pg room W):=by
 have b1:=(vQ fr pg).1 bG;have hz:∃k,¬ (laid (λ_=>qy) (JP 1 (ko 1 1 0 0) 1)) k=qy:=(rR.begun (fr:=fr) (pg:=pg) K5 K5).nz;have bX:=h.up.size;have HN:=wC (P:=P) (room:=room) h hz (λx hx=>absurd hx K9);have aU:nK Y3 63 #[Y9 f,Y1 Q4 room] W λe w'=>∃a r,e=Y0 (Q2 #[Y9 (K4 ⟨a,0,K3⟩),Y1 Q4 0])/\wY W0 d f l a r many P fr pg room ⟨laid (λ_=>qy) (JP 1 (ko 1 1 0 0) 1),[],0,false⟩ ⟨1,1,0,[]⟩ ⟨0,0,0,λ_=>none⟩ w'/\nH W.heap.size W w':=HN.mono λe w' hn=>by
  rcases hn with⟨_,a,r,he,hC,_,hB⟩|⟨hn,_⟩
  .exact⟨a,r,he,hC,hB⟩
  .exact absurd hr hn
 clear HN h
 go_enter func38,ntmps38
 go_wp2_with fail
 refine wp_scope_jumps (rest:=?rest) 0 (λ_ _=>False) (λ_ _=>0) ?hf ?first ?pass
 case hf=>exact rfl
 case pass=>exact λ_ _ hx=>hx.elim
 case first =>
  go_wp2_with (go_at_call 63;refine aU.mono ?_;rintro e w1 ⟨a,r,rfl,aM,aX⟩)
  have aY:=aM;have aK:=rL (many:=many) hP hr aM;obtain⟨K,C⟩:∃K:xB,K=⟨d,f,l,a,r,many,P,fr,pg,room⟩:=⟨_,rfl⟩;have hK:K.Ok:=by rw[C];exact⟨hP,bR,hr,bW⟩
  obtain⟨v0,L⟩:∃v0:yj,v0=⟨λ_=>YW,⟨0⟩,⟨0,0,0,λ_=>none⟩,0,0⟩:=⟨_,rfl⟩;rw[<-C,<-L] at aK;have bN:K.a=a:=by rw[C]
  have aF:K.r=r:=by rw[C]
  have bP:K.l=l:=by rw[C]
  have aO:K.f=f:=by rw[C]
  have a2:K.P=P:=by rw[C]
  have a3:K.room=room:=by rw[C]
  have bO:K.fr=fr:=by rw[C]
  have bQ:K.pg=pg:=by rw[C]
  have b2:v0.N=0/\v0.i=0/\v0.S.sz=0:=by rw[L];exact⟨rfl,rfl,rfl⟩
  have bJ:v0.D=λ_=>none:=by rw[L];rfl
  have bY:v0.c=⟨0,0,0,λ_=>none⟩:=by rw[L]
  subst bN;have aT:=nI C;clear C;obtain⟨p,hp⟩:=Z9 w1.heap.size;obtain⟨w2,aJ⟩:=Z9 (w1.alloc (Q9 #[Y1 Q4 0,Y1 Q4 0,Y1 Q4 0,Y1 Q4 0,Y1 Q4 0,Y1 Q4 0,Y1 Q4 0,Y1 Q4 0,Y1 Q4 0,Y1 Q4 0,Y1 Q4 0,Y1 Q4 0,Y1 Q4 0,Y1 Q4 0,Y1 Q4 0,Y1 Q4 0,Y1 Q4 0,Y1 Q4 0,Y1 Q4 0,Y9 K.a,Y1 Q4 0,Y1 Q4 0,Y1 Q4 0,Y1 Q4 0,Y1 Q4 0,Y1 Q4 0,Y1 Q4 0,Y1 Q4 0,Y1 Q4 0,Y1 Q4 0,Y1 Q4 0,Y1 Q4 0,Y1 Q4 0,Y1 Q4 0,Y1 Q4 0,Y1 Q4 0,Y1 Q4 0,Y1 Q4 0,Y1 Q4 0,X3 false,X1 none 0 0] 128));have U:qx W0 K p v0 uC uC false (X1 none 0 0) w2:=by rw[aJ,hp];refine⟨aK.grow ((nF _ _).alloc (zG _) _),?_,zT bX aX.size,rfl,rfl⟩;exact za.new w1 _ _
  rw[<-aJ,<-hp];have aD:=YT.grow aY (show nH w1.heap.size w1 w2 by rw[aJ];exact uo _ _);have bE:=U.pb;have bF:W0.heap.size<=p:=U.np;have aV:=PS aD.fh.fb aD.fh.lg;clear aK aM aY aJ hp L aU aX;have c0:w2.cell? ⟨p,0,K3⟩=K4 (Y1 Q4 0):=U.dU;have f0:=U.pb.free 0;have aC:=(U.oP 0).1;have aP:qx W0 K p v0 vv uC false (X1 none 0 0) ((w2.setCell ⟨p,0,K3⟩ (Y1 Q4 0)).setCell ⟨p,0,K3⟩ (Y1 Q4 1)):=(aC.oP 1).1;have c3:(w2.setCell ⟨p,0,K3⟩ (Y1 Q4 0)).cell? ⟨p,0,K3⟩=K4 (Y1 Q4 0):=aC.dU;have f3:=aC.pb.free 0;have a4:=aP.pY;have aH:(xR vv).length=19:=rfl;have aZ:wY W0 d f l K.a r many P fr pg room ⟨laid (λ_=>qy) (JP 1 (ko 1 1 0 0) 1),[],0,false⟩ ⟨1,1,0,[]⟩ ⟨0,0,0,λ_=>none⟩ ((w2.setCell ⟨p,0,K3⟩ (Y1 Q4 0)).setCell ⟨p,0,K3⟩ (Y1 Q4 1)):=by have q1:=YT.other aD bE (by rw[ke rfl rfl];decide) (λn e=>by cases e) bF K7 K7 K7 K7 K7 (ze.setCell (Mu:=λk=>k=p) w2 ⟨p,0,K3⟩ (Y1 Q4 0) rfl);exact YT.other q1 aC.pb (by rw[ke rfl rfl];decide) (λn e=>by cases e) bF K7 K7 K7 K7 K7 (ze.setCell (Mu:=λk=>k=p) _ ⟨p,0,K3⟩ (Y1 Q4 1) rfl)
  clear U aC aD bE;refine aV.mono ?_;rintro e w' ⟨rfl,rfl⟩
  go_wp2_with (refine zp rfl (yQ QB a4 aH rfl rfl) ?_)
  generalize (w2.setCell ⟨p,0,K3⟩ (Y1 Q4 0)).setCell ⟨p,0,K3⟩ (Y1 Q4 1)=w4 at *;clear c3 f3 c0 f0 aV;have bI:(jh vv).length=512:=JY rfl;refine(Ti w4 vv rfl).mono ?_;rintro e w5 ⟨A5,c5,rfl,a8,aL⟩;have aG:=aP.grow aL;have a0:=YT.grow aZ aL
  go_wp2_with fail
  refine(FW aG.ca hK K5 0 A5 c5 (jh vv) bI a8).mono ?_;rintro e w6 ⟨x,s,rfl,B,e1,e2,e3,e4,hq,a9,aN⟩;have hx:x=0/\s.D=λj=>if j=0 then some (jh vv) else v0.D j:=by
   rcases hq with h1|h1
   .exact⟨h1.1,h1.2.2⟩
   .exfalso;rcases h1.1 with h2|h2
    .omega
    .have:=aG.ca.tight h2.2 [] (λp b e=>by rw[bJ] at e;cases e);simp at this;omega
  obtain⟨rfl,aE⟩:=hx;have I:=aG.pS aN B;have G:wY W0 d f l K.a r many P fr pg room ⟨laid (λ_=>qy) (JP 1 (ko 1 1 0 0) 1),[],0,false⟩ ⟨1,1,0,[]⟩ s.c w6:=by have h1:=B.cs.ca;have h2:=aN;have O:=a9;unfold xB.mu at h2;unfold zz xB.mu at O;rw[aF,bY] at h2 O;rw[aO,aF,a2,a3] at h1;exact YT.pS a0 h2 h1 O
  have bM:w6.cell? ⟨p,0,K3⟩=K4 (Y1 Q4 1):=I.dU;clear aP aG aL a8 a4 hq a9 aN aZ a0
  go_wp2_with fail
  have T:SG w6 l d many fr pg 1 1 0:=by obtain⟨_,A9,c9,vs,bV,a1,bZ⟩:=G.fh.lg;have L:vs=[]:=List.map_eq_nil_iff.1 bZ;subst L;obtain rfl:=a1.nil rfl;obtain rfl:=a1.row.nil rfl;exact⟨⟨_,G.fh.dk⟩,bV⟩
  have aB:=G.fh.fb;have bC:QS (xZ s.c.V) P=[(0,jh vv)]:=by
   have bU:xZ s.c.V ((0:Nat):Int)=some (jh vv,true):=jr.1 (show s.D 0=some _ by rw[aE];rfl)
   exact Oz K5 bU (λq b hq e=>by
    have h2:s.D (q:Int)=some b:=jr.2 e;rw[aE] at h2;replace h2:(if (q:Int)=0 then some (jh vv) else v0.D (q:Int))=some b:=h2;rw[if_neg K5,bJ] at h2
    cases h2)
  have aA:=G.ca;have aS:=(callsIn_wide (n:=12)).1 (OX 12 K7 aA T.dl (show tW s.c.V from λk u hu=>(B.ro k u.y u.d (vw hu)).2.1) K5 (jh vv) bI bC 1 (λW' A k xs hB hA=>AG (aB.below hB aB.lt) (T.grow hB) A k xs (jh vv) hA 1 ⟨by decide,by omega⟩ bG K5 K7 K5 K5 K7));refine aS.mono ?_;rintro e w8 ⟨rfl,a5,Z⟩;obtain⟨F,aI⟩:∃F:yj,F=⟨s.view K,⟨1⟩,⟨s.c.now,s.c.hh,s.c.mm,kR s.c.V⟩,s.i,s.N⟩:=⟨_,rfl⟩;have aQ:∀q b e,xZ (kR s.c.V) q=some (b,e)->e=false/\∃e',xZ s.c.V q=some (b,e'):=λq b e hq=>by
   unfold xZ kR at hq;cases H:s.c.V q with
   | none=>rw[H] at hq;cases hq
   | some u =>
    rw[H,gv,gv] at hq;injection hq with hq
    injection hq with q1 q2
    exact⟨q2.symm,u.d,by rw[vw H,<-q1]⟩
  have bH:jR K.P (s.view K) (xZ (kR s.c.V)):=λq b e hq=>by
   obtain⟨_,e',h2⟩:=aQ q b e hq;have O:=B.ro q b e' h2;refine⟨O.1,O.2.1,λ_ => ?_⟩;have h4:xZ s.c.V ((q.toNat:Nat):Int)=some (b,e'):=by rw[show ((q.toNat:Nat):Int)=q by omega];exact h2
   exact(jR.view B.ro h4).symm
  have a6:(ZL K.P (kR s.c.V):Int)<=K.room:=by
   have h1:=Ex (P:=K.P) (V:=s.c.V) (V':=kR s.c.V) (λk E=>by
    unfold kR at E;cases H:s.c.V k with
    | none=>rw[H] at E;cases E
    | some u=>rfl)
   have h2:=B.cn;omega
  have a7:∀k,(xI K.a r s.c.V k\/(k=d\/k=l))->W0.heap.size<=k:=λk E=>by
   rcases E with E|rfl|rfl
   .exact G.nb k E
   .exact G.fh.gd
   .exact G.fh.gl
  have bA:¬ (xI K.a r s.c.V f\/(f=d\/f=l)):=λe=>by
   rcases e with e|e
   .exact aA.pU aB K7 K7 e
   .exact T.dl.ne aB K7 K7 e
  have bB:¬ (xI K.a r s.c.V p\/(p=d\/p=l)):=λe=>by
   rcases e with e|e
   .exact aA.pU I.pb K7 K7 e
   .exact T.dl.ne I.pb K7 K7 e
  have aW:vi W0 K F w8:=by
   rw[aI];refine⟨⟨⟨B.cs.fh.up.trans (Z.toBelow B.cs.fh.up.size a7),?_⟩,?_,?_,?_⟩,⟨B.ok.now,B.ok.hh,B.ok.mm⟩,bH,a6⟩
   .have h9:=Z.blk aB bA;rw[aO,bP,bO,bQ];exact h9
   .rw[aO,aF,a2,a3];exact a5
   .intro k E;rw[aF] at E;exact G.nb k (EH k E)
   .intro q u hu hl g o e;have hu:kR s.c.V q=some u:=hu;unfold kR at hu;cases H:s.c.V q with
    | none=>rw[H] at hu;cases hu
    | some v0 =>
     rw[H,gv] at hu;injection hu with hu
     subst hu;obtain⟨cs,hb⟩:=B.cs.ty q v0 H hl g o e
     exact⟨cs,Z.blk hb (λe=>by
      rcases e with e|e
      .exact aA.pU hb K7 K7 e
      .exact T.dl.ne hb K7 K7 e)⟩
  have X:qx W0 K p F vv uC false (X1 none 0 0) w8:=⟨aW,Z.blk I.pb bB,I.np,I.hs,I.hl⟩;have aR:F.S.sz=1/\F.Y K 0=jh vv/\F.D=λ_=>none:=by
   rw[aI];refine⟨rfl,?_,CO (λq b e=>by have:=(aQ q b true e).1;cases this)⟩;show s.view K 0=_
   rw[jv,show (((0:Nat):Int))=0 from rfl,aE];rfl
  have bK:F.N<=3/\F.i<=2:=by
   rw[aI];show s.N<=3/\s.i<=2
   omega
  have bS:=X.pY;have bT:w8.there p 20 (xR vv).toArray.size:=JL X.pb (by rw[ke X.hs X.hl];simp[aH]);obtain⟨bD,_⟩:=X.dJ (last':=vv) rfl;have bL:=nI bD;clear I X bD aW Z aE bM bC aS aA a5 aQ bH a6 a7 bA bB T G B aI
  go_wp2_with (first
   |(refine zp rfl (yQ QB bS aH rfl rfl) ?_)
   | (refine wpList_store_mid rfl 125 _ _ rfl p 20 (xR vv).toArray rfl rfl bT (by simpa[aH] using QB.size) (all_oneCell_toArray (GH _)) ?_))
  simp only[Exit.jump];exact nT (nj rfl _ _ _) rfl (ET ⟨hr,p,K.a,r,F,rfl,by rw[<-aT.out];exact bL.out,bK.1,bK.2,aR.1,aR.2.2,by rw[<-aT.out];exact aR.2.1⟩)
section
variable {W0 W:World}{K:xB}{p:Nat}{v:yj}{st last:qj}{mk:Value}
theorem Za (h:qx W0 K p v st last true mk W)(n:Int)(hn:0<=n/\n<st.size):nK Y3 52 #[Y9 p,Y1 Q4 0,Y1 Q4 n] W λe w'=>e=Y0 (Y1 Q4 0)/\qx W0 K p v {st with roots:=st.roots.set 0 n} last true mk w'/\ze (λk=>k=p) W w':=by
 obtain⟨W1,X,r,b1⟩:=Qp W 3 #[Y1 Q4 0];have hd:decide (n<0\/st.size<=n)=false:=decide_eq_false K5;have aC:=nI X.symm;clear X
 go_enter func52,ntmps52
 go_wp2_with (go_at_call 92;rw[aC.out];refine(Kg W1 (K4 ⟨p,0,K3⟩) n 0).mono ?_;rintro e C ⟨f,rfl,aE,u,P⟩)
 have h2:=(h.grow r).grow u;have b2:=b1.below u b1.lt;obtain⟨xs,q⟩:∃xs:List ZN,xs=[⟨.func (.func 91) #[] #[Y9 W.heap.size],2,false⟩,⟨f,4,false⟩]:=⟨_,rfl⟩;have aA:∀v∈ya xs,v.oneCell'=true:=λv L=>by
  rw[q] at L;simp only[ya,JW,zL,zN,yE,lQ,zW,zQ,qN,gu,or_false] at L;rcases L with rfl|rfl|rfl|rfl
  .rfl
  .rfl
  .exact aE
  .rfl
 obtain⟨F,I,s,-⟩:=Qp C 156 #[.func (.func 91) #[] #[Y9 W.heap.size],Y1 Q4 2,f,Y1 Q4 4];have Z:yl F F.heap.size 2 (K4 ⟨C.heap.size,0,K3⟩) xs.length xs.length (ya xs):=by have:=Vd C xs aA 156 (by rw[q];simp);rw[I];subst q;exact this
 have O:=h2.grow s;have b3:=b2.below s b2.lt;have ha:∀x∈xs,yi F x:=λx N=>by
  rw[q] at N;simp only[qN,gu,or_false] at N;rcases N with rfl|rfl
  .refine yi.one 2 ⟨zb.eo func91,λW4 aD => ?_⟩;refine(Dy (bi:=W.heap.size) (i:=0) ((b3.below aD b3.lt).boxed)).mono ?_;rintro e w' ⟨rfl,rfl⟩;exact⟨rfl,nF _ _⟩
  .have:=P p st.size rfl (h.grow r).dU;rw[hd] at this;exact yi.later this s
 have E:=O.asked true (K4 ⟨C.heap.size,0,K3⟩) xs.length xs Z (by rw[q];simp) ha;have T:(if (true != true)=true then 191 else VF xs)=0:=by rw[q];rfl
 have aB:xs.length=2:=by rw[q];rfl
 rw[T,aB] at E;rw[<-I];refine E.mono ?_;rintro e w4 ⟨rfl,G⟩;have b4:=b3.below G b3.lt;have H:nH W.heap.size W w4:=((r.trans (u.mono r.size)).trans (s.mono (by have:=r.size;have:=u.size;omega))).trans (G.mono (by have:=r.size;have:=u.size;have:=s.size;omega));have S:nH W.heap.size W w4.drew:=H.trans ((nF _ _).drew.mono H.size);have B:qx W0 K p v st last true mk w4.drew:=h.grow S;have j:w4.drew.cell? W.heap.size=K4 (Y1 Q4 0):=b4.boxed;clear ha Z E T aB P aA h2 O b2 b3 s I q b1 b4 H G
 go_wp2_with fail
 refine zb.st (λW':World=>W'.cell? W.heap.size=K4 (Y1 Q4 0)) 99 ?_;refine zb.t0 0 (Y9 p) rfl j (λW d=>by obtain e0:=d;go_simp) ?_;refine zb.t0 1 (Y1 Q4 0) rfl j (λW d=>by obtain e0:=d;go_simp) ?_;refine zb.t0 2 (Y1 Q4 n) rfl j (λW d=>by obtain e0:=d;go_simp) ?_;refine zb.t0 3 (Y9 p) rfl j (λW d=>by obtain e0:=d;go_simp) ?_;refine zb.t0 4 (Y9 p) rfl j (λW d=>by obtain e0:=d;go_simp) ?_;refine zb.t0 5 (Y9 (K4 ⟨p,3,K3⟩)) rfl j (λW d=>by obtain e0:=d;go_simp) ?_;refine zb.t0 6 (Y9 (K4 ⟨p,3,K3⟩)) rfl j (λW d=>by obtain e0:=d;go_simp) ?_;simp only[Z8];have aF:3<(xR st).length:=by rw[zq h.hs];decide
 have c3:w4.drew.cell? ⟨p,3,K3⟩=some (xR st)[3]:=by have:=B.pY 3 _ (zM aF);simpa using this
 generalize (xR st)[3]=z3 at c3;have f3:=B.pb.free 3;obtain⟨h5,U⟩:=B.dI (i:=0) K7 n;have V:(w4.drew.setCell ⟨p,3,K3⟩ (Y1 Q4 n)).cell? W.heap.size=K4 (Y1 Q4 0):=U.cell j (Qi j) (λe=>by have:=h.pb.lt;have e:W.heap.size=p:=e;omega);refine zb.n 7 (zb.opS (w':=w4.drew.setCell ⟨p,3,K3⟩ (Y1 Q4 n)) rfl rfl K8 ⟨λ_=>V,zb.dn ?_⟩);simp only[zD,zC,zB,nJ];clear V j B c3 f3;go_wp2;go_ret;exact⟨rfl,h5,(ze.below S).trans U⟩
end
section
variable {W0 W:World}{K:xB}{p:Nat}{v:yj}{st last:qj}{under:Bool}{mk:Value}{ms:List xo}
theorem MC (h:qx W0 K p v st last true mk W)(S:vg W0 K v ms mk W)(n:Nat)(Z:n<ms.length)(aH:ms.length<=900):nK Y3 78 #[Y9 p,Y1 Q4 (n:Int)] W λe w'=>∃mk',e=Y0 (Y1 Q4 0)/\qx W0 K p v st last true mk' w'/\vg W0 K v (ms.take n) mk' w'/\ze (λk=>k=p) W w':=by
 obtain⟨g,c,rfl,aG,aF,_⟩:=S.row.elem n Z;have aC:decide ((n:Int)<0\/(ms.length:Int)<=(n:Int))=false:=decide_eq_false K5
 go_enter func78,ntmps78
 go_wp2_with (go_at_call 127;refine(MA W (K4 ⟨p,0,K3⟩) (n:Int)).mono ?_;rintro e s ⟨f,rfl,V,q,O⟩)
 have h2:=h.grow q;obtain⟨xs,d⟩:∃xs:List ZN,xs=[⟨f,2,false⟩]:=⟨_,rfl⟩;have aA:∀v∈ya xs,v.oneCell'=true:=λv I=>by
  rw[d] at I;simp only[ya,JW,zL,zN,yE,lQ,zW,zQ,qN,gu,or_false] at I;rcases I with rfl|rfl
  .exact V
  .rfl
 obtain⟨B,H,r,-⟩:=Qp s 156 #[f,Y1 Q4 2];have X:yl B B.heap.size 2 (K4 ⟨s.heap.size,0,K3⟩) xs.length xs.length (ya xs):=by have:=Vd s xs aA 156 (by rw[d];simp);rw[H];subst d;exact this
 have C:=h2.grow r;have ha:∀x∈xs,yi B x:=λx L=>by rw[d] at L;simp only[qN,gu,or_false] at L;subst L;have:=O p _ _ _ rfl h.dW;rw[aC] at this;exact yi.later this r
 have u:=C.asked true (K4 ⟨s.heap.size,0,K3⟩) xs.length xs X (by rw[d];simp) ha;have P:(if (true != true)=true then 191 else VF xs)=0:=by rw[d];rfl
 have aB:xs.length=1:=by rw[d];rfl
 rw[P,aB] at u;rw[<-H];refine u.mono ?_;rintro e w4 ⟨rfl,E⟩;have F:nH W.heap.size W w4:=(q.trans (r.mono q.size)).trans (E.mono (by have:=q.size;have:=r.size;omega));have j:=C.grow E;have T:=S.grow F;have aD:=j.dW;have aE:=j.pb.free 40;obtain⟨N,G⟩:=j.oG (mk':=X1 g n n);have U:=(T.own j G).take rfl (Nat.le_of_lt Z);have H5:=nI N;have HM:=nI U;have HG:=nI ((ze.below F).trans G);clear ha X u P aB O aA h2 C r H d q E V j T N U G F
 go_wp2_with (refine zp rfl (th rfl rfl rfl rfl K5) ?_)
 go_ret;exact⟨_,rfl,H5.out,HM.out,HG.out⟩
theorem UQ (h:qx W0 K p v st last under mk W)(i:Nat)(n:Int)(hi:st.roots[i]?=some n):nK Y3 41 #[Y9 p,Y1 Q4 (i:Int)] W λe w'=>e=Y0 (Q2 #[Y1 Q4 n,Y1 Q4 0])/\W=w':=by
 have d:=QI h.oD;have f:i<16:=by have:=(qM.1 hi).1;rw[h.hs] at this;exact this
 have c:W.cell? ⟨p,3+i,K3⟩=K4 (Y1 Q4 n):=by
  have:=h.pY (3+i) (Y1 Q4 n) (by
   unfold xR;rw[show 3+i=i+1+1+1 by omega,qZ,qZ,qZ,mJ,hi]
   rfl)
  rwa [qA] at this
 have j:(0:Int)<=(i:Int):=K5
 have q:(i:Int)<16:=K5
 clear h hi
 go_enter func41,ntmps41
 go_wp2_with (go_at_call 73;refine d.mono ?_;rintro e w' ⟨rfl,rfl⟩)
 go_ret2
 exact⟨rfl,rfl⟩
end
theorem Dw (w:World)(p:Nat)(size n d:Int)(hc:w.cell? p=K4 (Y1 Q4 size)):nK Y3 92 #[Y9 p,Y1 Q4 n,Y1 Q4 d] w λe w'=>∃x y z,e=Y0 (Q0 #[.func (.func 154) #[] #[x,y,z],Y1 Q4 4])/\nH w.heap.size w w'/\ZO w' 154 #[x,y,z] (decide (n<d\/size<=n)):=by
 obtain⟨W0,h⟩:=Z9 (((w.alloc (Q9 #[Y9 p] 45)).alloc (Q9 #[Y1 Q4 n] 3)).alloc (Q9 #[Y1 Q4 d] 3));have j:nH w.heap.size w W0:=by rw[h];exact(((nF _ w).alloc (zG _) _).alloc K9 _).alloc (by simp;omega) _
 have C:W0.heap.size=w.heap.size+1+1+1:=by rw[h];simp
 have q:za W0 w.heap.size 45 #[Y9 p]:=by rw[h];exact((za.new w _ _).alloc _).alloc _
 have b1:za W0 (w.heap.size+1) 3 #[Y1 Q4 n]:=by have:=(za.new (w.alloc (Q9 #[Y9 p] 45)) 3 #[Y1 Q4 n]).alloc (Q9 #[Y1 Q4 d] 3);rw[nG] at this;rw[h];exact this
 have b2:za W0 (w.heap.size+1+1) 3 #[Y1 Q4 d]:=by have:=za.new ((w.alloc (Q9 #[Y9 p] 45)).alloc (Q9 #[Y1 Q4 n] 3)) 3 #[Y1 Q4 d];rw[nG,nG] at this;rw[h];exact this
 have u:ZO W0 154 #[Y9 (w.heap.size+1:Nat),Y9 (w.heap.size+1+1:Nat),Y9 w.heap.size] (decide (n<d\/size<=n)) :=
  Pv (p:=p) ((b1.cell 0).trans rfl) ((b2.cell 0).trans rfl) ((q.cell 0).trans rfl) ((j.cell (p:=⟨p,0,K3⟩) (Qi hc)).trans hc) b1.lt b2.lt q.lt (zO (Qi hc) j.size)
 obtain⟨f,hf⟩:∃f:Value,f=.func (.func 154) #[] #[Y9 (w.heap.size+1:Nat),Y9 (w.heap.size+1+1:Nat),Y9 w.heap.size]:=⟨_,rfl⟩;have H:f.oneCell'=true:=by rw[hf];rfl
 have E:=nI u;have F:Hid (((w.alloc (Q9 #[Y9 p] 45)).alloc (Q9 #[Y1 Q4 n] 3)).alloc (Q9 #[Y1 Q4 d] 3)=W0):=nI h.symm;have r:=nI hf;have s:=nI C;clear u q b1 b2 h C hc hf
 go_enter func92,ntmps92
 go_wp2_with (rw[F.out];refine YX rfl 156 (.tmp 6) (.tmp 8) (w:=W0) rfl (cs':=#[f,Y1 Q4 4]) (by rw[s.out];rfl) (by rw[r.out];rfl) Qf rfl rfl (by simp[H];rfl) ?_;intro w4 B b4)
 have G:nH w.heap.size w w4:=j.trans (B.mono j.size);rw[s.out] at b4;refine nu (yL 6 rfl rfl Qf b4 rfl) rfl ⟨_,_,_,by rw[r.out],G,E.out.later B⟩
theorem sV.nD {x:Int ⊕ Y4}{e:mH}{w':World}(h:sV x e w'):∃A n k er,e=Y0 (Q2 #[X1 A n k,Y1 Q4 er]):=by
 cases x with
 | inl er =>
  obtain rfl:=h;exact⟨none,0,0,er,rfl⟩
 | inr y =>
  obtain⟨A,c,rfl,d,_⟩:=h;exact⟨A,y.length,c,0,rfl⟩
section
variable {W0 W:World}{K:xB}{p:Nat}{v:yj}{st last:qj}{under:Bool}{mk:Value}{ms:List xo}
def LA (W0:World)(K:xB)(p:Nat)(v:yj)(st last:qj)(under:Bool)(mk:Value)(n:Int)(W:World)(e:mH)(w':World):Prop:=∃x v',sV x e w'/\qx W0 K p v' st last under mk w'/\v'.N=v.N+1/\v'.i=v.i/\v'.Y K=v.Y K/\v'.S.sz=v.S.sz/\v'.D=v.D/\(∀y,x=.inr y->y=v.view K n.toNat/\y.length=512)/\(∀er,x=.inl er->(er=4/\(K.P:Int)<=n)\/(er=160/\jD K v.D))/\zz K W v v'/\ze (K.mu v) W w'
theorem LA.of {n:Int}{e:mH}{w':World}(h:∃x v',sV x e w'/\qx W0 K p v' st last under mk w'/\v'.N=v.N+1/\v'.i=v.i/\v'.Y K=v.Y K/\v'.S.sz=v.S.sz/\v'.D=v.D/\(∀y,x=.inr y->y=v.view K n.toNat/\y.length=512)/\(∀er,x=.inl er->(er=4/\(K.P:Int)<=n)\/(er=160/\jD K v.D))/\zz K W v v'/\ze (K.mu v) W w'):LA W0 K p v st last under mk n W e w':=h
theorem Rx (h:qx W0 K p v st last under mk W)(Z:K.Ok)(hN:v.N<=800000)(n:Int)(hn:1<=n/\n<st.size)(q:Y4)(T:v.D n=some q):nK Y3 216 #[Y9 p,Y1 Q4 n] W (LA W0 K p v st last under mk n W):=by
 have G:=QI h.oD;have r:=Dw W p st.size n 1 h.dU;rw[decide_eq_false K5] at r
 go_enter func216,ntmps216
 go_wp2_with (first
  |(go_at_call 73;refine G.mono ?_;rintro e w' ⟨rfl,rfl⟩)
  |(go_at_call 92;refine r.mono ?_;rintro e w1 ⟨x,y,z,rfl,f,I⟩)
  | (refine YX rfl 156 (.tmp 6) (.tmp 11) rfl rfl rfl Qf rfl rfl (λu hu=>by simp at hu;rcases hu with rfl|rfl<;>rfl) ?_;intro w2 j b2;have s:=I.later j;have c2:w2.cell? w1.heap.size=some (.func (.func 154) #[] #[x,y,z]):=(b2.cell 0).trans rfl;have X:=s.enters))
 refine(s.oZ _ (nF _ _)).mono ?_;rintro e w3 ⟨rfl,L⟩;have B:nH W.heap.size W w3:=(f.trans (j.mono f.size)).trans (L.mono (by have:=f.size;have:=j.size;omega));have d:=h.grow B;have V:=d.oD;clear G r I s c2 X b2 f j L
 go_wp2_with fail
 refine(tR d.ca Z hN n q T).mono ?_;rintro e w4 ⟨v4,C,aA,_,O,r1,r2,r3,r4,r5,S,E⟩;have H:=d.pS E O;have aB:q=v.view K n.toNat:=by rw[jv,show ((n.toNat:Nat):Int)=n by omega,T];rfl
 have P:LA W0 K p v st last under mk n W e w4:=LA.of ⟨.inr q,v4,C,H,r1,r2,r3,r4,r5,λz F=>(by injection F with F;rw[<-F];exact⟨aB,aA⟩),(λer he=>by cases he),S.mono B.size,(ze.below B).trans E⟩;have U:=nI P;obtain⟨A4,k4,c4,er,rfl⟩:=C.nD;clear P d H O E S V C;go_wp2
 go_ret2
 exact U.out
end
section
variable {K:xB}{v v':yj}{st st':qj}{n x:Int}
theorem Cm.new (h:Cm K v v' st st' n x)(hf:st.first=0)(hs:st.size<K.pg)(ht:¬ jD K v.D):x=0/\n=st.size/\st'={st with size:=st.size+1}/\v'.D=λj=>if j=st.size then some YW else v.D j:=by
 rcases h.dd with⟨h1,_,h3,_,h5,h6⟩|⟨_,h2,_⟩|⟨_,_,_,_,h5⟩
 .exact⟨h1,h3,h5,by rw[h6,h3]⟩
 .exact absurd hf h2
 .rcases h5 with⟨_,h6,_⟩|h6|⟨h6,_⟩
  .omega
  .exact absurd h6 ht
  .exact absurd hf h6
theorem Cm.old (h:Cm K v v' st st' n x)(hf:st.first≠0){f:Int}(d:v.view K st.first.toNat=kQ f)(q:0<=f/\f<st.size)(hs:st.size<=1000)(r:1<=st.many)(ht:¬ jD K v.D):x=0/\n=st.first/\st'={st with first:=f,many:=st.many-1}/\v'.D=λj=>if j=st.first then some YW else v.D j:=by
 have e:=OU (f:=f) ⟨q.1,by omega⟩;rcases h.dd with⟨_,h2,_⟩|⟨h1,_,h3,h4,h5⟩|⟨_,_,_,_,h5⟩
 .exact absurd h2 hf
 .rw[d,e] at h4;exact⟨h1,h3,h4,by rw[h5,h3]⟩
 .rcases h5 with⟨h6,_⟩|h6|⟨_,h6⟩
  .exact absurd h6 hf
  .exact absurd h6 ht
  .rw[d,e] at h6;omega
end
theorem kA (w:World):nK Y3 51 #[Y1 Q4 0] w λe w'=>(∃v,e=Y0 v)/\w=w':=by
 go_enter func51,ntmps51
 go_wp2;go_end0;exact⟨⟨_,rfl⟩,rfl⟩
structure zy (W0:World)(K:xB)(p t:Nat)(k:Int)(v:yj)(st last:qj)(under:Bool)(mk:Value)(ms:List xo)(W:World):Prop where
 pa:qx W0 K p v st last under mk W
 mm:vg W0 K v ms mk W
 tb:za W t 89 #[Y9 p,Y1 Q4 k]
structure XY (K:xB)(v v':yj):Prop where
 nn:v'.N<=v.N+1
 ii:v'.i=v.i
 yy:v'.Y K=v.Y K
 sz:v'.S.sz=v.S.sz
 dd:v'.D=v.D
structure YM (K:xB)(v:yj)(n:Int)(x:ym):Prop where
 at_:(v.D n).isSome=true
 fits:KN x (v.view K n.toNat)
 rd:kJ (v.view K n.toNat)=some x
section
variable {W0 W W':World}{K:xB}{p t:Nat}{k:Int}{v v':yj}{st last st' last':qj}{under:Bool}{mk mk':Value}{ms:List xo}
theorem zy.grow (h:zy W0 K p t k v st last under mk ms W)(hB:nH W.heap.size W W'):zy W0 K p t k v st last under mk ms W':=⟨h.pa.grow hB,h.mm.grow hB,h.tb.below hB h.tb.lt⟩
theorem zy.oa (h:zy W0 K p t k v st last under mk ms W):¬ qi K p v t:=h.pa.od h.tb K7 K7 K7 K7 K7
theorem zy.pS (h:zy W0 K p t k v st last under mk ms W)(f:qx W0 K p v' st' last under mk W')(d:ze (qi K p v) W W')(e:zz K W v v'):zy W0 K p t k v' st' last under mk ms W' :=
 ⟨f,h.mm.dN h.pa d e,d.blk h.tb h.oa⟩
theorem QY.of {b:Nat}{T:nS}{cs:Y7}(d:za W b T cs)(hs:cs.size<=64)(e:∀n,cs[0]? ≠ K4 (Y1 Q6 n)):QY W b :=
 ⟨.inr (.inl ⟨_,_,d,hs,e⟩),.inr (.inl ⟨_,_,d,hs⟩)⟩
def QO (T:nS):Prop:=T≠114/\T≠171/\T≠185/\T≠194/\T≠128/\T≠119/\T≠89/\T≠214/\T≠999999
instance (T:nS):Decidable (QO T):=by delta QO;infer_instance
theorem qx.pv (h:qx W0 K p v st last under mk W){b:Nat}{T:nS}{cs:Y7}(f:ze (λk=>k=b) W W')(d:za W b T cs)(r:QY W b)(q:W0.heap.size<=b)(j:QO T):qx W0 K p v st last under mk W':=by
 obtain⟨t1,s,t3,t4,t5,u,_⟩:=j;exact⟨h.ca.pR f (λk e=>by subst e;exact r) (λk e=>by subst e;exact q) (λk e=>by subst e;exact⟨h.ca.oy d t1 s t3 t4,zh d h.ca.cs.fh.fb u⟩),f.blk h.pb (λe=>zh d h.pb t5 e.symm),h.np,h.hs,h.hl⟩
theorem vg.pQ (h:vg W0 K v ms mk W){b:Nat}{T:nS}{cs:Y7}(j:ze (λk=>k=b) W W')(r:za W b T cs)(B:QY W b)(q:QO T):vg W0 K v ms mk W' :=
 ⟨h.row.pR j (λk u e=>by
  have e:k=b:=e;subst e
  exact(h.row.blk k u).1.pU r ⟨q.2.2.2.2.2.2.2.1,q.2.2.2.2.2.2.2.2⟩),λx C=>by
  obtain⟨h1,h2,s⟩:=h.maps x C;refine⟨h1.pv j (λk e=>by subst e;exact B) (λe => ?_),h2,s⟩;obtain⟨es,E,f,d,_⟩:=h1.has;rw[e] at d
  exact d.pf r rfl⟩
theorem zy.pQ (h:zy W0 K p t k v st last under mk ms W){b:Nat}{T:nS}{cs:Y7}(f:ze (λk=>k=b) W W')(d:za W b T cs)(hs:cs.size<=64)(q:∀n,cs[0]? ≠ K4 (Y1 Q6 n))(r:W0.heap.size<=b)(j:QO T):zy W0 K p t k v st last under mk ms W' :=
 ⟨h.pa.pv f d (QY.of d hs q) r j,h.mm.pQ f d (QY.of d hs q) j,f.blk h.tb (λe=>zh d h.tb j.2.2.2.2.2.2.1 e.symm)⟩
theorem zy.up (h:zy W0 K p t k v st last under mk ms W):W0.heap.size<=W.heap.size:=h.pa.ca.cs.fh.up.size
theorem zy.pP (h:zy W0 K p t k v st last under mk ms W){b:Nat}{T:nS}{cs:Y7}(e:za W b T cs)(d:QO T):¬ qi K p v b:=h.pa.od e d.1 d.2.1 d.2.2.1 d.2.2.2.1 d.2.2.2.2.1
theorem qm (w:World)(b:Nat)(cs:Y7):ze (λk=>k=b) w (w.setRow b cs):=⟨rfl,rfl,rfl,by simp[gM],λk _ d=>ng w b k cs d⟩
theorem zy.tp (h:zy W0 K p t k v st last under mk ms W):W.cell? t=K4 (Y9 p):=by rw[h.tb.cell];rfl
theorem zy.tk (h:zy W0 K p t k v st last under mk ms W):W.cell? ⟨t,1,K3⟩=K4 (Y1 Q4 k):=by rw[h.tb.cell];rfl
theorem zy.none (h:zy W0 K p t k v st last under mk ms W):nK Y3 42 #[Y9 t] W λe w'=>e=Y0 (X3 false)/\W=w':=Sm h.tp
theorem Rg (h:zy W0 K p t k v st last under mk ms W):nK Y3 20 #[Y9 t] W λe w'=>e=Y0 (Y9 p)/\W=w':=by
 have d:=h.none;have c:=h.tp
 go_enter func20,ntmps20
 go_wp2_with (go_at_call 42;refine d.mono ?_;rintro e f ⟨rfl,rfl⟩)
 go_ret;exact⟨rfl,rfl⟩
theorem Ya (h:zy W0 K p t k v st last under mk ms W){i:Nat}(s:k=(i:Int)){n:Int}(hi:st.roots[i]?=some n):nK Y3 45 #[Y9 t] W λe w'=>e=Y0 (Y1 Q4 n)/\nH W.heap.size W w':=by
 have u:=h.none;have hd:=h.grow (nF _ W).drew;have r:=UQ hd.pa i n hi;have d:W.drew.cell? t=K4 (Y9 p)/\W.drew.cell? ⟨t,1,K3⟩=K4 (Y1 Q4 k):=⟨hd.tp,hd.tk⟩;rw[<-s] at r;have B:nH W.heap.size W W.drew:=(nF _ W).drew;clear h hd s hi
 go_enter func45,ntmps45
 go_wp2_with (go_at_call 42;refine u.mono ?_;rintro e C ⟨rfl,rfl⟩)
 refine zb.st (λW':World=>W'.cell? t=K4 (Y9 p)/\W'.cell? ⟨t,1,K3⟩=K4 (Y1 Q4 k)) 99 ?_;generalize W.drew=q at *;refine zb.q0 0 (Y9 t) d ?_;refine zb.q0 1 (Y9 t) d ?_;refine zb.q0 2 (Y9 t) d ?_;refine zb.q0 3 (Y9 p) d ?_;refine zb.q0 4 (Y9 t) d ?_;refine zb.q0 5 (Y9 t) d ?_;refine zb.q0 6 (Y9 (K4 ⟨t,1,K3⟩)) d ?_;refine zb.q0 7 (Y1 Q4 k) d ?_;simp only[Z8];refine zb.n 8 ?_;refine zb.oC 41 #[.tmp 11,.tmp 15] #[45,3] #[Y9 p,Y1 Q4 k] (r.mono ?_) (zb.eo func41);rintro e w5 ⟨rfl,rfl⟩;refine⟨_,rfl,λ_=>d,?_⟩;simp only[Z8];refine zb.n 9 (zb.opV (w':=q) (Q2 #[Y1 Q4 n,Y1 Q4 0]) rfl rfl K8 ⟨λ_=>d,?_⟩);refine zb.q0 10 (Y1 Q4 n) d ?_;refine zb.q0 11 (Y1 Q4 0) d ?_;simp only[Z8];refine zb.n 12 (zb.opV (w':=q) (Y1 Q4 n) rfl rfl K8 ⟨λ_=>d,?_⟩);simp only[Z8];refine zb.n 13 (zb.opV (w':=q) (Y1 Q4 0) rfl rfl K8 ⟨λ_=>d,zb.dn ?_⟩);simp only[Z8];go_wp2;go_ret;exact⟨rfl,B⟩
theorem UD (h:zy W0 K p t k v st last under mk ms W)(T:K.Ok)(V:v.N<=800000)(n:Int)(hn:1<=n/\n<st.size)(hP:n<(K.P:Int))(Z:¬ jD K v.D)(aA:(v.D n).isSome=true):nK Y3 141 #[Q0 #[Y9 t],Y1 Q4 n] W λe w'=>∃v' A c,e=Y0 (X1 A 512 c)/\qv w' w'.heap.size A c (v.view K n.toNat)/\(v.view K n.toNat).length=512/\zy W0 K p t k v' st last under mk ms w'/\XY K v v'/\zz K W v v'/\ze (qi K p v) W w':=by
 obtain⟨W1,j,d,b1⟩:=Qp W 92 #[Y9 t];have h1:=h.grow d;have c0:=h1.tp;obtain⟨y0,aC⟩:=Option.isSome_iff_exists.1 aA;have r:=Rx h1.pa T V n hn y0 aC;have s:=c0;rw[j] at s;have I:=nI j.symm;clear j
 go_enter func141,ntmps141
 go_wp2_with fail
 rw[I.out];refine r.mono ?_;rintro e w2 ⟨x,v',O,G,L,u,B,C,E,H,F,q,f⟩;rcases x with er|y
 .exfalso;rcases F er rfl with h2|h2
  .omega
  .exact Z h2.2
 obtain⟨rfl,aD⟩:=H y rfl;obtain⟨A,c,rfl,aB,_⟩:=O;have S:ze (qi K p v) W w2:=(ze.below d).trans (KE f);have h2:=h1.pS G (KE f) q;have X:zz K W v v':=q.mono d.size;have U:XY K v v':=⟨by omega,u,B,C,E⟩;clear r h h1 G L u B C E H F q f c0 s b1
 go_wp2_with (go_at_call 51;refine(kA _).mono ?_;rintro e w3 ⟨⟨_,rfl⟩,rfl⟩)
 go_ret;exact⟨v',A,c,rfl,aB,aD,h2,U,X,S⟩
theorem Qd (h:zy W0 K p t k v st last under mk ms W)(hK:K.Ok)(hN:v.N<=800000)(n:Int)(hn:1<=n/\n<st.size)(hP:n<(K.P:Int))(hT:¬ jD K v.D)(x:ym)(X:YM K v n x):nK Y3 86 #[Q0 #[Y9 t],Y1 Q4 n] W λe w'=>∃v' Ac cc Ak ck Ai ci,e=Y0 (Q0 (zx x Ac cc Ak ck Ai ci))/\XX w' w'.heap.size x Ac cc Ak ck Ai ci/\zy W0 K p t k v' st last under mk ms w'/\XY K v v'/\zz K W v v'/\ze (qi K p v) W w'/\∃wx,zy W0 K p t k v' st last under mk ms wx/\nH wx.heap.size wx w'/\W.heap.size<=wx.heap.size/\xm w' wx.heap.size x Ac cc Ak ck Ai ci:=by
 have aX:=h.up;obtain⟨W1,F,U,b1,b4⟩:=Bz W 92 #[Y9 t] 69 YV;have aV:W1.heap.size=W.heap.size+1+1:=by rw[F,nG,nG]
 have h1:=h.grow U;have c1:=b1.boxed;have Z:=UD h1 hK hN n hn hP hT X.at_;have T:=c1;rw[F] at T;unfold YV at F b4 T;have aM:=nI F.symm;have nb:=h1.pP b4 K7;clear F h
 go_enter func86,ntmps86
 go_wp2_with fail
 rw[aM.out];refine Z.mono ?_;rintro e q ⟨v',A,c,rfl,aH,aK,h2,aS,aI,I⟩;have B:=I.blk b4 nb;have H:=Hm q A c (v.view K n.toNat) aH x X.rd X.fits;rw[aK] at H;unfold GY at H;clear Z
 go_wp2_with fail
 refine H.mono ?_;rintro e s ⟨Ac,cc,Ak,ck,Ai,ci,rfl,n3,f,V⟩;have aG:=V.rows;obtain⟨N,j⟩:=Z9 (zx x Ac cc Ak ck Ai ci);have L:N.size=4:=by rw[j];rfl
 have aD:∀u∈N.toList,u.oneCell'=true:=by rw[j];exact zw rfl rfl rfl rfl
 have aU:∀m,N[0]? ≠ K4 (Y1 Q6 m):=λm e=>by rw[j] at e;cases e
 rw[<-j];have aW:W.heap.size+2<=q.heap.size:=by have:=I.size;omega
 have aT:=f.size;have h3:=h2.grow f;have O:=B.below f B.lt;obtain⟨W4,aE,aC,aB⟩:=Qp s 69 #[X3 false,X1 none 0 0,X1 none 0 0,X1 none 0 0];have d:nH s.heap.size s (W4.setRow s.heap.size N):=zf aC (zG _) _;have aP:=aB.setRow N;generalize aF:W4.setRow s.heap.size N=W5 at *;have h5:=h3.grow d;have n5:=n3.grow d;have S:=O.below d O.lt;have h6:=h5.pQ (qm W5 (W.heap.size+1) N) S K7 (λm e=>by cases e) K5 K7;have aA:=S.setRow N;have n6:=n5.pW (w':=W5.setRow (W.heap.size+1) N) aG (by simp[gM]) (λr G=>ng _ _ r _ K5);have o6:=(V.pW (w':=W5) (λr _ G=>d.block r G)).pW (w':=W5.setRow (W.heap.size+1) N) (λr G _=>ng _ _ r _ K5);have o7:∃wx,zy W0 K p t k v' st last under mk ms wx/\nH wx.heap.size wx (W5.setRow (W.heap.size+1) N)/\W.heap.size<=wx.heap.size/\xm (W5.setRow (W.heap.size+1) N) wx.heap.size x Ac cc Ak ck Ai ci:=by
  have aJ:(q.setRow (W.heap.size+1) N).heap.size=q.heap.size:=by simp[gM]
  have E:=f.trans (d.mono aT);refine⟨q.setRow (W.heap.size+1) N,h2.pQ (qm q (W.heap.size+1) N) B K7 (λm e=>by cases e) K5 K7,?_,by omega,by rw[aJ];exact o6⟩;rw[aJ];refine⟨E.os,E.tape,E.output,by simp[gM];exact E.size,λr G => ?_⟩
  by_cases e:r=W.heap.size+1
  .rw[e];exact aA.trans (B.setRow N).symm
  .exact(ng _ _ r _ e).trans ((E.block r G).trans (ng _ _ r _ e).symm)
 have aQ:ze (qi K p v) W (W5.setRow (W.heap.size+1) N):=by have C:ze (qi K p v) W W5:=(((ze.below U).trans I).trans (ze.below f)).trans (ze.below d);exact⟨C.os,C.tape,C.output,by simp[gM];exact C.size,λk hk hm=>(ng _ _ k _ K5).trans (C.block k hk hm)⟩
 have aR:zz K W v v':=aI.mono U.size;have aL:=nI j;have aN:=nI aE.symm;have aO:=nI aF;clear h1 h2 h3 h5 n3 n5 aG V aH aK aI I B O b1 b4 c1 T aE aF j f aC d H
 go_wp2_with (first
  |(rw[aN.out];refine vC zm aB L aD ?_;rw[aO.out])
  |(refine yO rfl 69 (.tmp 5) rfl s.heap.size rfl zm aP L ?_)
  | (refine vC zm S L aD ?_))
 exact nu (yg rfl (yx (g:=W.heap.size+1) 4 rfl zm aA L)) rfl ⟨v',Ac,cc,Ak,ck,Ai,ci,by rw[aL.out],n6,h6,aS,aR,aQ,o7⟩
theorem UE (h:zy W0 K p t k v st last under mk ms W)(r:K.Ok)(s:v.N<=800000)(n:Int)(hn:1<=n/\n<st.size)(hP:n<(K.P:Int))(u:¬ jD K v.D)(x:ym)(B:YM K v n x):nK Y3 86 #[Q0 #[Y9 t],Y1 Q4 n] W λe w'=>∃v' Ac cc Ak ck Ai ci,e=Y0 (Q0 (zx x Ac cc Ak ck Ai ci))/\XX w' w'.heap.size x Ac cc Ak ck Ai ci/\zy W0 K p t k v' st last under mk ms w'/\XY K v v'/\zz K W v v'/\ze (qi K p v) W w' :=
 (Qd h r s n hn hP u x B).mono λe w' ⟨v',Ac,cc,Ak,ck,Ai,ci,h1,h2,d,f,j,q,_⟩=>⟨v',Ac,cc,Ak,ck,Ai,ci,h1,h2,d,f,j,q⟩
end
def xx (x:ym):Y4:=qg x++zP (512-(qg x).length) 0
structure ra (K:xB)(v v':yj)(n:Int)(y:Y4):Prop where
 nn:v'.N<=v.N+2
 ii:v'.i=v.i
 yy:v'.Y K=v.Y K
 sz:v'.S.sz=v.S.sz
 dd:v'.D=λj=>if j=n then some y else v.D j
section
variable {W0 W W':World}{K:xB}{p t:Nat}{k:Int}{v v':yj}{st last st' last':qj}{mk mk':Value}{ms:List xo}
theorem jG (h:zy W0 K p t k v st last true mk ms W)(Z:K.Ok)(hN:v.N<=800000)(n:Int)(hn:1<=n/\n<st.size)(hP:n<(K.P:Int))(hT:¬ jD K v.D)(x:ym)(Ac:Y5)(cc:Nat)(Ak:Y5)(ck:Nat)(Ai:Y5)(ci:Nat)(O:XX W W.heap.size x Ac cc Ak ck Ai ci)(hl:x.cells.length<=1000)(aE:x.keys.length<=1000)(aF:x.kids.length<=1001)(hR:yh x)(aD:(qg x).length<=512):nK Y3 50 #[Q0 #[Y9 t],Y1 Q4 n,Q0 (zx x Ac cc Ak ck Ai ci)] W λe w'=>∃v',(∃u,e=Y0 u)/\zy W0 K p t k v' st last true mk ms w'/\ra K v v' n (xx x)/\zz K W v v'/\ze (qi K p v) W w':=by
 obtain⟨N,r⟩:=Z9 (zx x Ac cc Ak ck Ai ci);have aB:N.size=4:=by rw[r];rfl
 obtain⟨U,H,d,b1,b5⟩:=Bz W 92 #[Y9 t] 69 N;have h1:=h.grow d;have S:=O.grow d;have f:=RB U x Ac cc Ak ck Ai ci S hl aE aF hR aD;have aG:(xx x).length=512:=by unfold xx;rw[zH,mO];omega
 unfold SL at f;rw[show qg x++zP (512-(qg x).length) 0=xx x from rfl,<-r] at f;rw[<-r];have T:=nI H.symm;clear H O S r h
 go_enter func50,ntmps50
 go_wp2_with (first
  | (rw[T.out];refine yO rfl 69 (.tmp 5) rfl (W.heap.size+1) rfl zm b5 aB ?_))
 refine f.mono ?_;rintro e w2 ⟨A,c,rfl,I,q⟩;have h2:=h1.grow q;have c0:=h2.tp;have c1:=(b1.below q b1.lt).boxed;have F:=Yw h2.pa Z hN n hn hP A c (xx x) aG I
 go_wp2_with (first
  | (go_at_call 51;refine(kA _).mono ?_;rintro e w3 ⟨⟨_,rfl⟩,rfl⟩))
 refine F.mono ?_;rintro e w4 ⟨xe,v',rfl,L,hF,E,C⟩;obtain⟨rfl,G⟩:xe=0/\v'.D=λj=>if j=n then some (xx x) else v.D j:=by
  rcases hF.dd with s|⟨_,s,_⟩
  .exact s
  .exact absurd (h2.pa.ca.tight s) hT
 have V:=h2.pS L (KE C) E;have B:=d.trans (q.mono d.size);have X:ze (qi K p v) W w4:=(ze.below B).trans (KE C);have aA:ra K v v' n (xx x):=⟨by have:=hF.nn;omega,hF.ii,hF.yy,hF.sz,G⟩;have aC:zz K W v v':=E.mono B.size;clear L hF E C F f h1 h2 b1 b5 c0 c1 I G d q B
 go_wp2_with (first
  | (go_at_call 51;refine(kA _).mono ?_;rintro e w3 ⟨⟨_,rfl⟩,rfl⟩))
 go_end0;exact⟨v',⟨_,rfl⟩,V,aA,aC,X⟩
end
def Tx (Q:mh->Act->World->Prop):mh->Act->World->Prop
 | .panic _,_,_=>False
 | e,a,w=>Q e a w
theorem Hj {Q:mh->Act->World->Prop}{e:mh}{a:Act}{w:World}(h:Tx Q e a w):Q e a w:=by
 cases e<;>first|exact h|exact h.elim
theorem Hk {Q:mh->Act->World->Prop}{a:Act}{w:World}(h:Q .normal a w):Tx Q .normal a w:=h
theorem Xg (p f:Value)(w:World):CallsD Y3 75 #[p,f] .returning w λe h w'=>e=Y0 (Q2 #[])/\h=.returning/\w'=w:=by
 refine callsD_of_wpS func75 rfl λd cs hu => ?_
 apply wpS_seq;apply wpS_region;simp[wpOpsS,go_sem,recoverD,hu,ntmps75,Exit.thenS];apply wpS_seq;apply wpS_region;simp[wpOpsS,go_sem,Exit.thenS];refine wpS_cond (t:=false) (by simp[Act.eval,Array.replicate]) ?_;simp only[nV,if_false];refine wpS_of_wp (wp_skip ?_);cases d
 simp_all [bodyPostS,results,Tryz.results75]
section
variable {W0 W W':World}{K:xB}{p t:Nat}{k:Int}{v v':yj}{st last st' last':qj}{mk mk':Value}{ms:List xo}
theorem zy.own (h:zy W0 K p t k v st last true mk ms W){b:Nat}{T:nS}{cs:Y7}(f:za W b T cs)(d:QO T):¬ (b=p\/Ut mk b):=λe=>by
 rcases e with e|e
 .exact h.pP f d (.inl e)
 .exact(h.mm.row.blk b e).1.pU f ⟨d.2.2.2.2.2.2.2.1,d.2.2.2.2.2.2.2.2⟩
theorem zy.dK (h:zy W0 K p t k v st last true mk ms W):¬ (t=p\/Ut mk t):=λe=>by
 rcases e with e|e
 .exact h.oa (.inl e)
 .exact(h.mm.row.blk t e).1.pU h.tb K7
structure tG (W0:World)(K:xB)(p t:Nat)(k:Int)(v:yj)(st last:qj)(mk:Value)(ms:List xo)(X:Nat->Prop)(W:World)(v':yj)(st':qj)(w1:World)(w':World):Prop where
 at_:∃mk',zy W0 K p t k v' st' last true mk' ms w'
 pR:∀b T cs,b<W.heap.size->za w1 b T cs->QO T->za w' b T cs
 nm:zz K W v v'
 up:W.heap.size<=w'.heap.size
theorem Rl (h:zy W0 K p t k v st last true mk ms W)(hK:K.Ok)(bJ:ms.length<=800)(F:Nat)(q1 q2:Value)(eg:∀args w,(callFunc F args).run Y3 w=.ok (.enter F args) w)(X:Nat->Prop)(hX:∀j,X j->j<W.heap.size)(Post:yj->qj->World->Prop)
  (HF:∀W' mk' M,(∀b T cs,za W b T cs->QO T->za W' b T cs)->W.heap.size<=W'.heap.size->zy W0 K p t k v st last true mk' (ms++[⟨st,M,v.D⟩]) W'->nK Y3 F #[Q0 #[Y9 t],q1,q2] W' λe w'=>∃v' st',(∃z,e=Y0 z)/\zy W0 K p t k v' st' last true mk' (ms++[⟨st,M,v.D⟩]) w'/\Post v' st' w'/\zz K W' v v'/\ze (λj=>qi K p v j\/X j) W' w') :
  nK Y3 43 #[Y9 t,.func (.func F) #[] #[q1,q2]] W λe w'=>∃v' st' w1,e=Y0 (Y1 Q4 0)/\Post v' st' w1/\tG W0 K p t k v st last mk ms X W v' st' w1 w':=by
 obtain⟨W1,aA,aT,b2,b4⟩:=Bz W 23 #[Y9 t] 27 #[Y1 Q4 0];have h1:=h.grow aT;have bS:=h.up;have bK:W.heap.size+2<=W1.heap.size:=by rw[aA,nG,nG];omega
 have aP:=h1.tp;have aR:=b2.boxed;rw[aA] at aP aR;have HM:=Tf h1.pa hK h1.mm K5;have a8:=nI aA.symm;have aJ:∀b T cs,za W b T cs->za W1 b T cs:=λb T cs d=>d.below aT d.lt
 have o2:=h1.own b2 K7;have o4:=h1.own b4 K7;have ot:=h1.dK;have a0:∀b T cs,za W1 b T cs->QO T->¬ (b=p\/Ut mk b):=λb T cs d B=>h1.own d B
 have a7:=h1.tb;clear aA h h1
 go_enter_defers func43,ntmps43
 go_wp2_with fail
 rw[a8.out];refine HM.mono ?_;rintro e w2 ⟨M,mk',rfl,a1,aU,I⟩;have h2:zy W0 K p t k v st last true mk' (ms++[⟨st,M,v.D⟩]) w2:=⟨a1,aU,I.blk a7 ot⟩;have aC:=I.blk b2 o2;have aE:=I.blk b4 o4;have bL:=I.size;obtain⟨W4,N⟩:=Z9 ((w2.alloc (Q9 #[Y1 Q4 (ms.length:Int)] 3)).setCell (W.heap.size+1:Nat) (Y1 Q4 0));have H:nH w2.heap.size w2 (w2.alloc (Q9 #[Y1 Q4 (ms.length:Int)] 3)):=vo _ _;have G:=aE.below H aE.lt;have aL:=aC.below H aC.lt;have aN:za (w2.alloc (Q9 #[Y1 Q4 (ms.length:Int)] 3)) w2.heap.size 3 #[Y1 Q4 (ms.length:Int)]:=za.new w2 _ _;have h3:=h2.grow H;have bM:=H.size;have bB:=G.boxed;have bC:=G.free 0;have C:ze (λj=>j=W.heap.size+1) (w2.alloc (Q9 #[Y1 Q4 (ms.length:Int)] 3)) W4:=by rw[N];exact ze.setCell _ _ _ rfl
 have h4:=h3.pQ C G K7 (λm e=>by cases e) K5 K7;have S:za W4 (W.heap.size+1) 27 #[Y1 Q4 0]:=by rw[N];exact G.set 0 _
 have O:za W4 W.heap.size 23 #[Y9 t]:=C.blk aL K5;have aH:za W4 w2.heap.size 3 #[Y1 Q4 (ms.length:Int)]:=C.blk aN K5;have aS:=S.boxed;have aQ:=O.boxed;have bN:=C.size;have aX:∀b T cs,za W b T cs->QO T->za W4 b T cs:=λb T cs d B=>by have q:=I.blk (aJ b T cs d) (a0 b T cs (aJ b T cs d) B);exact C.blk (q.below H q.lt) (by have:=d.lt;omega)
 have aK:=HF W4 mk' M aX K5 h4;rw[N] at aS aQ;have a9:=nI N.symm;clear N HF HM aJ o2 o4 ot a0 a7 a1 aU b2 b4 aP aR aC aE h2 h3 G aL aN
 go_wp2_with fail
 rw[a9.out];refine aK.mono ?_;rintro e w5 ⟨v',st',⟨z,rfl⟩,h5,bE,aZ,L⟩;have nx:∀b T cs,za W4 b T cs->QO T->W.heap.size<=b->¬ (qi K p v b\/X b):=λb T cs d B bH e=>by
  rcases e with e|e
  .exact h4.pP d B e
  .have:=hX b e;omega
 have aF:=L.blk S (nx _ _ _ S K7 K5);have aD:=L.blk O (nx _ _ _ O K7 K5);have aI:=L.blk aH (nx _ _ _ aH K7 K5);have bO:=L.size;have s:nH w5.heap.size w5 w5.drew:=(nF _ _).drew;have r:=h5.grow s;have aB:=MC r.pa r.mm ms.length (by rw[zH];simp) (by rw[zH];simp;omega);rw[List.take_left' rfl] at aB;have P:=aD.below s aD.lt;have aG:=aF.below s aF.lt;have V:=aI.below s aI.lt;have E:w5.drew.cell? W.heap.size=K4 (Y9 t)/\w5.drew.cell? t=K4 (Y9 p)/\w5.drew.cell? w2.heap.size=K4 (Y1 Q4 (ms.length:Int)):=⟨P.boxed,r.tp,V.boxed⟩;have aY:∀b T cs,za w5 b T cs->za w5.drew b T cs:=λb T cs d=>d.below s d.lt
 have bR:w5.heap.size<=w5.drew.heap.size:=s.size;have bD:zz K W v v':=aZ.mono K5;clear h4 h5 L aZ nx S O aH aF aD aI bB bC aS aQ aX aK C s eg hX
 go_wp2_with fail
 refine Code.wp_mono (Q:=Tx _) (λe a w h=>Hj h) ?_;refine zb.st (λW':World=>W'.cell? W.heap.size=K4 (Y9 t)/\W'.cell? t=K4 (Y9 p)/\W'.cell? w2.heap.size=K4 (Y1 Q4 (ms.length:Int))) 99 ?_;generalize w5.drew=wd at *;refine zb.q0 0 (Y9 t) E ?_;refine zb.q0 1 (Y9 t) E ?_;refine zb.q0 2 (Y9 t) E ?_;refine zb.q0 3 (Y9 p) E ?_;refine zb.q0 4 (Y1 Q4 (ms.length:Int)) E ?_;simp only[Z8];refine zb.n 5 ?_;refine zb.oC 78 #[.tmp 25,.tmp 26] #[45,3] #[Y9 p,Y1 Q4 (ms.length:Int)] (aB.mono ?_) (zb.eo func78);rintro e w6 ⟨a3,rfl,a2,aV,u⟩;have a4:¬ W.heap.size=p:=λe=>r.pP P K7 (.inl e)
 have a5:¬ W.heap.size+1=p:=λe=>r.pP aG K7 (.inl e)
 have a6:¬ w2.heap.size=p:=λe=>r.pP V K7 (.inl e)
 have h6:zy W0 K p t k v' st' last true a3 ms w6:=⟨a2,aV,u.blk r.tb (λe=>r.oa (.inl e))⟩;have U:=u.blk aG a5;have aM:=u.blk P a4;have aO:=u.blk V a6;have aW:w6.cell? W.heap.size=K4 (Y9 t)/\w6.cell? t=K4 (Y9 p)/\w6.cell? w2.heap.size=K4 (Y1 Q4 (ms.length:Int)):=⟨aM.boxed,h6.tp,aO.boxed⟩;refine⟨_,rfl,λ_=>aW,zb.dn ?_⟩;simp only[Z8];have bG:=U.boxed;have f46:=U.free 0;have bP:=u.size;have g7:ze (λj=>j=W.heap.size+1) w6 (w6.setCell (W.heap.size+1:Nat) (Y1 Q4 0)):=ze.setCell _ _ _ rfl;have h7:=h6.pQ g7 U K7 (λm e=>by cases e) K5 K7;have bA:=U.set 0 (Y1 Q4 0);have bF:∀b T cs,b<W.heap.size->za w5 b T cs->QO T->za (w6.setCell (W.heap.size+1:Nat) (Y1 Q4 0)) b T cs:=λb T cs bI d B=>by have q:=aY b T cs d;exact g7.blk (u.blk q (λe=>r.pP q B (.inl e))) K5
 have bQ:=g7.size;clear aW E aM aO P aG V aB aY r h6 a2 aV u a4 a5 a6 g7;refine Hk ?_;go_wp2;refine leaves_cons (f:=75) (args:=#[Y9 (W.heap.size+1:Nat),.func (.func 76) #[] #[Y9 W.heap.size,Y9 w2.heap.size]]) K9 (by simp[go_sem]) ?_;refine(Xg _ _ _).mono ?_;rintro e u' wz ⟨rfl,rfl,rfl⟩;exact⟨_,yg rfl (kZ (p:=⟨W.heap.size+1,0,K3⟩) 4 rfl (by simp[go_sem]) bA.boxed),v',st',w5,rfl,bE,⟨⟨a3,h7⟩,bF,bD,by omega⟩⟩
end
section
variable {W0 W W':World}{K:xB}{p t:Nat}{k:Int}{v v':yj}{st last st' last':qj}{under:Bool}{mk mk':Value}{ms:List xo}
theorem Sl (h:qx W0 K p v st last under mk W)(f:vg W0 K v ms mk W)(hs:¬ st.size=0)(i:Nat)(n:Int)(hi:st.roots[i]?=some n):nK Y3 17 #[Y9 p,Y1 Q4 (i:Int)] W λe w'=>∃t,e=Y0 (Q2 #[Y9 (K4 ⟨t,0,K3⟩),Y1 Q4 0])/\zy W0 K p t (i:Int) v st last under mk ms w'/\nH W.heap.size W w':=by
 have r:=Te h;have q:=UQ h i n hi;obtain⟨W1,j,d,b1⟩:=Qp W 89 #[Y9 p,Y1 Q4 (i:Int)];have u:zy W0 K p W.heap.size (i:Int) v st last under mk ms W1:=⟨h.grow d,f.grow d,b1⟩;have s:=nI j.symm;clear j h f hi
 go_enter func17,ntmps17
 go_wp2_with (first
  |(go_at_call 40;refine r.mono ?_;rintro e B ⟨rfl,rfl⟩)
  | (go_at_call 41;refine q.mono ?_;rintro e B ⟨rfl,rfl⟩))
 rw[s.out];exact nT (nj rfl _ _ _) rfl ⟨_,rfl,u,d⟩
end
end
section
open Go Go.RowKit xq Go.Shelf
def Bb:Go.Shelf.Ren:=⟨fun|169=>160|n=>n,fun|70=>239|9=>9|0=>0|72=>241|37=>129|127=>304|3=>3|5=>5|n=>n,fun|n=>n⟩
theorem uX:Go.Proofs.Lays.n169 Y3 Bb:={
 mixed:=K6
 f169:=func160.trans (congrArg some K6)
 t0:=underlying0
 a0:=Tryz.isAgg0
 z0:=Tryz.sizeOf0
 v0:=Tryz.zeroValue0
 t3:=underlying3
 a3:=Tryz.isAgg3
 z3:=Tryz.sizeOf3
 v3:=Tryz.zeroValue3
 t9:=underlying9
 a9:=Tryz.isAgg9
 z9:=Tryz.sizeOf9
 v9:=Tryz.zeroValue9
 t37:=underlying129
 a37:=Tryz.isAgg129
 z37:=Tryz.sizeOf129
 v37:=Tryz.zeroValue129
 t70:=underlying239
 a70:=Tryz.isAgg239
 z70:=Tryz.sizeOf239
 v70:=Tryz.zeroValue239
 t72:=underlying241
 a72:=Tryz.isAgg241
 z72:=Tryz.sizeOf241
 v72:=Tryz.zeroValue241
 t127:=underlying304
 a127:=Tryz.isAgg304
 z127:=Tryz.sizeOf304
 v127:=Tryz.zeroValue304}
theorem DG:Builder.Extra Y3 Bb:={
 sizeBuilder:=K6
 liesBuilder:=K6
 t5:=underlying5
 a5:=Tryz.isAgg5
 z5:=Tryz.sizeOf5
 v5:=Tryz.zeroValue5
 infoByte:=K6
 cellsByte:=K6
 sizeByte:=K6
 neB5:=by decide}
theorem Ca (B b:Nat)(l:Y4)(w:World)(h:Lib.IsBuilder 241 5 B b (Lib.byteCells l) w)(d:B<=w.heap.size):nK Y3 160 #[Y9 b] w λe w'=>e=Y0 (.string ⟨l.toArray⟩)/\nH B w w':=Any.Builder_String_any uX DG B b l w h d
theorem Ep:∃j,Y3.info? 241=some j/\j.size=2:=by
 have h:(Y3.info? 241).map (·.size)=some 2:=K6
 obtain⟨j,d,hs⟩:=Option.map_eq_some_iff.1 h;exact⟨j,d,hs⟩
theorem Ps (b:Nat)(w:World)(q:w.cell? b=K4 (Y9 none))(f:w.shape? b=some (241,2))(r:w.frozen? b=false):nK Y3 222 #[Y9 b] w λe w'=>e=Y0 (Q2 #[])/\w'=w.setCell b (Y9 b):=by
 obtain⟨j,d,h⟩:=Ep
 go_enter func222,ntmps222
 go_wp2;rw[Lib.run_to_unsafe w ⟨b,0,K3⟩ underlying239 underlying359 d (by rw[h];decide) f (Nat.zero_lt_succ 1)];simp only[nM];rw[lq];go_wp2;rw[run_callFunc_extern func288 K6 K6 K6 (e:=Extern.AbiNoEscape.same) K6];rw[Lib.run_noEscape];simp only[nM];rw[lq];go_wp2;rw[Lib.run_from_unsafe w ⟨b,0,K3⟩ underlying359 underlying239 d f DG.liesBuilder];simp only[nM];rw[lq];go_wp2;go_end0;exact⟨rfl,rfl⟩
theorem Hy:(Y3.info? 5).map (λi=>(i.zero,i.size,i.bytes))=some (some (Y1 Q5 0),1,1):=by kernel_rfl
theorem wN (b:Nat)(s:ByteArray)(w:World)(d:za w b 241 #[Y9 none,X1 none 0 0])(X:s.size<=1000000):nK Y3 157 #[Y9 (K4 ⟨b,0,K3⟩),X9 s] w λe w'=>e=Y0 (Q2 #[Y1 Q4 s.size,.nilIface])/\Lib.BuilderAt 241 5 b b (Y9 (K4 ⟨b,0,K3⟩)) (Lib.strCells s) w'/\nH b w w':=by
 obtain⟨S,hi,N,O,P⟩:=info_parts Hy;have F:=Ps b w (by rw[d.cell];rfl) (by simp[lu,show w.heap[b]?=_ from d]) (d.free 0);have b1:=d.set 0 (Y9 (K4 ⟨b,0,K3⟩));have u:nH b w (w.setCell ⟨b,0,K3⟩ (Y9 (K4 ⟨b,0,K3⟩))):=(nF _ _).setCell (p:=⟨b,0,K3⟩) (zG _) _;generalize G:w.setCell ⟨b,0,K3⟩ (Y9 (K4 ⟨b,0,K3⟩))=h at *;have f:za h b 241 #[Y9 (K4 ⟨b,0,K3⟩),X1 none 0 0]:=b1;have c0:h.cell? ⟨b,0,K3⟩=K4 (Y9 (K4 ⟨b,0,K3⟩)):=by rw[f.cell];rfl
 have c1:h.cell? ⟨b,1,K3⟩=some (X1 none 0 0):=by rw[f.cell];rfl
 have L:h.ownsRow b 5 1 (X1 none 0 0) 0 []:=World.ownsRow_nil _ _ _ _;have I:=f.lt;clear G b1 d
 go_enter func157,ntmps157
 go_wp2_with fail
 refine F.mono ?_;rintro e Z ⟨rfl,rfl⟩
 go_wp2_with (at_builtin;refine Lib.wpList_append_own_string _ rfl _ _ 129 9 rfl b 5 S underlying129 underlying9 hi N O P _ _ _ rfl L s rfl ?c3 ?c4 ?c5 ?_)
 case c3=>unfold gP;omega
 case c4=>omega
 case c5=>omega
 intro v' q C B _;have j:q.heap[b]?=some (Q9 #[Y9 (K4 ⟨b,0,K3⟩),X1 none 0 0] 241 (0,0)):=by rw[B.block b I (λe=>by cases e)];exact f
 have U:q.cell? ⟨b,1,K3⟩=some (X1 none 0 0):=by rw[Lib.cell_of_heap j];rfl
 have V:q.frozen? ⟨b,1,K3⟩=false:=Lib.frozen_of_heap j 1;obtain⟨r,E,cap,rfl⟩:∃r E cap,v'=X1 r E cap:=by
  rcases C.2 with⟨hv,_⟩|⟨g,cap,cur,hv,_⟩
  .exact⟨_,_,_,hv⟩
  .exact⟨_,_,_,hv⟩
 go_wp2
 go_ret2
 refine⟨rfl,?_,?_⟩
 .exact Lib.BuilderAt.put (T:=241) (e:=5) (zG _) j (bs':=Lib.strCells s) (by simpa[Lib.strCells_length] using C) K7
 .exact(u.grown B (by have:=u.size;omega) (λk H=>by cases H)).setCell (p:=⟨b,1,K3⟩) (zG _) _
end
section
open Go Go.RowKit xq
theorem vX:ZQ 65 94 4 48 (Q0 #[X9 nX,X9 nX,Y1 Q4 0,Y1 Q4 0]):=⟨underlying65,by kernel_rfl,by kernel_rfl,by decide⟩
def SJ (w:World)(g n i:Nat)(cs cx:Y8)(e:mH)(w':World):Prop:=∃h c',e=Y0 (X1 (K4 ⟨h,0,K3⟩) (n+1) c')/\(h=g\/w.heap.size<=h)/\n+1<=c'/\c'<=gP/\(∃cur',za w' h 94 cur'/\cur'.size=c'*4/\cur'.toList.take ((n+1)*4)=cs.take (i*4)++cx++cs.drop (i*4))/\w.grownBy w' (some g)
theorem SU {ρ:nO->Value}{w w':World}{o:nh}{x y:nO}{u v r:Value}(d:o.op=.call {callee:=.builtin .copy,args:=#[x,y],argTypes:=#[65,65]})(h1:ρ x=u)(h2:ρ y=v)(e:(gw #[65,65] o.type #[u,v]).run Y3 w=.ok r w'):(nQ ρ o).run Y3 w=.ok (.value r) w':=by
 unfold nQ;simp only[d,resolve,invoke,builtin,gJ,ny,nc,zJ,zL,zN,h1,h2,e]
theorem wt {ρ:nO->Value}{w w':World}{o:nh}{x y:nO}{u v r:Value}(d:o.op=.call {callee:=.builtin .append,args:=#[x,y],argTypes:=#[65,3]})(h1:ρ x=u)(h2:ρ y=v)(e:(Builtin.append_ #[65,3] o.type #[u,v]).run Y3 w=.ok r w'):(nQ ρ o).run Y3 w=.ok (.value r) w':=by
 unfold nQ;simp only[d,resolve,invoke,builtin,gJ,ny,nc,zJ,zL,zN,h1,h2,e]
section
variable {w:World}{g c n i g2:Nat}{cur:Y7}{cs cx:Y8}
theorem CA (N:za w g 94 cur)(E:cur.size=c*4)(B:cs=cur.toList.take (n*4))(hi:i<n)(aD:n+1<=c)(aG:c<=gP)(hn:n<=100000)
  (F:za w g2 94 cx.toArray) (aJ:cx.length=4) (Z:∀u∈cx,u.oneCell'=true) (V:∀u∈cs,u.oneCell'=true) (aM:g2≠g) :
  nK Y3 145 #[X1 g n c,Y1 Q4 (i:Int),X1 g2 1 1] w (SJ w g n i cs cx):=by
 have aH:cs.length=n*4:=by rw[B,qB,zV,E];omega
 have aB:(cs.drop (i*4)).length=(n-i)*4:=by rw[qF,aH];omega
 have G:za w.drew g 94 cur:=N;have aC:∀ty q S,(gw #[65,65] ty #[X1 (K4 ⟨g,(i+1)*4,K3⟩) (n+1-(i+1)) q,X1 (K4 ⟨g,i*4,K3⟩) (n+1-i) S]).run Y3 w.drew=.ok (eH ((n-i:Nat):Int)) (w.drew.setRow g (cur.toList.take ((i+1)*4)++cs.drop (i*4)++cur.toList.drop ((i+1)*4+(cs.drop (i*4)).length)).toArray):=λty q S =>
  XM vX w.drew ty g ((i+1)*4) (n+1-(i+1)) q ⟨g,i*4,K3⟩ (n+1-i) S (n-i) cur 94 (cs.drop (i*4)) G (by simp only[lZ];split<;>omega) aB (λj u s=>by
   rw[mP,G.cell];rw[mD,B,yI] at s;split at s
   .simpa using s
   .cases s) (by rw[aB,E];omega) (λu hu=>V u (qV hu))
 have aN:∀lb cb,(callFunc 217 #[X1 g2 1 1,X1 (K4 ⟨g,(i+1)*4,K3⟩) lb cb]).run Y3 w=.ok (.value (X3 false)) w:=λlb cb=>by
  rw[run_callFunc_extern func217 K6 K6 K6 (e:=fW #[65,65] #[4]) K6,
   Lib.run_overlaps_apart w 65 4 94 vX.oB 4 (λw=>YI vX w) ⟨g2,0,K3⟩ ⟨g,(i+1)*4,K3⟩ 1 1 lb cb aM 94 94 cx.toArray.size cur.size (by simp[lu,show w.heap[g2]?=_ from F]) (by simp[lu,show w.heap[g]?=_ from N]) (by rw[E];omega) (by simp[lz,show w.heap[g2]?=_ from F]) (by simp[lz,show w.heap[g2]?=_ from F])]
  rfl
 obtain⟨T,I,U⟩:=Ec (L:=cur.toList) (X:=cs.take (i*4)) (Y:=cs.drop (i*4)) (C:=cx) (sz:=4) (i:=i) (n:=n) aJ (by rw[B,mU];congr 1;omega) (by rw[B]) K5 (by rw[zV,E];omega);have H:za (w.drew.setRow g (cur.toList.take ((i+1)*4)++cs.drop (i*4)++cur.toList.drop ((i+1)*4+(cs.drop (i*4)).length)).toArray) g 94 (cur.toList.take ((i+1)*4)++cs.drop (i*4)++cur.toList.drop ((i+1)*4+(cs.drop (i*4)).length)).toArray:=G.setRow _;have P:za (w.drew.setRow g (cur.toList.take ((i+1)*4)++cs.drop (i*4)++cur.toList.drop ((i+1)*4+(cs.drop (i*4)).length)).toArray) g2 94 cx.toArray:=za.pN (show za w.drew g2 94 cx.toArray from F) K5 _;generalize aE:cur.toList.take ((i+1)*4)++cs.drop (i*4)++cur.toList.drop ((i+1)*4+(cs.drop (i*4)).length)=d at *;have O:w.grownBy (w.drew.setRow g d.toArray) (some g):=qe (yM w _) (vE _ _ _);obtain⟨h,aA⟩:=Z9 (w.drew.setRow g d.toArray);rw[<-aA] at aC H P O;have aI:∀ty q,(gw #[65,65] ty #[X1 (K4 ⟨g,i*4,K3⟩) (n+1-i) q,X1 g2 1 1]).run Y3 h=.ok (eH 1) (h.setRow g (d.take (i*4)++cx++d.drop (i*4+cx.length)).toArray):=λty q =>
  XM vX h ty g (i*4) (n+1-i) q ⟨g2,0,K3⟩ 1 1 1 d.toArray 94 cx H (by simp only[lZ];split<;>omega) K5 (λj u s=>by
   rw[mP,P.cell]
   simpa using s) (by have:=I;simp only[zR,zV] at this ⊢;omega) Z
 have aL:w.grownBy (h.setRow g (d.take (i*4)++cx++d.drop (i*4+cx.length)).toArray) (some g):=qe O (vE _ _ _);have aK:=H.setRow (d.take (i*4)++cx++d.drop (i*4+cx.length)).toArray;generalize aF:d.take (i*4)++cx++d.drop (i*4+cx.length)=L2 at *;have E3:=nI (And.intro I U);have E1:=nI T;clear T I U aE aF aA B N G F H P O Z V;have f:True:=trivial;have aQ:¬ ((c:Int)<(n:Int)+1):=K5
 have aO:IntKind.i64.wrap ((n:Int)+1)=(n:Int)+1:=zg _;have aP:IntKind.i64.wrap ((i:Int)+1)=(i:Int)+1:=zg _
 go_enter func145,ntmps145
 go_wp2_with (first
  |(refine zp rfl (Xc (k:=n+1) vX rfl rfl (by first|rfl|exact(by push_cast;rfl)) aD) ?_)
  |(refine zp rfl (Qc (i:=i+1) vX rfl rfl rfl K5 K5) ?_)
  |(refine zp rfl (Qc (i:=i) vX rfl rfl rfl K5 K5) ?_)
  | (simp only[aN]))
 refine zb.st (λ_=>True) 99 ?_;refine zb.q0 0 (X1 g (n+1) c) f ?_;refine zb.q0 1 (Y1 Q4 (i:Int)) f ?_;refine zb.q0 2 (Y1 Q4 1) f ?_;refine zb.q0 3 (Y1 Q4 ((i:Int)+1)) f ?_;simp only[Z8];refine zb.t0 4 (X1 (K4 ⟨g,(i+1)*4,K3⟩) (n+1-(i+1)) (c-(i+1))) rfl f (λW r=>by exact Qc (i:=i+1) vX rfl rfl rfl K5 K5) ?_;refine zb.q0 5 (X1 g (n+1) c) f ?_;refine zb.q0 6 (Y1 Q4 (i:Int)) f ?_;simp only[Z8];refine zb.t0 7 (X1 (K4 ⟨g,i*4,K3⟩) (n+1-i) (c-i)) rfl f (λW r=>by exact Qc (i:=i) vX rfl rfl rfl K5 K5) ?_;simp only[Z8];refine zb.n 8 (zb.opV (w':=h) (eH ((n-i:Nat):Int)) rfl rfl (by exact SU rfl rfl rfl (aC _ _ _)) ⟨λ_=>f,zb.dn ?_⟩);simp only[Z8]
 go_wp2_with (first
  |(refine zp rfl (Qc (i:=i) vX rfl rfl rfl K5 K5) ?_)
  | (at_builtin;refine fa _ rfl _ _ 65 65 rfl _ _ rfl rfl (aI _ _) ?_))
 go_ret;exact⟨g,c,rfl,.inl rfl,aD,aG,⟨_,aK,by rw[zR,E3.out.2,zV,E],by rw[E1.out]⟩,aL⟩
theorem CB (F:za w g 94 cur)(Z:cur.size=c*4)(E:cs=cur.toList.take (n*4))(hi:i<n)(aV:n<=c)(aW:¬ n+1<=c)(hn:n<=100000)
  (hx:za w g2 94 cx.toArray) (aH:cx.length=4) (aB:∀u∈cx,u.oneCell'=true) (aA:∀u∈cs,u.oneCell'=true) :
  nK Y3 145 #[X1 g n c,Y1 Q4 (i:Int),X1 g2 1 1] w (SJ w g n i cs cx):=by
 have N:cs.length=n*4:=by rw[E,qB,zV,Z];omega
 have aF:(cs.drop (i*4)).length=(n-i)*4:=by rw[qF,N];omega
 have aE:(cs.take (i*4)).length=i*4:=by rw[qB,N];omega
 obtain⟨G,cur',H,aC,aO,V,aM⟩:=UM vX w g i c (n+1-i) cur F (by rw[Z];omega) K5 K5 K5 K7;rw[show i+(n+1-i)=n+1 by omega] at H aC;have hX:cur'.toList.take (i*4)=cs.take (i*4):=by rw[aM,E,mU];congr 1;omega
 have aT:=F.lt;obtain⟨h,hh⟩:=Z9 w.heap.size;obtain⟨e,s⟩:=Z9 (w.drew.alloc (Q9 cur' 94));have S:za e h 94 cur':=by rw[s,hh];exact za.new w.drew 94 cur'
 have aI:za e g 94 cur:=by rw[s];exact za.alloc (show za w.drew g 94 cur from F) _
 have aN:za e g2 94 cx.toArray:=by rw[s];exact za.alloc (show za w.drew g2 94 cx.toArray from hx) _
 have aK:w.grownBy e (some g):=by rw[s];exact Yz (yM w _) _
 rw[<-s,<-hh] at H;obtain⟨e1,I,e3⟩:=Bf (L:=cur'.toList) (X:=cs.take (i*4)) (Y:=cs.drop (i*4)) (C:=cx) (sz:=4) (i:=i) (n:=n) aH hX aE K5 K5 (by rw[zV,V];omega);have aG:∀ty,(gw #[65,65] ty #[X1 (K4 ⟨h,i*4,K3⟩) (n+1-i) (G-i),X1 g2 1 1]).run Y3 e=.ok (eH ((1:Nat):Int)) (e.setRow h (cur'.toList.take (i*4)++cx++cur'.toList.drop (i*4+cx.length)).toArray):=λty =>
  XM vX e ty h (i*4) (n+1-i) (G-i) ⟨g2,0,K3⟩ 1 1 1 cur' 94 cx S (by simp only[lZ];split<;>omega) K5 (λj u B=>by
   rw[mP,aN.cell]
   simpa using B) K5 aB
 have T:=S.setRow (cur'.toList.take (i*4)++cx++cur'.toList.drop (i*4+cx.length)).toArray;have O:=aI.pN (k:=h) K5 (cur'.toList.take (i*4)++cx++cur'.toList.drop (i*4+cx.length)).toArray;have P:=vG aK (b:=h) K5 (cur'.toList.take (i*4)++cx++cur'.toList.drop (i*4+cx.length)).toArray;generalize aP:cur'.toList.take (i*4)++cx++cur'.toList.drop (i*4+cx.length)=d at *;obtain⟨f,aD⟩:=Z9 (e.setRow h d.toArray);rw[<-aD] at aG T O P;have U:za f.drew h 94 d.toArray:=T;have aJ:za f.drew g 94 cur:=O;have aL:w.grownBy f.drew (some g):=qe P (yM _ _);have aR:∀ty,(gw #[65,65] ty #[X1 (K4 ⟨h,(i+1)*4,K3⟩) (n+1-(i+1)) (G-(i+1)),X1 (K4 ⟨g,i*4,K3⟩) (n-i) (c-i)]).run Y3 f.drew=.ok (eH ((n-i:Nat):Int)) (f.drew.setRow h (d.take ((i+1)*4)++cs.drop (i*4)++d.drop ((i+1)*4+(cs.drop (i*4)).length)).toArray):=λty =>
  XM vX f.drew ty h ((i+1)*4) (n+1-(i+1)) (G-(i+1)) ⟨g,i*4,K3⟩ (n-i) (c-i) (n-i) d.toArray 94 (cs.drop (i*4)) U (by simp only[lZ];split<;>omega) aF (λj u B=>by
   rw[mP,aJ.cell];rw[mD,E,yI] at B;split at B
   .simpa using B
   .cases B) (by have:=I;simp only[zR,zV] at this ⊢;omega) (λu hu=>aA u (qV hu))
 have aU:=U.setRow (d.take ((i+1)*4)++cs.drop (i*4)++d.drop ((i+1)*4+(cs.drop (i*4)).length)).toArray;have aS:=vG aL (b:=h) K5 (d.take ((i+1)*4)++cs.drop (i*4)++d.drop ((i+1)*4+(cs.drop (i*4)).length)).toArray;generalize aQ:d.take ((i+1)*4)++cs.drop (i*4)++d.drop ((i+1)*4+(cs.drop (i*4)).length)=L2 at *;have E3:=nI (And.intro I e3);have E1:=nI e1;have HS:=nI V;have HH:=nI hh;clear e1 I e3 aP aQ s aD E F hx aI aN aK S T O P U aJ aL aB aA hX aM V aT aF aE N Z aH hh;have q:True:=trivial;have a0:(c:Int)<(n:Int)+1:=K5
 have aX:IntKind.i64.wrap ((n:Int)+1)=(n:Int)+1:=zg _;have aY:IntKind.i64.wrap ((i:Int)+1)=(i:Int)+1:=zg _;have aZ:IntKind.i64.wrap ((n:Int)+1-(i:Int))=((n+1-i:Nat):Int):=by rw[zg _];omega
 go_enter func145,ntmps145
 go_wp2_with (first
  |(refine zp rfl (Xc (k:=i) vX rfl rfl rfl K5) ?_)
  |(refine zp rfl (Qc (i:=i) vX rfl rfl rfl K5 K5) ?_)
  |(refine zp rfl (wt rfl rfl rfl (H _)) ?_)
  | (at_builtin;refine fa _ rfl _ _ 65 65 rfl _ _ rfl rfl (aG _) ?_))
 refine zb.st (λ_=>True) 99 ?_;refine zb.q0 0 (X1 h (n+1) G) q ?_;refine zb.q0 1 (Y1 Q4 (i:Int)) q ?_;refine zb.q0 2 (Y1 Q4 1) q ?_;refine zb.q0 3 (Y1 Q4 ((i:Int)+1)) q ?_;simp only[Z8];refine zb.t0 4 (X1 (K4 ⟨h,(i+1)*4,K3⟩) (n+1-(i+1)) (G-(i+1))) rfl q (λW r=>by exact Qc (i:=i+1) vX rfl rfl rfl K5 K5) ?_;refine zb.q0 5 (X1 g n c) q ?_;refine zb.q0 6 (Y1 Q4 (i:Int)) q ?_;simp only[Z8];refine zb.t0 7 (X1 (K4 ⟨g,i*4,K3⟩) (n-i) (c-i)) rfl q (λW r=>by exact Qc (i:=i) vX rfl rfl rfl K5 K5) ?_;simp only[Z8];refine zb.n 8 (zb.opV (w':=f.drew.setRow h L2.toArray) (eH ((n-i:Nat):Int)) rfl rfl (by exact SU rfl rfl rfl (aR _)) ⟨λ_=>q,zb.dn ?_⟩);simp only[Z8];go_wp2;go_ret;exact⟨h,G,rfl,.inr (by rw[HH.out];exact zG _),aC,aO,⟨_,aU,by have:=E3.out;simp only[zR,zV,HS.out] at this ⊢;omega,by rw[E1.out]⟩,aS⟩
theorem AT {base:Nat}{v:Value}(f:w.ownsRow base 94 4 v n cs)(q:base<=w.heap.size)(hn:n<=100000)(s:za w g2 94 cx.toArray)(E:cx.length=4)(B:∀u∈cx,u.oneCell'=true):nK Y3 145 #[v,Y1 Q4 (n:Int),X1 g2 1 1] w λe w'=>∃v',e=Y0 v'/\w'.ownsRow base 94 4 v' (n+1) (cs++cx)/\w.grownBy w' v.ownBlock:=by
 have r:yl w w.heap.size 4 (K4 ⟨g2,0,K3⟩) 1 1 cx:=⟨zG _,by decide,(λe=>by cases e),by omega,B,λ_=>⟨g2,0,rfl,s.lt,λj u C=>by
  rw[qA,s.cell]
  simpa using C⟩⟩
 have F:(n:Int)<=(n:Int):=Int.le_refl _;rcases f.2 with⟨rfl,rfl⟩|⟨g,cap,cur,rfl,hb,hg,hle2,hm,hs,ht⟩
 .go_enter func145,ntmps145
  go_wp2_with (at_builtin;refine xg rfl vX _ _ rfl base _ 0 cs rfl f _ _ 1 1 cx rfl r K7 K7 q ?_;intro v5 w5 h d)
  go_ret;exact⟨v5,rfl,h,d⟩
 .go_enter func145,ntmps145
  go_wp2_with (at_builtin;refine xg rfl vX _ _ rfl base _ n cs rfl f _ _ 1 1 cx rfl r (by unfold gP;omega) K5 q ?_;intro v5 w5 hJ d)
  all_goals (go_ret;exact⟨_,rfl,hJ,d⟩)
theorem Oh {base:Nat}{v:Value}(j:w.ownsRow base 94 4 v n cs)(H:base<=w.heap.size)(hi:i<=n)(hn:n<=100000)(q:za w g2 94 cx.toArray)(d:cx.length=4)(f:∀u∈cx,u.oneCell'=true)(r:∀u∈cs,u.oneCell'=true)(N:v.ownBlock≠some g2):nK Y3 145 #[v,Y1 Q4 (i:Int),X1 g2 1 1] w λe w'=>∃v',e=Y0 v'/\w'.ownsRow base 94 4 v' (n+1) (cs.take (i*4)++cx++cs.drop (i*4))/\w.grownBy w' v.ownBlock:=by
 have I:=j.1
 by_cases L:i=n
 .subst L;rw[qE K5,me K5,qW];exact AT j H hn q d f
 .rcases j.2 with⟨rfl,rfl⟩|⟨g,cap,cur,rfl,hb,hg,hle2,hm,hs,ht⟩
  .omega
  .have key:nK Y3 145 #[X1 g n cap,Y1 Q4 (i:Int),X1 g2 1 1] w (SJ w g n i cs cx):=by
    by_cases s:n+1<=cap
    .exact CA hg hs ht.symm K5 s hm hn q d f r (λe=>N (by rw[e];rfl))
    .exact CB hg hs ht.symm K5 hle2 s hn q d f r
   refine key.mono ?_;rintro e w' ⟨h,c',rfl,hh,h1,h2,⟨B,C,E,F⟩,G⟩;exact⟨_,rfl,⟨by rw[zH,zH,qB,qF,I,d];omega,.inr ⟨h,c',B,rfl,by omega,C,h1,h2,E,F⟩⟩,G⟩
end
theorem Vo:∀(l:List xG) (i:Nat),(vY l).take (i*4)=vY (l.take i)
 | [],i=>by simp[vY]
 | c::l,0=>by simp[vY]
 | c::l,i+1=>by have e:vY (c::l)=zl c++vY l:=rfl;have d:(zl c).length=4:=rfl;rw[e,List.take_append,d,show (i+1)*4-4=i*4 by omega,Vo l i,qE (by rw[d];omega)];rfl
theorem Vp:∀(l:List xG) (i:Nat),(vY l).drop (i*4)=vY (l.drop i)
 | [],i=>by simp[vY]
 | c::l,0=>by simp[vY]
 | c::l,i+1=>by have e:vY (c::l)=zl c++vY l:=rfl;have d:(zl c).length=4:=rfl;rw[e,List.drop_append,d,show (i+1)*4-4=i*4 by omega,Vp l i,me (by rw[d];omega)];rfl
theorem Ez (l m:List xG):vY (l++m)=vY l++vY m:=by unfold vY;rw[qX,List.flatten_append]
def QH (l:List xG)(i:Nat)(c:xG):List xG:=l.take i++c::l.drop i
theorem Xm (l:List xG)(i:Nat)(c:xG)(hi:i<=l.length):(QH l i c).length=l.length+1:=by
 unfold QH;rw[zH,zK,qB,qF];omega
theorem CW (l:List xG)(i:Nat)(c:xG):vY (QH l i c)=(vY l).take (i*4)++zl c++(vY l).drop (i*4):=by
 rw[Vo,Vp];unfold QH;rw[Ez,qQ];rfl
theorem Sj (w:World)(A:Y5)(c:Nat)(l:List xG)(h:yl w w.heap.size 4 A l.length c (vY l))(hl:l.length<=100000)(i:Nat)(hi:i<=l.length)(g2:Nat)(x:xG)(r:za w g2 94 (zl x).toArray):nK Y3 88 #[X1 A l.length c,Y1 Q4 (i:Int),X1 g2 1 1] w λe w'=>∃s c',e=Y0 (X1 s (l.length+1) c')/\w'.ownsRow w.heap.size 94 4 (X1 s (l.length+1) c') (l.length+1) (vY (QH l i x))/\nH w.heap.size w w':=by
 have j:=Xx w A c l h K5;unfold GU at j;have I:=r.lt
 go_enter func88,ntmps88
 go_wp2_with fail
 refine j.mono ?_;rintro e N ⟨E,c2,rfl,own2,d⟩;have B:=r.below d I;have L:(Value.slice E l.length c2).ownBlock≠some g2:=λe=>by have:=zj own2 g2 e;omega
 have q:=Oh (i:=i) own2 d.size hi hl B rfl (by
  intro u hu;simp[zl] at hu
  rcases hu with rfl|rfl|rfl|rfl<;>rfl) (Ym l) L
 rw[<-CW] at q;have H:=zj own2;clear j h r B own2
 go_wp2_with fail
 refine q.mono ?_;rintro e w3 ⟨v3,rfl,C,G⟩;have F:nH w.heap.size w w3:=d.grown G d.size H;obtain⟨f,c3,rfl⟩:∃f c3,v3=X1 f (l.length+1) c3:=by
  rcases C.2 with⟨rfl,e⟩|⟨g,cap,cur,e,_⟩
  .omega
  .exact⟨_,_,e⟩
 clear q;go_wp2;go_ret;exact⟨f,c3,rfl,C,F⟩
theorem Vx {ρ:nO->Value}{w:World}{o:nh}{x:nO}(m:xG)(d:o.op=.buildSlice 65 1 #[(0,x)])(h1:ρ x=Q0 (zl m).toArray):(nQ ρ o).run Y3 w=.ok (.value (X1 w.heap.size 1 1)) (w.alloc (Q9 (zl m).toArray 94)):=by
 unfold zl at *;simp[nQ,d,h1,go_sem,nM]
section
variable {W0 W W':World}{K:xB}{p t:Nat}{k:Int}{v v':yj}{st last st' last':qj}{mk mk':Value}{ms:List xo}
end
section
variable {W0 W W':World}{K:xB}{p t:Nat}{k:Int}{v v':yj}{st last st' last':qj}{mk mk':Value}{ms:List xo}
theorem Sr (w:World)(s:Value)(d u:ByteArray)(hu:u.size<=60):nK Y3 46 #[Q0 #[s],X9 d,X9 u] w λe w'=>e=Y0 (Q0 #[X9 d,X9 u,Y1 Q4 0,Y1 Q4 0])/\nH w.heap.size w w':=by
 have B:(u.size:Int)<=60:=K5
 obtain⟨r,f,j,-,b6⟩:=Bz w 92 #[s] 94 #[X9 ⟨#[]⟩,X9 ⟨#[]⟩,Y1 Q4 0,Y1 Q4 0];have b7:=b6.setRow #[X9 d,X9 u,Y1 Q4 0,Y1 Q4 0];have q:=zf j (Nat.le_succ w.heap.size) #[X9 d,X9 u,Y1 Q4 0,Y1 Q4 0];have h:=nI f.symm;clear f hu
 go_enter func46,ntmps46
 go_wp2_with (rw[h.out];refine zt rfl 94 (.tmp 6) (.tmp 17) rfl (w.heap.size+1) rfl rfl ql b6 rfl rfl (zw rfl rfl rfl rfl) ?_)
 exact nu (yg rfl (yx (g:=w.heap.size+1) 6 rfl ql b7 rfl)) rfl ⟨rfl,q⟩
end
section
variable {W0 W W':World}{K:xB}{p t:Nat}{v v' v'':yj}{st last st' last':qj}{mk mk':Value}{ms:List xo}
theorem ze.fresh {w f w2:World}(h2:ze (qi K p v') f w2)(h1:ze (qi K p v) w f)(hn:zz K w v v')(hs:w.heap.size<=f.heap.size):ze (qi K p v) w w2 :=
 ⟨h2.os.trans h1.os,h2.tape.trans h1.tape,h2.output.trans h1.output,zT h1.size h2.size,λk h d=>(h2.block k (zO h hs) (λe=>by
  rcases e with e|e
  .exact d (.inl e)
  .rcases hn k e with e|e
   .exact d (.inr e)
   .omega)).trans (h1.block k h d)⟩
theorem zz.trans {w d:World}(h1:zz K w v v')(h2:zz K d v' v'')(hs:w.heap.size<=d.heap.size):zz K w v v'':=λk f=>by
 rcases h2 k f with e|e
 .exact h1 k e
 .exact .inr K5
end
section
variable {W0 W W':World}{K:xB}{p t:Nat}{v v':yj}{st last st' last':qj}{mk mk':Value}{ms:List xo}
end
section
variable {W0 W W':World}{K:xB}{p t:Nat}{k:Int}{v v':yj}{st last st' last':qj}{mk mk':Value}{ms:List xo}
theorem Sq (h:zy W0 K p t k v st last true mk ms W)(hK:K.Ok)(hN:v.N<=800000)(n:Int)(hn:1<=n/\n<st.size)(hP:n<(K.P:Int))(hT:¬ jD K v.D)(x:ym)(Ac:Y5)(cc:Nat)(Ak:Y5)(ck:Nat)(Ai:Y5)(ci:Nat)(V:XX W W.heap.size x Ac cc Ak ck Ai ci)(hl:x.cells.length<=1000)(S:x.keys.length<=1000)(T:x.kids.length<=1001)(L:yh x)(O:(qg x).length<=512):nK Y3 47 #[Q0 #[Y9 t],Y1 Q4 n,Q0 (zx x Ac cc Ak ck Ai ci)] W λe w'=>∃v',(∃u,e=Y0 u)/\zy W0 K p t k v' st last true mk ms w'/\ra K v v' n (xx x)/\zz K W v v'/\ze (qi K p v) W w':=by
 obtain⟨W1,f⟩:=Z9 ((W.alloc (Q9 #[Y9 t] 92)).alloc (Q9 (zx x Ac cc Ak ck Ai ci) 69));have j:nH W.heap.size W W1:=by rw[f];exact QU _ _ _
 have b1:za W1 W.heap.size 92 #[Y9 t]:=by rw[f];exact(za.new W _ _).alloc _
 have b5:za W1 (W.heap.size+1) 69 (zx x Ac cc Ak ck Ai ci):=by have:=za.new (W.alloc (Q9 #[Y9 t] 92)) 69 (zx x Ac cc Ak ck Ai ci);rw[nG] at this;rw[f];exact this
 have h1:=h.grow j;have C:=V.grow j;have r:=Et W1 x Ac cc Ak ck Ai ci C hl S T L O;have s:∀q,nH W1.heap.size W1 q->_:=λq d=>jG (h1.grow d) hK hN n hn hP hT x Ac cc Ak ck Ai ci (C.grow d) hl S T L O
 obtain⟨N,B⟩:=Z9 (zx x Ac cc Ak ck Ai ci);have I:N.size=4:=by rw[B];rfl
 simp only[<-B] at r s b5 f ⊢;have X:=nI f.symm;clear f V C B h h1
 go_enter func47,ntmps47
 go_wp2_with (first
  | (rw[X.out];refine yO rfl 69 (.tmp 5) rfl (W.heap.size+1) rfl zm b5 I ?_))
 refine r.mono ?_;rintro e q ⟨rfl,d⟩;have E:=s q d;have F:=b5.below d b5.lt;have Z:=(b1.below d b1.lt).boxed;have G:=j.trans (d.mono j.size);clear r s b1 b5
 go_wp2_with (first
  | (refine yO rfl 69 (.tmp 5) rfl (W.heap.size+1) rfl zm F I ?_))
 refine E.mono ?_;rintro e w3 ⟨v',⟨z,rfl⟩,h3,aB,U,H⟩;have hG:ze (qi K p v) W w3:=(ze.below G).trans H;have aA:zz K W v v':=U.mono G.size;clear E F Z H U;go_wp2;refine nT (results_none rfl _ _ _) rfl ?_;exact⟨v',⟨_,rfl⟩,h3,aB,aA,hG⟩
end
section
variable {W0 W W':World}{K:xB}{p t:Nat}{v v':yj}{st last st' last':qj}{mk mk':Value}{ms:List xo}
end
section
variable {W0 W W':World}{K:xB}{p t:Nat}{v v':yj}{st last st' last':qj}{mk mk':Value}{ms:List xo}
end
section
variable {W0 W W':World}{K:xB}{p t:Nat}{v v':yj}{st last st' last':qj}{under:Bool}{mk mk':Value}{ms:List xo}
end
theorem Re (w:World)(s:Value)(f u:ByteArray)(hu:u.size<=1000000):nK Y3 100 #[Q0 #[s],Q0 (zl ⟨f,u,0,0⟩).toArray] w λe w'=>e=Y0 (X9 u)/\nH w.heap.size w w':=by
 obtain⟨W1,d⟩:=Z9 (((w.alloc (Q9 #[s] 92)).alloc (Q9 #[X9 f,X9 u,Y1 Q4 0,Y1 Q4 0] 94)).alloc (Q9 #[Y9 none,X1 none 0 0] 241));have T:nH w.heap.size w W1:=by rw[d];exact YK _ _ _ _
 have b2:za W1 w.heap.size 92 #[s]:=by rw[d];exact((za.new w _ _).alloc _).alloc _
 have b3:za W1 (w.heap.size+1) 94 #[X9 f,X9 u,Y1 Q4 0,Y1 Q4 0]:=by have:=(za.new (w.alloc (Q9 #[s] 92)) 94 #[X9 f,X9 u,Y1 Q4 0,Y1 Q4 0]).alloc (Q9 #[Y9 none,X1 none 0 0] 241);rw[nG] at this;rw[d];exact this
 have b5:za W1 (w.heap.size+1+1) 241 #[Y9 none,X1 none 0 0]:=by have:=za.new ((w.alloc (Q9 #[s] 92)).alloc (Q9 #[X9 f,X9 u,Y1 Q4 0,Y1 Q4 0] 94)) 241 #[Y9 none,X1 none 0 0];rw[nG,nG] at this;rw[d];exact this
 have V:W1.heap.size=w.heap.size+1+1+1:=by rw[d,nG,nG,nG]
 have c3:W1.cell? ⟨w.heap.size+1,1,K3⟩=some (X9 u):=by rw[b3.cell];rfl
 have F:=c3;rw[d] at F;have B:=wN (w.heap.size+1+1) u W1 b5 hu;have I:=nI d.symm;clear d c3;unfold zl
 go_enter func100,ntmps100
 go_wp2_with fail
 rw[I.out];refine B.mono ?_;rintro e w2 ⟨rfl,G,h⟩;have C:=b2.below h K5;have E:=b3.below h K5;have X:=h.size;have L:=C.boxed;have P:nH w.heap.size w w2:=T.trans (h.mono K5);clear B F b2 b3 b5;have q:=KY w2 s (.func (.func 158) #[] #[Y9 (w.heap.size+1+1:Nat)]) f u;unfold zl at q
 go_wp2_with (first
  | (refine yp ql E ?_))
 refine q.mono ?_;rintro e w3 ⟨⟨z,rfl⟩,j⟩;have H:Lib.BuilderAt 241 5 (w.heap.size+1+1) (w.heap.size+1+1) (Y9 (w.heap.size+1+1:Nat)) (Lib.byteCells u.data.toList) w3:=by obtain⟨h1,v,h2,N,O⟩:=G;exact⟨h1,v,(j.block _ K5).trans h2,qn N j,O⟩
 have Z:=j.size;have r:=Ca _ _ _ w3 (.inr H) K5;have S:=P.trans (j.mono K5);clear q G H C E L
 go_wp2_with fail
 refine r.mono ?_;rintro e w4 ⟨rfl,U⟩;clear r;go_wp2;go_ret;exact⟨rfl,S.trans (U.mono K5)⟩
def JA (D:Int->Option Y4):Int->List Int->Prop
 | f,[]=>f=0
 | f,n::r=>f=n/\∃g,D n=some (kQ g)/\JA D g r
structure xd (K:xB)(D:Int->Option Y4)(st:qj)(used free:List Int):Prop where
 nd:(used++free).Nodup
 pZ:∀n∈used++free,1<=n/\n<st.size
 oT:(used.length:Int)+(free.length:Int)+1=st.size
 sup:∀p b,D p=some b->p∈used++free
 at_:∀n∈used++free,(D n).isSome=true
 ch:JA D st.first free
 mn:st.many=(free.length:Int)
 sz:st.size<=K.pg
theorem JA.pR {D D':Int->Option Y4}:∀{l:List Int} {f:Int},JA D f l->(∀n∈l,D' n=D n)->JA D' f l
 | [],f,h,_=>h
 | n::r,f,⟨h1,g,h2,h3⟩,hk=>⟨h1,g,(hk n K9).trans h2,h3.pR λm d=>hk m (by simp[d])⟩
theorem JA.next {D:Int->Option Y4}{l:List Int}{f s:Int}(h:JA D f l)(d:∀n∈l,1<=n/\n<s)(hs:1<=s):0<=f/\f<s:=by
 cases l with
 | nil =>
  obtain rfl:f=0:=h;omega
 | cons n r =>
  obtain⟨rfl,_⟩:=h;have:=d f K9;omega
section
variable {K:xB}{D D':Int->Option Y4}{st:qj}{used used' free:List Int}
theorem xd.ge (h:xd K D st used free):1<=st.size:=by have:=h.oT;omega
theorem xd.perm (h:xd K D st used free)(d:used'.Perm used):xd K D st used' free:=by
 have hq:=d.append_right free;exact⟨hq.nodup_iff.2 h.nd,λn hn=>h.pZ n (hq.mem_iff.1 hn),by rw[d.length_eq];exact h.oT,λp b e=>hq.mem_iff.2 (h.sup p b e),λn hn=>h.at_ n (hq.mem_iff.1 hn),h.ch,h.mn,h.sz⟩
theorem xd.put (h:xd K D st used free){n:Int}(hn:n∈used)(y:Y4):xd K (λj=>if j=n then some y else D j) st used free:=by
 refine⟨h.nd,h.pZ,h.oT,λp b e => ?_,λm d => ?_,h.ch.pR λm d => ?_,h.mn,h.sz⟩
 .replace e:(if p=n then some y else D p)=some b:=e
  by_cases f:p=n
  .rw[f];exact yH _ hn
  .rw[if_neg f] at e;exact h.sup p b e
 .show (if m=n then some y else D m).isSome=true
  split
  .rfl
  .exact h.at_ m d
 .have:m≠n:=λe=>(List.nodup_append.1 h.nd).2.2 n hn m d e.symm
  show (if m=n then some y else D m)=D m
  rw[if_neg this]
theorem xd.loose (h:xd K D st used free)(d:K.Ok):¬ jD K D:=λht=>by
 have:=ht ((used++free).map Int.toNat) (λp b e=>qR.2 ⟨p,h.sup p b e,rfl⟩);rw[qH,zH] at this;have h1:=h.oT;have h2:=h.sz;have f:=d.hP;have j:=d.rp;omega
theorem xd.df {n:Int}(h:xd K D st (n::used) free):xd K (λj=>if j=n then some (kQ st.first) else D j) {st with first:=n,many:=st.many+1} used (n::free):=by
 have hq:(used++n::free).Perm (n::used++free):=List.perm_middle;have q:∀m∈free,m≠n:=λm d e=>(List.nodup_append.1 h.nd).2.2 n K9 m d e.symm
 refine⟨hq.nodup_iff.2 h.nd,λm d=>h.pZ m (hq.mem_iff.1 d),?_,λp b e=>hq.mem_iff.2 ?_,λm d => ?_,⟨rfl,st.first,?_,h.ch.pR λm d => ?_⟩,?_,h.sz⟩
 .have:=h.oT;simp only[zK] at this ⊢;show _=st.size
  omega
 .replace e:(if p=n then some (kQ st.first) else D p)=some b:=e
  by_cases f:p=n
  .rw[f];simp
  .rw[if_neg f] at e;exact h.sup p b e
 .show (if m=n then some (kQ st.first) else D m).isSome=true
  split
  .rfl
  .exact h.at_ m (hq.mem_iff.1 d)
 .simp
 .show (if m=n then some (kQ st.first) else D m)=D m
  rw[if_neg (q m d)]
 .show st.many+1=_
  rw[h.mn];simp
theorem xd.old {n:Int}(h:xd K D st used (n::free))(hf:st.first=n){g:Int}(r:D n=some (kQ g))(hc:JA D g free)(y:Y4):xd K (λj=>if j=n then some y else D j) {st with first:=g,many:=st.many-1} (n::used) free:=by
 have hq:(n::used++free).Perm (used++n::free):=List.perm_middle.symm;have q:∀m∈free,m≠n:=λm d e=>by have h1:=(List.nodup_append.1 h.nd).2.1;exact(List.nodup_cons.1 h1).1 (e▸d)
 refine⟨hq.nodup_iff.2 h.nd,λm d=>h.pZ m (hq.mem_iff.1 d),?_,λp b e=>hq.mem_iff.2 ?_,λm d => ?_,hc.pR λm d => ?_,?_,h.sz⟩
 .have:=h.oT;simp only[zK] at this ⊢;show _=st.size
  omega
 .replace e:(if p=n then some y else D p)=some b:=e
  by_cases f:p=n
  .rw[f];simp
  .rw[if_neg f] at e;exact h.sup p b e
 .show (if m=n then some y else D m).isSome=true
  split
  .rfl
  .exact h.at_ m (hq.mem_iff.1 d)
 .show (if m=n then some y else D m)=D m
  rw[if_neg (q m d)]
 .show st.many-1=_
  rw[h.mn];simp
theorem xd.new (h:xd K D st used [])(hs:st.size<K.pg)(y:Y4):xd K (λj=>if j=st.size then some y else D j) {st with size:=st.size+1} (st.size::used) []:=by
 have q:∀m∈used,m≠st.size:=λm d e=>by have:=h.pZ m (by simp[d]);omega
 have r:=h.ge;refine⟨?_,λm d => ?_,?_,λp b e => ?_,λm d => ?_,h.ch,h.mn,?_⟩
 .have h1:=h.nd;rw[qW] at h1 ⊢;exact List.nodup_cons.2 ⟨λe=>q _ e rfl,h1⟩
 .show 1<=m/\m<st.size+1
  rw[qW] at d;rcases qN.1 d with rfl|d
  .omega
  .have:=h.pZ m (by simp[d]);omega
 .have:=h.oT;simp only[zK,zY] at this ⊢;show _=st.size+1
  omega
 .replace e:(if p=st.size then some y else D p)=some b:=e
  by_cases f:p=st.size
  .simp[f]
  .rw[if_neg f] at e;have:=h.sup p b e;simp at this ⊢;exact .inr this
 .show (if m=st.size then some y else D m).isSome=true
  split
  .rfl
  .next hne =>
   refine h.at_ m ?_;simp at d ⊢;exact d.resolve_left hne
 .show st.size+1<=K.pg
  omega
end
section
variable {W0 W W':World}{K:xB}{p t:Nat}{k:Int}{v v':yj}{st last st' last':qj}{mk mk':Value}{ms:List xo}{used free:List Int}
theorem Yb (h:zy W0 K p t k v st last true mk ms W)(B:K.Ok)(hN:v.N<=700000)(d:xd K v.D st used free)(hr:(used.length:Int)+1<K.pg):nK Y3 49 #[Q0 #[Y9 t]] W λe w'=>∃n v' st' j,e=Y0 (Y1 Q4 n)/\zy W0 K p t k v' st' last true mk ms w'/\ra K v v' n YW/\xd K v'.D st' (n::used) j/\n∉used/\st'.roots=st.roots/\zz K W v v'/\ze (qi K p v) W w':=by
 have aK:=B.hP;have aL:=B.P2;have aN:=d.sz;have H:=d.ge;have U:=d.oT;have V:=d.mn;have F:=d.loose B;have aI:((free.length:Nat):Int)<=1000:=K5
 have Z:=d.ch.next (s:=st.size) (λn hn=>d.pZ n (List.mem_append_right _ hn)) H;obtain⟨W1,G,u,-⟩:=Qp W 92 #[Y9 t];have h1:=h.grow u;have S:=h1.tp;rw[G] at S
 have O:=Tg h1.pa B hN ⟨H,by omega⟩ ⟨Z.1,by omega⟩ ⟨by omega,by omega⟩ (λhf=>by
  cases free with
  | nil=>exact absurd d.ch hf
  | cons m r =>
   obtain⟨e,g,C,_⟩:=d.ch;rw[e,C]
   rfl)
 have P:∀n x v' st',Cm K v v' st st' n x->∃j,x=0/\ra K v v' n YW/\xd K v'.D st' (n::used) j/\n∉used/\st'.roots=st.roots:=λn x v' st' hF=>by
  cases free with
  | nil =>
   have hf:st.first=0:=d.ch;simp only[zY] at U;obtain⟨h1,h2,q,f⟩:=hF.new hf K5 F;refine⟨[],h1,⟨hF.nn,hF.ii,hF.yy,hF.sz,by rw[h2];exact f⟩,?_,?_,by rw[q]⟩
   .rw[f,q,h2];exact d.new K5 YW
   .rw[h2];intro I;have:=d.pZ st.size (yH _ I);omega
  | cons m r =>
   obtain⟨e,g,C,hc⟩:=d.ch;have aM:=d.pZ m K9;have aJ:=hc.next (s:=st.size) (λn hn=>d.pZ n (by simp[hn])) H;have hv:v.view K st.first.toNat=kQ g:=by rw[jv,show ((st.first.toNat:Nat):Int)=m by omega,C];rfl
   obtain⟨h1,h2,q,f⟩:=hF.old K5 hv aJ K5 (by rw[V];simp only[zK];omega) F;rw[e] at h2 f;refine⟨r,h1,⟨hF.nn,hF.ii,hF.yy,hF.sz,by rw[h2];exact f⟩,?_,?_,by rw[q]⟩
   .rw[f,q,h2];exact d.old e C hc YW
   .rw[h2];exact λI=>(List.nodup_append.1 d.nd).2.2 m I m K9 rfl
 have aF:=nI G.symm;clear G h F d Z aI V U
 go_enter func49,ntmps49
 go_wp2_with fail
 rw[aF.out];refine O.mono ?_;rintro e w2 ⟨n,x,v',st',rfl,aA,hF,L,E⟩;obtain⟨j,rfl,aH,T,X,aB⟩:=P n x v' st' hF;have h2:=h1.pS aA E L;have hG:ze (qi K p v) W w2:=(ze.below u).trans E;have aG:zz K W v v':=L.mono u.size;have aD:=nI T;have aC:=nI X;have aE:=nI aB;clear aA hF L E O h1 S u P T X aB
 go_wp2_with (first
  | (go_at_call 51;refine(kA _).mono ?_;rintro e w3 ⟨⟨_,rfl⟩,rfl⟩))
 go_ret;exact⟨n,v',st',j,rfl,h2,aH,aD.out,aC.out,aE.out,aG,hG⟩
end
section
variable {W0 W W' wx:World}{K:xB}{p t:Nat}{k:Int}{v v':yj}{st last:qj}{under:Bool}{mk:Value}{ms:List xo}{M:Nat->Prop}{x:ym}{Ac Ak Ai:Y5}{cc ck ci:Nat}
theorem zy.oE (h:zy W0 K p t k v st last under mk ms W):∀j,qi K p v j->j<W.heap.size:=λj d=>by
 rcases d with rfl|d
 .exact h.pa.pb.lt
 .exact h.pa.ca.oE j d
def QE (M:Nat->Prop)(n:Nat)(A:Y5):Prop:=0<n->∀g o,A=some ⟨g,o,K3⟩->¬ M g
structure yc (W:World)(K:xB)(p:Nat)(v:yj)(x:ym)(Ac:Y5)(cc:Nat)(Ak:Y5)(ck:Nat)(Ai:Y5)(ci:Nat):Prop where
 is:XX W W.heap.size x Ac cc Ak ck Ai ci
 c:QE (qi K p v) x.cells.length Ac
 k:QE (qi K p v) x.keys.length Ak
 i:QE (qi K p v) x.kids.length Ai
theorem yl.pT {sz n c:Nat}{A:Y5}{cs:Y8}(h:yl W W.heap.size sz A n c cs)(hf:QE M n A)(f:ze M W W'):yl W' W'.heap.size sz A n c cs:=by
 refine⟨h.le,h.max,h.nil,h.len,h.one,λd => ?_⟩;obtain⟨g,o,e,q,s⟩:=h.pO d;refine⟨g,o,e,zO q f.size,λj u r => ?_⟩;rw[<-s j u r];exact World.cell?_of_block (w:=W) (f.block g q (hf d g o e))
theorem QE.next {sz n c:Nat}{A:Y5}{cs:Y8}(h:yl W W.heap.size sz A n c cs)(hf:QE (qi K p v) n A)(hn:zz K W v v'):QE (qi K p v') n A:=λj g o e d=>by
 obtain⟨q,o',f,r,_⟩:=h.pO j;rw[e] at f;injection f with f
 injection f with e1
 subst e1;rcases d with d|d
 .exact hf j g o e (.inl d)
 .rcases hn g d with d|d
  .exact hf j g o e (.inr d)
  .omega
theorem yc.pS (h:yc W K p v x Ac cc Ak ck Ai ci)(d:ze (qi K p v) W W')(hn:zz K W v v'):yc W' K p v' x Ac cc Ak ck Ai ci :=
 ⟨⟨h.is.c.pT h.c d,h.is.k.pT h.k d,h.is.i.pT h.i d⟩,h.c.next h.is.c hn,h.k.next h.is.k hn,h.i.next h.is.i hn⟩
theorem yc.grow (h:yc W K p v x Ac cc Ak ck Ai ci)(hB:nH W.heap.size W W'):yc W' K p v x Ac cc Ak ck Ai ci:=⟨h.is.grow hB,h.c,h.k,h.i⟩
theorem yc.new (h:zy W0 K p t k v st last under mk ms wx)(f:XX W W.heap.size x Ac cc Ak ck Ai ci)(hn:VK wx.heap.size Ac Ak Ai):yc W K p v x Ac cc Ak ck Ai ci :=
 ⟨f,λ_ g o e d=>by have:=h.oE g d;have:=hn g o (.inl e);omega,λ_ g o e d=>by have:=h.oE g d;have:=hn g o (.inr (.inl e));omega,λ_ g o e d=>by have:=h.oE g d;have:=hn g o (.inr (.inr e));omega⟩
theorem yc.own (h:zy W0 K p t k v st last under mk ms wx)(d:XX W W.heap.size x Ac cc Ak ck Ai ci)(hn:xm W wx.heap.size x Ac cc Ak ck Ai ci):yc W K p v x Ac cc Ak ck Ai ci:=yc.new h d hn.rows
theorem yl.oM {sz n c:Nat}{A:Y5}{cs:Y8}(h:yl W W.heap.size sz A n c cs){b:Nat}(q:W.heap.size<=b):QE (λk=>k=b) n A:=λf g o e s=>by
 obtain⟨j,o',d,r,_⟩:=h.pO f;rw[e] at d;injection d with d
 injection d with e1
 omega
theorem yc.box (d:yc W K p v x Ac cc Ak ck Ai ci)(h:yc W' K p v' x Ac cc Ak ck Ai ci){b:Nat}(e:W.heap.size<=b)(cs:Y7):yc (W'.setRow b cs) K p v' x Ac cc Ak ck Ai ci :=
 ⟨⟨h.is.c.pT (d.is.c.oM e) (qm _ _ _),h.is.k.pT (d.is.k.oM e) (qm _ _ _),h.is.i.pT (d.is.i.oM e) (qm _ _ _)⟩,h.c,h.k,h.i⟩
def YN (b:Nat)(x:ym)(Ac Ak Ai:Y5):Prop:=∀g o,(0<x.cells.length/\Ac=some ⟨g,o,K3⟩\/0<x.keys.length/\Ak=some ⟨g,o,K3⟩\/0<x.kids.length/\Ai=some ⟨g,o,K3⟩)->b<=g
theorem YN.less {b d:Nat}(h:YN b x Ac Ak Ai)(f:d<=b):YN d x Ac Ak Ai:=λg o e=>zT f (h g o e)
theorem VK.ge {b:Nat}(h:VK b Ac Ak Ai):YN b x Ac Ak Ai:=λg o e=>h g o (by
 rcases e with e|e|e
 .exact .inl e.2
 .exact .inr (.inl e.2)
 .exact .inr (.inr e.2))
theorem yc.dZ (h:yc W' K p v' x Ac cc Ak ck Ai ci){b j:Nat}(f:YN j x Ac Ak Ai)(r:b<j)(cs:Y7):yc (W'.setRow b cs) K p v' x Ac cc Ak ck Ai ci :=
 ⟨⟨h.is.c.pT (M:=λk=>k=b) (λd g o e q=>by have:=f g o (.inl ⟨d,e⟩);omega) (qm _ _ _),h.is.k.pT (M:=λk=>k=b) (λd g o e q=>by have:=f g o (.inr (.inl ⟨d,e⟩));omega) (qm _ _ _),h.is.i.pT (M:=λk=>k=b) (λd g o e q=>by have:=f g o (.inr (.inr ⟨d,e⟩));omega) (qm _ _ _)⟩,h.c,h.k,h.i⟩
theorem yc.oW (h:yc W K p v x Ac cc Ak ck Ai ci){i:Nat}{m:Int}(d:x.kids[i]?=some m):∃g o,Ai=some ⟨g,o,K3⟩/\g<W.heap.size/\W.cell? ⟨g,o+i,K3⟩=K4 (Y1 Q4 m)/\i<x.kids.length:=by
 have hi:i<x.kids.length:=by
  rcases Nat.lt_or_ge i x.kids.length with h|h
  .exact h
  .rw[lB h] at d;cases d
 obtain⟨g,o,e,f,j⟩:=h.is.i.pO K5;refine⟨g,o,e,f,j i _ ?_,hi⟩;unfold ZJ;rw[mJ,d];rfl
end
theorem ka (n:Nat)(hn:n<=100000)(r:Y4):xN (jU n++r)=some (n,r):=by
 rw[Gy (Bd n K5 r) hn,fC]
theorem VZ (s:ByteArray)(hs:s.size<=100000)(r:Y4):jo (QT s++r)=some (s,r):=by
 have h2:s.data.toList.length=s.size:=zV;have e:Lv (QT s++r)=some (s.data.toList,(jU s.data.toList.length).length+s.data.toList.length):=by unfold Lv QT Il;rw[qQ,Bd _ K5];simp only[fC,List.take_left,zH];rw[if_pos K5]
 rw[Gw e,<-VS];have:(jU s.data.toList.length).length+s.data.toList.length=(QT s).length:=by unfold QT Il;rw[zH]
 rw[this,fC]
theorem OE {c:xG}(e:yr c.key=true)(h:xM c=true)(r:Y4):kK (jQ c++r)=some (c,r):=by
 obtain⟨key,val,f,size⟩:=c;unfold yr at e;simp only[decide_eq_true_eq] at e;unfold xM at h;unfold kK jQ;simp only at h ⊢;rw[qQ,qQ,VZ _ K5];simp only
 by_cases d:f=0
 .subst d;simp only[if_true,gN,decide_eq_true_eq,beq_iff_eq] at h;rw[ka _ K9];simp only[Int.toNat_zero,if_true];rw[VZ _ K5];simp only[h.2]
 .simp only[d,if_false,gN,decide_eq_true_eq] at h;unfold xY at h;simp only[gN,decide_eq_true_eq] at h;obtain⟨⟨⟨h1,h2⟩,j⟩,q⟩:=h;rw[ka _ K5];simp only[d,if_false];rw[if_neg K5,ka _ K5];simp only[gO,mA,xG.mk.injEq,and_true,true_and];refine⟨?_,by omega,by omega⟩;have:val.data.toList=[]:=by
   have:=List.isEmpty_iff.1 h2
   rwa [fU] at this
  rw[VS val,this];rfl
theorem OC {k:ByteArray}{i:Int}(d:yr k=true)(h:xY i=true)(r:Y4):jO (Uv k i++r)=some ((k,i),r):=by
 unfold yr at d;unfold xY at h;simp only[gN,decide_eq_true_eq] at d h;unfold jO Uv;rw[qQ,VZ _ K5];simp only;rw[ka _ K5];simp only[gO,mA,and_true,true_and];omega
theorem Jq {α : Type}{f:Y4->Option (α × Y4)}{g : α -> Y4}:∀(cs:List α) (r:Y4),(∀c∈cs,∀r,f (g c++r)=some (c,r))->yX f cs.length ((cs.map g).flatten++r)=some (cs,r)
 | [],r,_=>rfl
 | c::cs,r,h=>by rw[zL,yE,qQ,zK];unfold yX;rw[h c K9];simp only;rw[Jq cs r λc hc=>h c (by simp[hc])]
theorem Hq (keys:List ByteArray)(k0:Int)(rest:List Int)(h:rest.length=keys.length):qo ⟨false,[],keys,k0::rest⟩=(keys.zip rest).map λp=>Uv p.1 p.2:=by
 unfold qo;refine List.ext_getElem (by simp[h]) λj h1 h2 => ?_
 simp only[zN,zQ,qH,List.length_range] at h1;simp only[zN,zQ,List.getElem_map,List.getElem_range,List.getElem_zip];rw[qT,qT,zM h1,qZ,zM K5];rfl
theorem Jz (cells:List xG):qo ⟨true,cells,[],[]⟩=cells.map jQ:=by simp[qo]
theorem TV {x:ym}(e:yh x)(hl:(qg x).length<=512):kJ (xx x)=some x:=by
 have hF:KN x (xx x):=⟨e,hl,rfl⟩;rw[Lw hF];have F:=Qr e;have E:=jq x;have q:(qo x).length<=100000:=by
  have:∀l∈qo x,1<=l.length:=by
   intro l f;unfold qo at f;rcases zZ.1 f with f|f
   .obtain⟨c,_,rfl⟩:=qR.1 f;have:=El c.pj.toNat;unfold jQ;simp only[zH];omega
   .obtain⟨j,_,rfl⟩:=qR.1 f;have:=El (x.kids.getD (j+1) 0).toNat;unfold Uv;simp only[zH];omega
  have h2:∀(ls:List Y4),(∀l∈ls,1<=l.length)->ls.length<=ls.flatten.length:=by
   intro ls
   induction ls with
   | nil=>simp
   | cons a ls ih =>
    intro h;have:=h a K9;have:=ih λl hl=>h l (by simp[hl])
    simp only[zK,yE,zH];omega
  have:=h2 _ this;omega
 obtain⟨leaf,cells,keys,kids⟩:=x;cases leaf with
 | true =>
  obtain⟨h1,h2,d⟩:=e.leaf rfl;simp only at h1 h2 d;subst h1 h2;rw[Jz,qH] at q;unfold xx qg yn;rw[Jz];simp only[if_true,zW,List.drop_succ_cons,fD,qW,qQ,qH];rw[ka _ q];simp only;rw[Jq cells _ λc hc r=>OE (e.short c.key (qR.2 ⟨c,hc,rfl⟩)) (d c hc) r]
 | false =>
  obtain⟨h1,h2,d,s⟩:=e.inner rfl;simp only at h1 h2 d s;subst h1;cases kids with
  | nil=>simp at d
  | cons k0 rest =>
   have C:rest.length=keys.length:=by simpa using d
   rw[Hq _ _ _ C,qH] at q;have u:=s k0 K9;unfold xY at u;simp only[gN,decide_eq_true_eq] at u;unfold xx qg yn;rw[Hq _ _ _ C];simp only[nV,if_false,zW,List.drop_succ_cons,fD,qQ,qH,List.getD_cons_zero];rw[ka _ q];simp only;rw[ka _ K5];simp only;rw[Jq (keys.zip rest) _ λp B r=>OC (e.short p.1 (List.of_mem_zip B).1) (s p.2 (List.mem_cons_of_mem _ (List.of_mem_zip B).2)) r];simp only[gO,ym.mk.injEq,true_and];refine⟨?_,?_⟩
   .rw[List.map_fst_zip K5]
   .rw[List.map_snd_zip K5];congr 1;omega
end
end Go.Proofs.YtohmkffoojdahaaGreat
