/- Texts that the proof of WalkHolds leans on, part 4. -/
import Derived.BigQuiet
import Derived.Maps.RangeRun
import Derived.Lib.SliceRun
import Derived.Test.YtohmkffoojdahaaGreatWalkHoldsB3
open Array renaming getD_eq_getD_getElem?->zV
set_option linter.unusedVariables false
set_option linter.unusedSimpArgs false
set_option maxRecDepth 100000
set_option maxHeartbeats 8000000

open Array renaming setIfInBounds_comm->gy
open Go renaming Calls->pr,Addr->px,Operand->py,execOp->oB,TypeId->oD,Oper->oM,Program->oV,Act->oy,callFunc->dF,Exit->nF,YieldsIf->mV
open Go.Act renaming put->pj
open Go.ChangeMaps renaming setBlock->nI
open Go.Deferred renaming ofValue->nh
open Go.Region renaming ready->oP,binds->oT,noSelect->nc,Mode->gu,free->mJ,noSelect_spec->mU
open Go.Result renaming andThen->pv
open Go.RowKit renaming Below->ph
open Go.World renaming setRow->oe
open Go.Proofs.Tryz renaming prog->Y3
open Go.Proofs.Tryz
namespace Go.Proofs.YtohmkffoojdahaaGreat
section
open Go Go.RowKit vA
structure ze (Mu:Nat->Prop)(w w':World):Prop where
 os:w'.os=w.os
 tape:w'.tape=w.tape
 output:w'.output=w.output
 size:w.heap.size<=w'.heap.size
 block:∀k,k<w.heap.size->¬ Mu k->w'.heap[k]?=w.heap[k]?
namespace ze
variable {Mu:Nat->Prop}{a b c:World}
theorem refl (Mu:Nat->Prop)(a:World):ze Mu a a:=⟨rfl,rfl,rfl,zG _,λ_ _ _=>rfl⟩
theorem trans (h:ze Mu a b)(k:ze Mu b c):ze Mu a c:=⟨k.os.trans h.os,k.tape.trans h.tape,k.output.trans h.output,zT h.size k.size,λi j hn=>(k.block i (zO j h.size) hn).trans (h.block i j hn)⟩
theorem below (h:ph a.heap.size a b):ze Mu a b:=⟨h.os,h.tape,h.output,h.size,λk j _=>h.block k j⟩
theorem grown {row:Option Nat}(h:a.grownBy b row)(q:∀r,row=some r->Mu r∨a.heap.size<=r):ze Mu a b:=⟨h.os,h.tape,h.output,h.size,λk j hn=>h.block k j (λe=>by rcases q k e.symm with h|h;exact hn h;omega)⟩
theorem blk (h:ze Mu a b){g:Nat}{t:oD}{cs:Y7}(hb:za a g t cs)(hn:¬ Mu g):za b g t cs:=(h.block g hb.lt hn).trans hb
theorem cell (h:ze Mu a b){p:px}{v:Value}(hc:a.cell? p=some v)(hl:p.block<a.heap.size)(hn:¬ Mu p.block):b.cell? p=some v:=(oG (h.block _ hl hn)).trans hc
theorem toBelow (h:ze Mu a b){B:Nat}(hB:B<=a.heap.size)(j:∀k,Mu k->B<=k):ph B a b:=⟨h.os,h.tape,h.output,h.size,λk q=>h.block k (by omega) (λhn=>by have:=j k hn;omega)⟩
theorem more {Nu:Nat->Prop}(h:ze Mu a b)(q:∀k,Mu k->k<a.heap.size->Nu k):ze Nu a b:=⟨h.os,h.tape,h.output,h.size,λk j hn=>h.block k j (λu=>hn (q k u j))⟩
theorem setCell (w:World)(p:px)(v:Value)(h:Mu p.block):ze Mu w (w.setCell p v):=⟨rfl,rfl,rfl,by simp,λk _ hn=>oI w p v k (λe=>hn (by rw[e];exact h))⟩
theorem inB (h:ze Mu a b){A:Y5}{k:Nat}{x:Y4}(q:qq a a.heap.size A k x)(hn:∀g o,A=some ⟨g,o,none⟩->0<x.length->¬ Mu g):qq b b.heap.size A k x:=by
 refine⟨q.le,q.max,q.nil,λu => ?_⟩;obtain⟨g,o,e,v,hc⟩:=q.rC u;exact⟨g,o,e,zO v h.size,λj B=>(oG (h.block g v (hn g o e u))).trans (hc j B)⟩
end ze
theorem yR.setOther {w:World}{p many:Nat}{g:Nat->Y4}{xs:List (Nat×Y4)}{left:Int}{stops:Bool}{q:Nat}{t:oD}{cs:Y7}(h:yR w p many g xs left stops)(hq:za w q t cs)(j:cs.size<=64)(B:p≠q)(a:px)(v:Value)(ha:a.block=q):yR (w.setCell a v) p many g xs left stops:=by
 subst ha;exact h.other hq j B ⟨rfl,rfl,rfl,by simp,λk _ u=>oI w _ _ k (λe=>u (by rw[e]))⟩
section
variable (w:World)(l d many lb hb:Nat)(g:Nat->Y4)(xs:List (Nat×Y4))(left:Int)(hs he:Nat)(hz hc:Int)
theorem LW (T:yR w d many g xs left false)(hl:xs.length<=900000)(h1l : -1000000<=left)(aE:left<=9223372036854775807)(I:za w lb 115 #[.pointer (some ⟨l,0,none⟩)])(E:za w hb 173 #[.int .u64 (hs:Int),.int .u64 (he:Int),.int .i64 hz,.int .i64 hc])
  (V:w.cell? ⟨l,0,none⟩=some (.pointer (some ⟨d,0,none⟩))) (aK:l≠d) (aP:lb≠d) (aO:hb≠d) (aL:l<w.heap.size) (aB:vf hz hc=true) (aQ:2<=many) (aM:many<=1000000) :
  pr Y3 171 #[.pointer (some ⟨hb,0,none⟩),.pointer (some ⟨lb,0,none⟩)] w λe w'=>e=Y0 (.int .i64 0)/\yR w' d many g (xs++JD (hs%2) (kg hs he hz hc) 1) left false/\w.grownBy w' (some d):=by
 have K:(kg hs he hz hc).length=64:=by unfold kg;rw[if_pos aB];exact jE _ _ _ _
 have U:Ln hz hc=0:=by unfold Ln;rw[if_pos aB]
 have C:=VP hs he hz hc w;rw[U] at C;unfold Uu at C;rw[K] at C;have O:=pk K;obtain⟨r,M⟩:=Z9 (hs%2);have aC:=pk (show Int.tmod (hs:Int) 2=(r:Int) by rw[M];exact(Int.ofNat_tmod hs 2).symm);have aD:=pk (show IntKind.i64.wrap (r:Int)=(r:Int) from zg _);have aR:r<2:=by omega
 rw[<-M];clear M;clear K U
 go_enter func171,ntmps171
 go_wp2_with (first
  | (refine xA yw E ?_)
  | (go_at_call 172;refine C.mono ?_;rintro e q ⟨A,c,rfl,aJ,B⟩))
 have aF:=T.grow B;have aA:=I.below B I.lt;have Z:=E.below B E.lt;have aH:q.cell? ⟨l,0,none⟩=some (.pointer (some ⟨d,0,none⟩)):=(B.cell (p:=⟨l,0,none⟩) aL).trans V;have aS:=B.size;have c1:q.cell? ⟨hb,0,none⟩=some (.int .u64 (hs:Int)):=by rw[Z.cell];rfl
 have j:q.drew.cell? ⟨lb,0,none⟩=some (.pointer (some ⟨l,0,none⟩))/\q.drew.cell? ⟨hb,0,none⟩=some (.int .u64 (hs:Int)):=⟨aA.boxed,c1⟩;have F:=KA q.drew l d many g xs left (aF.grow (pf _ _).drew) hl h1l aE aH aK (by show l<q.heap.size;omega) r 1 A c _ aJ.drew (by rw[O.out]) (by omega) (by omega) aM;rw[O.out] at F;clear C T I E V;refine zb.st (λW:World=>W.cell? ⟨lb,0,none⟩=some (.pointer (some ⟨l,0,none⟩))/\W.cell? ⟨hb,0,none⟩=some (.int .u64 (hs:Int))) 9 ?_;refine zb.q 0 (.pointer (some ⟨l,0,none⟩)) j ?_;refine zb.q 1 (.pointer (some ⟨l,0,none⟩)) j ?_;refine zb.q 2 (.pointer (some ⟨l,0,none⟩)) j ?_;refine zb.q 3 (.pointer (some ⟨hb,0,none⟩)) j ?_;refine zb.q 4 (.int .u64 (hs:Int)) j ?_;refine zb.t 5 (.int .u64 (r:Int)) rfl j (λW ⟨u,v⟩=>by have e9:=aC.out;go_simp) ?_;refine zb.t 6 (.int .i64 (r:Int)) rfl j (λW ⟨u,v⟩=>by have e9:=aD.out;go_simp) ?_;refine zb.q 7 (.slice A 64 c) j ?_;simp only[Z8];refine zb.n 8 ?_;refine zb.oC 173 #[.tmp 12,.tmp 16,.tmp 17] #[167,3,129] #[.pointer (some ⟨l,0,none⟩),.int .i64 (r:Int),.slice A 64 c] (F.mono ?_) (zb.eo func173);rintro e N ⟨rfl,aG,aI⟩;have H:q.grownBy N (some d):=(yP q (some d)).trans aI;have q0:=aA.grown H (λe=>by injection e with e;omega);have q1:=Z.grown H (λe=>by injection e with e;omega);have aN:N.cell? ⟨hb,0,none⟩=some (.int .u64 (hs:Int)):=by rw[q1.cell];rfl
 refine⟨_,rfl,λ_=>⟨q0.boxed,aN⟩,?_⟩;simp only[Z8];refine zb.n 9 (zb.opV (w':=N) (.int .i64 0) rfl rfl (by go_simp) ⟨λh=>absurd rfl h,zb.dn ?_⟩);simp only[Z8];clear F j;go_wp2;go_ret;exact⟨rfl,aG,(jX B d).trans H⟩
theorem LV (D:Y5)(fr pg:Int)(sr ep:Nat)(sz:Int)(A:Y5)(n c:Nat)(T:za w lb 115 #[.pointer (some ⟨l,0,none⟩)])(K:za w hb 173 #[.int .u64 (hs:Int),.int .u64 (he:Int),.int .i64 hz,.int .i64 hc])(H:za w l 171 (Xj D fr pg sr ep sz A n c))(V:l≠lb)(U:l≠hb):pr Y3 174 #[.pointer (some ⟨hb,0,none⟩),.pointer (some ⟨lb,0,none⟩)] w λe w'=>e=Y0 (.int .i64 0)/\w'=(w.drew.setCell ⟨l,3,none⟩ (.int .u64 (hs:Int))).setCell ⟨l,4,none⟩ (.int .u64 (he:Int))/\za w' l 171 (Xj D fr pg hs he sz A n c):=by
 have c0:=T.boxed;have c1:w.cell? ⟨hb,0,none⟩=some (.int .u64 (hs:Int)):=by rw[K.cell];rfl
 have c2:w.cell? ⟨hb,1,none⟩=some (.int .u64 (he:Int)):=by rw[K.cell];rfl
 have g3:w.cell? ⟨l,3,none⟩=some (.int .u64 (sr:Int)):=by rw[H.cell];rfl
 have g4:w.cell? ⟨l,4,none⟩=some (.int .u64 (ep:Int)):=by rw[H.cell];rfl
 have N:=H.free 3;have O:=H.free 4
 go_enter func174,ntmps174
 go_wp2_with fail
 have E:(w.drew.cell? ⟨lb,0,none⟩=some (.pointer (some ⟨l,0,none⟩))/\w.drew.cell? ⟨hb,0,none⟩=some (.int .u64 (hs:Int))/\w.drew.cell? ⟨hb,1,none⟩=some (.int .u64 (he:Int)))/\w.drew.frozen? ⟨l,3,none⟩=false/\w.drew.frozen? ⟨l,4,none⟩=false:=⟨⟨c0,c1,c2⟩,N,O⟩;refine zb.st (λW:World=>(W.cell? ⟨lb,0,none⟩=some (.pointer (some ⟨l,0,none⟩))/\W.cell? ⟨hb,0,none⟩=some (.int .u64 (hs:Int))/\W.cell? ⟨hb,1,none⟩=some (.int .u64 (he:Int)))/\W.frozen? ⟨l,3,none⟩=false/\W.frozen? ⟨l,4,none⟩=false) 11 ?_;refine zb.t 0 (.pointer (some ⟨l,0,none⟩)) rfl E (λW j=>by obtain⟨⟨q,u,v⟩,B,C⟩:=j;go_simp) ?_;refine zb.t 1 (.pointer (some ⟨l,0,none⟩)) rfl E (λW j=>by obtain⟨⟨q,u,v⟩,B,C⟩:=j;go_simp) ?_;refine zb.t 2 (.pointer (some ⟨hb,0,none⟩)) rfl E (λW j=>by obtain⟨⟨q,u,v⟩,B,C⟩:=j;go_simp) ?_;refine zb.t 3 (.int .u64 (hs:Int)) rfl E (λW j=>by obtain⟨⟨q,u,v⟩,B,C⟩:=j;go_simp) ?_;refine zb.t 4 (.pointer (some ⟨hb,1,none⟩)) rfl E (λW j=>by obtain⟨⟨q,u,v⟩,B,C⟩:=j;go_simp) ?_;refine zb.t 5 (.int .u64 (he:Int)) rfl E (λW j=>by obtain⟨⟨q,u,v⟩,B,C⟩:=j;go_simp) ?_;refine zb.t 6 (.pointer (some ⟨l,0,none⟩)) rfl E (λW j=>by obtain⟨⟨q,u,v⟩,B,C⟩:=j;go_simp) ?_;refine zb.t 7 (.pointer (some ⟨l,3,none⟩)) rfl E (λW j=>by obtain⟨⟨q,u,v⟩,B,C⟩:=j;go_simp) ?_;simp only[Z8];have I:=H.drew.set 3 (.int .u64 (hs:Int));have Z:¬ l=lb:=V;have M:¬ l=hb:=U;have F:((w.drew.setCell ⟨l,3,none⟩ (.int .u64 (hs:Int))).cell? ⟨lb,0,none⟩=some (.pointer (some ⟨l,0,none⟩))/\(w.drew.setCell ⟨l,3,none⟩ (.int .u64 (hs:Int))).cell? ⟨hb,0,none⟩=some (.int .u64 (hs:Int))/\(w.drew.setCell ⟨l,3,none⟩ (.int .u64 (hs:Int))).cell? ⟨hb,1,none⟩=some (.int .u64 (he:Int)))/\(w.drew.setCell ⟨l,3,none⟩ (.int .u64 (hs:Int))).frozen? ⟨l,3,none⟩=false/\(w.drew.setCell ⟨l,3,none⟩ (.int .u64 (hs:Int))).frozen? ⟨l,4,none⟩=false :=
  ⟨⟨(dh _ _ _ _ (λe=>Z (congrArg Addr.block e))).trans c0,(dh _ _ _ _ (λe=>M (congrArg Addr.block e))).trans c1,(dh _ _ _ _ (λe=>M (congrArg Addr.block e))).trans c2⟩,I.free 3,I.free 4⟩
 refine zb.n 8 (zb.opS (w':=w.drew.setCell ⟨l,3,none⟩ (.int .u64 (hs:Int))) rfl rfl (by go_simp) ⟨λ_=>F,?_⟩);simp only[zD,zC,zB,pj];refine zb.n 9 (zb.opV (w':=w.drew.setCell ⟨l,3,none⟩ (.int .u64 (hs:Int))) (.pointer (some ⟨l,0,none⟩)) rfl rfl (by obtain⟨⟨q,u,v⟩,B,C⟩:=F;go_simp) ⟨λ_=>F,?_⟩);simp only[Z8];refine zb.n 10 (zb.opV (w':=w.drew.setCell ⟨l,3,none⟩ (.int .u64 (hs:Int))) (.pointer (some ⟨l,4,none⟩)) rfl rfl (by obtain⟨⟨q,u,v⟩,B,C⟩:=F;go_simp) ⟨λ_=>F,?_⟩);simp only[Z8];obtain⟨_,_,f5⟩:=F;refine zb.n 11 (zb.opS (w':=(w.drew.setCell ⟨l,3,none⟩ (.int .u64 (hs:Int))).setCell ⟨l,4,none⟩ (.int .u64 (he:Int))) rfl rfl (by go_simp) ⟨λh=>absurd rfl h,zb.dn ?_⟩);simp only[zD,zC,zB,pj];clear E;go_wp2;go_ret;exact⟨rfl,rfl,I.set 4 (.int .u64 (he:Int))⟩
theorem MK (fr pg:Int)(sr ep:Nat)(sz:Int)(A:Y5)(n c:Nat)(I:yR w d many g xs left false)(hl:xs.length<=900000)(h1l : -1000000<=left)(aA:left<=9223372036854775807)(N:za w l 171 (Xj (some ⟨d,0,none⟩) fr pg sr ep sz A n c))(H:l≠d)(aI:vf hz hc=true)(aG:2<=many)(aH:many<=1000000):pr Y3 104 #[.pointer (some ⟨l,0,none⟩),.agg #[.int .u64 (hs:Int),.int .u64 (he:Int),.int .i64 hz,.int .i64 hc]] w λe w'=>e=Y0 (.int .i64 0)/\yR w' d many (laid g (xs++JD (hs%2) (kg hs he hz hc) 1)) [] left false/\za w' l 171 (Xj (some ⟨d,0,none⟩) fr pg hs he sz A n c)/\ze (λk=>k=d∨k=l) w w':=by
 have aK:=I.lt;have aF:=N.lt;have k0:w.cell? ⟨l,0,none⟩=some (.pointer (some ⟨d,0,none⟩)):=by rw[N.cell];rfl
 obtain⟨W1,v⟩:=Z9 ((((w.alloc (.cells #[.pointer (some ⟨l,0,none⟩)] 115)).alloc (.cells #[.int .u64 (hs:Int),.int .u64 (he:Int),.int .i64 hz,.int .i64 hc] 173)).alloc (.cells #[.func (.func 171) #[] #[.pointer (some ⟨w.heap.size+1,0,none⟩),.pointer (some ⟨w.heap.size,0,none⟩)],.func (.func 169) #[.pointer (some ⟨d,0,none⟩)] #[],.func (.func 174) #[] #[.pointer (some ⟨w.heap.size+1,0,none⟩),.pointer (some ⟨w.heap.size,0,none⟩)]] 84)));have F:ph w.heap.size w W1:=by rw[v];exact(((pf _ w).alloc (zG _) _).alloc (by simp) _).alloc (by simp;omega) _
 have b0:za W1 w.heap.size 115 #[.pointer (some ⟨l,0,none⟩)]:=by rw[v];exact((za.new w _ _).alloc _).alloc _
 have b1:za W1 (w.heap.size+1) 173 #[.int .u64 (hs:Int),.int .u64 (he:Int),.int .i64 hz,.int .i64 hc]:=by have:=(za.new (w.alloc (.cells #[.pointer (some ⟨l,0,none⟩)] 115)) 173 #[.int .u64 (hs:Int),.int .u64 (he:Int),.int .i64 hz,.int .i64 hc]);rw[pq] at this;rw[v];exact this.alloc _
 have b2:za W1 (w.heap.size+1+1) 84 #[.func (.func 171) #[] #[.pointer (some ⟨w.heap.size+1,0,none⟩),.pointer (some ⟨w.heap.size,0,none⟩)],.func (.func 169) #[.pointer (some ⟨d,0,none⟩)] #[],.func (.func 174) #[] #[.pointer (some ⟨w.heap.size+1,0,none⟩),.pointer (some ⟨w.heap.size,0,none⟩)]]:=by have:=za.new ((w.alloc (.cells #[.pointer (some ⟨l,0,none⟩)] 115)).alloc (.cells #[.int .u64 (hs:Int),.int .u64 (he:Int),.int .i64 hz,.int .i64 hc] 173)) 84 #[.func (.func 171) #[] #[.pointer (some ⟨w.heap.size+1,0,none⟩),.pointer (some ⟨w.heap.size,0,none⟩)],.func (.func 169) #[.pointer (some ⟨d,0,none⟩)] #[],.func (.func 174) #[] #[.pointer (some ⟨w.heap.size+1,0,none⟩),.pointer (some ⟨w.heap.size,0,none⟩)]];rw[pq,pq] at this;rw[v];exact this
 obtain⟨fs,E⟩:∃fs:List uu,fs=[⟨171,#[],#[.pointer (some ⟨w.heap.size+1,0,none⟩),.pointer (some ⟨w.heap.size,0,none⟩)]⟩,⟨169,#[.pointer (some ⟨d,0,none⟩)],#[]⟩,⟨174,#[],#[.pointer (some ⟨w.heap.size+1,0,none⟩),.pointer (some ⟨w.heap.size,0,none⟩)]⟩]:=⟨_,rfl⟩;have HX:(JD (hs%2) (kg hs he hz hc) 1).length=1:=JU _ _ _;have HS:=Vo W1 (w.heap.size+1+1) 3 fs
  (λk V=>(za V w.heap.size 115 #[.pointer (some ⟨l,0,none⟩)]/\za V (w.heap.size+1) 173 #[.int .u64 (hs:Int),.int .u64 (he:Int),.int .i64 hz,.int .i64 hc]/\za V (w.heap.size+1+1) 84 #[.func (.func 171) #[] #[.pointer (some ⟨w.heap.size+1,0,none⟩),.pointer (some ⟨w.heap.size,0,none⟩)],.func (.func 169) #[.pointer (some ⟨d,0,none⟩)] #[],.func (.func 174) #[] #[.pointer (some ⟨w.heap.size+1,0,none⟩),.pointer (some ⟨w.heap.size,0,none⟩)]]/\ze (λk=>k=d∨k=l) w V) /\
   (k=0->yR V d many g xs left false/\za V l 171 (Xj (some ⟨d,0,none⟩) fr pg sr ep sz A n c)) /\
   (k=1->yR V d many g (xs++JD (hs%2) (kg hs he hz hc) 1) left false/\za V l 171 (Xj (some ⟨d,0,none⟩) fr pg sr ep sz A n c)) /\
   (k=2->yR V d many (laid g (xs++JD (hs%2) (kg hs he hz hc) 1)) [] left false/\za V l 171 (Xj (some ⟨d,0,none⟩) fr pg sr ep sz A n c)) /\
   (k=3->yR V d many (laid g (xs++JD (hs%2) (kg hs he hz hc) 1)) [] left false/\za V l 171 (Xj (some ⟨d,0,none⟩) fr pg hs he sz A n c)))
  (λ_ _=>False) (by rw[E];simp)
  (by
   rintro k M W ⟨⟨_,_,B,_⟩,_⟩;rw[B.cell];subst E
   match k,M with
   | 0,_=>rfl
   | 1,_=>rfl
   | 2,_=>rfl
   | k+3,h=>exact absurd h (by simp))
  (by
   rintro k M W ⟨⟨h1,h2,B,u⟩,q0,q1,q2,q3⟩;have aL:=u.size;subst E
   match k,M with
   | 0,_ =>
    obtain⟨C,q⟩:=q0 rfl;have aJ:W.cell? ⟨l,0,none⟩=some (.pointer (some ⟨d,0,none⟩)):=by rw[q.cell];rfl
    refine⟨zb.eo func171,(LW W l d many w.heap.size (w.heap.size+1) g xs left hs he hz hc C hl h1l aA h1 h2 aJ H (by omega) (by omega) (by omega) aI aG aH).mono ?_⟩;rintro e Z ⟨rfl,K,j⟩;have O:some w.heap.size≠some d:=λe=>by injection e with e;omega
    have T:some (w.heap.size+1)≠some d:=λe=>by injection e with e;omega
    have U:some (w.heap.size+1+1)≠some d:=λe=>by injection e with e;omega
    exact .inl ⟨rfl,⟨h1.grown j O,h2.grown j T,B.grown j U,u.trans (ze.grown j (λr e=>by cases e;exact .inl (.inl rfl)))⟩,(λe=>by cases e),(λ_=>⟨K,q.grown j (λe=>by injection e with e;exact H e)⟩),(λe=>by cases e),(λe=>by cases e)⟩
   | 1,_ =>
    obtain⟨C,q⟩:=q1 rfl;refine⟨zb.eo func169,(GI W d many g _ left false C rfl (by rw[zH,HX];omega) h1l aA).mono ?_⟩;rintro e Z ⟨rfl,K,j⟩;have O:some w.heap.size≠some d:=λe=>by injection e with e;omega
    have T:some (w.heap.size+1)≠some d:=λe=>by injection e with e;omega
    have U:some (w.heap.size+1+1)≠some d:=λe=>by injection e with e;omega
    exact .inl ⟨rfl,⟨h1.grown j O,h2.grown j T,B.grown j U,u.trans (ze.grown j (λr e=>by cases e;exact .inl (.inl rfl)))⟩,(λe=>by cases e),(λe=>by cases e),(λ_=>⟨K,q.grown j (λe=>by injection e with e;exact H e)⟩),(λe=>by cases e)⟩
   | 2,_ =>
    obtain⟨C,q⟩:=q2 rfl;refine⟨zb.eo func174,(LV W l w.heap.size (w.heap.size+1) hs he hz hc (some ⟨d,0,none⟩) fr pg sr ep sz A n c h1 h2 q (by omega) (by omega)).mono ?_⟩;rintro e Z ⟨rfl,rfl,aE⟩;have aB:d≠l:=λe=>H e.symm
    have aD:=q.drew.set 3 (.int .u64 (hs:Int))
    exact .inl ⟨rfl,⟨(h1.drew.other (by show ¬ _=l;omega) _).other (by show ¬ _=l;omega) _,(h2.drew.other (by show ¬ _=l;omega) _).other (by show ¬ _=l;omega) _,(B.drew.other (by show ¬ _=l;omega) _).other (by show ¬ _=l;omega) _,
     ((u.trans (ze.grown (yP W none) (λr e=>by cases e))).trans (ze.setCell _ _ _ (.inr rfl))).trans (ze.setCell _ _ _ (.inr rfl))⟩,(λe=>by cases e),(λe=>by cases e),(λe=>by cases e),(λ_=>⟨((C.grow (pf _ _).drew).setOther q.drew (by show 7<=64;decide) aB _ _ rfl).setOther aD (by simp;show 7<=64;decide) aB _ _ rfl,aE⟩)⟩
   | k+3,h=>exact absurd h (by simp))
  ⟨⟨b0,b1,b2,ze.below F⟩,(λ_=>⟨I.grow F,N.below F aF⟩),(λe=>by cases e),(λe=>by cases e),(λe=>by cases e)⟩
 have aC:fs.length=3:=by rw[E];rfl
 rw[aC,v] at HS;clear v b0 b1 b2 F E I
 go_enter func104,ntmps104
 go_wp2_with (go_at_call 170;refine HS.mono ?_;rintro e Z (⟨rfl,⟨_,_,_,u⟩,_,_,_,q3⟩|⟨x,_,_,hx⟩))
 obtain⟨q4,q5⟩:=q3 (by first|rfl|trivial);go_ret;exact⟨rfl,q4,q5,u⟩
end
namespace zb
section
variable {P:oV}{ops:Array oM}{Q:nF->oy->World->Prop}{md:gu}{S:World->Prop}{fin:Nat}
theorem first0 {i:Nat}{B:oM}{v:Value}(T:ops[i]?=some B)(aB:∀(j:Nat) (o:oM) cs b,ops[j]?=some o->o.op≠.select cs b)
  (hQ:∀c a w,Q (.panic c) (a.put B.dst v) w->Q (.panic c) a w) (V:ops[fin]?=none) :
  ∀(E:Nat) (listed:Array Bool) (a:oy) (w:World),
   (∀j C,ops[j]?=some C->j≠i->listed.getD j true=false->(∀e∈C.after,oT md e=true->e.on≠i)->B.apart ops C=true) ->
   i∈oP md ops listed->mV P ops S B v a->S w ->
   wpAnyF P md ops Q S fin E (listed.setIfInBounds i true) (a.put B.dst v) w->wpAnyF P md ops Q S fin (E+1) listed a w:=by
 intro E
 induction E with
 | zero =>
  intro listed a w _ u N F H;refine⟨λh=>(by rw[h] at u;cases u),λj K => ?_⟩
  by_cases q:j=i
  ·subst q;exact N.wpOp T F ⟨λ_=>F,H⟩
  ·have:=gj K q;rw[H.1] at this;cases this
 | succ E ih =>
  intro listed a w W u N F H;refine⟨λh=>(by rw[h] at u;cases u),λj K => ?_⟩
  by_cases q:j=i
  ·subst q;exact N.wpOp T F ⟨λ_=>F,H⟩
  ·have h1:=H.2 j (gj K q);obtain⟨aA,C,M,aD⟩:=mem_ready.1 K;have aJ:∀e∈C.after,oT md e=true->e.on≠i:=λe he hb aE=>by
    have h1:=aD e he hb;have U:=(mem_ready.1 u).1;rw[aE] at h1;rcases nG i listed.size with O | O
    ·simp[O] at U h1;rw[U] at h1;cases h1
    ·simp[ov O] at h1
   have aG:j≠fin:=λe=>by subst e;rw[M] at V;cases V
   have h2:=wpOp_putIf M (W j C M q aA aJ) (λcs b=>aB i B cs b T) (λcs b=>aB j C cs b M) hQ N h1;have aF:∀k ok,ops[k]?=some ok->k≠i->(listed.setIfInBounds j true).getD k true=false ->
     (∀e∈ok.after,oT md e=true->e.on≠i)->B.apart ops ok=true:=λk ok hk aH aC aI=>by
    refine W k ok hk aH ?_ aI
    by_cases Z:j=k
    ·subst Z;exact aA
    ·rw[getD_set_ne true Z] at aC;exact aC
   refine wpOp_mono (λa' w' I=>⟨I.2.1,ih (listed.setIfInBounds j true) a' w' aF (gj u (Ne.symm q)) I.1 (I.2.1 aG) ?_⟩) h2;rw[gy _ _ q];exact I.2.2
theorem take0 {q:Nat}{listed:Array Bool}{a:oy}{w:World}(i:Nat){j:oM}(v:Value)(u:ops[i]?=some j)
  (hs:nc ops=true) (hf:mJ md ops listed i=true) (F:(oP md ops listed).contains i=true) (E:ops[fin]?=none)
  (B:∀c a w,Q (.panic c) (a.put j.dst v) w->Q (.panic c) a w) (C:S w) (H:mV P ops S j v a)
  (h:wpAnyF P md ops Q S fin q (listed.setIfInBounds i true) (a.put j.dst v) w):wpAnyF P md ops Q S fin (q+1) listed a w :=
 first0 u (mU hs) B E q listed a w (Region.free_spec u hf) (by simpa using F) H C h
theorem k0 {q:Nat}{listed:Array Bool}{a:oy}{w:World}(i:Nat){j:oM}(v:Value)(E:ops[i]?=some j)(B:S w)(H:mV P ops S j v a)(h:wpAnyF P md ops Q S fin q (listed.setIfInBounds i true) (a.put j.dst v) w)(hs:nc ops=true:=by kernel_rfl)(hf:mJ md ops listed i=true:=by kernel_rfl)(F:(oP md ops listed).contains i=true:=by kernel_rfl)(C:ops[fin]?=none:=by rfl)(u:∀c a w,Q (.panic c) (a.put j.dst v) w->Q (.panic c) a w:=by exact λ_ _ _ h=>h):wpAnyF P md ops Q S fin (q+1) listed a w :=
 take0 i v E hs hf F C u B H h
theorem t0 {q:Nat}{listed:Array Bool}{a:oy}{w:World}(i:Nat){j:oM}(v:Value)(F:ops[i]?=some j)(B:S w)(h1:∀W,S W->(oB a.eval j).run P W=.ok (.value v) W)(h:wpAnyF P md ops Q S fin q (listed.setIfInBounds i true) (a.put j.dst v) w)(hs:nc ops=true:=by kernel_rfl)(hf:mJ md ops listed i=true:=by kernel_rfl)(H:(oP md ops listed).contains i=true:=by kernel_rfl)(C:ops[fin]?=none:=by rfl)(u:∀c a w,Q (.panic c) (a.put j.dst v) w->Q (.panic c) a w:=by exact λ_ _ _ h=>h)(E:j.guard=none:=by rfl):wpAnyF P md ops Q S fin (q+1) listed a w :=
 take0 i v F hs hf H C u B (yld E h1) h
theorem q0 {q:Nat}{listed:Array Bool}{a:oy}{w:World}(i:Nat){j:oM}(v:Value)(B:S w)(h:wpAnyF P md ops Q S fin q (listed.setIfInBounds i true) (a.put j.dst v) w)(F:ops[i]?=some j:=by rfl)(h1:∀W,S W->(oB a.eval j).run P W=.ok (.value v) W:=by intro _ hW;(try dsimp only at hW);go_simp)(hs:nc ops=true:=by kernel_rfl)(hf:mJ md ops listed i=true:=by kernel_rfl)(H:(oP md ops listed).contains i=true:=by kernel_rfl)(C:ops[fin]?=none:=by rfl)(u:∀c a w,Q (.panic c) (a.put j.dst v) w->Q (.panic c) a w:=by exact λ_ _ _ h=>h)(E:j.guard=none:=by rfl):wpAnyF P md ops Q S fin (q+1) listed a w :=t0 i v F B h1 h hs hf H C u E
end
end zb
namespace zb
theorem opCT {P:oV}{ops:Array oM}{Q:nF->oy->World->Prop}{i:Nat}{o:oM}{K:oy->World->Prop}{a:oy}{w:World}(f:FuncId)(x:py)(xs:Array py)(F:Array oD)(B:ops[i]?=some o)(u:o.guard=none)(hc:o.op=.call {callee:=.value x,args:=xs,argTypes:=F})
  (E:a.eval x=.func (.func f) #[] #[]) (q:∀args w,(dF f args).run P w=.ok (.enter f args) w) (args:Y7) (ha:xs.map a.eval=args) (h:pr P f args w λe w'=>∃v,e=Y0 v/\K (a.put o.dst v) w'):wpOp P ops Q i K a w:=by
 unfold wpOp;simp only[B];rw[if_pos (by simp[Region.wanted,u])];left;have C:(oB a.eval o).run P w=.ok (.enter f args) w:=by simp[oB,hc,resolve,ha,E,nh,invoke,q args w]
 unfold Oper.wp;rw[C,Oper.upon_enter];refine h.mono ?_;rintro e w' ⟨v,rfl,j⟩;exact j
end zb
theorem Df (w:World)(x:Nat):pr Y3 229 #[.int .u64 (x:Int)] w λe w'=>e=Y0 (.bool false)/\w=w':=by
 go_enter func229,ntmps229
 go_wp2;go_ret;exact⟨rfl,rfl⟩
theorem Ud (w:World)(x:Nat):pr Y3 167 #[.int .u64 (x:Int),.int .u64 (x:Int)] w λe w'=>e=Y0 (.int .i64 0)/\w=w':=by
 go_enter func167,ntmps167
 go_wp2_with (go_at_call 229;refine(Df w x).mono ?_;rintro e w' ⟨rfl,rfl⟩)
 go_ret;exact⟨rfl,rfl⟩
theorem TS (w:World)(x a b:Nat)(p q h j:Int):pr Y3 166 #[.agg #[.int .u64 (x:Int),.int .u64 (a:Int),.int .i64 p,.int .i64 q],.agg #[.int .u64 (x:Int),.int .u64 (b:Int),.int .i64 h,.int .i64 j]] w λe w'=>e=Y0 (.int .i64 0)/\ph w.heap.size w w':=by
 have hB:ph w.heap.size w ((w.alloc (.cells #[.int .u64 (x:Int),.int .u64 (a:Int),.int .i64 p,.int .i64 q] 173)).alloc (.cells #[.int .u64 (x:Int),.int .u64 (b:Int),.int .i64 h,.int .i64 j] 173)):=((pf _ w).alloc (zG _) _).alloc (by simp) _
 go_enter func166,ntmps166
 go_wp2_with (go_at_call 167;refine(Ud _ x).mono ?_;rintro e w' ⟨rfl,rfl⟩)
 go_ret;exact⟨rfl,hB⟩
def Xx:Y8:=[.int .u64 0,.int .u64 0,.int .i64 0,.int .i64 0]
theorem LN (w:World)(q:Nat)(T:oD)(hq:za w q T (Xx++Xx).toArray):pr Y3 168 #[.slice (some ⟨q,0,none⟩) 2 2,.func (.func 166) #[] #[]] w λe w'=>e=Y0 (.agg #[.int .u64 0,.int .u64 0,.int .i64 0,.int .i64 0])/\ph w.heap.size w w':=by
 have N:=hq.lt;have H:w.rangeAt q 0 (Xx++Xx):=by have:=hq.sa 0 (n:=8);exact this
 have I:w.rangeAt q 4 Xx:=λj v u=>by have:=H (4+j) v (by rw[qU (by simp[Xx]),show 4+j-Xx.length=j by simp[Xx]];exact u);simpa using this
 have O:w.rangeAt q 0 Xx:=λj v u=>H j v (by rw[ow (qQ.1 u).1];exact u)
 have aA:∀v∈(#[.int .u64 0,.int .u64 0,.int .i64 0,.int .i64 0]:Y7).toList,v.oneCell'=true:=by intro v Z;simp at Z;rcases Z with rfl|rfl<;>rfl
 have F:ph w.heap.size w (w.alloc (.cells #[.int .u64 0,.int .u64 0,.int .i64 0,.int .i64 0] 173)):=(pf _ w).alloc (zG _) _;have U:(w.alloc (.cells #[.int .u64 0,.int .u64 0,.int .i64 0,.int .i64 0] 173)).rangeAt q 0 Xx:=λj v u=>(F.cell (p:=⟨q,0+j,none⟩) N).trans (O j v u)
 have E:=za.new (w.alloc (.cells #[.int .u64 0,.int .u64 0,.int .i64 0,.int .i64 0] 173)) 173 #[.int .u64 0,.int .u64 0,.int .i64 0,.int .i64 0];have K:=(za.new w 173 #[.int .u64 0,.int .u64 0,.int .i64 0,.int .i64 0]).alloc (.cells #[.int .u64 0,.int .u64 0,.int .i64 0,.int .i64 0] 173);rw[pq] at E;have M:ph w.heap.size w ((w.alloc (.cells #[.int .u64 0,.int .u64 0,.int .i64 0,.int .i64 0] 173)).alloc (.cells #[.int .u64 0,.int .u64 0,.int .i64 0,.int .i64 0] 173)):=F.alloc (by simp) _
 go_enter func168,ntmps168
 go_wp2_with (first
  | (refine zr rfl (yX yw U rfl rfl rfl) ?_)
  | (refine zt rfl 173 (.tmp 5) (.tmp 13) rfl (w.heap.size+1) rfl rfl yw E rfl rfl aA ?_))
 have bS:=E.setRow Xx.toArray;have aB:=K.rB (k:=w.heap.size+1) (by omega) Xx.toArray;have aD:ph w.heap.size w (((w.alloc (.cells #[.int .u64 0,.int .u64 0,.int .i64 0,.int .i64 0] 173)).alloc (.cells #[.int .u64 0,.int .u64 0,.int .i64 0,.int .i64 0] 173)).setRow (w.heap.size+1) Xx.toArray):=zf M (by omega) _;generalize ((w.alloc (.cells #[.int .u64 0,.int .u64 0,.int .i64 0,.int .i64 0] 173)).alloc (.cells #[.int .u64 0,.int .u64 0,.int .i64 0,.int .i64 0] 173)).setRow (w.heap.size+1) Xx.toArray=W1 at *;clear U E K F M O H hq
 go_loopw [6] (λi wr=>(i=.int .i64 1∨i=.int .i64 2)/\za wr w.heap.size 173 Xx.toArray/\za wr (w.heap.size+1) 173 Xx.toArray/\ph w.heap.size w wr) (λi _=>2-(intOf i).toNat)
 case atStart=>exact⟨.inl rfl,aB,bS,aD⟩
 case round =>
  obtain⟨hi,c0,c1,hB⟩:=hrel;rcases hi with rfl|rfl
  ·have V:∀W,ph wr.heap.size wr W->W.rangeAt q 4 Xx:=λW h j v u=>((hB.trans (h.mono hB.size)).cell (p:=⟨q,4+j,none⟩) N).trans (I j v u)
   go_wp2_with fail
   have B:ph wr.heap.size wr wr.drew:=(pf _ _).drew;refine zb.st (λW:World=>ph wr.heap.size wr W) 99 ?_;refine zb.q0 0 (.func (.func 166) #[] #[]) B ?_;refine zb.q0 1 (.slice (some ⟨q,0,none⟩) 2 2) B ?_;refine zb.q0 2 (.int .i64 1) B ?_;simp only[Z8];refine zb.t0 3 (.pointer (some ⟨q,4,none⟩)) rfl B (λW h=>by simp[oB,go_sem,Act.eval]) ?_;simp only[Z8];refine zb.t0 4 (.agg Xx.toArray) rfl B (λW h=>by exact yX yw (V W h) rfl rfl rfl) ?_;simp only[Z8];refine zb.t0 5 (.agg Xx.toArray) rfl B (λW h=>by exact yX yw (c1.below h c1.lt).range rfl rfl rfl) ?_;simp only[Z8];refine zb.n 6 ?_;refine zb.opCT 166 (.tmp 20) #[.tmp 24,.tmp 25] #[173,173] rfl rfl rfl rfl (zb.eo func166) #[.agg Xx.toArray,.agg Xx.toArray] (by simp only[zI,zJ,zN];rfl) ((TS wr.drew 0 0 0 0 0 0 0).mono ?_);rintro e w2 ⟨rfl,aC⟩;have C:ph wr.heap.size wr w2:=B.trans (aC.mono (zG _));refine⟨_,rfl,λ_=>C,?_⟩;simp only[Z8];refine zb.n 7 (zb.opV (w':=w2) (.bool false) rfl rfl (by go_simp) ⟨λ_=>C,zb.dn ?_⟩);simp only[Z8];clear I V;have d0:=c0.below C c0.lt;have d1:=c1.below C c1.lt;go_wp2
   go_roundw
   case rel=>exact⟨.inr rfl,d0,d1,hB.trans (C.mono hB.size)⟩
   case measure=>simp[intOf]
  ·clear I;have aE:∀v∈Xx.toArray.toList,v.oneCell'=true:=aA
   go_wp2_with (first
    | (refine xA yw c1 ?_)
    | (refine zt rfl 173 (.tmp 4) (.tmp 32) rfl w.heap.size rfl rfl yw c0 rfl rfl aE ?_))
   refine oQ (yM 4 rfl rfl yw (c0.setRow _) (by rfl)) rfl ⟨rfl,zf hB (zG _) _⟩
theorem Gx:ke qx=false:=by decide +kernel
theorem NI:Hk qx=.tuple #[.agg Xx.toArray,.int .i64 150]:=Tf Gx
theorem Jb {fn:Func}{P:oV}{a:oy}{w:World}{g:Nat}{T t:oD}{cs:Y7}{v v':Value}(k m j:Tmp)(h:fn.results=#[.cell k T,.tmp m,.tmp j])(C:a.eval (.tmp k)=.pointer (some ⟨g,0,none⟩))(E:a.eval (.tmp m)=v)(F:a.eval (.tmp j)=v'){n:Nat}(B:yx P T n)(hb:za w g t cs)(hn:cs.size=n):(results fn a.tmps).run P w=.ok (.tuple #[.agg cs,v,v']) w:=by
 have e:a.tmps.getD k undef=.pointer (some ⟨g,0,none⟩):=C;have q:a.tmps.getD m undef=v:=E;have u:a.tmps.getD j undef=v':=F;unfold results;simp only[h];simp[-zV,e,q,u,asAddr,Qi (hn▸B) hb,pv]
theorem BD (w:World)(l d many:Nat)(left:Int)(M:yR w d many (λ_=>qx) [] left false)(hc:w.cell? ⟨l,0,none⟩=some (.pointer (some ⟨d,0,none⟩)))(N:l<w.heap.size)(aC:2<=many)(aB:many<=1000000):pr Y3 103 #[.pointer (some ⟨l,0,none⟩)] w λe w'=>e=Y0 (.tuple #[.agg Xx.toArray,.bool false,.int .i64 0])/\ph w.heap.size w w':=by
 have u:∀(i:Nat) (W:World),i<2->ph w.heap.size w W->pr Y3 164 #[.pointer (some ⟨l,0,none⟩),.int .i64 (i:Int),.int .i64 1] W λe w'=>∃A c,e=Y0 (.tuple #[.slice A 64 c,.int .i64 0])/\qq w' w'.heap.size A c qx/\ph W.heap.size W w':=λi W hi hB =>
  Fc W l d many _ [] left false (M.grow hB) rfl (by decide) ((hB.cell (p:=⟨l,0,none⟩) N).trans hc) (zO N hB.size) i 1 (by omega) aB
 have T:∀v∈Xx.toArray.toList,v.oneCell'=true:=by intro v O;simp[Xx] at O;rcases O with rfl|rfl<;>rfl
 have B:=(za.new w 173 #[.int .u64 0,.int .u64 0,.int .i64 0,.int .i64 0]).alloc (.cells #[.int .u64 0,.int .u64 0,.int .i64 0,.int .i64 0,.int .u64 0,.int .u64 0,.int .i64 0,.int .i64 0] 249);have h:=za.new (w.alloc (.cells #[.int .u64 0,.int .u64 0,.int .i64 0,.int .i64 0] 173)) 249 #[.int .u64 0,.int .u64 0,.int .i64 0,.int .i64 0,.int .u64 0,.int .u64 0,.int .i64 0,.int .i64 0];rw[pq] at h;have F:ph w.heap.size w ((w.alloc (.cells #[.int .u64 0,.int .u64 0,.int .i64 0,.int .i64 0] 173)).alloc (.cells #[.int .u64 0,.int .u64 0,.int .i64 0,.int .i64 0,.int .u64 0,.int .u64 0,.int .i64 0,.int .i64 0] 249)):=((pf _ w).alloc (zG _) _).alloc (by simp) _;clear M
 go_enter func103,ntmps103
 go_wp2
 go_loopw [13,6] (λi v wr=>∃k:Nat,k<=2/\i=.int .i64 (k:Int)/\v=.bool false/\za wr w.heap.size 173 Xx.toArray/\za wr (w.heap.size+1) 249 (Xx++Xx).toArray/\ph w.heap.size w wr) (λi _ _=>2-(intOf i).toNat)
 case atStart=>exact⟨0,by omega,rfl,rfl,B,h,F⟩
 case round =>
  obtain⟨k,hk,rfl,rfl,c0,c1,hB⟩:=hrel
  by_cases aA:k<2
  ·have V:=u k wr aA hB;have aD:IntKind.i64.wrap ((k:Int)+1)=(k:Int)+1:=zg _;clear u B h F
   go_wp2_with (first
    | (go_at_call 164;refine V.mono ?_;rintro e w2 ⟨A,c,rfl,Z,j⟩)
    | (go_at_call 165;have H:=VR w2 A c qx Z;rw[NI] at H;refine H.mono ?_;rintro e q ⟨rfl,C⟩;have b4:=za.new q 173 #[.int .u64 0,.int .u64 0,.int .i64 0,.int .i64 0])
    | (refine zt rfl 173 (.tmp 10) (.tmp 31) rfl q.heap.size rfl rfl yw b4 rfl rfl T ?_))
   have E:ph wr.heap.size wr ((q.alloc (.cells #[.int .u64 0,.int .u64 0,.int .i64 0,.int .i64 0] 173)).setRow q.heap.size Xx.toArray):=zf ((j.trans (C.mono j.size)).alloc (zT j.size C.size) _) (zT j.size C.size) _
   go_roundw
   case rel=>exact⟨k+1,by omega,by simp,rfl,c0.below E c0.lt,c1.below E c1.lt,hB.trans (E.mono hB.size)⟩
   case measure=>simp[intOf];omega
  ·obtain rfl:k=2:=by omega
   have U:=LN wr (w.heap.size+1) _ c1;clear u B h F
   go_wp2_with (first
    | (go_at_call 168;refine U.mono ?_;rintro e w5 ⟨rfl,K⟩;have I:=c0.below K c0.lt)
    | (refine zt rfl 173 (.tmp 2) (.tmp 49) rfl w.heap.size rfl rfl yw I rfl rfl T ?_))
   refine oQ (Jb 2 3 4 rfl rfl rfl rfl yw (I.setRow _) (by rfl)) rfl ⟨rfl,zf (hB.trans (K.mono hB.size)) (zG _) _⟩
theorem OC (w:World)(l:Nat)(fr:Int)(h1:0<=fr)(hc:w.cell? ⟨l,1,none⟩=some (.int .i64 fr)):pr Y3 105 #[.pointer (some ⟨l,0,none⟩),.int .i64 0] w λe w'=>e=Y0 (.int .i64 0)/\w=w':=by
 go_enter func105,ntmps105
 go_wp2
 go_loopw [20] (λi wr=>i=.int .i64 0/\wr=w) (λ_ _=>0)
 case atStart=>exact⟨rfl,rfl⟩
 case round =>
  obtain⟨rfl,rfl⟩:=hrel;go_wp2;go_ret;exact⟨rfl,rfl⟩
theorem jS (w:World)(p:px)(v:Value):w.grownBy (w.setCell p v) (some p.block):=⟨rfl,rfl,rfl,by simp,λk _ h=>oI _ _ _ k (λe=>h (by rw[e]))⟩
theorem jz (w:World)(q:Nat)(cs:Y7):w.grownBy (w.setRow q cs) (some q):=⟨by simp[oe],by simp[oe],by simp[oe],by simp[oe],λk _ h=>setRow_other w q k cs (λe=>h (by rw[e]))⟩
theorem yR.sA {w:World}{p many:Nat}{g:Nat->Y4}{xs:List (Nat×Y4)}{left:Int}{stops:Bool}{q:Nat}{t:oD}{cs:Y7}(h:yR w p many g xs left stops)(hq:za w q t cs)(j:cs.size<=64)(u:p≠q)(cs':Y7):yR (w.setRow q cs') p many g xs left stops :=
 h.other hq j u (jz w q cs')
namespace zb
section
variable {P:oV}{ops:Array oM}{Q:nF->oy->World->Prop}{md:gu}{S:World->Prop}{fin:Nat}
def Closed (md:gu)(ops:Array oM)(l:Array Bool):Prop:=∀j o,ops[j]?=some o->l.getD j false=true->∀e∈o.after,oT md e=true->l.getD e.on false=true
def closedB (md:gu)(ops:Array oM)(l:Array Bool):Bool:=(List.range ops.size).all λj=>match ops[j]? with|some o => !l.getD j false||o.after.toList.all (λe => !oT md e||l.getD e.on false)|none=>true
theorem closedB_spec {l:Array Bool}(h:closedB md ops l=true):Closed md ops l:=by
 intro j o q hl e he hb;unfold closedB at h;rw[yC] at h;have:=h j (List.mem_range.2 (zK.1 q).1);simp only[q,hl,Bool.not_true,Bool.false_or,yC] at this;have:=this e (Array.mem_toList_iff.2 he);simpa[hb] using this
def reach (md:gu)(ops:Array oM):Nat->Nat->Nat->Bool
 | 0,_,_=>false
 | n+1,j,i=>match ops[j]? with|some o=>o.after.toList.any (λe=>oT md e&&(e.on==i||reach md ops n e.on i))|none=>false
theorem reach_spec {n j i:Nat}{o:oM}(h:reach md ops (n+1) j i=true)(u:ops[j]?=some o):∃e∈o.after,oT md e=true/\(e.on=i∨reach md ops n e.on i=true):=by
 simp only[reach,u,List.any_eq_true,Bool.and_eq_true,Bool.or_eq_true,beq_iff_eq] at h;obtain⟨e,q,hb,he⟩:=h;exact⟨e,Array.mem_toList_iff.1 q,hb,he⟩
theorem not_listed {l:Array Bool}(hc:Closed md ops l){i:Nat}(u:l.getD i false=false):∀(n j:Nat),reach md ops n j i=true->l.getD j false=false
 | 0,_,h=>by cases h
 | n+1,j,h=>by
  cases v:l.getD j false with
  | false=>rfl
  | true =>
   cases q:ops[j]? with
   | none=>simp[reach,q] at h
   | some o =>
    obtain⟨e,he,hb,h1⟩:=reach_spec h q;have h2:=hc j o q v e he hb;rcases h1 with rfl|h1
    ·rw[u] at h2;cases h2
    ·rw[not_listed hc u n _ h1] at h2;cases h2
theorem not_ready {l:Array Bool}(hc:Closed md ops l){i n j:Nat}(q:l.getD i false=false)(u:reach md ops n j i=true):¬ j∈oP md ops l:=by
 intro h;obtain⟨_,o,B,v⟩:=mem_ready.1 h;cases n with
 | zero=>cases u
 | succ n =>
  obtain⟨e,he,hb,h1⟩:=reach_spec u B;have h2:=v e he hb;rcases h1 with rfl|h1
  ·rw[q] at h2;cases h2
  ·rw[not_listed hc q n _ h1] at h2;cases h2
theorem getD_set_mono {l:Array Bool}{j k:Nat}(h:l.getD k false=true):(l.setIfInBounds j true).getD k false=true:=by
 by_cases e:j=k
 ·subst e;rcases nG j l.size with q | q
  ·simp[q]
  ·simp[ov q] at h
 ·rw[getD_set_ne false e];exact h
theorem Closed.set {l:Array Bool}(hc:Closed md ops l){j:Nat}(C:j∈oP md ops l):Closed md ops (l.setIfInBounds j true):=by
 intro k o u h e he hb
 by_cases q:j=k
 ·subst q;obtain⟨_,o',v,B⟩:=mem_ready.1 C;rw[u] at v;cases v;exact getD_set_mono (B e he hb)
 ·rw[getD_set_ne false q] at h;exact getD_set_mono (hc k o u h e he hb)
theorem unlisted {l:Array Bool}{i:Nat}(h:i∈oP md ops l):l.getD i false=false:=by
 have q:=(mem_ready.1 h).1;rcases nG i l.size with j | j
 ·simp[j] at q ⊢;exact q
 ·simp[ov j] at q
theorem first1 {i n:Nat}{B:oM}{v:Value}(N:ops[i]?=some B)(Z:∀(j:Nat) (o:oM) cs b,ops[j]?=some o->o.op≠.select cs b)
  (hQ:∀c a w,Q (.panic c) (a.put B.dst v) w->Q (.panic c) a w) (aD:reach md ops n fin i=true) :
  ∀(F:Nat) (listed:Array Bool) (a:oy) (w:World),Closed md ops listed ->
   (∀j C,ops[j]?=some C->j≠i->listed.getD j true=false->(∀e∈C.after,oT md e=true->e.on≠i)->B.apart ops C=true) ->
   i∈oP md ops listed->mV P ops S B v a->S w ->
   wpAnyF P md ops Q S fin F (listed.setIfInBounds i true) (a.put B.dst v) w->wpAnyF P md ops Q S fin (F+1) listed a w:=by
 intro F
 induction F with
 | zero =>
  intro listed a w _ _ u M I H;refine⟨λh=>(by rw[h] at u;cases u),λj E => ?_⟩
  by_cases q:j=i
  ·subst q;exact M.wpOp N I ⟨λ_=>I,H⟩
  ·have:=gj E q;rw[H.1] at this;cases this
 | succ F ih =>
  intro listed a w T U u M I H;refine⟨λh=>(by rw[h] at u;cases u),λj E => ?_⟩
  by_cases q:j=i
  ·subst q;exact M.wpOp N I ⟨λ_=>I,H⟩
  ·have h1:=H.2 j (gj E q);obtain⟨W,C,O,aB⟩:=mem_ready.1 E;have aI:∀e∈C.after,oT md e=true->e.on≠i:=λe he hb aC=>by have h1:=aB e he hb;rw[aC,unlisted u] at h1;cases h1
   have aF:j≠fin:=λe=>by subst e;exact not_ready T (unlisted u) aD E
   have h2:=wpOp_putIf O (U j C O q W aI) (λcs b=>Z i B cs b N) (λcs b=>Z j C cs b O) hQ M h1;have aE:∀k ok,ops[k]?=some ok->k≠i->(listed.setIfInBounds j true).getD k true=false ->
     (∀e∈ok.after,oT md e=true->e.on≠i)->B.apart ops ok=true:=λk ok hk aG aA aH=>by
    refine U k ok hk aG ?_ aH
    by_cases V:j=k
    ·subst V;exact W
    ·rw[getD_set_ne true V] at aA;exact aA
   refine wpOp_mono (λa' w' K=>⟨K.2.1,ih (listed.setIfInBounds j true) a' w' (T.set E) aE (gj u (Ne.symm q)) K.1 (K.2.1 aF) ?_⟩) h2;rw[gy _ _ q];exact K.2.2
theorem take1 {q:Nat}{listed:Array Bool}{a:oy}{w:World}(i:Nat){j:oM}(v:Value)(u:ops[i]?=some j)
  (hs:nc ops=true) (hf:mJ md ops listed i=true) (H:(oP md ops listed).contains i=true) (E:closedB md ops listed=true) (F:reach md ops 30 fin i=true)
  (B:∀c a w,Q (.panic c) (a.put j.dst v) w->Q (.panic c) a w) (C:S w) (I:mV P ops S j v a)
  (h:wpAnyF P md ops Q S fin q (listed.setIfInBounds i true) (a.put j.dst v) w):wpAnyF P md ops Q S fin (q+1) listed a w :=
 first1 u (mU hs) B F q listed a w (closedB_spec E) (Region.free_spec u hf) (by simpa using H) I C h
theorem t1 {q:Nat}{listed:Array Bool}{a:oy}{w:World}(i:Nat){j:oM}(v:Value)(H:ops[i]?=some j)(B:S w)(h1:∀W,S W->(oB a.eval j).run P W=.ok (.value v) W)(h:wpAnyF P md ops Q S fin q (listed.setIfInBounds i true) (a.put j.dst v) w)(hs:nc ops=true:=by kernel_rfl)(hf:mJ md ops listed i=true:=by kernel_rfl)(I:(oP md ops listed).contains i=true:=by kernel_rfl)(C:closedB md ops listed=true:=by kernel_rfl)(E:reach md ops 30 fin i=true:=by kernel_rfl)(u:∀c a w,Q (.panic c) (a.put j.dst v) w->Q (.panic c) a w:=by exact λ_ _ _ h=>h)(F:j.guard=none:=by rfl):wpAnyF P md ops Q S fin (q+1) listed a w :=
 take1 i v H hs hf I C E u B (yld F h1) h
theorem q1 {q:Nat}{listed:Array Bool}{a:oy}{w:World}(i:Nat){j:oM}(v:Value)(B:S w)(h:wpAnyF P md ops Q S fin q (listed.setIfInBounds i true) (a.put j.dst v) w)(H:ops[i]?=some j:=by rfl)(h1:∀W,S W->(oB a.eval j).run P W=.ok (.value v) W:=by intro _ hW;(try dsimp only at hW);go_simp)(hs:nc ops=true:=by kernel_rfl)(hf:mJ md ops listed i=true:=by kernel_rfl)(I:(oP md ops listed).contains i=true:=by kernel_rfl)(C:closedB md ops listed=true:=by kernel_rfl)(E:reach md ops 30 fin i=true:=by kernel_rfl)(u:∀c a w,Q (.panic c) (a.put j.dst v) w->Q (.panic c) a w:=by exact λ_ _ _ h=>h)(F:j.guard=none:=by rfl):wpAnyF P md ops Q S fin (q+1) listed a w :=t1 i v H B h1 h hs hf I C E u F
end
end zb
theorem CP:yx Y3 200 2:=⟨⟨_,underlying200,rfl⟩,by kernel_rfl⟩
theorem RD (w:World)(lb l:Nat)(D:Y5)(fr pg:Int)(sr ep:Nat)(sz:Int)(A:Y5)(n c:Nat)(K:za w lb 115 #[.pointer (some ⟨l,0,none⟩)])(N:za w l 171 (Xj D fr pg sr ep sz A n c))(p:Int)(F:Y5)(c2:Nat)(U:ME (xB fr pg) p pg=0):pr Y3 306 #[.agg #[.int .i64 p,.slice F 512 c2],.pointer (some ⟨lb,0,none⟩)] w λe w'=>e=Y0 (.bool false)/\ph w.heap.size w w':=by
 obtain⟨u,I,E,C⟩:=YK w 200 #[.int .i64 p,.slice F 512 c2];have M:=K.below E K.lt;have O:=N.below E N.lt;have H:∀W,pr Y3 195 #[.agg #[.int .i64 fr,.int .i64 pg],.int .i64 p] W λe w'=>e=Y0 (.tuple #[.int .i64 (2+9*fr+8*p),.int .i64 0])/\ph W.heap.size W w':=λW=>by have:=RO fr pg p W;unfold wB at this;rw[U,if_pos rfl] at this;exact this
 go_enter func306,ntmps306
 go_wp2_with fail
 rw[<-I];clear I;have v:ph u.heap.size u u.drew:=(pf _ _).drew;refine zb.st (λW=>ph u.heap.size u W) 99 ?_;refine zb.t0 0 (.pointer (some ⟨l,0,none⟩)) rfl v (λW j=>by have q:=(M.below j M.lt).boxed;go_simp) ?_;refine zb.q0 1 (.pointer (some ⟨l,0,none⟩)) v ?_;refine zb.q0 2 (.pointer (some ⟨l,0,none⟩)) v ?_;refine zb.q0 3 (.pointer (some ⟨l,1,none⟩)) v ?_;refine zb.t0 4 (.agg #[.int .i64 fr,.int .i64 pg]) rfl v (λW j=>by have h:=O.below j O.lt;have q1:W.cell? ⟨l,1,none⟩=some (.int .i64 fr):=(by rw[h.cell];rfl);have q2:W.cell? ⟨l,2,none⟩=some (.int .i64 pg):=(by rw[h.cell];rfl);go_simp) ?_;refine zb.q0 5 (.pointer (some ⟨w.heap.size,0,none⟩)) v ?_;refine zb.t0 6 (.int .i64 p) rfl v (λW j=>by have h:=C.below j C.lt;have q1:W.cell? ⟨w.heap.size,0,none⟩=some (.int .i64 p):=(by rw[h.cell];rfl);go_simp) ?_;simp only[Z8];refine zb.n 7 ?_;refine zb.oC 195 #[.tmp 11,.tmp 13] #[74,3] #[.agg #[.int .i64 fr,.int .i64 pg],.int .i64 p] ((H u.drew).mono ?_) (zb.eo func195);rintro e w1 ⟨rfl,T⟩;have B:ph u.heap.size u w1:=v.trans (T.mono (zG _));refine⟨_,rfl,λ_=>B,?_⟩;simp only[Z8];refine zb.n 8 (zb.opV (w':=w1) (.tuple #[.int .i64 (2+9*fr+8*p),.int .i64 0]) rfl rfl (by go_simp) ⟨λ_=>B,?_⟩);refine zb.q0 9 (.int .i64 (2+9*fr+8*p)) B ?_;refine zb.q0 10 (.int .i64 0) B ?_;simp only[Z8];refine zb.n 11 (zb.opV (w':=w1) (.int .i64 (2+9*fr+8*p)) rfl rfl (by go_simp) ⟨λ_=>B,?_⟩);simp only[Z8];refine zb.n 12 (zb.opV (w':=w1) (.int .i64 0) rfl rfl (by go_simp) ⟨λ_=>B,zb.dn ?_⟩);simp only[Z8];have h:=C.below B C.lt;have q1:w1.cell? ⟨w.heap.size,1,none⟩=some (.slice F 512 c2):=by rw[h.cell];rfl
 clear H;go_wp2;go_ret;exact⟨rfl,E.trans (B.mono E.size)⟩
def Tw (w:World)(g o n:Nat)(xs:Nat->Int×Y5×Nat):Prop:=∀k,k<n->w.rangeAt g (o+k*2) [.int .i64 (xs k).1,.slice (xs k).2.1 512 (xs k).2.2]
theorem Tw.below {w w':World}{B g o n:Nat}{xs:Nat->Int×Y5×Nat}(h:Tw w g o n xs)(hB:ph B w w')(q:g<B):Tw w' g o n xs:=λk C j v u=>(hB.cell (p:=⟨g,o+k*2+j,none⟩) q).trans (h k C j v u)
theorem Cz (w:World)(lb g o n c:Nat)(xs:Nat->Int×Y5×Nat)(hn:n<=1000)(q:Tw w g o n xs)(B:g<w.heap.size)
  (h:∀k W,k<n->ph w.heap.size w W->pr Y3 306 #[.agg #[.int .i64 (xs k).1,.slice (xs k).2.1 512 (xs k).2.2],.pointer (some ⟨lb,0,none⟩)] W λe w'=>e=Y0 (.bool false)/\ph W.heap.size W w') :
  pr Y3 342 #[.slice (some ⟨g,o,none⟩) n c,.func (.func 306) #[] #[.pointer (some ⟨lb,0,none⟩)]] w λe w'=>e=Y0 (.int .i64 (-1))/\ph w.heap.size w w':=by
 have E:∀args w,(dF 306 args).run Y3 w=.ok (.enter 306 args) w:=zb.eo func306
 go_enter func342,ntmps342
 go_wp2
 go_loopw [8] (λi wr=>∃k:Nat,k<=n/\i=.int .i64 (k:Int)/\ph w.heap.size w wr) (λi _=>n-(intOf i).toNat)
 case atStart=>exact⟨0,by omega,rfl,pf _ _⟩
 case round =>
  obtain⟨k,F,rfl,hB⟩:=hrel
  by_cases j:k<n
  ·have C:=(q.below hB B) k j;have u:=h k wr j hB;have H:IntKind.i64.wrap ((k:Int)+1)=(k:Int)+1:=zg _;generalize xs k=x at *;clear h q
   go_wp2_with (first
    | (refine zr rfl (yX CP C rfl rfl rfl) ?_))
   refine u.mono ?_;rintro e I ⟨rfl,v⟩;go_wp2
   go_roundw
   case rel=>exact⟨k+1,by omega,by simp,hB.trans (v.mono hB.size)⟩
   case measure=>simp[intOf];omega
  ·obtain rfl:k=n:=by omega
   clear h;go_wp2;go_ret;exact⟨rfl,hB⟩
theorem Tg (w:World)(lb g o n c:Nat)(xs:Nat->Int×Y5×Nat)(hn:n<=1000)(j:Tw w g o n xs)(u:g<w.heap.size)
  (h:∀k W,k<n->ph w.heap.size w W->pr Y3 306 #[.agg #[.int .i64 (xs k).1,.slice (xs k).2.1 512 (xs k).2.2],.pointer (some ⟨lb,0,none⟩)] W λe w'=>e=Y0 (.bool false)/\ph W.heap.size W w') :
  pr Y3 305 #[.slice (some ⟨g,o,none⟩) n c,.func (.func 306) #[] #[.pointer (some ⟨lb,0,none⟩)]] w λe w'=>e=Y0 (.bool false)/\ph w.heap.size w w':=by
 have q:=Cz w lb g o n c xs hn j u h;clear h j
 go_enter func305,ntmps305
 go_wp2_with (go_at_call 342;refine q.mono ?_;rintro e w' ⟨rfl,hB⟩)
 go_ret;exact⟨rfl,hB⟩
theorem Ic (w:World)(l:Nat)(D:Y5)(fr pg:Int)(sr ep:Nat)(sz:Int)(A:Y5)(C c0:Nat)(u:za w l 171 (Xj D fr pg sr ep sz A C c0))(g o n c:Nat)(xs:Nat->Int×Y5×Nat)(h1:1<=n)(hn:n<=1000)(B:Tw w g o n xs)(F:g<w.heap.size)
  (v:∀k,k<n->ME (xB fr pg) (xs k).1 pg=0) (s:Int) (hs:0<=s) (I:s<=pg) :
  pr Y3 249 #[.pointer (some ⟨l,0,none⟩),.int .i64 s,.slice (some ⟨g,o,none⟩) n c] w λe w'=>e=Y0 (.bool true)/\ph w.heap.size w w':=by
 have h:ph w.heap.size w (w.alloc (.cells #[.pointer (some ⟨l,0,none⟩)] 115)):=(pf _ w).alloc (zG _) _;have q:=za.new w 115 #[.pointer (some ⟨l,0,none⟩)];have j:=u.below h u.lt;have k2:(w.alloc (.cells #[.pointer (some ⟨l,0,none⟩)] 115)).cell? ⟨l,2,none⟩=some (.int .i64 pg):=by rw[j.cell];rfl
 have E:=Tg (w.alloc (.cells #[.pointer (some ⟨l,0,none⟩)] 115)) w.heap.size g o n c xs hn (B.below h F) (by simp;omega) (λk W H hB=>RD W w.heap.size l D fr pg sr ep sz A C c0 (q.below hB q.lt) (j.below hB j.lt) (xs k).1 (xs k).2.1 (xs k).2.2 (v k H));clear B v
 go_enter func249,ntmps249
 go_wp2_with (go_at_call 305;refine E.mono ?_;rintro e w' ⟨rfl,hB⟩)
 go_ret;exact⟨rfl,h.trans (hB.mono h.size)⟩
namespace jY
section
variable {P:oV}{ops:Array oM}{Q:nF->oy->World->Prop}{md:gu}{S:World->Prop}{fs:List Nat}
def wpAnyM (P:oV)(md:gu)(ops:Array oM)(Q:nF->oy->World->Prop)(S:World->Prop)(fs:List Nat):Nat->Array Bool->oy->World->Prop
 | 0,listed,a,w=>oP md ops listed=[]/\Q .normal a w
 | fuel+1,listed,a,w =>
  (oP md ops listed=[]->Q .normal a w) /\
  ∀i∈oP md ops listed,wpOp P ops Q i (λa' w'=>(fs.contains i=false->S w')/\wpAnyM P md ops Q S fs fuel (listed.setIfInBounds i true) a' w') a w
theorem to_any:∀(j:Nat) (listed:Array Bool) (a:oy) (w:World),wpAnyM P md ops Q S fs j listed a w->wpAny P md ops Q j listed a w
 | 0,_,_,_,h=>h
 | j+1,_,_,_,h=>⟨h.1,λi v=>wpOp_mono (λq w' u=>to_any j _ q w' u.2) (h.2 i v)⟩
theorem first1 {i n:Nat}{B:oM}{v:Value}(N:ops[i]?=some B)(Z:∀(j:Nat) (o:oM) cs b,ops[j]?=some o->o.op≠.select cs b)
  (hQ:∀c a w,Q (.panic c) (a.put B.dst v) w->Q (.panic c) a w) (aD:(fs.all λf=>zb.reach md ops n f i)=true) (aJ:fs.contains i=false) :
  ∀(F:Nat) (listed:Array Bool) (a:oy) (w:World),zb.Closed md ops listed ->
   (∀j C,ops[j]?=some C->j≠i->listed.getD j true=false->(∀e∈C.after,oT md e=true->e.on≠i)->B.apart ops C=true) ->
   i∈oP md ops listed->mV P ops S B v a->S w ->
   wpAnyM P md ops Q S fs F (listed.setIfInBounds i true) (a.put B.dst v) w->wpAnyM P md ops Q S fs (F+1) listed a w:=by
 intro F
 induction F with
 | zero =>
  intro listed a w _ _ u M I H;refine⟨λh=>(by rw[h] at u;cases u),λj E => ?_⟩
  by_cases q:j=i
  ·subst q;exact M.wpOp N I ⟨λ_=>I,H⟩
  ·have:=gj E q;rw[H.1] at this;cases this
 | succ F ih =>
  intro listed a w T U u M I H;refine⟨λh=>(by rw[h] at u;cases u),λj E => ?_⟩
  by_cases q:j=i
  ·subst q;exact M.wpOp N I ⟨λ_=>I,H⟩
  ·have h1:=H.2 j (gj E q);obtain⟨W,C,O,aB⟩:=mem_ready.1 E;have aI:∀e∈C.after,oT md e=true->e.on≠i:=λe he hb aC=>by have h1:=aB e he hb;rw[aC,zb.unlisted u] at h1;cases h1
   have aF:fs.contains j=false:=by
    cases h:fs.contains j with
    | false=>rfl
    | true =>
     have:=yC.1 aD j (by simpa using h);exact absurd E (zb.not_ready T (zb.unlisted u) this)
   have h2:=wpOp_putIf O (U j C O q W aI) (λcs b=>Z i B cs b N) (λcs b=>Z j C cs b O) hQ M h1;have aE:∀k ok,ops[k]?=some ok->k≠i->(listed.setIfInBounds j true).getD k true=false ->
     (∀e∈ok.after,oT md e=true->e.on≠i)->B.apart ops ok=true:=λk ok hk aG aA aH=>by
    refine U k ok hk aG ?_ aH
    by_cases V:j=k
    ·subst V;exact W
    ·rw[getD_set_ne true V] at aA;exact aA
   refine wpOp_mono (λa' w' K=>⟨K.2.1,ih (listed.setIfInBounds j true) a' w' (T.set E) aE (gj u (Ne.symm q)) K.1 (K.2.1 aF) ?_⟩) h2;rw[gy _ _ q];exact K.2.2
theorem take1 {q:Nat}{listed:Array Bool}{a:oy}{w:World}(i:Nat){j:oM}(v:Value)(u:ops[i]?=some j)
  (hs:nc ops=true) (hf:mJ md ops listed i=true) (I:(oP md ops listed).contains i=true) (E:zb.closedB md ops listed=true) (F:(fs.all λf=>zb.reach md ops 30 f i)=true) (H:fs.contains i=false)
  (B:∀c a w,Q (.panic c) (a.put j.dst v) w->Q (.panic c) a w) (C:S w) (K:mV P ops S j v a)
  (h:wpAnyM P md ops Q S fs q (listed.setIfInBounds i true) (a.put j.dst v) w):wpAnyM P md ops Q S fs (q+1) listed a w :=
 first1 u (mU hs) B F H q listed a w (zb.closedB_spec E) (Region.free_spec u hf) (by simpa using I) K C h
theorem one {q:Nat}{listed:Array Bool}{a:oy}{w:World}(i:Nat)(B:oP md ops listed=[i])
  (h:wpOp P ops Q i (λC w'=>(fs.contains i=false->S w')/\wpAnyM P md ops Q S fs q (listed.setIfInBounds i true) C w') a w):wpAnyM P md ops Q S fs (q+1) listed a w :=
 ⟨λu=>(by rw[B] at u;cases u),λj v=>by
  rw[B] at v;obtain rfl:j=i:=by simpa using v
  exact h⟩
theorem done {j:Nat}{listed:Array Bool}{a:oy}{w:World}(q:oP md ops listed=[])(h:Q .normal a w):wpAnyM P md ops Q S fs j listed a w:=by
 cases j with
 | zero=>exact⟨q,h⟩
 | succ n=>exact⟨λ_=>h,by rw[q];simp⟩
theorem start {q:Nat}{a:oy}{w:World}(S:World->Prop)(fs:List Nat)(j:P.follows .mixedOrders=true)(h:wpAnyM P .any ops Q S fs ops.size (Array.replicate ops.size false) a w.drew):(Code.region q ops true).wp P Q a w :=
 wp_region_any j (to_any _ _ _ _ h)
theorem k1 {q:Nat}{listed:Array Bool}{a:oy}{w:World}(i:Nat){j:oM}(v:Value)(F:ops[i]?=some j)(B:S w)(K:mV P ops S j v a)(h:wpAnyM P md ops Q S fs q (listed.setIfInBounds i true) (a.put j.dst v) w)(hs:nc ops=true:=by kernel_rfl)(hf:mJ md ops listed i=true:=by kernel_rfl)(I:(oP md ops listed).contains i=true:=by kernel_rfl)(C:zb.closedB md ops listed=true:=by kernel_rfl)(E:(fs.all λf=>zb.reach md ops 30 f i)=true:=by kernel_rfl)(H:fs.contains i=false:=by rfl)(u:∀c a w,Q (.panic c) (a.put j.dst v) w->Q (.panic c) a w:=by exact λ_ _ _ h=>h):wpAnyM P md ops Q S fs (q+1) listed a w :=
 take1 i v F hs hf I C E H u B K h
end
end jY

theorem TE (w:World):pr Y3 177 #[.slice none 0 0] w λe w'=>e=Y0 (.int .u32 0)/\w=w':=by
 go_enter func177,ntmps177
 go_wp2;go_ret;exact⟨rfl,rfl⟩
theorem Ls (w:World):pr Y3 250 #[.slice none 0 0] w λe w'=>e=Y0 (.slice none 0 0)/\w=w':=by
 have hq:=λW=>Qu (P:=Y3) W 169 261 none 0 0 underlying169
 go_enter func250,ntmps250
 go_wp2;go_ret;exact⟨rfl,rfl⟩
section
variable (w:World)(l d many lb mb:Nat)(g:Nat->Y4)(xs:List (Nat×Y4))(left:Int)(fr pg:Int)(sr ep:Nat)(sz:Int)
theorem ON (A:Y5)(n c:Nat)(B:Y5)(nm C:Nat)(O:yR w d many g xs left false)(hl:xs.length<=900000)(h1l : -1000000<=left)(N:left<=9223372036854775807)(K:za w l 171 (Xj (some ⟨d,0,none⟩) fr pg sr ep sz A n c))(aA:za w lb 115 #[.pointer (some ⟨l,0,none⟩)])(aE:za w mb 169 #[.slice B nm C])(aB:l≠d)(aF:vf sz (nm:Int)=true)(aC:2<=many)(aD:many<=1000000)(aG:sr+1<18446744073709551616):pr Y3 253 #[.pointer (some ⟨lb,0,none⟩),.pointer (some ⟨mb,0,none⟩)] w λe w'=>e=Y0 (.int .i64 0)/\(∃M,yR w' d many M [] left false)/\za w' l 171 (Xj (some ⟨d,0,none⟩) fr pg (sr+1) ep sz A n c)/\ze (λk=>k=d∨k=l) w w':=by
 have E:=MK w.drew l d many g xs left (sr+1) ep sz (nm:Int) fr pg sr ep sz A n c (O.grow (pf _ _).drew) hl h1l N K.drew aB aF aC aD;rw[show ((sr+1:Nat):Int)=(sr:Int)+1 by omega] at E;have aH:IntKind.u64.wrap ((sr:Int)+1)=(sr:Int)+1:=by rw[IntKind.wrap_u64];omega
 have F:∀W,za W l 171 (Xj (some ⟨d,0,none⟩) fr pg sr ep sz A n c)->W.cell? ⟨l,3,none⟩=some (.int .u64 (sr:Int)):=λW j=>by rw[j.cell];rfl
 have H:∀W,za W l 171 (Xj (some ⟨d,0,none⟩) fr pg sr ep sz A n c)->W.cell? ⟨l,4,none⟩=some (.int .u64 (ep:Int)):=λW j=>by rw[j.cell];rfl
 have I:∀W,za W l 171 (Xj (some ⟨d,0,none⟩) fr pg sr ep sz A n c)->W.cell? ⟨l,5,none⟩=some (.int .i64 sz):=λW j=>by rw[j.cell];rfl
 have u:za w.drew l 171 (Xj (some ⟨d,0,none⟩) fr pg sr ep sz A n c)/\za w.drew lb 115 #[.pointer (some ⟨l,0,none⟩)]/\za w.drew mb 169 #[.slice B nm C]:=⟨K.drew,aA.drew,aE.drew⟩
 go_enter func253,ntmps253
 go_wp2_with fail
 refine jY.start (λW=>za W l 171 (Xj (some ⟨d,0,none⟩) fr pg sr ep sz A n c)/\za W lb 115 #[.pointer (some ⟨l,0,none⟩)]/\za W mb 169 #[.slice B nm C]) [17,18] (by kernel_rfl) ?_;refine jY.k1 0 (.pointer (some ⟨l,0,none⟩)) rfl u (zb.yld rfl (λW j=>by obtain⟨q1,q2,v⟩:=j;have q:=q2.boxed;go_simp)) ?_;simp only[zD,zB,pj,zA,zF,zE];refine jY.k1 1 (.pointer (some ⟨l,0,none⟩)) rfl u (zb.yld rfl (λW j=>by obtain⟨q1,q2,v⟩:=j;have q:=q2.boxed;go_simp)) ?_;simp only[Z8];refine jY.k1 2 (.pointer (some ⟨l,0,none⟩)) rfl u (zb.yld rfl (λW j=>by go_simp)) ?_;simp only[Z8];refine jY.k1 3 (.pointer (some ⟨l,3,none⟩)) rfl u (zb.yld rfl (λW j=>by go_simp)) ?_;simp only[Z8];refine jY.k1 4 (.int .u64 (sr:Int)) rfl u (zb.yld rfl (λW j=>by obtain⟨q1,q2,v⟩:=j;have q:=F W q1;go_simp)) ?_;simp only[Z8];refine jY.k1 5 (.int .u64 ((sr:Int)+1)) rfl u (zb.yld rfl (λW j=>by go_simp)) ?_;simp only[Z8];refine jY.k1 6 (.pointer (some ⟨l,0,none⟩)) rfl u (zb.yld rfl (λW j=>by obtain⟨q1,q2,v⟩:=j;have q:=q2.boxed;go_simp)) ?_;simp only[Z8];refine jY.k1 7 (.pointer (some ⟨l,0,none⟩)) rfl u (zb.yld rfl (λW j=>by go_simp)) ?_;simp only[Z8];refine jY.k1 8 (.pointer (some ⟨l,4,none⟩)) rfl u (zb.yld rfl (λW j=>by go_simp)) ?_;simp only[Z8];refine jY.k1 9 (.int .u64 (ep:Int)) rfl u (zb.yld rfl (λW j=>by obtain⟨q1,q2,v⟩:=j;have q:=H W q1;go_simp)) ?_;simp only[Z8];refine jY.k1 10 (.pointer (some ⟨l,0,none⟩)) rfl u (zb.yld rfl (λW j=>by obtain⟨q1,q2,v⟩:=j;have q:=q2.boxed;go_simp)) ?_;simp only[Z8];refine jY.k1 11 (.pointer (some ⟨l,0,none⟩)) rfl u (zb.yld rfl (λW j=>by go_simp)) ?_;simp only[Z8];refine jY.k1 12 (.pointer (some ⟨l,5,none⟩)) rfl u (zb.yld rfl (λW j=>by go_simp)) ?_;simp only[Z8];refine jY.k1 13 (.int .i64 sz) rfl u (zb.yld rfl (λW j=>by obtain⟨q1,q2,v⟩:=j;have q:=I W q1;go_simp)) ?_;simp only[Z8];refine jY.k1 14 (.slice B nm C) rfl u (zb.yld rfl (λW j=>by obtain⟨q1,q2,v⟩:=j;have q:=v.boxed;go_simp)) ?_;simp only[Z8];refine jY.k1 15 (.int .i64 (nm:Int)) rfl u (zb.yld rfl (λW j=>by go_simp)) ?_;simp only[Z8];refine jY.k1 16 (.agg #[.int .u64 ((sr:Int)+1),.int .u64 (ep:Int),.int .i64 sz,.int .i64 (nm:Int)]) rfl u (zb.yld rfl (λW j=>by go_simp)) ?_;simp only[Z8];refine jY.one 17 (by kernel_rfl) ?_;refine zb.oC 104 #[.tmp 3,.tmp 19] #[115,173] #[.pointer (some ⟨l,0,none⟩),.agg #[.int .u64 ((sr:Int)+1),.int .u64 (ep:Int),.int .i64 sz,.int .i64 (nm:Int)]] (E.mono ?_) (zb.eo func104);rintro e w2 ⟨rfl,T,Z,U⟩;refine⟨_,rfl,λh=>(by cases h),?_⟩;simp only[Z8];refine jY.one 18 (by kernel_rfl) (zb.opV (w':=w2) (.int .i64 0) rfl rfl (by go_simp) ⟨λh=>(by cases h),jY.done (by kernel_rfl) ?_⟩);simp only[Z8];have V:ze (λk=>k=d∨k=l) w w2:=(ze.grown (yP w none) (λr e=>by cases e)).trans U;clear E F H I u;go_wp2;go_ret;exact⟨rfl,⟨_,T⟩,Z,V⟩
theorem OM (szb:Nat)(D:Y5)(A:Y5)(n c:Nat)(j:Y5)(nm u:Nat)(s:Int)(B:za w l 171 (Xj D fr pg sr ep sz A n c))(F:za w lb 115 #[.pointer (some ⟨l,0,none⟩)])(H:za w mb 169 #[.slice j nm u])(I:za w szb 3 #[.int .i64 s])(M:l≠lb)(N:l≠mb)(O:l≠szb):pr Y3 254 #[.pointer (some ⟨mb,0,none⟩),.pointer (some ⟨szb,0,none⟩),.pointer (some ⟨lb,0,none⟩)] w λe w'=>e=Y0 (.int .i64 0)/\w'=(w.drew.setCell ⟨l,6,none⟩ (.slice j nm u)).setCell ⟨l,5,none⟩ (.int .i64 s)/\za w' l 171 (Xj D fr pg sr ep s j nm u):=by
 have V:w.cell? ⟨l,6,none⟩=some (.slice A n c):=by rw[B.cell];rfl
 have U:w.cell? ⟨l,5,none⟩=some (.int .i64 sz):=by rw[B.cell];rfl
 have f6:=B.free 6;have T:=B.free 5;have K:=B.drew.set 6 (.slice j nm u);have v:za w.drew lb 115 #[.pointer (some ⟨l,0,none⟩)]/\za w.drew mb 169 #[.slice j nm u]/\za w.drew szb 3 #[.int .i64 s]:=⟨F.drew,H.drew,I.drew⟩;have C:za (w.drew.setCell ⟨l,6,none⟩ (.slice j nm u)) lb 115 #[.pointer (some ⟨l,0,none⟩)]/\za (w.drew.setCell ⟨l,6,none⟩ (.slice j nm u)) mb 169 #[.slice j nm u]/\za (w.drew.setCell ⟨l,6,none⟩ (.slice j nm u)) szb 3 #[.int .i64 s] :=
  ⟨F.drew.other (λe=>M e.symm) _,H.drew.other (λe=>N e.symm) _,I.drew.other (λe=>O e.symm) _⟩
 go_enter func254,ntmps254
 go_wp2_with fail
 refine zb.st (λW=>za W lb 115 #[.pointer (some ⟨l,0,none⟩)]/\za W mb 169 #[.slice j nm u]/\za W szb 3 #[.int .i64 s]) 9 ?_;refine zb.t 0 (.pointer (some ⟨l,0,none⟩)) rfl v (λW ⟨q1,q2,E⟩=>by have q:=q1.boxed;go_simp) ?_;refine zb.t 1 (.pointer (some ⟨l,0,none⟩)) rfl v (λW ⟨q1,q2,E⟩=>by have q:=q1.boxed;go_simp) ?_;refine zb.t 2 (.slice j nm u) rfl v (λW ⟨q1,q2,E⟩=>by have q:=q2.boxed;go_simp) ?_;refine zb.t 3 (.int .i64 s) rfl v (λW ⟨q1,q2,E⟩=>by have q:=E.boxed;go_simp) ?_;simp only[Z8];refine zb.n 4 (zb.opV (w':=w.drew) (.pointer (some ⟨l,0,none⟩)) rfl rfl (by go_simp) ⟨λ_=>v,?_⟩);simp only[Z8];refine zb.n 5 (zb.opV (w':=w.drew) (.pointer (some ⟨l,6,none⟩)) rfl rfl (by go_simp) ⟨λ_=>v,?_⟩);simp only[Z8];refine zb.n 6 (zb.opS (w':=w.drew.setCell ⟨l,6,none⟩ (.slice j nm u)) rfl rfl (by go_simp) ⟨λ_=>C,?_⟩);simp only[zD,zC,zB,pj];refine zb.n 7 (zb.opV (w':=w.drew.setCell ⟨l,6,none⟩ (.slice j nm u)) (.pointer (some ⟨l,0,none⟩)) rfl rfl (by go_simp) ⟨λ_=>C,?_⟩);simp only[Z8];refine zb.n 8 (zb.opV (w':=w.drew.setCell ⟨l,6,none⟩ (.slice j nm u)) (.pointer (some ⟨l,5,none⟩)) rfl rfl (by go_simp) ⟨λ_=>C,?_⟩);simp only[Z8];refine zb.n 9 (zb.opS (w':=(w.drew.setCell ⟨l,6,none⟩ (.slice j nm u)).setCell ⟨l,5,none⟩ (.int .i64 s)) rfl rfl (by go_simp) ⟨λh=>absurd rfl h,zb.dn ?_⟩);simp only[zD,zC,zB,pj];clear v C;go_wp2;go_ret;exact⟨rfl,rfl,K.set 5 (.int .i64 s)⟩
end
theorem Zs:yx Y3 74 2:=⟨⟨_,underlying74,rfl⟩,by kernel_rfl⟩
theorem Dg {e i p:Nat}{f:Bool}{z n:Nat}{y:Y4}(h:y.length=512):(VL (Qx e i p f z n) y).length=576:=by
 simp[VL,QX,QZ];omega
section
variable (e:Nat)(i p:Int)(f:Bool)(z:Int)(n:Nat)(A:Y5)(k:Nat)(y:Y4)(s e':Nat)(z' c':Int)(x0 x1:Int)(w:World)
end
namespace Qp
variable {L:List (Nat×vd)}{ops:Array oM}{w0:World}{o:oM}
end Qp
section
variable (e:Nat)(i p:Int)(f:Bool)(z:Int)(n:Nat)(A:Y5)(k:Nat)(y:Y4)(s e':Nat)(z' c':Int)(w:World)(X Y:Y4)
end

section
variable (w:World)(l d many lb mb:Nat)(g:Nat->Y4)(xs:List (Nat×Y4))(left:Int)(fr pg:Int)(sr ep:Nat)(sz:Int)
theorem OO (c:Nat)(E fc:Nat)(e:Nat)(p:Int)(f:Bool)(z:Int)(N:Nat)(H:Y5)(M:Nat)(y:Y4)(hD:yR w d many g xs left false)(hl:xs.length<=900000)(h1l : -1000000<=left)(aK:left<=9223372036854775807)(Z:za w l 171 (Xj (some ⟨d,0,none⟩) fr pg sr ep sz none 0 0))(V:za w lb 115 #[.pointer (some ⟨l,0,none⟩)])(aD:za w mb 169 #[.slice (some ⟨E,0,none⟩) 1 fc])
  (aZ:1<=fc) (a1:fc<=9223372036854775807) (aH:w.rangeAt E 0 (zq e 0 p f z N H y.length M).toList) (aR:E<w.heap.size) (hy:qq w w.heap.size H M y) (a3:∀g o,H=some ⟨g,o,none⟩->0<y.length->g≠d)
  (aU:l≠d) (a2:lb≠d) (a5:mb≠d) (a0:E≠d) (aW:ME (xB fr pg) 0 fr=0) (aB:Jq y.length 0 p f z=true) (a4:11<=many) (aV:many<=1000000) :
  pr Y3 251 #[.pointer (some ⟨mb,0,none⟩),.pointer (some ⟨lb,0,none⟩)] w λe' w'=>e'=.returned (.int .i64 0)/\(∃aA,aA.length<=xs.length+9/\yR w' d many g aA left false)/\w.grownBy w' (some d):=by
 have u:ph w.heap.size w w.drew:=(pf _ _).drew;have T0:∀W,ph w.heap.size w W->W.cell? ⟨mb,0,none⟩=some (.slice (some ⟨E,0,none⟩) 1 fc):=λW h=>(aD.below h aD.lt).boxed
 have O:∀W,ph w.heap.size w W->W.cell? ⟨lb,0,none⟩=some (.pointer (some ⟨l,0,none⟩)):=λW h=>(V.below h V.lt).boxed
 have T6:∀W,ph w.heap.size w W->W.cell? ⟨l,6,none⟩=some (.slice none 0 0):=λW h=>by rw[(Z.below h Z.lt).cell];rfl
 go_enter func251,ntmps251
 go_wp2_with fail
 refine zb.st (λW=>ph w.heap.size w W) 99 ?_;refine zb.t0 0 (.slice (some ⟨E,0,none⟩) 1 fc) rfl u (λW h=>by have q:=T0 W h;go_simp) ?_;refine zb.t0 1 (.pointer (some ⟨l,0,none⟩)) rfl u (λW h=>by have q:=O W h;go_simp) ?_;refine zb.q0 2 (.pointer (some ⟨l,0,none⟩)) u ?_;refine zb.q0 3 (.pointer (some ⟨l,6,none⟩)) u ?_;refine zb.t0 4 (.slice none 0 0) rfl u (λW h=>by have q:=T6 W h;go_simp) ?_;refine zb.q0 5 (.int .i64 0) u ?_;refine zb.q0 6 (.slice (some ⟨E,0,none⟩) 1 fc) u ?_;refine zb.q0 7 (.int .i64 1) u ?_;simp only[Z8];refine zb.n 8 (zb.opV (w':=w.drew) (.int .i64 0) rfl rfl (by go_simp) ⟨λ_=>u,zb.dn ?_⟩);simp only[Z8];clear T0 T6;go_wp2
 go_loopw [18] (λi wr=>(i=.int .i64 0/\ph w.heap.size w wr)∨(i=.int .i64 1/\(∃aA,aA.length<=xs.length+9/\yR wr d many g aA left false)/\w.grownBy wr (some d))) (λi _=>2-(intOf i).toNat)
 case atStart=>exact .inl ⟨rfl,u⟩
 case round =>
  clear u;rcases hrel with⟨rfl,u⟩|⟨rfl,hDx,hGx⟩
  ·have aJ:wr.rangeAt E 0 (zq e 0 p f z N H y.length M).toList:=λj v hj=>(u.cell (p:=⟨E,0+j,none⟩) aR).trans (aH j v hj)
   have aF:ph w.heap.size w (wr.alloc (.cells #[.int .u64 0,.int .i64 0,.int .i64 0,.bool false,.int .i64 0,.int .u32 0,.slice none 0 0] 261)):=u.alloc u.size _;have bz:=za.new wr 261 #[.int .u64 0,.int .i64 0,.int .i64 0,.bool false,.int .i64 0,.int .u32 0,.slice none 0 0];have b3:=bz.setRow (zq e 0 p f z N H y.length M);have I:ph w.heap.size w ((wr.alloc (.cells #[.int .u64 0,.int .i64 0,.int .i64 0,.bool false,.int .i64 0,.int .u32 0,.slice none 0 0] 261)).setRow wr.heap.size (zq e 0 p f z N H y.length M)):=zf aF u.size _
   go_wp2_with (first
    | (refine zr rfl (yX kE aJ rfl rfl rfl) ?_)
    | (refine zt rfl 261 (.tmp 4) (.tmp 21) rfl wr.heap.size rfl rfl kE bz rfl rfl (QF _ _ _ _ _ _ _ _ _) ?_))
   have aN:=hD.grow I;have K:=Z.below I Z.lt;have aI:=V.below I V.lt;have aX:=(hy.below I).more I.size;clear aJ aF bz O hD Z V aD aH hy u;generalize (wr.alloc (.cells #[.int .u64 0,.int .i64 0,.int .i64 0,.bool false,.int .i64 0,.int .u32 0,.slice none 0 0] 261)).setRow wr.heap.size (zq e 0 p f z N H y.length M)=B at *;generalize wr.heap.size=fb at *;have HP:∀W,pr Y3 175 #[.agg #[.int .i64 fr,.int .i64 pg],.int .i64 0] W λe w'=>e=Y0 (.tuple #[.int .i64 2,.int .i64 0])/\ph W.heap.size W w':=λW=>by have:=Dh fr pg 0 W;unfold wB at this;rw[aW,if_pos rfl] at this;exact this
   have O:∀W,ph B.heap.size B W->W.cell? ⟨lb,0,none⟩=some (.pointer (some ⟨l,0,none⟩)):=λW h=>(aI.below h aI.lt).boxed
   have P1:∀W,ph B.heap.size B W->W.cell? ⟨l,1,none⟩=some (.int .i64 fr):=λW h=>by rw[(K.below h K.lt).cell];rfl
   have P2:∀W,ph B.heap.size B W->W.cell? ⟨l,2,none⟩=some (.int .i64 pg):=λW h=>by rw[(K.below h K.lt).cell];rfl
   have I1:∀W,ph B.heap.size B W->W.cell? ⟨fb,1,none⟩=some (.int .i64 0):=λW h=>by rw[(b3.below h b3.lt).cell];rfl
   have F:ph B.heap.size B B.drew:=(pf _ _).drew;refine zb.st (λW=>ph B.heap.size B W) 99 ?_;refine zb.t0 0 (.pointer (some ⟨l,0,none⟩)) rfl F (λW h=>by have q:=O W h;go_simp) ?_;refine zb.q0 1 (.pointer (some ⟨l,0,none⟩)) F ?_;refine zb.q0 2 (.pointer (some ⟨l,0,none⟩)) F ?_;refine zb.q0 3 (.pointer (some ⟨l,1,none⟩)) F ?_;refine zb.t0 4 (.agg #[.int .i64 fr,.int .i64 pg]) rfl F (λW h=>by have q1:=P1 W h;have q2:=P2 W h;go_simp) ?_;refine zb.q0 5 (.pointer (some ⟨fb,1,none⟩)) F ?_;refine zb.t0 6 (.int .i64 0) rfl F (λW h=>by have q1:=I1 W h;go_simp) ?_;simp only[Z8];refine zb.n 7 ?_;refine zb.oC 175 #[.tmp 27,.tmp 29] #[74,3] #[.agg #[.int .i64 fr,.int .i64 pg],.int .i64 0] ((HP B.drew).mono ?_) (zb.eo func175);rintro e1 w4 ⟨rfl,aL⟩;have C:ph B.heap.size B w4:=F.trans (aL.mono (zG _));refine⟨_,rfl,λ_=>C,?_⟩;simp only[Z8];refine zb.n 8 (zb.opV (w':=w4) (.tuple #[.int .i64 2,.int .i64 0]) rfl rfl (by go_simp) ⟨λ_=>C,?_⟩);refine zb.q0 9 (.int .i64 2) C ?_;refine zb.q0 10 (.int .i64 0) C ?_;simp only[Z8];refine zb.n 11 (zb.opV (w':=w4) (.int .i64 2) rfl rfl (by go_simp) ⟨λ_=>C,?_⟩);simp only[Z8];refine zb.n 12 (zb.opV (w':=w4) (.int .i64 0) rfl rfl (by go_simp) ⟨λ_=>C,zb.dn ?_⟩);simp only[Z8];have b4:=b3.below C b3.lt;have aY:=(aX.below C).more C.size;have T:=Rj e 0 p f z N H M y w4 aY;have aC:(Lv e 0 p f z N y).length=576:=by unfold Lv;rw[if_pos aB];exact Dg ((Kb _ _ _ _ _).1 aB).1
   have aG:Lu 0 p f z y=0:=by unfold Lu;rw[if_pos aB]
   rw[aG] at T;unfold Uu at T;rw[aC] at T;have aE:=pk aC;clear aC aG aB HP P1 P2 I1 F
   go_wp2_with (first
    | (refine xA kE b4 ?_)
    | (go_at_call 252;refine T.mono ?_;rintro e2 w5 ⟨A5,c5,rfl,aT,aM⟩;have U:=C.trans (aM.mono C.size);have t1:=O w5 U))
   have aQ:w5.cell? ⟨l,0,none⟩=some (.pointer (some ⟨d,0,none⟩)):=by rw[(K.below U K.lt).cell];rfl
   have HW:=KA w5 l d many g xs left (aN.grow U) hl h1l aK aQ aU (zO K.lt U.size) 2 9 A5 c5 _ aT (by rw[aE.out]) (by omega) (by omega) aV;rw[aE.out,show ((2:Nat):Int)=2 from rfl] at HW;refine HW.mono ?_;rintro e3 w6 ⟨rfl,aO,aS⟩;have aP:w.grownBy w6 (some d):=(jX (I.trans (U.mono I.size)) d).trans aS;clear T HW O;go_wp2
   go_roundw
   case rel=>exact .inr ⟨rfl,⟨_,by rw[zH,JU];omega,aO⟩,aP⟩
   case measure=>simp[intOf]
  ·go_wp2;go_ret;exact⟨rfl,hDx,hGx⟩
end
section
variable (w:World)(l d many lb mb szb:Nat)(g:Nat->Y4)(xs:List (Nat×Y4))(left:Int)(fr pg:Int)(sr ep:Nat)(sz:Int)
def uc (lb mb szb d:Nat):List uu:=[⟨251,#[],#[.pointer (some ⟨mb,0,none⟩),.pointer (some ⟨lb,0,none⟩)]⟩,⟨169,#[.pointer (some ⟨d,0,none⟩)],#[]⟩,⟨253,#[],#[.pointer (some ⟨lb,0,none⟩),.pointer (some ⟨mb,0,none⟩)]⟩,⟨254,#[],#[.pointer (some ⟨mb,0,none⟩),.pointer (some ⟨szb,0,none⟩),.pointer (some ⟨lb,0,none⟩)]⟩]
def ud (lb mb szb d:Nat):Y7:=#[.func (.func 251) #[] #[.pointer (some ⟨mb,0,none⟩),.pointer (some ⟨lb,0,none⟩)],.func (.func 169) #[.pointer (some ⟨d,0,none⟩)] #[],.func (.func 253) #[] #[.pointer (some ⟨lb,0,none⟩),.pointer (some ⟨mb,0,none⟩)],.func (.func 254) #[] #[.pointer (some ⟨mb,0,none⟩),.pointer (some ⟨szb,0,none⟩),.pointer (some ⟨lb,0,none⟩)]]
theorem OL (B fc:Nat)(p:Int)(s:Int)(O:Y5)(ky:Nat)(y:Y4)(hD:yR w d many g xs left false)(hl:xs.length<=800000)(h1l : -1000000<=left)(aA:left<=9223372036854775807)(aE:za w l 171 (Xj (some ⟨d,0,none⟩) fr pg sr ep sz none 0 0))(aI:za w lb 115 #[.pointer (some ⟨l,0,none⟩)])(aM:za w mb 169 #[.slice (some ⟨B,0,none⟩) 1 fc])(aN:za w szb 3 #[.int .i64 s])
  (aP:1<=fc) (aR:fc<=9223372036854775807) (aS:w.rangeAt B 0 (zq ep 0 p true s 0 O y.length ky).toList) (aH:B<w.heap.size) (hy:qq w w.heap.size O ky y) (aU:∀g o,O=some ⟨g,o,none⟩->0<y.length->g≠d)
  (T:l≠d) (aD:lb≠d) (aF:mb≠d) (aO:szb≠d) (aQ:B≠d) (U:l≠lb) (Z:l≠mb) (n3:l≠szb) (aY:ME (xB fr pg) 0 fr=0) (aX:Jq y.length 0 p true s=true) (aW:vf sz 1=true) (aV:11<=many) (aL:many<=1000000) (a0:sr+1<18446744073709551616) :
  pr Y3 170 #[.slice (some ⟨w.heap.size,0,none⟩) 4 4] (w.alloc (.cells (ud lb mb szb d) 84)) λe w'=>e=Y0 (.int .i64 0)/\(∃C,yR w' d many C [] left false)/\za w' l 171 (Xj (some ⟨d,0,none⟩) fr pg (sr+1) ep s (some ⟨B,0,none⟩) 1 fc)/\ze (λk=>k=d∨k=l) w w':=by
 have a1:=hD.lt;have aK:=aE.lt;have q1:=aI.lt;have q2:=aM.lt;have q3:=aN.lt;obtain⟨V,hV,E,f0⟩:=YK w 84 (ud lb mb szb d);rw[<-hV];clear hV;have HS:=Vo V w.heap.size 4 (uc lb mb szb d)
  (λk W=>(za W lb 115 #[.pointer (some ⟨l,0,none⟩)]/\za W mb 169 #[.slice (some ⟨B,0,none⟩) 1 fc]/\za W szb 3 #[.int .i64 s]/\za W w.heap.size 84 (ud lb mb szb d)/\ze (λk=>k=d∨k=l) w W) /\
   (k=0->W=V) /\
   (k=1->(∃aG,aG.length<=xs.length+9/\yR W d many g aG left false)/\za W l 171 (Xj (some ⟨d,0,none⟩) fr pg sr ep sz none 0 0)) /\
   (k=2->(∃C,yR W d many C [] left false)/\za W l 171 (Xj (some ⟨d,0,none⟩) fr pg sr ep sz none 0 0)) /\
   (k=3->(∃C,yR W d many C [] left false)/\za W l 171 (Xj (some ⟨d,0,none⟩) fr pg (sr+1) ep sz none 0 0)) /\
   (k=4->(∃C,yR W d many C [] left false)/\za W l 171 (Xj (some ⟨d,0,none⟩) fr pg (sr+1) ep s (some ⟨B,0,none⟩) 1 fc)))
  (λ_ _=>False) (by show 4<=100;omega)
  (by
   rintro k hk W ⟨⟨_,_,_,H,_⟩,_⟩;rw[H.cell]
   match k,hk with
   | 0,_=>rfl
   | 1,_=>rfl
   | 2,_=>rfl
   | 3,_=>rfl
   | k+4,h=>exact absurd h (by simp[uc]))
  (by
   rintro k hk W ⟨⟨h1,h2,K,H,I⟩,r0,r1,r2,r3,_⟩;have m0:some lb≠some d:=λe=>by injection e with e;exact aD e
   have m1:some mb≠some d:=λe=>by injection e with e;exact aF e
   have m2:some szb≠some d:=λe=>by injection e with e;exact aO e
   have m3:some w.heap.size≠some d:=λe=>by injection e with e;omega
   have m4:some l≠some d:=λe=>by injection e with e;exact T e
   match k,hk with
   | 0,_ =>
    obtain rfl:=r0 rfl;refine⟨zb.eo func251,(OO W l d many lb mb g xs left fr pg sr ep sz 0 B fc ep p true s 0 O ky y (hD.grow E) (by omega) h1l aA (aE.below E aK) h1 h2 aP aR (λj v hj=>(E.cell (p:=⟨B,0+j,none⟩) aH).trans (aS j v hj)) (zO aH E.size) ((hy.below E).more E.size) aU T aD aF aQ aY aX aV aL).mono ?_⟩;rintro e w2 ⟨rfl,hx,u⟩;exact .inl ⟨rfl,⟨h1.grown u m0,h2.grown u m1,K.grown u m2,H.grown u m3,I.trans (ze.grown u (λr e=>by cases e;exact .inl (.inl rfl)))⟩,(λe=>by cases e),(λ_=>⟨hx,(aE.below E aK).grown u m4⟩),(λe=>by cases e),(λe=>by cases e),(λe=>by cases e)⟩
   | 1,_ =>
    obtain⟨⟨aG,a2,M⟩,F⟩:=r1 rfl;refine⟨zb.eo func169,(GI W d many g _ left false M rfl (by omega) h1l aA).mono ?_⟩;rintro e w2 ⟨rfl,aB,u⟩;exact .inl ⟨rfl,⟨h1.grown u m0,h2.grown u m1,K.grown u m2,H.grown u m3,I.trans (ze.grown u (λr e=>by cases e;exact .inl (.inl rfl)))⟩,(λe=>by cases e),(λe=>by cases e),(λ_=>⟨⟨_,aB⟩,F.grown u m4⟩),(λe=>by cases e),(λe=>by cases e)⟩
   | 2,_ =>
    obtain⟨⟨C,M⟩,F⟩:=r2 rfl;refine⟨zb.eo func253,(ON W l d many lb mb C [] left fr pg sr ep sz none 0 0 (some ⟨B,0,none⟩) 1 fc M (by decide) h1l aA F h1 h2 T aW (by omega) aL a0).mono ?_⟩;rintro e w2 ⟨rfl,aB,aC,N⟩;have z (q:Nat) (hq:q≠d) (aZ:l≠q):¬ (q=d∨q=l):=λe=>by rcases e with e|e;exact hq e;exact aZ e.symm
    exact .inl ⟨rfl,⟨N.blk h1 (z _ aD U),N.blk h2 (z _ aF Z),N.blk K (z _ aO n3),N.blk H (z _ (by omega) (by omega)),I.trans N⟩,(λe=>by cases e),(λe=>by cases e),(λe=>by cases e),(λ_=>⟨aB,aC⟩),(λe=>by cases e)⟩
   | 3,_ =>
    obtain⟨⟨C,M⟩,F⟩:=r3 rfl;refine⟨zb.eo func254,(OM W l lb mb fr pg (sr+1) ep sz szb (some ⟨d,0,none⟩) none 0 0 (some ⟨B,0,none⟩) 1 fc s F h1 h2 K U Z n3).mono ?_⟩;rintro e w2 ⟨rfl,rfl,aC⟩;have aJ:d≠l:=λe=>T e.symm
    have aT:=F.drew.set 6 (.slice (some ⟨B,0,none⟩) 1 fc);have z:w.heap.size≠l:=by omega
    exact .inl ⟨rfl,⟨(h1.drew.other (λe=>U e.symm) _).other (λe=>U e.symm) _,(h2.drew.other (λe=>Z e.symm) _).other (λe=>Z e.symm) _,(K.drew.other (λe=>n3 e.symm) _).other (λe=>n3 e.symm) _,(H.drew.other z _).other z _,
     ((I.trans (ze.grown (yP W none) (λr e=>by cases e))).trans (ze.setCell _ _ _ (.inr rfl))).trans (ze.setCell _ _ _ (.inr rfl))⟩,(λe=>by cases e),(λe=>by cases e),(λe=>by cases e),(λe=>by cases e),(λ_=>⟨⟨C,((M.grow (pf _ _).drew).setOther F.drew (by show 7<=64;decide) aJ _ _ rfl).setOther aT (by simp;show 7<=64;decide) aJ _ _ rfl⟩,aC⟩)⟩
   | k+4,h=>exact absurd h (by simp[uc]))
  ⟨⟨aI.below E q1,aM.below E q2,aN.below E q3,f0,ze.below E⟩,(λ_=>rfl),(λe=>by cases e),(λe=>by cases e),(λe=>by cases e),(λe=>by cases e)⟩
 refine HS.mono ?_;rintro e w2 (⟨rfl,⟨_,_,_,_,I⟩,_,_,_,_,r4⟩|⟨x,_,_,hx⟩)
 ·obtain⟨r5,r6⟩:=r4 rfl;exact⟨rfl,r5,r6,I⟩
 ·exact hx.elim
end
theorem uQ (p:Int)(A:Y5)(n c:Nat):∀v∈(#[.int .i64 p,.slice A n c]:Y7).toList,v.oneCell'=true:=by
 intro v h;simp at h;rcases h with rfl|rfl<;>rfl
theorem Uy {P:oV}{w:World}{ρ:py->Value}{o:oM}(T:oD)(x y:py)(j:o.op=.store T x y)(g:Nat){t:oD}{cs cs':Y7}(q:ρ x=.pointer (some ⟨g,0,none⟩))(u:ρ y=.agg cs'){n:Nat}(h:yx P T n)(hb:za w g t cs)(hn:cs.size=n)
  (hs:cs'.size=cs.size) (h1:∀v∈cs'.toList,v.oneCell'=true):(oB ρ o).run P w=.ok .skip (w.setRow g cs'):=by
 unfold oB;simp only[j,q,u,Instr.storeAt,Instr.sureAddr,oY,oU,oO,Qt (hn▸h) hb hs h1]
theorem wR (o:Nat)(x:UInt8):(#[.int .u64 0,.int .i64 0,.int .i64 0,.bool false,.int .i64 0,.int .u32 0,.slice none 0 0]:Y7)[o]? ≠ some (b8 x):=by
 match o with
 | 0=>simp[b8]
 | 1=>simp[b8]
 | 2=>simp[b8]
 | 3=>simp[b8]
 | 4=>simp[b8]
 | 5=>simp[b8]
 | 6=>simp[b8]
 | n+7=>simp
theorem tJ (e:Nat)(i p:Int)(f:Bool)(z:Int)(n:Nat)(A:Y5)(len k:Nat)(o:Nat)(x:UInt8):(zq e i p f z n A len k)[o]? ≠ some (b8 x):=by
 unfold zq
 match o with
 | 0=>simp[b8]
 | 1=>simp[b8]
 | 2=>simp[b8]
 | 3=>simp[b8]
 | 4=>simp[b8]
 | 5=>simp[b8]
 | 6=>simp[b8]
 | n+7=>simp
theorem EL {w:World}{ρ:py->Value}{o:oM}{x:py}(h:Y7)(j:h.size=7)(q:o.op=.buildSlice 169 1 #[(0,x)])(h1:ρ x=.agg h):(oB ρ o).run Y3 w=.ok (.value (.slice (some ⟨w.heap.size,0,none⟩) 1 1)) (w.alloc (.cells h 261)):=by
 obtain⟨l,rfl⟩:∃l:Y8,h=l.toArray:=⟨h.toList,by simp⟩;have hl:l.length=7:=by simpa using j
 have key:=λarr hs=>BF l arr hs
 rw[hl] at key;simp[oB,q,h1,go_sem,pv,hl,key]
theorem Ap:Zj 169 261 7 72 (.agg wv):=⟨underlying169,by kernel_rfl,by kernel_rfl,by decide⟩
def Q3 (F:Nat->Y5->Nat->World->Prop)(a:Nat->Y5->Nat->oy):nF->oy->World->Prop
 | .normal,b,w'=>∃q A c,F q A c w'/\b=a q A c
 | _,_,_=>False
theorem Nt {P:oV}{C:Code}{Q:nF->oy->World->Prop}{a0:oy}{w0:World}(F:Nat->Y5->Nat->World->Prop)(a:Nat->Y5->Nat->oy)(h1:C.wp P (Q3 F a) a0 w0)(h2:∀q A c w',F q A c w'->Q .normal (a q A c) w'):C.wp P Q a0 w0 :=
 wp_mono h1 λe b w' h=>by
  cases e with
  | normal =>
   obtain⟨q,A,c,hf,rfl⟩:=h;exact h2 q A c w' hf
  | _=>exact h.elim
section
variable (w:World)(l d many:Nat)(gD:Nat->Y4)(xs:List (Nat×Y4))(left:Int)(fr pg:Int)(sr ep:Nat)(sz:Int)
theorem OK (hD:yR w d many gD xs left false)(hl:xs.length<=800000)(h1l : -1000000<=left)(bU:left<=9223372036854775807)(aX:za w l 171 (Xj (some ⟨d,0,none⟩) fr pg sr ep sz none 0 0))(b9:l≠d)
  (g o c:Nat) (p:Int) (I:Y5) (M:Nat) (y:Y4) (hg:g<w.heap.size) (hx:w.rangeAt g o [.int .i64 p,.slice I 512 M]) (hy:qq w w.heap.size I M y) (aZ:y.length=512)
  (a7:xB fr pg=true) (bJ:0<=p) (cF:p<pg) (s:Int) (hs:0<=s) (cJ:s<=pg) (cM:vf sz 1=true) (cA:11<=many) (cC:many<=1000000) (cK:sr+1<18446744073709551616) :
  pr Y3 190 #[.pointer (some ⟨l,0,none⟩),.int .i64 s,.slice (some ⟨g,o,none⟩) 1 c] w λe w'=>e=Y0 (.int .i64 0)/\(∃g',yR w' d many g' [] left false)/\(∃A c',za w' l 171 (Xj (some ⟨d,0,none⟩) fr pg (sr+1) ep s A 1 c'))/\ze (λk=>k=d∨k=l) w w':=by
 have cV:=(vN fr pg).1 a7;have cG:ME (xB fr pg) p pg=0:=by rw[a7];simp[ME,bJ,cF]
 have cH:ME (xB fr pg) 0 fr=0:=by rw[a7];simp[ME];omega
 have hB:ph w.heap.size w ((w.alloc (.cells #[.pointer (some ⟨l,0,none⟩)] 115)).alloc (.cells #[.int .i64 s] 3)):=((pf _ w).alloc (zG _) _).alloc (by simp) _;have b0:=(za.new w 115 #[.pointer (some ⟨l,0,none⟩)]).alloc (.cells #[.int .i64 s] 3);have b1:=za.new (w.alloc (.cells #[.pointer (some ⟨l,0,none⟩)] 115)) 3 #[.int .i64 s];rw[pq] at b1;have aO:=aX.below hB aX.lt;have HN:=ZU aO;have bP:Tw w g o 1 (λ_=>(p,I,M)):=λk hk=>by
  obtain rfl:k=0:=by omega
  exact hx
 have HR:=Ic _ l _ fr pg sr ep sz none 0 0 aO g o 1 c (λ_=>(p,I,M)) (by omega) (by omega) (bP.below hB hg) (by simp;omega) (λ_ _=>cG) s hs cJ;have cZ:IntKind.i64.wrap 1=1:=by decide
 have cS:=hD.lt;have cU:=aX.lt;have b3:Jq 512 0 p true s=true:=(Kb _ _ _ _ _).2 ⟨rfl,⟨by omega,by omega⟩,⟨bJ,by omega⟩,⟨hs,by omega⟩,.inl rfl⟩;clear bP
 go_enter func190,ntmps190
 go_wp2_with (first
  | (go_at_call 179;refine HN.mono ?_;rintro e w' ⟨rfl,rfl⟩)
  | (go_at_call 249;refine HR.mono ?_;rintro e H ⟨rfl,aF⟩;have aJ:=aO.below aF aO.lt;have aR:=b0.below aF b0.lt;have a9:=b1.below aF b1.lt))
 have aG:=hB.trans (aF.mono hB.size);have bK:w.heap.size+2<=H.heap.size:=by have:=aF.size;simp at this;omega
 have E:ph H.heap.size H H.drew:=(pf _ _).drew;have T0:∀W,ph H.heap.size H W->W.cell? ⟨w.heap.size,0,none⟩=some (.pointer (some ⟨l,0,none⟩)):=λW C=>(aR.below C aR.lt).boxed
 have T6:∀W,ph H.heap.size H W->W.cell? ⟨l,6,none⟩=some (.slice none 0 0):=λW C=>by rw[(aJ.below C aJ.lt).cell];rfl
 have T1:∀W,ph H.heap.size H W->W.cell? ⟨l,1,none⟩=some (.int .i64 fr):=λW C=>by rw[(aJ.below C aJ.lt).cell];rfl
 have bC:=hD.grow aG;have bQ:=(hy.below aG).more aG.size;have bM:H.rangeAt g o [.int .i64 p,.slice I 512 M]:=λj v hj=>(aG.cell (p:=⟨g,o+j,none⟩) hg).trans (hx j v hj)
 clear HN HR hD aX aO b0 b1 hB aF hx hy;refine zb.st (λW=>ph H.heap.size H W) 99 ?_;refine zb.t0 0 (.pointer (some ⟨l,0,none⟩)) rfl E (λW C=>by have q:=T0 W C;go_simp) ?_;refine zb.q0 1 (.pointer (some ⟨l,0,none⟩)) E ?_;refine zb.q0 2 (.pointer (some ⟨l,6,none⟩)) E ?_;refine zb.t0 3 (.slice none 0 0) rfl E (λW C=>by have q:=T6 W C;go_simp) ?_;refine zb.q0 4 (.int .i64 0) E ?_;refine zb.q0 5 (.slice (some ⟨g,o,none⟩) 1 c) E ?_;refine zb.q0 6 (.int .i64 1) E ?_;refine zb.q0 7 (.int .i64 1) E ?_;refine zb.t0 8 (.pointer (some ⟨l,0,none⟩)) rfl E (λW C=>by have q:=T0 W C;go_simp) ?_;refine zb.q0 9 (.pointer (some ⟨l,0,none⟩)) E ?_;refine zb.q0 10 (.pointer (some ⟨l,0,none⟩)) E ?_;refine zb.q0 11 (.pointer (some ⟨l,1,none⟩)) E ?_;refine zb.q0 12 (.pointer (some ⟨l,1,none⟩)) E ?_;refine zb.t0 13 (.int .i64 fr) rfl E (λW C=>by have q:=T1 W C;go_simp) ?_;simp only[Z8];refine zb.n 14 (zb.opV (w':=H.drew) (.bool false) rfl rfl (by go_simp) ⟨λ_=>E,?_⟩);simp only[Z8];refine zb.n 15 (zb.opV (w':=H.drew) (.bool false) rfl rfl (by go_simp) ⟨λ_=>E,zb.dn ?_⟩);simp only[Z8];have t0:=T0 _ E;have t6:=T6 _ E;have a1:=bC.grow E;have aC:=aJ.drew;have aD:=aR.drew;have aK:=a9.drew;have bR:qq H.drew H.drew.heap.size I M y:=bQ.drew;have bN:H.drew.rangeAt g o [.int .i64 p,.slice I 512 M]:=bM;have bA:ph w.heap.size w H.drew:=aG.drew;have c0:w.heap.size+2<=H.drew.heap.size:=bK;clear T0 T6 T1 bC aJ aR a9 bQ bM aG bK E;generalize H.drew=F at *
 go_wp2_with (go_at_call 250;refine(Ls _).mono ?_;rintro e w' ⟨rfl,rfl⟩)
 obtain⟨W4,bD,K,m4⟩:=YK F 169 #[.slice none 0 0];rw[<-bD];clear bD
 go_loopw [43] (λi wr=>(i=.int .i64 0/\ph F.heap.size F wr/\za wr F.heap.size 169 #[.slice none 0 0]) ∨
  (i=.int .i64 1/\ph F.heap.size F wr/\∃fg fc B c6,1<=fc/\fc<=9223372036854775807/\za wr F.heap.size 169 #[.slice (some ⟨fg,0,none⟩) 1 fc]/\wr.rangeAt fg 0 (zq ep 0 p true s 0 B 512 c6).toList/\fg<wr.heap.size/\F.heap.size<=fg/\qq wr wr.heap.size B c6 y/\(∀g o,B=some ⟨g,o,none⟩->F.heap.size<=g))) (λi _=>2-(intOf i).toNat)
 case atStart=>exact .inl ⟨rfl,K,m4⟩
 case round =>
  clear K m4;rcases hrel with⟨rfl,K,m4⟩|⟨rfl,K,fg,fc,B,c6,hfc1,hfc2,m4,hr4,hfg,hfg3,aY,aA⟩
  ·have bO:wr.rangeAt g o [.int .i64 p,.slice I 512 M]:=λj v hj=>(K.cell (p:=⟨g,o+j,none⟩) (by show g<F.heap.size;omega)).trans (bN j v hj)
   have aY:=(bR.below K).more K.size;have b4:=za.new wr 200 #[.int .i64 0,.slice none 0 0];have b5:=b4.setRow #[.int .i64 p,.slice I 512 M];have aE:ph F.heap.size F ((wr.alloc (.cells #[.int .i64 0,.slice none 0 0] 200)).setRow wr.heap.size #[.int .i64 p,.slice I 512 M]):=zf (K.alloc K.size _) K.size _;have aU:ph wr.heap.size wr ((wr.alloc (.cells #[.int .i64 0,.slice none 0 0] 200)).setRow wr.heap.size #[.int .i64 p,.slice I 512 M]):=zf ((pf _ wr).alloc (zG _) _) (zG _) _;have m5:=m4.below aU m4.lt;have cP:=(aY.below aU).more aU.size
   go_wp2_with (first
    | (refine zr rfl (yX CP bO rfl rfl rfl) ?_)
    | (refine zt rfl 200 (.tmp 9) (.tmp 47) rfl wr.heap.size rfl rfl CP b4 rfl rfl (uQ _ _ _ _) ?_))
   clear bO aY b4 aU m4 K;generalize (wr.alloc (.cells #[.int .i64 0,.slice none 0 0] 200)).setRow wr.heap.size #[.int .i64 p,.slice I 512 M]=u at *;have T0:∀W,ph u.heap.size u W->W.cell? ⟨w.heap.size,0,none⟩=some (.pointer (some ⟨l,0,none⟩)):=λW C=>((aD.below aE aD.lt).below C (zO aD.lt aE.size)).boxed
   have T4:∀W,ph u.heap.size u W->W.cell? ⟨l,4,none⟩=some (.int .u64 (ep:Int)):=λW C=>by rw[((aC.below aE aC.lt).below C (zO aC.lt aE.size)).cell];rfl
   have TM:∀W,ph u.heap.size u W->W.cell? ⟨F.heap.size,0,none⟩=some (.slice none 0 0):=λW C=>(m5.below C m5.lt).boxed
   have TP:∀W,ph u.heap.size u W->W.cell? ⟨wr.heap.size,0,none⟩=some (.int .i64 p):=λW C=>by rw[(b5.below C b5.lt).cell];rfl
   have TB:∀W,ph u.heap.size u W->W.cell? ⟨wr.heap.size,1,none⟩=some (.slice I 512 M):=λW C=>by rw[(b5.below C b5.lt).cell];rfl
   have aQ:∀W,ph u.heap.size u W->pr Y3 112 #[.slice I 512 M] W λe w'=>∃A c,e=Y0 (.slice A 512 c)/\qq w' w'.heap.size A c y/\(∀g o,A=some ⟨g,o,none⟩->u.heap.size<=g)/\ph W.heap.size W w':=λW C=>by have h:=YZ W I M y ((cP.below C).more C.size) (by omega);rw[aZ] at h;refine h.mono ?_;rintro e w' ⟨v,rfl,own,aB⟩;have b6:=zh own;obtain⟨A,c,rfl,aI⟩:=own.inB;exact⟨A,c,by rw[aZ],aI,λg o e=>by subst e;exact zT C.size (b6 g rfl),aB⟩
   have E:ph u.heap.size u u.drew:=(pf _ _).drew
   go_wp2_with fail
   apply Nt (λq B c6 w'=>za w' q 261 (zq ep 0 p false 0 0 B 512 c6)/\u.heap.size<=q/\qq w' w'.heap.size B c6 y/\(∀g o,B=some ⟨g,o,none⟩->u.heap.size<=g)/\ph u.heap.size u w')
   case h1 =>
    refine zb.st (λW=>ph u.heap.size u W) 99 ?_;refine zb.t0 0 (.pointer (some ⟨l,0,none⟩)) rfl E (λW C=>by have q:=T0 W C;go_simp) ?_;refine zb.q0 1 (.pointer (some ⟨l,0,none⟩)) E ?_;refine zb.q0 2 (.pointer (some ⟨l,4,none⟩)) E ?_;refine zb.t0 3 (.int .u64 (ep:Int)) rfl E (λW C=>by have q:=T4 W C;go_simp) ?_;refine zb.t0 4 (.slice none 0 0) rfl E (λW C=>by have q:=TM W C;go_simp) ?_;refine zb.q0 5 (.int .i64 0) E ?_;refine zb.q0 6 (.pointer (some ⟨wr.heap.size,0,none⟩)) E ?_;refine zb.t0 7 (.int .i64 p) rfl E (λW C=>by have q:=TP W C;go_simp) ?_;refine zb.t0 8 (.slice none 0 0) rfl E (λW C=>by have q:=TM W C;go_simp) ?_;refine zb.q0 10 (.pointer (some ⟨wr.heap.size,1,none⟩)) E ?_;refine zb.t0 11 (.slice I 512 M) rfl E (λW C=>by have q:=TB W C;go_simp) ?_;simp only[Z8];refine zb.two 9 14 (by kernel_rfl) ?_ ?_
    case' refine_1 =>
     refine zb.oC 177 #[.tmp 56] #[169] #[.slice none 0 0] ((TE u.drew).mono ?_) (zb.eo func177);rintro e w' ⟨rfl,rfl⟩;refine⟨_,rfl,λ_=>E,?_⟩;simp only[Z8];refine zb.two 12 14 (by kernel_rfl) ?_ ?_
     case' refine_1 =>
      refine zb.oC 112 #[.tmp 59] #[129] #[.slice I 512 M] ((aQ u.drew E).mono ?_) (zb.eo func112);rintro e Wc ⟨B,c6,rfl,U,aA,aB⟩;have O:ph u.heap.size u Wc:=E.trans (aB.mono E.size);refine⟨_,rfl,λ_=>O,?_⟩;simp only[Z8];refine zb.t0 13 (.agg (zq ep 0 p false 0 0 B 512 c6)) rfl O (λW C=>by go_simp;rfl) ?_;simp only[Z8];have Z:=za.new Wc 261 #[.int .u64 0,.int .i64 0,.int .i64 0,.bool false,.int .i64 0,.int .u32 0,.slice none 0 0];have a4:ph u.heap.size u (Wc.alloc (.cells #[.int .u64 0,.int .i64 0,.int .i64 0,.bool false,.int .i64 0,.int .u32 0,.slice none 0 0] 261)):=O.alloc O.size _;have bB:ph Wc.heap.size Wc (Wc.alloc (.cells #[.int .u64 0,.int .i64 0,.int .i64 0,.bool false,.int .i64 0,.int .u32 0,.slice none 0 0] 261)):=(pf _ _).alloc (zG _) _;refine zb.n 14 ?_;refine zb.opV (w':=Wc.alloc (.cells #[.int .u64 0,.int .i64 0,.int .i64 0,.bool false,.int .i64 0,.int .u32 0,.slice none 0 0] 261)) (.pointer (some ⟨Wc.heap.size,0,none⟩)) rfl rfl (by go_simp) ⟨λ_=>a4,?_⟩;simp only[Z8];refine zb.n 15 (zb.opS (w':=(Wc.alloc (.cells #[.int .u64 0,.int .i64 0,.int .i64 0,.bool false,.int .i64 0,.int .u32 0,.slice none 0 0] 261)).setRow Wc.heap.size (zq ep 0 p false 0 0 B 512 c6)) rfl rfl (Uy 261 (.tmp 10) (.tmp 61) rfl Wc.heap.size rfl rfl kE Z rfl rfl (QF _ _ _ _ _ _ _ _ _)) ⟨λ_=>zf a4 O.size _,zb.dn ?_⟩);simp only[zD,zC,zB,pj];have hF:za ((Wc.alloc (.cells #[.int .u64 0,.int .i64 0,.int .i64 0,.bool false,.int .i64 0,.int .u32 0,.slice none 0 0] 261)).setRow Wc.heap.size (zq ep 0 p false 0 0 B 512 c6)) Wc.heap.size 261 (zq ep 0 p false 0 0 B 512 c6)/\u.heap.size<=Wc.heap.size/\qq ((Wc.alloc (.cells #[.int .u64 0,.int .i64 0,.int .i64 0,.bool false,.int .i64 0,.int .u32 0,.slice none 0 0] 261)).setRow Wc.heap.size (zq ep 0 p false 0 0 B 512 c6)) ((Wc.alloc (.cells #[.int .u64 0,.int .i64 0,.int .i64 0,.bool false,.int .i64 0,.int .u32 0,.slice none 0 0] 261)).setRow Wc.heap.size (zq ep 0 p false 0 0 B 512 c6)).heap.size B c6 y/\(∀g o,B=some ⟨g,o,none⟩->u.heap.size<=g)/\ph u.heap.size u ((Wc.alloc (.cells #[.int .u64 0,.int .i64 0,.int .i64 0,.bool false,.int .i64 0,.int .u32 0,.slice none 0 0] 261)).setRow Wc.heap.size (zq ep 0 p false 0 0 B 512 c6)):=⟨Z.setRow _,O.size,(U.below (zf bB (zG _) (zq ep 0 p false 0 0 B 512 c6))).more (zf bB (zG _) (zq ep 0 p false 0 0 B 512 c6)).size,aA,zf a4 O.size _⟩;generalize (Wc.alloc (.cells #[.int .u64 0,.int .i64 0,.int .i64 0,.bool false,.int .i64 0,.int .u32 0,.slice none 0 0] 261)).setRow Wc.heap.size (zq ep 0 p false 0 0 B 512 c6)=W7 at hF ⊢;generalize Wc.heap.size=q at hF ⊢;exact⟨q,B,c6,hF,rfl⟩
     case' refine_2 =>
      have Z:=za.new u.drew 261 #[.int .u64 0,.int .i64 0,.int .i64 0,.bool false,.int .i64 0,.int .u32 0,.slice none 0 0];have T:ph u.heap.size u (u.drew.alloc (.cells #[.int .u64 0,.int .i64 0,.int .i64 0,.bool false,.int .i64 0,.int .u32 0,.slice none 0 0] 261)):=E.alloc E.size _;refine zb.opV (w':=u.drew.alloc (.cells #[.int .u64 0,.int .i64 0,.int .i64 0,.bool false,.int .i64 0,.int .u32 0,.slice none 0 0] 261)) (.pointer (some ⟨u.drew.heap.size,0,none⟩)) rfl rfl (by go_simp) ⟨λ_=>T,?_⟩;simp only[Z8];generalize u.drew.alloc (.cells #[.int .u64 0,.int .i64 0,.int .i64 0,.bool false,.int .i64 0,.int .u32 0,.slice none 0 0] 261)=Wa at Z T ⊢;refine zb.n 12 ?_;refine zb.oC 112 #[.tmp 59] #[129] #[.slice I 512 M] ((aQ Wa T).mono ?_) (zb.eo func112);rintro e Wc ⟨B,c6,rfl,U,aA,aB⟩;have bc:=Z.below aB Z.lt;have O:ph u.heap.size u Wc:=T.trans (aB.mono T.size);refine⟨_,rfl,λ_=>O,?_⟩;simp only[Z8];refine zb.n 13 (zb.opV (w':=Wc) (.agg (zq ep 0 p false 0 0 B 512 c6)) rfl rfl (by go_simp;rfl) ⟨λ_=>O,?_⟩);simp only[Z8];have aM:ph u.heap.size u (Wc.setRow u.drew.heap.size (zq ep 0 p false 0 0 B 512 c6)):=zf O E.size _;refine zb.n 15 (zb.opS (w':=Wc.setRow u.drew.heap.size (zq ep 0 p false 0 0 B 512 c6)) rfl rfl (Uy 261 (.tmp 10) (.tmp 61) rfl u.drew.heap.size rfl rfl kE bc rfl rfl (QF _ _ _ _ _ _ _ _ _)) ⟨λ_=>aM,zb.dn ?_⟩);simp only[zD,zC,zB,pj];have aP:∀g o,B=some ⟨g,o,none⟩->g≠u.drew.heap.size:=λg o e=>by
       subst e;intro e2;subst e2;obtain⟨g',o',N,bI,aN⟩:=U.rC (by omega);injection N with N
       injection N with N e4
       subst N e4;have h0:=aN 0 (by omega);rw[bc.cell] at h0;exact wR _ _ h0
      have hF:za (Wc.setRow u.drew.heap.size (zq ep 0 p false 0 0 B 512 c6)) u.drew.heap.size 261 (zq ep 0 p false 0 0 B 512 c6)/\u.heap.size<=u.drew.heap.size/\qq (Wc.setRow u.drew.heap.size (zq ep 0 p false 0 0 B 512 c6)) (Wc.setRow u.drew.heap.size (zq ep 0 p false 0 0 B 512 c6)).heap.size B c6 y/\(∀g o,B=some ⟨g,o,none⟩->u.heap.size<=g)/\ph u.heap.size u (Wc.setRow u.drew.heap.size (zq ep 0 p false 0 0 B 512 c6)):=⟨bc.setRow _,E.size,ze.inB (Mu:=λk=>k=u.drew.heap.size) (ze.grown (jz Wc u.drew.heap.size (zq ep 0 p false 0 0 B 512 c6)) (λr e=>by injection e with e;exact .inl e.symm)) U (λg o e _=>aP g o e),aA,aM⟩;generalize Wc.setRow u.drew.heap.size (zq ep 0 p false 0 0 B 512 c6)=W7 at hF ⊢;generalize u.drew.heap.size=q at hF ⊢;exact⟨q,B,c6,hF,rfl⟩
    case' refine_2 =>
     have Z:=za.new u.drew 261 #[.int .u64 0,.int .i64 0,.int .i64 0,.bool false,.int .i64 0,.int .u32 0,.slice none 0 0];have T:ph u.heap.size u (u.drew.alloc (.cells #[.int .u64 0,.int .i64 0,.int .i64 0,.bool false,.int .i64 0,.int .u32 0,.slice none 0 0] 261)):=E.alloc E.size _;refine zb.opV (w':=u.drew.alloc (.cells #[.int .u64 0,.int .i64 0,.int .i64 0,.bool false,.int .i64 0,.int .u32 0,.slice none 0 0] 261)) (.pointer (some ⟨u.drew.heap.size,0,none⟩)) rfl rfl (by go_simp) ⟨λ_=>T,?_⟩;simp only[Z8];generalize u.drew.alloc (.cells #[.int .u64 0,.int .i64 0,.int .i64 0,.bool false,.int .i64 0,.int .u32 0,.slice none 0 0] 261)=Wa at Z T ⊢;refine zb.n 9 ?_;refine zb.oC 177 #[.tmp 56] #[169] #[.slice none 0 0] ((TE _).mono ?_) (zb.eo func177);rintro e w' ⟨rfl,rfl⟩;refine⟨_,rfl,λ_=>T,?_⟩;simp only[Z8];refine zb.n 12 ?_;refine zb.oC 112 #[.tmp 59] #[129] #[.slice I 512 M] ((aQ Wa T).mono ?_) (zb.eo func112);rintro e Wc ⟨B,c6,rfl,U,aA,aB⟩;have bc:=Z.below aB Z.lt;have O:ph u.heap.size u Wc:=T.trans (aB.mono T.size);refine⟨_,rfl,λ_=>O,?_⟩;simp only[Z8];refine zb.n 13 (zb.opV (w':=Wc) (.agg (zq ep 0 p false 0 0 B 512 c6)) rfl rfl (by go_simp;rfl) ⟨λ_=>O,?_⟩);simp only[Z8];have aM:ph u.heap.size u (Wc.setRow u.drew.heap.size (zq ep 0 p false 0 0 B 512 c6)):=zf O E.size _;refine zb.n 15 (zb.opS (w':=Wc.setRow u.drew.heap.size (zq ep 0 p false 0 0 B 512 c6)) rfl rfl (Uy 261 (.tmp 10) (.tmp 61) rfl u.drew.heap.size rfl rfl kE bc rfl rfl (QF _ _ _ _ _ _ _ _ _)) ⟨λ_=>aM,zb.dn ?_⟩);simp only[zD,zC,zB,pj];have aP:∀g o,B=some ⟨g,o,none⟩->g≠u.drew.heap.size:=λg o e=>by
      subst e;intro e2;subst e2;obtain⟨g',o',N,bI,aN⟩:=U.rC (by omega);injection N with N
      injection N with N e4
      subst N e4;have h0:=aN 0 (by omega);rw[bc.cell] at h0;exact wR _ _ h0
     have hF:za (Wc.setRow u.drew.heap.size (zq ep 0 p false 0 0 B 512 c6)) u.drew.heap.size 261 (zq ep 0 p false 0 0 B 512 c6)/\u.heap.size<=u.drew.heap.size/\qq (Wc.setRow u.drew.heap.size (zq ep 0 p false 0 0 B 512 c6)) (Wc.setRow u.drew.heap.size (zq ep 0 p false 0 0 B 512 c6)).heap.size B c6 y/\(∀g o,B=some ⟨g,o,none⟩->u.heap.size<=g)/\ph u.heap.size u (Wc.setRow u.drew.heap.size (zq ep 0 p false 0 0 B 512 c6)):=⟨bc.setRow _,E.size,ze.inB (Mu:=λk=>k=u.drew.heap.size) (ze.grown (jz Wc u.drew.heap.size (zq ep 0 p false 0 0 B 512 c6)) (λr e=>by injection e with e;exact .inl e.symm)) U (λg o e _=>aP g o e),aA,aM⟩;generalize Wc.setRow u.drew.heap.size (zq ep 0 p false 0 0 B 512 c6)=W7 at hF ⊢;generalize u.drew.heap.size=q at hF ⊢;exact⟨q,B,c6,hF,rfl⟩
   case h2 =>
    rintro q B c6 V ⟨aH,cW,U,aA,a0⟩;have aS:=aE.trans (a0.mono aE.size);have m6:=m5.below a0 m5.lt;have s6:=aK.below aS aK.lt;have cO:IntKind.i64.wrap 0=0:=by decide
    have bE:=aH.drew.set 3 (.bool true);have bF:za ((V.drew.setCell ⟨q,3,none⟩ (.bool true)).setCell ⟨q,4,none⟩ (.int .i64 s)) q 261 (zq ep 0 p true s 0 B 512 c6):=bE.set 4 (.int .i64 s);have cI:∀g o,B=some ⟨g,o,none⟩->¬ g=q:=λg o e=>by
     subst e;intro e2;subst e2;obtain⟨g',o',N,bI,aN⟩:=U.rC (by omega);injection N with N
     injection N with N e4
     subst N e4;have h0:=aN 0 (by omega);rw[aH.cell] at h0;exact tJ _ _ _ _ _ _ _ _ _ _ _ h0
    have z3:V.cell? ⟨q,3,none⟩=some (.bool false):=by rw[aH.cell];rfl
    have z4:V.cell? ⟨q,4,none⟩=some (.int .i64 0):=by rw[aH.cell];rfl
    have y3:=aH.free 3;have y4:=aH.free 4;have c2:=aE.size;have cQ:¬ w.heap.size+1=q:=by omega
    have bS:¬ F.heap.size=q:=by have:=m5.lt;omega
    have aW:=s6.drew;have a5:=aW.other (p:=⟨q,3,none⟩) cQ (.bool true);have a3:=(m6.drew.other (p:=⟨q,3,none⟩) bS (.bool true)).other (p:=⟨q,4,none⟩) bS (.int .i64 s);have a2:ze (λk=>k=q) V ((V.drew.setCell ⟨q,3,none⟩ (.bool true)).setCell ⟨q,4,none⟩ (.int .i64 s)):=((ze.grown (yP V none) (λr e=>by cases e)).trans (ze.grown (jS _ ⟨q,3,none⟩ _) (λr e=>by injection e with e;exact .inl e.symm))).trans (ze.grown (jS _ ⟨q,4,none⟩ _) (λr e=>by injection e with e;exact .inl e.symm));clear T0 T4 TM TP TB aQ
    go_wp2_with fail
    refine zb.st (λW=>za W (w.heap.size+1) 3 #[.int .i64 s]) 4 ?_;refine zb.t 0 (.int .i64 s) rfl aW (λW C=>by have q:=C.boxed;go_simp) ?_;simp only[zD,zB,pj,zA,zF,zE];refine zb.n 1 (zb.opV (w':=V.drew) (.pointer (some ⟨q,3,none⟩)) rfl rfl (by go_simp) ⟨λ_=>aW,?_⟩);simp only[Z8];refine zb.n 2 (zb.opS (w':=V.drew.setCell ⟨q,3,none⟩ (.bool true)) rfl rfl (by go_simp) ⟨λ_=>a5,?_⟩);simp only[zD,zC,zB,pj];refine zb.n 3 (zb.opV (w':=V.drew.setCell ⟨q,3,none⟩ (.bool true)) (.pointer (some ⟨q,4,none⟩)) rfl rfl (by go_simp) ⟨λ_=>a5,?_⟩);simp only[Z8];refine zb.n 4 (zb.opS (w':=(V.drew.setCell ⟨q,3,none⟩ (.bool true)).setCell ⟨q,4,none⟩ (.int .i64 s)) rfl rfl (by go_simp) ⟨λh=>absurd rfl h,zb.dn ?_⟩);simp only[zD,zC,zB,pj];clear z3 z4 y3 y4 aW a5 bE cO;generalize (V.drew.setCell ⟨q,3,none⟩ (.bool true)).setCell ⟨q,4,none⟩ (.int .i64 s)=w7 at *;have aT:ph F.heap.size F w7:=aS.trans (a2.toBelow aS.size (λk e=>by subst e;omega));have km:=a3.boxed;have bL:=za.new w7 261 (zq ep 0 p true s 0 B 512 c6);have aL:ph w7.heap.size w7 (w7.alloc (.cells (zq ep 0 p true s 0 B 512 c6) 261)):=(pf _ _).alloc (zG _) _;have aI:=(qn (World.ownsRow_lit (base:=w7.heap.size) (size:=7) (e:=261) w7 (zq ep 0 p true s 0 B 512 c6) 1 (zG _) (by decide) rfl) (QF _ _ _ _ _ _ _ _ _));obtain⟨AL,cL,eL,aI⟩:=aI;injection eL with eL1 _ eL2
    subst eL1 eL2;have b7:qq w7 w7.heap.size B c6 y:=ze.inB a2 U (λg o e _=>cI g o e);obtain⟨FC,aV⟩:=Z9 (zq ep 0 p true s 0 B 512 c6);rw[<-aV] at bF bL aL aI;have bH:FC.size=7:=by rw[aV];rfl
    have bT:=pk aV;clear aV U a0 aS m6 s6 a2
    go_wp2_with (first
     | (refine yV rfl 261 (.tmp 10) rfl q rfl kE bF bH ?_)
     | (refine zr rfl (EL FC bH rfl rfl) ?_)
     | (at_builtin;refine xy rfl Ap (.tmp 70) (.tmp 72) rfl w7.heap.size (.slice none 0 0) 0 [] rfl (World.ownsRow_nil _ _ _ _) _ (some ⟨w7.heap.size,0,none⟩) 1 1 FC.toList rfl aI (by decide) (by decide) aL.size ?_;intro v8 w8 a8 a6;replace a8:w8.ownsRow w7.heap.size 261 7 v8 1 FC.toList:=a8;obtain⟨g8,c8,cur8,rfl,cT,bG,cD,cB,cX,cN⟩:=a8.2.resolve_left (λh=>absurd h.2 (by decide));have m8:=(a3.alloc (.cells FC 261)).grown a6 (λe=>by cases e);have c1:=m8.boxed;have cR:=m8.free 0))
    have bV:ph F.heap.size F w8:=aT.trans (((aL.mono aT.size).trans (zl a6 (zT aT.size aL.size) (λr e=>by cases e))));refine⟨.inr ⟨rfl,bV.setCell (p:=⟨F.heap.size,0,none⟩) (zG _) _,g8,c8,B,c6,cD,cB,m8.set 0 _,?_,?_,?_,?_,?_⟩,by decide⟩
    ·intro j v hj;rw[<-bT.out] at hj;have aP:¬ g8=F.heap.size:=by have:=a3.lt;omega
     have bY:za w8 g8 261 cur8:=bG;refine(oG (oI w8 ⟨F.heap.size,0,none⟩ _ g8 aP)).trans ?_;rw[bY.cell,<-cN] at *;rw[yH] at hj;split at hj
     ·simpa using hj
     ·cases hj
    ·show g8<_
     have:=(zK.1 bG).1;simpa using this
    ·have:=aT.size;omega
    ·exact ze.inB (Mu:=λk=>k=F.heap.size) (((ze.below aL).trans (ze.grown a6 (λr e=>by cases e))).trans (ze.setCell _ _ _ rfl)) b7 (λg o e _=>by have:=aA g o e;have:=m5.lt;omega)
    ·intro g o e;have:=aA g o e;omega
  ·have cY:=K.size;have d0:=a1.lt;have d1:=aC.lt;rw[<-aZ] at hr4;have bZ:d≠w.heap.size:=by omega
   have b2:d≠w.heap.size+1:=by omega
   have cE:Jq y.length 0 p true s=true:=by rw[aZ];exact b3
   have HS:=OL wr l d many w.heap.size F.heap.size (w.heap.size+1) gD xs left fr pg sr ep sz fg fc p s B c6 y (a1.grow K) hl h1l bU (aC.below K aC.lt) (aD.below K aD.lt) m4 (aK.below K aK.lt) hfc1 hfc2 hr4 hfg aY (λg o e _=>by have:=aA g o e;omega) b9 bZ.symm (by omega) b2.symm (by omega) (by omega) (by omega) (by omega) cH cE cM cA cC cK;have k0:=(aD.below K aD.lt).boxed;have kl:wr.cell? ⟨l,0,none⟩=some (.pointer (some ⟨d,0,none⟩)):=by rw[(aC.below K aC.lt).cell];rfl
   clear a1 aC aD aK bR bN t0 t6
   go_wp2_with (go_at_call 170;refine HS.mono ?_;rintro e w9 ⟨rfl,bW,b8,bX⟩)
   go_ret;exact⟨rfl,bW,⟨_,_,b8⟩,(ze.below (bA.trans (K.mono bA.size))).trans bX⟩
end
structure DS where
 g:Nat->Y4
 xs:List (Nat×Y4)
 left:Int
 st:Bool
abbrev DkS (w:World)(d many:Nat)(s:DS):Prop:=yR w d many s.g s.xs s.left s.st
end
section
open Go Go.RowKit vA Go.Shelf
attribute [local go_sem] Oper.semAt_some
end
section
open Go Go.RowKit vA
section
variable (w:World)(l d many lb hb:Nat)(s:DS)(hs he:Nat)(hz hc:Int)
end
def th (e:Nat)(i p:Int)(f:Bool)(z:Int)(n:Nat)(y:Y4):Nat:=if Jq y.length i p f z then RA (Qx e i.toNat p.toNat f z.toNat n++y) else 0


structure wN where
 e:Nat
 i:Int
 p:Int
 f:Bool
 z:Int
 n:Nat
 y:Y4
abbrev OW:=wN×Y5×Nat
def OW.arr (v:OW):Y7:=zq v.1.e v.1.i v.1.p v.1.f v.1.z v.1.n v.2.1 v.1.y.length v.2.2
theorem UQ (v:OW):v.arr.toList.length=7:=rfl
def EY (vs:List OW):Y8:=(vs.map λv=>v.arr.toList).flatten
theorem Fo (v:OW)(vs:List OW):EY (v::vs)=v.arr.toList++EY vs:=rfl
theorem PK (xs ys:List OW):EY (xs++ys)=EY xs++EY ys:=by simp[EY]
theorem GF:∀h:List OW,(EY h).length=h.length*7
 | []=>rfl
 | v::h=>by rw[Fo,zH,GF h,UQ,zL];omega
theorem Nw (h:List OW)(j:Nat)(q:j<h.length):((EY h).drop (j*7)).take 7=h[j].arr.toList:=by
 have e:EY h=EY (h.take j)++(h[j].arr.toList++EY (h.drop (j+1))):=by rw[<-Fo,<-PK,<-qR q,qJ]
 have hl:(EY (h.take j)).length=j*7:=by rw[GF,zZ];congr 1;omega
 rw[e,<-hl,List.drop_left,List.take_left' (UQ _)]
structure JS (Mu:Nat->Prop)(w:World)(A:Y5)(c:Nat)(vs:List OW):Prop where
 row:yp w w.heap.size 7 A vs.length c (EY vs)
 out:∀g o,A=some ⟨g,o,none⟩->¬ Mu g/\o=0
 nil:vs=[]->A=none
 rV:∀v∈vs,qq w w.heap.size v.2.1 v.2.2 v.1.y/\∀g o,v.2.1=some ⟨g,o,none⟩->¬ Mu g
theorem JS.mt (Mu:Nat->Prop)(w:World):JS Mu w none 0 []:=⟨yp.mt _ _ _,(λ_ _ e=>by cases e),λ_=>rfl,λv h=>by cases h⟩
theorem yp.si {Mu:Nat->Prop}{w w':World}{sz:Nat}{A:Y5}{n c:Nat}{cs:Y8}(h:yp w w.heap.size sz A n c cs)(q:ze Mu w w')(hn:∀g o,A=some ⟨g,o,none⟩->¬ Mu g):yp w' w'.heap.size sz A n c cs :=
 ⟨h.le,h.max,h.nil,h.len,h.one,λB=>by
  obtain⟨g,o,e,u,E⟩:=h.rC B
  exact⟨g,o,e,zO u q.size,λj v C=>q.cell (E j v C) u (hn g o e)⟩⟩
theorem JS.rE {Mu Nu:Nat->Prop}{w w':World}{A:Y5}{c:Nat}{vs:List OW}(h:JS Mu w A c vs)(u:ze Nu w w')(hn:∀k,Nu k->k<w.heap.size->Mu k):JS Mu w' A c vs :=
 have q:ze Mu w w':=u.more hn
 ⟨h.row.si q (λg o e=>(h.out g o e).1),h.out,h.nil,λv j=>⟨ze.inB q (h.rV v j).1 (λg o e _=>(h.rV v j).2 g o e),(h.rV v j).2⟩⟩
theorem JS.grow {Mu:Nat->Prop}{w w':World}{A:Y5}{c:Nat}{vs:List OW}(h:JS Mu w A c vs)(hB:ph w.heap.size w w'):JS Mu w' A c vs:=h.rE (ze.below (Mu:=λ_=>False) hB) (λ_ h _=>h.elim)
def wN.sum (x:wN):Nat:=th x.e x.i x.p x.f x.z x.n x.y
def uU (fs:List wN):Nat:=match fs.getLast? with|some x=>x.sum|none=>0
section
variable (w:World)(l d many lb mb:Nat)(s:DS)(fr pg:Int)(sr ep:Nat)(sz:Int)
end
section
variable (w:World)(l d many lb mb:Nat)(s:DS)(fr pg:Int)(sr ep:Nat)(sz:Int)
end
section
variable (w:World)(l d many lb mb szb:Nat)(s:DS)(fr pg:Int)(sr ep:Nat)(sz:Int)
end

structure Zz where
 sr:Nat
 ep:Nat
 sz:Int
 fs:List wN
def YH (w:World)(l d:Nat)(fr pg:Int)(S:Zz):Prop:=l≠d/\∃A c vs,za w l 171 (Xj (some ⟨d,0,none⟩) fr pg S.sr S.ep S.sz A vs.length c)/\JS (λk=>k=d∨k=l) w A c vs/\vs.map (·.1)=S.fs
def Kp (w:World)(A:Y5):Prop:=∀g o,A=some ⟨g,o,none⟩->∃cs,za w g 5 cs
theorem Kp.grow {w w':World}{A:Y5}(h:Kp w A)(hB:ph w.heap.size w w'):Kp w' A:=λg o e=>by
 obtain⟨cs,hb⟩:=h g o e;exact⟨cs,hb.below hB hb.lt⟩
theorem zo {w:World}{g h:Nat}{t u:oD}{cs q:Y7}(h1:za w g t cs)(h2:za w h u q)(hn:t≠u):g≠h:=λe=>by
 subst e;have v:w.heap[g]?=some (.cells cs t (0,0)):=h1;have j:w.heap[g]?=some (.cells q u (0,0)):=h2;rw[v] at j;injection j with j
 injection j with _ h5
 exact hn h5
theorem Oh {w:World}{base:Nat}{T:oD}{sz:Nat}{v:Value}{n:Nat}{cs:Y8}(h:w.ownsRow base T sz v n cs):∀r,v.ownBlock=some r->∃cur,za w r T cur:=by
 intro r j;rcases h.2 with⟨rfl,_⟩|⟨g,cap,cur,rfl,hb,hg,_⟩
 ·cases j
 ·injection j with j
  exact⟨cur,by rw[<-j];exact hg⟩
theorem Iw {z c:Int}(h1:0<=z)(h2:z<=2000)(h:0<=c)(j:c<=2000):vf z c=true:=(XZ _ _).2 ⟨⟨h1,h2⟩,h,j⟩
section
variable (w:World)(l d many:Nat)(s:DS)(fr pg:Int)(S:Zz)
end


def tI (l:Y4)(j:Nat):Bool:=ke l&&decide (Ng l%2=j)

end
section
open Go Go.RowKit vA Qp
section
variable {ρ:py->Value}{w:World}{o:oM}{x y:py}
end
def wN.enc (x:wN):Y4:=VL (Qx x.e x.i.toNat x.p.toNat x.f x.z.toNat x.n) x.y
structure tw (G:Nat->Y4)(ep:Nat)(fs:List wN):Prop where
 rC:∀j (h:j<fs.length),JZ G (2+9*j) 9=(fs[j]).enc
 ok:∀j (h:j<fs.length),(fs[j]).e=ep/\(fs[j]).i=(j:Int)/\Jq (fs[j]).y.length (fs[j]).i (fs[j]).p (fs[j]).f (fs[j]).z=true/\(fs[j]).n=uU (fs.take j)/\(fs[j]).n<2^32
 last:∀x,fs.getLast?=some x->x.f=true
def te (z:Int)(fs:List wN):Int:=match fs.getLast? with|some x=>x.z|none=>z
end
section
open Go Go.RowKit vA
structure tU (G:Nat->Y4)(S:Zz)(hz:Nat):Prop where
 hd:G (S.sr%2)=vJ S.sr S.ep hz S.fs.length
 sr:S.sr<2^64
 ep:S.ep<2^64
 hzl:hz<=2000
 hn:S.fs.length<=2000
 pos:1<=S.sr
 oth:tI (G (1-S.sr%2)) (1-S.sr%2)=true->Ng (G (1-S.sr%2))<S.sr
 sz:S.sz=te (hz:Int) S.fs
 fr:tw G S.ep S.fs


section
variable {ρ:py->Value}{w:World}{o:oM}{x y:py}
end

section
variable {ρ:py->Value}{w:World}{o:oM}{x y:py}{r k clock:Nat}{es:Array MapEntry}
theorem OX (u:w.heap[r]?=some (.map es clock)){T:oD}{j h:oD}(q:Y3.underlying T=some (.map j h))(v:o.op=.range T x)(h1:ρ x=.map (some r)):(oB ρ o).run Y3 w=.ok (.value (.pointer (some ⟨w.heap.size,0,none⟩))) (w.alloc (.mapIter (some r) clock #[] clock)):=by
 have:=run_range_map (P:=Y3) w T j h r es clock q u;simp only[oB,v,h1,oY,this,oO,oU]
theorem GA {v:Value}{w':World}(j:(Instr.next (ρ x) false o.type).run Y3 w=.ok v w')(h:o.op=.next x false):(oB ρ o).run Y3 w=.ok (.value v) w':=by
 simp only[oB,h,oY,j,oO,oU]
theorem Md {v:Value}{w':World}(j:(Instr.entry (ρ x)).run Y3 w=.ok v w')(h:o.op=.entry x):(oB ρ o).run Y3 w=.ok (.value v) w':=by
 simp only[oB,h,oY,j,oO,oU]
end
def QP (w:World)(r m since:Nat)(seen:Array Nat):Prop:=∃c0,w.heap[r]?=some (.mapIter (some m) since seen c0)/\since<=c0
theorem GS {w j:World}{B r:Nat}{o:Obj}(h:j=w∨j=w.drew)(u:B<=r):ph B w (nI j r o):=by
 rcases h with rfl|rfl
 ·exact⟨rfl,rfl,rfl,by simp[nI],λk q=>by simp[nI];rw[dx (by omega)];try rfl⟩
 ·exact⟨rfl,rfl,rfl,by simp[nI],λk q=>by simp[nI];rw[dx (by omega)];try rfl⟩
theorem Ij {w:World}{r m q clock:Nat}{j:Array Nat}{es:Array MapEntry}(ty:oD)(h:QP w r m q j)(B:w.heap[m]?=some (.map es clock))(N:∀x∈es.toList,x.born<q)(hc:q<=clock)(O:MapKept.Stamped es clock)(T:m<r)(U:r<w.heap.size):((∀x∈es.toList,j.contains x.born=true)/\(Instr.next (.pointer (some ⟨r,0,none⟩)) false ty).run Y3 w=.ok (.tuple #[.bool false]) w) ∨
  ∃e,∃w':World,e∈es.toList/\j.contains e.born=false/\(Instr.next (.pointer (some ⟨r,0,none⟩)) false ty).run Y3 w=.ok (.tuple #[.bool true,e.key,e.val]) w'/\QP w' r m q (j.push e.born)/\ph r w w'/\w'.rangeLeft m r<w.rangeLeft m r /\
   (Instr.entry (.pointer (some ⟨r,0,none⟩))).run Y3 w'=.ok (.tuple #[e.key,e.val]) w':=by
 obtain⟨c0,v,hs⟩:=h;rcases run_next_at (P:=Y3) w ty r m q c0 j es clock v B N hs with⟨h0,hrun⟩|⟨e,he,w1,hal,hrun⟩
 ·exact .inl ⟨all_seen es j h0,hrun⟩
 ·obtain⟨C,I⟩:=mem_left he;have K:w1.heap[r]?=some (.mapIter (some m) q j c0):=by rcases hal with rfl|rfl<;>exact v
  have M:w1.heap[m]?=some (.map es clock):=by rcases hal with rfl|rfl<;>exact B
  have u:=MapKept.heap_set (o':=.mapIter (some m) q (j.push e.born) clock) K;have E:(nI w1 r (.mapIter (some m) q (j.push e.born) clock)).heap[m]?=some (.map es clock):=(u.2 m (by omega)).trans M;refine .inr ⟨e,_,C,I,hrun,⟨clock,u.1,hc⟩,GS hal (zG _),?_,run_entry_at _ r m q j es clock e u.1 E C ((MapKept.stamped_iff es clock).1 O).2.1⟩;have F:(nI w1 r (.mapIter (some m) q (j.push e.born) clock)).rangeLeft m r=(leftOf es (j.push e.born)).size:=by unfold World.rangeLeft;have h1:(nI w1 r (.mapIter (some m) q (j.push e.born) clock)).heap[r]?=_:=u.1;rw[E,h1]
  have H:w.rangeLeft m r=(leftOf es j).size:=by unfold World.rangeLeft;rw[B,v]
  rw[F,H];exact left_shrinks es j e he

def SX (v:Int×Y5×Nat):Y8:=[.int .i64 v.1,.slice v.2.1 512 v.2.2]
def JC (vs:List (Int×Y5×Nat)):Y8:=(vs.map SX).flatten
theorem Ew (h:List (Int×Y5×Nat))(x:Int×Y5×Nat):JC (h++[x])=JC h++SX x:=by simp[JC]
theorem Ga (q:List (Int×Y5×Nat)):∀v∈JC q,v.oneCell'=true:=by
 intro v h;unfold JC at h;obtain⟨l,hl,j⟩:=List.mem_flatten.1 h;obtain⟨x,_,rfl⟩:=qP.1 hl;simp[SX] at j;rcases j with rfl|rfl<;>rfl
theorem SU:∀(vs:List (Int×Y5×Nat)) (k:Nat) (h:k<vs.length) (j:Nat) (v:Value),(SX vs[k])[j]?=some v->(JC vs)[k*2+j]?=some v
 | x::vs,0,_,j,v,hv=>by have q:j<(SX x).length:=(qQ.1 hv).1;have e:JC (x::vs)=SX x++JC vs:=rfl;rw[e,Nat.zero_mul,qC,ow q];exact hv
 | x::vs,k+1,h,j,v,hv=>by have e:JC (x::vs)=SX x++JC vs:=rfl;have hl:(SX x).length=2:=rfl;rw[e,qU (by rw[hl];omega),hl,show (k+1)*2+j-2=k*2+j by omega];exact SU vs k (by simpa using h) j v hv
theorem ti:Zj 197 200 2 32 (.agg #[.int .i64 0,.slice none 0 0]):=⟨underlying197,by kernel_rfl,by kernel_rfl,by decide⟩


def tH (l:Y4):Nat:=xI ((l.drop 28).take 8)
structure LI (G:Nat->Y4)(S:Zz)(hz:Nat):Prop where
 on:tU G S hz
 len:∀k,(G k).length=64
 old:tH (G (1-S.sr%2))<S.sr
theorem Iy {s e:Nat}{z c:Int}(hz:0<=z/\z<=2000)(hc:0<=c/\c<=2000):JD (s%2) (kg s e z c) 1=[(s%2,vJ s e z.toNat c.toNat)]:=by
 unfold kg;rw[if_pos (Iw hz.1 hz.2 hc.1 hc.2)];show [(s%2+0,YD (vJ s e z.toNat c.toNat) 0)]=_
 unfold YD;rw[Nat.mul_zero,List.drop_zero,qB (by rw[jE];exact zG _)];rfl
section
variable {G:Nat->Y4}{S:Zz}{hz:Nat}{z pg:Int}{n:Nat}{pw:Nat->Int×Y4}
end
theorem IT (w:World)(fr pg:Int)(d many:Nat)(left:Int)(hD:yR w d many (λ_=>qx) [] left false)(aH:xB fr pg=true)(hm:(many:Int)=2+9*fr+8*pg)(aS:many<=1000000)(h1l : -1000000<=left)(aW:left<=9223372036854775807):pr Y3 62 #[.pointer (some ⟨d,0,none⟩),.agg #[.int .i64 fr,.int .i64 pg]] w λe w'=>∃l,e=Y0 (.tuple #[.pointer (some ⟨l,0,none⟩),.int .i64 0])/\w.heap.size<=l/\yR w' d many (laid (λ_=>qx) (JD 1 (kg 1 1 0 0) 1)) [] left false/\za w' l 171 (Xj (some ⟨d,0,none⟩) fr pg 1 1 0 none 0 0)/\w.grownBy w' (some d):=by
 have a0:=(vN fr pg).1 aH;have aF:ph w.heap.size w (w.alloc (.cells #[.int .i64 fr,.int .i64 pg] 74)):=(pf _ w).alloc (zG _) _;have U:=za.new w 74 #[.int .i64 fr,.int .i64 pg];have T:=DP fr pg (w.alloc (.cells #[.int .i64 fr,.int .i64 pg] 74));have aX:ME (xB fr pg) 0 1=0:=by rw[aH];rfl
 unfold wB at T;rw[aX,if_pos rfl,<-hm] at T;have aZ:=hD.lt;have aT:∀v∈Xx.toArray.toList,v.oneCell'=true:=by intro v O;simp[Xx] at O;rcases O with rfl|rfl<;>rfl
 have aU:∀v∈(#[.int .u64 1,.int .u64 1,.int .i64 0,.int .i64 0]:Y7).toList,v.oneCell'=true:=by intro v O;simp at O;rcases O with rfl|rfl<;>rfl
 have aR:2<=many:=by omega
 clear hm aH
 go_enter func62,ntmps62
 go_wp2_with fail
 refine wp_scope_straight ?_
 go_wp2_with (first
  | (refine xA Zs U ?_)
  | (go_at_call 101;refine T.mono ?_;rintro e j ⟨rfl,aG⟩;have b1:=U.below aG U.lt;have k0:j.cell? ⟨w.heap.size,0,none⟩=some (.int .i64 fr):=(by rw[b1.cell];rfl);have k1:j.cell? ⟨w.heap.size,1,none⟩=some (.int .i64 pg):=(by rw[b1.cell];rfl);have M:=aF.trans (aG.mono aF.size);have aY:=M.size;have aA:ph w.heap.size w ((j.alloc (.cells #[.pointer (some ⟨d,0,none⟩),.int .i64 fr,.int .i64 pg,.int .u64 0,.int .u64 0,.int .i64 0,.slice none 0 0] 171)).alloc (.cells #[.int .u64 0,.int .u64 0,.int .i64 0,.int .i64 0] 173)):=(M.alloc M.size _).alloc (by have:=M.size;simp;omega) _;have aB:=hD.grow aA;have HL:=Ih _ d many _ [] left false aB;have I:za ((j.alloc (.cells #[.pointer (some ⟨d,0,none⟩),.int .i64 fr,.int .i64 pg,.int .u64 0,.int .u64 0,.int .i64 0,.slice none 0 0] 171)).alloc (.cells #[.int .u64 0,.int .u64 0,.int .i64 0,.int .i64 0] 173)) j.heap.size 171 (Xj (some ⟨d,0,none⟩) fr pg 0 0 0 none 0 0):=(za.new j _ _).alloc _;have bh:za ((j.alloc (.cells #[.pointer (some ⟨d,0,none⟩),.int .i64 fr,.int .i64 pg,.int .u64 0,.int .u64 0,.int .i64 0,.slice none 0 0] 171)).alloc (.cells #[.int .u64 0,.int .u64 0,.int .i64 0,.int .i64 0] 173)) (j.heap.size+1) 173 #[.int .u64 0,.int .u64 0,.int .i64 0,.int .i64 0]:=(by have:=za.new (j.alloc (.cells #[.pointer (some ⟨d,0,none⟩),.int .i64 fr,.int .i64 pg,.int .u64 0,.int .u64 0,.int .i64 0,.slice none 0 0] 171)) 173 #[.int .u64 0,.int .u64 0,.int .i64 0,.int .i64 0];rw[pq] at this;exact this);have kl:World.cell? ((j.alloc (.cells #[.pointer (some ⟨d,0,none⟩),.int .i64 fr,.int .i64 pg,.int .u64 0,.int .u64 0,.int .i64 0,.slice none 0 0] 171)).alloc (.cells #[.int .u64 0,.int .u64 0,.int .i64 0,.int .i64 0] 173)) ⟨j.heap.size,0,none⟩=some (.pointer (some ⟨d,0,none⟩)):=(by rw[I.cell];rfl))
  | (go_at_call 102;refine HL.mono ?_;rintro e w' ⟨rfl,rfl⟩)
  | (go_at_call 103;refine(BD _ j.heap.size d many left aB kl I.lt aR aS).mono ?_;rintro e w4 ⟨rfl,N⟩;have aI:=I.below N I.lt;have V:=bh.below N bh.lt;have aL:=aB.grow N)
  | (refine zt rfl 173 (.tmp 9) (.tmp 35) rfl (j.heap.size+1) rfl rfl yw V rfl rfl aT ?_;have Z:=V.setRow Xx.toArray;have aJ:=aI.rB (k:=j.heap.size+1) (by omega) Xx.toArray;have aM:=aL.sA V (by decide) (by omega) Xx.toArray;have aP:w.grownBy (w4.setRow (j.heap.size+1) Xx.toArray) (some d):=xU (jX (aA.trans (N.mono aA.size)) d) (jz _ _ _) (zG _) (λr e=>by cases e;omega))
  | (refine zt rfl 173 (.tmp 9) (.tmp 42) rfl (j.heap.size+1) rfl rfl yw Z rfl rfl aU ?_;have aD:=Z.setRow #[.int .u64 1,.int .u64 1,.int .i64 0,.int .i64 0];have aK:=aJ.rB (k:=j.heap.size+1) (by omega) #[.int .u64 1,.int .u64 1,.int .i64 0,.int .i64 0];have aN:=aM.sA Z (by decide) (by omega) #[.int .u64 1,.int .u64 1,.int .i64 0,.int .i64 0];have F:=xU aP (jz _ (j.heap.size+1) #[.int .u64 1,.int .u64 1,.int .i64 0,.int .i64 0]) (zG _) (λr e=>by cases e;omega))
  | (refine xA yw aD ?_)
  | (go_at_call 104;refine(MK _ j.heap.size d many _ [] left 1 1 0 0 fr pg 0 0 0 none 0 0 aN (by decide) h1l aW aK (by omega) (by decide) aR aS).mono ?_;rintro e u ⟨rfl,aO,E,H⟩;have aE:=H.blk aD (by omega)))
 have aQ:w.grownBy u (some d):=⟨H.os.trans F.os,H.tape.trans F.tape,H.output.trans F.output,zT F.size H.size,λk hk hn=>(H.block k (zO hk F.size) (λe=>by rcases e with e|e;exact hn (by rw[e]);omega)).trans (F.block k hk hn)⟩;have a1:d<j.heap.size:=by omega
 have aC:w.heap.size<=j.heap.size:=by omega
 clear T HL hD aB aL aM aN I aI aJ aK bh V Z aD kl N aA aP F H U b1 k0 k1 aF M aG aY aT aU;generalize j.heap.size=l at *;have bA:=E.drew.set 3 (.int .u64 1);have bB:=bA.set 4 (.int .u64 1);have bC:=bB.set 5 (.int .i64 0);have K:=aE.drew.other (p:=⟨l,3,none⟩) (by show ¬ l+1=l;omega) (.int .u64 1);have hB:=K.other (p:=⟨l,4,none⟩) (by show ¬ l+1=l;omega) (.int .u64 1);have hC:=hB.other (p:=⟨l,5,none⟩) (by show ¬ l+1=l;omega) (.int .i64 0);have dA:=(aO.grow (pf _ _).drew).setOther E.drew (by show 7<=64;decide) (show d≠l by omega) ⟨l,3,none⟩ (.int .u64 1) rfl;have dB:=dA.setOther bA (by simp;show 7<=64;decide) (show d≠l by omega) ⟨l,4,none⟩ (.int .u64 1) rfl;have dC:=dB.setOther bB (by simp;show 7<=64;decide) (show d≠l by omega) ⟨l,5,none⟩ (.int .i64 0) rfl;have gC:w.grownBy (((u.drew.setCell ⟨l,3,none⟩ (.int .u64 1)).setCell ⟨l,4,none⟩ (.int .u64 1)).setCell ⟨l,5,none⟩ (.int .i64 0)) (some d) :=
  xU (xU (xU (xU aQ (yP u none) (zG _) (λr e=>by cases e)) (jS _ ⟨l,3,none⟩ (.int .u64 1)) (zG _) (λr e=>by injection e with e;subst e;exact aC)) (jS _ ⟨l,4,none⟩ (.int .u64 1)) (zG _) (λr e=>by injection e with e;subst e;exact aC)) (jS _ ⟨l,5,none⟩ (.int .i64 0)) (zG _) (λr e=>by injection e with e;subst e;exact aC)
 have a3:u.drew.cell? ⟨l,3,none⟩=some (.int .u64 1):=by rw[E.drew.cell];rfl
 have x4:u.cell? ⟨l,4,none⟩=some (.int .u64 1):=by rw[E.cell];rfl
 have x5:u.cell? ⟨l,5,none⟩=some (.int .i64 0):=by rw[E.cell];rfl
 have y4:=E.free 4;have y5:=E.free 5;have f3:=E.drew.free 3;have e1:(((u.drew.setCell ⟨l,3,none⟩ (.int .u64 1)).setCell ⟨l,4,none⟩ (.int .u64 1)).setCell ⟨l,5,none⟩ (.int .i64 0)).cell? ⟨l,1,none⟩=some (.int .i64 fr):=by rw[bC.cell];rfl
 have e3:(((u.drew.setCell ⟨l,3,none⟩ (.int .u64 1)).setCell ⟨l,4,none⟩ (.int .u64 1)).setCell ⟨l,5,none⟩ (.int .i64 0)).cell? ⟨l+1,3,none⟩=some (.int .i64 0):=by rw[hC.cell];rfl
 have B:=aE.drew;refine zb.st (λW:World=>za W (l+1) 173 #[.int .u64 1,.int .u64 1,.int .i64 0,.int .i64 0]) 17 ?_;refine zb.q 0 (.pointer (some ⟨l,0,none⟩)) B ?_;refine zb.q 1 (.pointer (some ⟨l,0,none⟩)) B ?_;refine zb.q 2 (.pointer (some ⟨l,0,none⟩)) B ?_;refine zb.q 3 (.pointer (some ⟨l+1,0,none⟩)) B ?_;refine zb.t 4 (.int .u64 1) rfl B (λW C=>by have q:W.cell? ⟨l+1,0,none⟩=some (.int .u64 1):=(by rw[C.cell];rfl);go_simp) ?_;refine zb.q 5 (.pointer (some ⟨l+1,1,none⟩)) B ?_;refine zb.t 6 (.int .u64 1) rfl B (λW C=>by have q:W.cell? ⟨l+1,1,none⟩=some (.int .u64 1):=(by rw[C.cell];rfl);go_simp) ?_;refine zb.q 7 (.pointer (some ⟨l+1,2,none⟩)) B ?_;refine zb.t 8 (.int .i64 0) rfl B (λW C=>by have q:W.cell? ⟨l+1,2,none⟩=some (.int .i64 0):=(by rw[C.cell];rfl);go_simp) ?_;simp only[Z8];refine zb.n 9 (zb.opV (w':=u.drew) (.pointer (some ⟨l,0,none⟩)) rfl rfl (by go_simp) ⟨λ_=>B,?_⟩);simp only[Z8];refine zb.n 10 (zb.opV (w':=u.drew) (.pointer (some ⟨l,3,none⟩)) rfl rfl (by go_simp) ⟨λ_=>B,?_⟩);simp only[Z8];refine zb.n 11 (zb.opS (w':=u.drew.setCell ⟨l,3,none⟩ (.int .u64 1)) rfl rfl (by go_simp) ⟨λ_=>K,?_⟩);simp only[zD,zC,zB,pj];refine zb.n 12 (zb.opV (w':=u.drew.setCell ⟨l,3,none⟩ (.int .u64 1)) (.pointer (some ⟨l,0,none⟩)) rfl rfl (by go_simp) ⟨λ_=>K,?_⟩);simp only[Z8];refine zb.n 13 (zb.opV (w':=u.drew.setCell ⟨l,3,none⟩ (.int .u64 1)) (.pointer (some ⟨l,4,none⟩)) rfl rfl (by go_simp) ⟨λ_=>K,?_⟩);simp only[Z8];refine zb.n 14 (zb.opS (w':=(u.drew.setCell ⟨l,3,none⟩ (.int .u64 1)).setCell ⟨l,4,none⟩ (.int .u64 1)) rfl rfl (by go_simp) ⟨λ_=>hB,?_⟩);simp only[zD,zC,zB,pj];refine zb.n 15 (zb.opV (w':=(u.drew.setCell ⟨l,3,none⟩ (.int .u64 1)).setCell ⟨l,4,none⟩ (.int .u64 1)) (.pointer (some ⟨l,0,none⟩)) rfl rfl (by go_simp) ⟨λ_=>hB,?_⟩);simp only[Z8];refine zb.n 16 (zb.opV (w':=(u.drew.setCell ⟨l,3,none⟩ (.int .u64 1)).setCell ⟨l,4,none⟩ (.int .u64 1)) (.pointer (some ⟨l,5,none⟩)) rfl rfl (by go_simp) ⟨λ_=>hB,?_⟩);simp only[Z8];refine zb.n 17 (zb.opS (w':=((u.drew.setCell ⟨l,3,none⟩ (.int .u64 1)).setCell ⟨l,4,none⟩ (.int .u64 1)).setCell ⟨l,5,none⟩ (.int .i64 0)) rfl rfl (by go_simp) ⟨λh=>absurd rfl h,zb.dn ?_⟩);simp only[zD,zC,zB,pj];have HC:=OC _ l fr (by omega) e1;have aV:za (((u.drew.setCell ⟨l,3,none⟩ (.int .u64 1)).setCell ⟨l,4,none⟩ (.int .u64 1)).setCell ⟨l,5,none⟩ (.int .i64 0)) l 171 (Xj (some ⟨d,0,none⟩) fr pg 1 1 0 none 0 0):=bC;clear x4 x5 y4 y5 a3 f3 B K hB bA bB bC hC dA dB E aE aO aQ;generalize ((u.drew.setCell ⟨l,3,none⟩ (.int .u64 1)).setCell ⟨l,4,none⟩ (.int .u64 1)).setCell ⟨l,5,none⟩ (.int .i64 0)=w8 at *
 go_wp2_with (go_at_call 105;refine HC.mono ?_;rintro e w' ⟨rfl,rfl⟩)
 simp only[Exit.noGoto];exact⟨by simp,_,results_tmp2 rfl _ _ _,⟨l,rfl,aC,dC,aV,gC⟩⟩
theorem LI.begun:LI (laid (λ_=>qx) (JD 1 (kg 1 1 0 0) 1)) ⟨1,1,0,[]⟩ 0:=by
 have e:JD 1 (kg 1 1 0 0) 1=[(1,vJ 1 1 0 0)]:=Iy (s:=1) (e:=1) (z:=0) (c:=0) ⟨by omega,by omega⟩ ⟨by omega,by omega⟩;have h:∀k,laid (λ_=>qx) [(1,vJ 1 1 0 0)] k=if k=1 then vJ 1 1 0 0 else qx:=λk=>Cr _ [] _ _ k
 rw[e];generalize laid (λ_=>qx) [(1,vJ 1 1 0 0)]=G at *;have u:G (1-1%2)=qx:=h 0;refine⟨⟨h 1,by decide,by decide,by decide,by decide,by decide,?_,rfl,⟨λj q=>absurd q (Nat.not_lt_zero j),λj q=>absurd q (Nat.not_lt_zero j),λx v=>by cases v⟩⟩,?_,?_⟩
 ·intro _;show Ng (G (1-1%2))<1
  rw[u];decide
 ·intro k;rw[h];split
  ·exact jE _ _ _ _
  ·decide
 ·show tH (G (1-1%2))<1
  rw[u];decide
end
section
open Go Go.RowKit vA Go.Shelf

end
section
open Go Go.RowKit vA

def Rw (a b:Int):Int:=if a<b then -1 else if b<a then 1 else 0
theorem Rx (a b:Int)(w:World):pr Y3 183 #[.int .i64 a,.int .i64 b] w λe w'=>e=Y0 (.int .i64 (Rw a b))/\w=w':=by
 have h:∀(x:Int) (W:World),pr Y3 246 #[.int .i64 x] W λe w'=>e=Y0 (.bool false)/\W=w':=λx W=>by
  go_enter func246,ntmps246
  go_wp2;go_ret;exact⟨by simp,rfl⟩
 unfold Rw
 by_cases h1:a<b
 ·rw[if_pos h1]
  go_enter func183,ntmps183
  go_wp2_with (go_at_call 246;refine(h _ _).mono ?_;rintro e w' ⟨rfl,rfl⟩)
  go_ret;exact⟨rfl,rfl⟩
 ·rw[if_neg h1]
  by_cases h2:b<a
  ·rw[if_pos h2]
   go_enter func183,ntmps183
   go_wp2_with (go_at_call 246;refine(h _ _).mono ?_;rintro e w' ⟨rfl,rfl⟩)
   go_ret;exact⟨rfl,rfl⟩
  ·rw[if_neg h2]
   go_enter func183,ntmps183
   go_wp2_with (go_at_call 246;refine(h _ _).mono ?_;rintro e w' ⟨rfl,rfl⟩)
   go_ret;exact⟨rfl,rfl⟩
theorem TN (w:World)(gf:Nat)(lb:Y7)(N:∀args w,(dF gf args).run Y3 w=.ok (.enter gf args) w)(p:Int->Bool)(g I:Nat)(ks:List Int)(H:∀j (h:j<ks.length),w.cell? ⟨g,j,none⟩=some (.int .i64 ks[j]))(O:ks.length<=I)(hl:ks.length<=1000000)
  (F:∀k∈ks,pr Y3 gf (#[.int .i64 k]++lb) w λe w'=>e=Y0 (.bool (p k))/\w=w') :
  pr Y3 199 #[.slice (some ⟨g,0,none⟩) ks.length I,.func (.func gf) #[] lb] w λe w'=>w=w'/\((e=Y0 (.int .i64 (-1))/\∀k∈ks,p k=false)∨∃i:Nat,∃h:i<ks.length,e=Y0 (.int .i64 (i:Int))/\p ks[i]=true/\∀k∈ks.take i,p k=false):=by
 go_enter func199,ntmps199
 go_wp2
 go_loopw [8] (λi wr=>∃k:Nat,k<=ks.length/\i=.int .i64 (k:Int)/\Hid (∀x∈ks.take k,p x=false)/\wr=w) (λi _=>ks.length-(intOf i).toNat)
 case atStart=>exact⟨0,by omega,rfl,pk (λx h=>by simp at h),rfl⟩
 case round =>
  obtain⟨k,T,rfl,C,rfl⟩:=hrel
  by_cases v:k<ks.length
  ·have hc:=H k v;have q:=F ks[k] (qI v);have U:IntKind.i64.wrap ((k:Int)+1)=(k:Int)+1:=zg _;obtain⟨x,u⟩:=Z9 (ks[k]);rw[<-u] at hc q;cases hb:p x with
   | true =>
    have K:Hid (p ks[k]=true):=pk (by rw[<-u];exact hb);rw[hb] at q;clear hb u H F
    go_wp2_with (refine q.mono ?_;rintro e w' ⟨rfl,rfl⟩)
    go_ret;exact⟨rfl,.inr ⟨k,v,rfl,K.out,C.out⟩⟩
   | false =>
    have E:Hid (∀y∈ks.take (k+1),p y=false):=pk (λy B=>by
     rw[zU v] at B;rcases qA.1 B with h|h
     ·exact C.out y h
     ·rw[qK,<-u] at h;subst h
      exact hb)
    rw[hb] at q;clear hb u H F
    go_wp2_with (refine q.mono ?_;rintro e w' ⟨rfl,rfl⟩)
    exact⟨⟨k+1,by omega,by simp,E,by first|rfl|trivial⟩,by simp[intOf];omega⟩
  ·have M:k=ks.length:=by omega
   have E:Hid (∀y∈ks,p y=false):=pk (λy B=>C.out y (by rw[M,List.take_length];exact B));go_wp2;go_ret;exact⟨rfl,.inl ⟨rfl,E.out⟩⟩
end
end Go.Proofs.YtohmkffoojdahaaGreat
