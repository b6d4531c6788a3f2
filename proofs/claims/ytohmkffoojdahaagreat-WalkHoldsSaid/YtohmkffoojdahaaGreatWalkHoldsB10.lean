/- Texts that the proof of WalkHolds leans on, part 10. -/
import Derived.Test.YtohmkffoojdahaaGreatWalkHoldsB9
open List renaming replicate->zP
set_option linter.unusedVariables false
set_option linter.unusedSimpArgs false
set_option maxRecDepth 100000
set_option maxHeartbeats 8000000

open Go renaming Calls->pr,Addr->px,Operand->py,execOp->oB,TypeId->oD,Oper->oM,Ending->dT
open Go.Act renaming put->pj
open Go.Result renaming andThen->pv
open Go.RowKit renaming Below->ph
open Go.World renaming setRow->oe,cell?->nD,freeze->mx
open Go.Proofs.Tryz renaming prog->Y3
open Go.Proofs.Tryz
namespace Go.Proofs.YtohmkffoojdahaaGreat
section
open Go Go.RowKit vA
def yt:Y4:=[108,111,117,112,101,48,48,49]
def Xm (fi ma:Int)(ro:List Int):Y4:=KO [yt,qy [fi,ma],qy ro].flatten
def jc (s:qm):Y4:=Xm s.first s.many s.roots
theorem Ha {c d:Int}{ro:List Int}(h:ro.length=16):[yt,qy [c,d],qy ro].flatten.length=80:=by
 have h1:=kK [c,d];have h2:=kK ro;simp only[zL,zY] at h1;simp only[qZ,nj,zH,zY,h1,h2,h];rfl
theorem JM {s:qm}(h:s.roots.length=16):(jc s).length=512:=vH (by rw[Ha h];omega)
theorem Nl {ρ:py->Value}{o:oM}{w:World}{x:py}{g:Nat}(c:o.op=.slice 123 x none none none)(h:ρ x=.pointer (some ⟨g,3,none⟩)):(oB ρ o).run Y3 w=.ok (.value (.slice (some ⟨g,3,none⟩) 16 16)) w:=by
 have ht:=underlying123;simp[oB,c,h,go_sem,pv,ht]
section
variable {ρ:py->Value}{o:oM}{W:World}
theorem Uf (d:o.op=.buildSlice 129 8 #[(0,.const (.int .u8 108)),(1,.const (.int .u8 111)),(2,.const (.int .u8 117)),(3,.const (.int .u8 112)),(4,.const (.int .u8 101)),(5,.const (.int .u8 48)),(6,.const (.int .u8 48)),(7,.const (.int .u8 49))])
  (c:∀v,ρ (.const v)=v):(oB ρ o).run Y3 W=.ok (.value (.slice (some ⟨W.heap.size,0,none⟩) 8 8)) (W.alloc (.cells (yt.map b8).toArray 5)):=by
 simp[oB,d,go_sem,pv,yt,b8,c]
theorem Mc {x y:py}{a b:Int}(c:o.op=.buildSlice 67 2 #[(0,x),(1,y)])(h1:ρ x=.int .i64 a)(h2:ρ y=.int .i64 b):(oB ρ o).run Y3 W=.ok (.value (.slice (some ⟨W.heap.size,0,none⟩) 2 2)) (W.alloc (.cells #[.int .i64 a,.int .i64 b] 3)):=by
 simp[oB,c,h1,h2,go_sem,pv]
theorem jR {x y z:py}{A B C:Y5}{n m k a b c:Nat}(e:o.op=.buildSlice 142 3 #[(0,x),(1,y),(2,z)])(h1:ρ x=.slice A n a)(h2:ρ y=.slice B m b)(d:ρ z=.slice C k c):(oB ρ o).run Y3 W=.ok (.value (.slice (some ⟨W.heap.size,0,none⟩) 3 3)) (W.alloc (.cells #[.slice A n a,.slice B m b,.slice C k c] 129)):=by
 simp[oB,e,h1,h2,d,go_sem,pv]
end
theorem VK (W:World)(a b:Int):kS [a,b] (.slice (some ⟨W.heap.size,0,none⟩) 2 2) (W.alloc (.cells #[.int .i64 a,.int .i64 b] 3)):=⟨W.heap.size,rfl,λj c=>by
 rw[(za.new W 3 #[.int .i64 a,.int .i64 b]).cell]
 match j,c with
 | 0,_=>rfl
 | 1,_=>rfl
 | j+2,c=>exact absurd c (by simp)⟩
theorem xq {W:World}{A B C:Y5}{a b c:Nat}{d e f:Y4}(h1:qq W W.heap.size A a d)(h2:qq W W.heap.size B b e)(h:qq W W.heap.size C c f):xN [d,e,f] (.slice (some ⟨W.heap.size,0,none⟩) 3 3) (W.alloc (.cells #[.slice A d.length a,.slice B e.length b,.slice C f.length c] 129)) :=
 xN.new (w:=W) [((A,a),d),((B,b),e),((C,c),f)] (by
  intro x g;simp only[qM,dG,or_false] at g;rcases g with rfl|rfl|rfl
  ·exact h1
  ·exact h2
  ·exact h)
theorem kS.cells {xs:List Int}{v:Value}{W W':World}(h:kS xs v W)(hc:∀p v,W.cell? p=some v->W'.cell? p=some v):kS xs v W':=by
 obtain⟨b,e,h⟩:=h;exact⟨b,e,λj c=>hc _ _ (h j c)⟩
theorem qq.cells {W W':World}{A:Y5}{c:Nat}{l:Y4}(h:qq W W.heap.size A c l)(hs:W'.heap.size=W.heap.size)(hc:∀p v,W.cell? p=some v->W'.cell? p=some v):qq W' W'.heap.size A c l:=by
 refine⟨h.le,h.max,h.nil,λd => ?_⟩;obtain⟨g,o,e,q,h⟩:=h.rC d;exact⟨g,o,e,by omega,λj f=>hc _ _ (h j f)⟩
theorem kp {W:World}{g n c:Nat}{cs:Y7}(h:za W g 5 cs):∃W',(∀(ρ:py->Value) (o:oM) {x:py},o.op=.convert 129 129 x->ρ x=.slice (some ⟨g,0,none⟩) n c->(oB ρ o).run Y3 W=.ok (.value (.slice (some ⟨g,0,none⟩) n c)) W')/\W'.heap.size=W.heap.size/\(∀p v,W.cell? p=some v->W'.cell? p=some v)/\ze (λk=>k=g) W W':=by
 have hh:W.heap[g]?=some (.cells cs 5 (0,0)):=h;have s:W.shape? g=some (5,cs.size):=by unfold World.shape?;rw[hh]
 have ht:=underlying129;have q:=underlying5;refine⟨W.freeze ⟨g,cs.size,none⟩ 1,λρ o x r u => ?_,?_,?_,?_⟩
 ·simp[oB,r,u,convert,om ht,om q,markStringish,s,pv,go_sem]
 ·simp[mx]
 ·intro p v f;have d:(W.freeze ⟨g,cs.size,none⟩ 1).heap[p.block]?=if p.block=g then some (.cells cs 5 (cs.size,cs.size+1)) else W.heap[p.block]?:=by
   by_cases e:p.block=g
   ·rw[if_pos e,e];simp[mx,dU,hh]
   ·rw[if_neg e];simp[mx,dU,Ne.symm e]
  by_cases e:p.block=g
  ·rw[if_pos e] at d;rw[<-e] at hh;simp only[nD,hh] at f;simp only[nD,d];exact f
  ·rw[if_neg e] at d;rw[World.cell?_of_block d];exact f
 ·refine⟨rfl,rfl,rfl,by simp[mx],λk B hn => ?_⟩;have hn:¬ g=k:=λe=>hn e.symm
  simp[mx,dU,hn]
-- THE WALK
theorem Sg (w:World)(s:qm)(a7:s.roots.length=16):pr Y3 66 #[.agg (xR s).toArray] w λe w'=>∃A c,e=Y0 (.slice A 512 c)/\qq w' w'.heap.size A c (jc s)/\ph w.heap.size w w':=by
 have aF:=JM a7;obtain⟨cs,aZ⟩:=Z9 ((xR s).toArray);have bD:cs[1]?=some (.int .i64 s.first):=by rw[aZ];rfl
 have bE:cs[2]?=some (.int .i64 s.many):=by rw[aZ];rfl
 have bF:∀j (h:j<s.roots.length),cs[3+j]?=some (.int .i64 s.roots[j]):=λj h=>by rw[aZ,show 3+j=j+1+1+1 by omega];unfold xR;simp[h]
 rw[<-aZ];unfold jc at aF ⊢;generalize s.first=H at *;generalize s.many=I at *;generalize s.roots=ro at *;have aG:∀w u,xN [yt,qy [H,I],qy ro] u w->pr Y3 113 #[u] w (yU w (Xm H I ro)):=λw u hu=>Vw hu (by simp) (by rw[Ha a7];omega)
 have T:ph w.heap.size w (w.alloc (.cells cs 125)):=(pf _ w).alloc (zG _) _;have aU:=za.new w 125 cs;clear aZ
 go_enter func66,ntmps66
 go_wp2_with fail
 generalize w.alloc (.cells cs 125)=M at *;have r:∀W,ph M.heap.size M W->W.cell? ⟨w.heap.size,1,none⟩=some (.int .i64 H)/\W.cell? ⟨w.heap.size,2,none⟩=some (.int .i64 I):=λW hg=>⟨(hg.cell (p:=⟨w.heap.size,1,none⟩) aU.lt).trans (by rw[aU.cell];exact bD),(hg.cell (p:=⟨w.heap.size,2,none⟩) aU.lt).trans (by rw[aU.cell];exact bE)⟩
 have aH:∀w',ph M.heap.size M w'->pr Y3 114 #[.slice (some ⟨w.heap.size,3,none⟩) 16 16] w' (yU w' (qy ro)):=λw' hg=>by have:=ZL w' (some ⟨w.heap.size,3,none⟩) 16 ro ⟨λ_=>⟨w.heap.size,3,rfl,λj hj=>(hg.cell (p:=⟨w.heap.size,3+j,none⟩) aU.lt).trans (by rw[aU.cell];exact bF j hj)⟩⟩ (by omega);rw[a7] at this;exact this
 have aT:=r M.drew (pf _ _).drew;have d:ph M.heap.size M M.drew:=(pf _ _).drew;clear aU bF bD bE;refine zb.st (λW:World=>W.cell? ⟨w.heap.size,1,none⟩=some (.int .i64 H)/\W.cell? ⟨w.heap.size,2,none⟩=some (.int .i64 I)) 99 ?_;refine zb.q0 2 (.pointer (some ⟨w.heap.size,1,none⟩)) aT ?_;refine zb.q0 3 (.int .i64 H) aT ?_;refine zb.q0 4 (.pointer (some ⟨w.heap.size,2,none⟩)) aT ?_;refine zb.q0 5 (.int .i64 I) aT ?_;refine zb.q0 8 (.pointer (some ⟨w.heap.size,3,none⟩)) aT ?_;simp only[Z8];refine zb.t0 9 (.slice (some ⟨w.heap.size,3,none⟩) 16 16) rfl aT (λW ⟨e0,e1⟩=>by exact Nl rfl rfl) ?_;simp only[Z8];clear aT;refine zb.two 0 6 (by kernel_rfl) ?_ ?_
 ·skip
  obtain⟨W1,q⟩:∃W,W=M.drew.alloc (.cells (yt.map b8).toArray 5):=⟨_,rfl⟩;obtain⟨g0,aM⟩:∃g,g=M.drew.heap.size:=⟨_,rfl⟩;have f:ph M.drew.heap.size M.drew W1:=by rw[q];exact(pf _ _).alloc (zG _) _
  have E:za W1 g0 5 (yt.map b8).toArray:=by rw[q,aM];exact za.new _ _ _
  have aE:M.heap.size<=g0:=by rw[aM];exact d.size
  replace d:=d.trans (f.mono d.size);refine zb.opV (w':=W1) (.slice (some ⟨g0,0,none⟩) 8 8) rfl rfl (by rw[q,aM];exact Uf rfl (λ_=>rfl)) ⟨λ_=>r _ d,?_⟩;clear q aM f;simp only[zD,zB,pj,zA,zF,zE];refine zb.two 1 6 (by kernel_rfl) ?_ ?_
  ·skip
   obtain⟨W2,aA,L,F,Z⟩:=kp (W:=W1) (g:=g0) (n:=8) (c:=8) E;have G:qq W2 W2.heap.size (some ⟨g0,0,none⟩) 8 yt:=qq.cells (E.inB _ E.lt (by decide)) L F;replace d:=d.trans (Z.toBelow d.size (λk e=>by rw[e];exact aE));refine zb.opV (w':=W2) (.slice (some ⟨g0,0,none⟩) 8 8) rfl rfl (aA _ _ rfl rfl) ⟨λ_=>r _ d,?_⟩;clear aA L F Z E aE;simp only[Z8];refine zb.n 6 ?_;obtain⟨W3,q⟩:∃W,W=W2.alloc (.cells #[.int .i64 H,.int .i64 I] 3):=⟨_,rfl⟩;obtain⟨g9,aQ⟩:∃g,g=W2.heap.size:=⟨_,rfl⟩;have f:ph W2.heap.size W2 W3:=by rw[q];exact(pf _ _).alloc (zG _) _
   have B:kS [H,I] (.slice (some ⟨g9,0,none⟩) 2 2) W3:=by rw[q,aQ];exact VK _ _ _
   replace G:=(G.below f).more f.size;replace d:=d.trans (f.mono d.size);refine zb.opV (w':=W3) (.slice (some ⟨g9,0,none⟩) 2 2) rfl rfl (by rw[q,aQ];exact Mc rfl rfl rfl) ⟨λ_=>r _ d,?_⟩;clear q aQ f;simp only[Z8];refine zb.n 7 ?_;refine zb.oC 114 #[.tmp 9] #[67] #[.slice (some ⟨g9,0,none⟩) 2 2] ((vy B (by simp)).mono ?_) (zb.eo func114);rintro e W4 ⟨a0,rfl,aN,f⟩;obtain⟨aO,aP,rfl,C⟩:=aN.inB;replace G:=(G.below f).more f.size;replace B:=yO _ _ _ _ B f;replace d:=d.trans (f.mono d.size);refine⟨_,rfl,λ_=>r _ d,?_⟩;clear f aN;simp only[Z8];refine zb.n 10 ?_;refine zb.oC 114 #[.tmp 12] #[67] #[.slice (some ⟨w.heap.size,3,none⟩) 16 16] ((aH _ d).mono ?_) (zb.eo func114);rintro e W5 ⟨aR,rfl,aC,f⟩;obtain⟨aI,aL,rfl,S⟩:=aC.inB;replace G:=(G.below f).more f.size;replace B:=yO _ _ _ _ B f;replace C:=(C.below f).more f.size;replace d:=d.trans (f.mono d.size);refine⟨_,rfl,λ_=>r _ d,?_⟩;clear f aC;simp only[Z8];obtain⟨W6,q⟩:∃W,W=W5.alloc (.cells #[.slice (some ⟨g0,0,none⟩) 8 8,.slice aO (qy [H,I]).length aP,.slice aI (qy ro).length aL] 129):=⟨_,rfl⟩;obtain⟨N,O⟩:∃g,g=W5.heap.size:=⟨_,rfl⟩;have X:xN [yt,qy [H,I],qy ro] (.slice (some ⟨N,0,none⟩) 3 3) W6:=by rw[q,O];exact xq G C S
   replace d:ph M.heap.size M W6:=by rw[q];exact d.alloc d.size _
   refine zb.n 11 (zb.opV (w':=W6) (.slice (some ⟨N,0,none⟩) 3 3) rfl rfl (by rw[q,O];exact jR rfl rfl rfl rfl) ⟨λ_=>r _ d,?_⟩);simp only[Z8];refine zb.n 12 ?_;refine zb.oC 113 #[.tmp 14] #[142] #[.slice (some ⟨N,0,none⟩) 3 3] ((aG _ _ X).mono ?_) (zb.eo func113);rintro e W7 ⟨aS,rfl,aD,f⟩;obtain⟨U,V,rfl,aB⟩:=aD.inB;replace d:=d.trans (f.mono d.size);refine⟨_,rfl,λ_=>r _ d,?_⟩;simp only[Z8];refine zb.n 13 (zb.opV (w':=W7) (.slice U (Xm H I ro).length V) rfl rfl (by go_simp) ⟨λ_=>r _ d,zb.dn ?_⟩);simp only[Z8];have aK:=pk (T.trans (d.mono T.size));have aJ:=pk aB;rw[aF];clear r aH aG d G B C S X q O aD f aB T aF;go_wp2;go_ret;exact⟨U,V,rfl,aJ.out,aK.out⟩
  ·skip
   obtain⟨W8,q⟩:∃W,W=W1.alloc (.cells #[.int .i64 H,.int .i64 I] 3):=⟨_,rfl⟩;obtain⟨g9,aQ⟩:∃g,g=W1.heap.size:=⟨_,rfl⟩;have f:ph W1.heap.size W1 W8:=by rw[q];exact(pf _ _).alloc (zG _) _
   have B:kS [H,I] (.slice (some ⟨g9,0,none⟩) 2 2) W8:=by rw[q,aQ];exact VK _ _ _
   replace E:=E.below f E.lt;replace d:=d.trans (f.mono d.size);refine zb.opV (w':=W8) (.slice (some ⟨g9,0,none⟩) 2 2) rfl rfl (by rw[q,aQ];exact Mc rfl rfl rfl) ⟨λ_=>r _ d,?_⟩;clear q aQ f;simp only[Z8];refine zb.two 1 7 (by kernel_rfl) ?_ ?_
   ·skip
    obtain⟨W9,aA,L,F,Z⟩:=kp (W:=W8) (g:=g0) (n:=8) (c:=8) E;have G:qq W9 W9.heap.size (some ⟨g0,0,none⟩) 8 yt:=qq.cells (E.inB _ E.lt (by decide)) L F;replace B:=B.cells F;replace d:=d.trans (Z.toBelow d.size (λk e=>by rw[e];exact aE));refine zb.opV (w':=W9) (.slice (some ⟨g0,0,none⟩) 8 8) rfl rfl (aA _ _ rfl rfl) ⟨λ_=>r _ d,?_⟩;clear aA L F Z E aE;simp only[Z8];refine zb.n 7 ?_;refine zb.oC 114 #[.tmp 9] #[67] #[.slice (some ⟨g9,0,none⟩) 2 2] ((vy B (by simp)).mono ?_) (zb.eo func114);rintro e bU ⟨a0,rfl,aN,f⟩;obtain⟨aO,aP,rfl,C⟩:=aN.inB;replace G:=(G.below f).more f.size;replace B:=yO _ _ _ _ B f;replace d:=d.trans (f.mono d.size);refine⟨_,rfl,λ_=>r _ d,?_⟩;clear f aN;simp only[Z8];refine zb.n 10 ?_;refine zb.oC 114 #[.tmp 12] #[67] #[.slice (some ⟨w.heap.size,3,none⟩) 16 16] ((aH _ d).mono ?_) (zb.eo func114);rintro e a8 ⟨aR,rfl,aC,f⟩;obtain⟨aI,aL,rfl,S⟩:=aC.inB;replace G:=(G.below f).more f.size;replace B:=yO _ _ _ _ B f;replace C:=(C.below f).more f.size;replace d:=d.trans (f.mono d.size);refine⟨_,rfl,λ_=>r _ d,?_⟩;clear f aC;simp only[Z8];obtain⟨W12,q⟩:∃W,W=a8.alloc (.cells #[.slice (some ⟨g0,0,none⟩) 8 8,.slice aO (qy [H,I]).length aP,.slice aI (qy ro).length aL] 129):=⟨_,rfl⟩;obtain⟨N,O⟩:∃g,g=a8.heap.size:=⟨_,rfl⟩;have X:xN [yt,qy [H,I],qy ro] (.slice (some ⟨N,0,none⟩) 3 3) W12:=by rw[q,O];exact xq G C S
    replace d:ph M.heap.size M W12:=by rw[q];exact d.alloc d.size _
    refine zb.n 11 (zb.opV (w':=W12) (.slice (some ⟨N,0,none⟩) 3 3) rfl rfl (by rw[q,O];exact jR rfl rfl rfl rfl) ⟨λ_=>r _ d,?_⟩);simp only[Z8];refine zb.n 12 ?_;refine zb.oC 113 #[.tmp 14] #[142] #[.slice (some ⟨N,0,none⟩) 3 3] ((aG _ _ X).mono ?_) (zb.eo func113);rintro e bG ⟨aS,rfl,aD,f⟩;obtain⟨U,V,rfl,aB⟩:=aD.inB;replace d:=d.trans (f.mono d.size);refine⟨_,rfl,λ_=>r _ d,?_⟩;simp only[Z8];refine zb.n 13 (zb.opV (w':=bG) (.slice U (Xm H I ro).length V) rfl rfl (by go_simp) ⟨λ_=>r _ d,zb.dn ?_⟩);simp only[Z8];have aK:=pk (T.trans (d.mono T.size));have aJ:=pk aB;rw[aF];clear r aH aG d G B C S X q O aD f aB T aF;go_wp2;go_ret;exact⟨U,V,rfl,aJ.out,aK.out⟩
   ·skip
    refine zb.oC 114 #[.tmp 9] #[67] #[.slice (some ⟨g9,0,none⟩) 2 2] ((vy B (by simp)).mono ?_) (zb.eo func114);rintro e bH ⟨a0,rfl,aN,f⟩;obtain⟨aO,aP,rfl,C⟩:=aN.inB;replace E:=E.below f E.lt;replace B:=yO _ _ _ _ B f;replace d:=d.trans (f.mono d.size);refine⟨_,rfl,λ_=>r _ d,?_⟩;clear f aN;simp only[Z8];refine zb.two 1 10 (by kernel_rfl) ?_ ?_
    ·skip
     obtain⟨a3,aA,L,F,Z⟩:=kp (W:=bH) (g:=g0) (n:=8) (c:=8) E;have G:qq a3 a3.heap.size (some ⟨g0,0,none⟩) 8 yt:=qq.cells (E.inB _ E.lt (by decide)) L F;replace B:=B.cells F;replace C:=C.cells L F;replace d:=d.trans (Z.toBelow d.size (λk e=>by rw[e];exact aE));refine zb.opV (w':=a3) (.slice (some ⟨g0,0,none⟩) 8 8) rfl rfl (aA _ _ rfl rfl) ⟨λ_=>r _ d,?_⟩;clear aA L F Z E aE;simp only[Z8];refine zb.n 10 ?_;refine zb.oC 114 #[.tmp 12] #[67] #[.slice (some ⟨w.heap.size,3,none⟩) 16 16] ((aH _ d).mono ?_) (zb.eo func114);rintro e a9 ⟨aR,rfl,aC,f⟩;obtain⟨aI,aL,rfl,S⟩:=aC.inB;replace G:=(G.below f).more f.size;replace B:=yO _ _ _ _ B f;replace C:=(C.below f).more f.size;replace d:=d.trans (f.mono d.size);refine⟨_,rfl,λ_=>r _ d,?_⟩;clear f aC;simp only[Z8];obtain⟨W17,q⟩:∃W,W=a9.alloc (.cells #[.slice (some ⟨g0,0,none⟩) 8 8,.slice aO (qy [H,I]).length aP,.slice aI (qy ro).length aL] 129):=⟨_,rfl⟩;obtain⟨N,O⟩:∃g,g=a9.heap.size:=⟨_,rfl⟩;have X:xN [yt,qy [H,I],qy ro] (.slice (some ⟨N,0,none⟩) 3 3) W17:=by rw[q,O];exact xq G C S
     replace d:ph M.heap.size M W17:=by rw[q];exact d.alloc d.size _
     refine zb.n 11 (zb.opV (w':=W17) (.slice (some ⟨N,0,none⟩) 3 3) rfl rfl (by rw[q,O];exact jR rfl rfl rfl rfl) ⟨λ_=>r _ d,?_⟩);simp only[Z8];refine zb.n 12 ?_;refine zb.oC 113 #[.tmp 14] #[142] #[.slice (some ⟨N,0,none⟩) 3 3] ((aG _ _ X).mono ?_) (zb.eo func113);rintro e bI ⟨aS,rfl,aD,f⟩;obtain⟨U,V,rfl,aB⟩:=aD.inB;replace d:=d.trans (f.mono d.size);refine⟨_,rfl,λ_=>r _ d,?_⟩;simp only[Z8];refine zb.n 13 (zb.opV (w':=bI) (.slice U (Xm H I ro).length V) rfl rfl (by go_simp) ⟨λ_=>r _ d,zb.dn ?_⟩);simp only[Z8];have aK:=pk (T.trans (d.mono T.size));have aJ:=pk aB;rw[aF];clear r aH aG d G B C S X q O aD f aB T aF;go_wp2;go_ret;exact⟨U,V,rfl,aJ.out,aK.out⟩
    ·skip
     refine zb.oC 114 #[.tmp 12] #[67] #[.slice (some ⟨w.heap.size,3,none⟩) 16 16] ((aH _ d).mono ?_) (zb.eo func114);rintro e bJ ⟨aR,rfl,aC,f⟩;obtain⟨aI,aL,rfl,S⟩:=aC.inB;replace E:=E.below f E.lt;replace B:=yO _ _ _ _ B f;replace C:=(C.below f).more f.size;replace d:=d.trans (f.mono d.size);refine⟨_,rfl,λ_=>r _ d,?_⟩;clear f aC;simp only[Z8];refine zb.n 1 ?_;obtain⟨aV,aA,L,F,Z⟩:=kp (W:=bJ) (g:=g0) (n:=8) (c:=8) E;have G:qq aV aV.heap.size (some ⟨g0,0,none⟩) 8 yt:=qq.cells (E.inB _ E.lt (by decide)) L F;replace B:=B.cells F;replace C:=C.cells L F;replace S:=S.cells L F;replace d:=d.trans (Z.toBelow d.size (λk e=>by rw[e];exact aE));refine zb.opV (w':=aV) (.slice (some ⟨g0,0,none⟩) 8 8) rfl rfl (aA _ _ rfl rfl) ⟨λ_=>r _ d,?_⟩;clear aA L F Z E aE;simp only[Z8];obtain⟨W21,q⟩:∃W,W=aV.alloc (.cells #[.slice (some ⟨g0,0,none⟩) 8 8,.slice aO (qy [H,I]).length aP,.slice aI (qy ro).length aL] 129):=⟨_,rfl⟩;obtain⟨N,O⟩:∃g,g=aV.heap.size:=⟨_,rfl⟩;have X:xN [yt,qy [H,I],qy ro] (.slice (some ⟨N,0,none⟩) 3 3) W21:=by rw[q,O];exact xq G C S
     replace d:ph M.heap.size M W21:=by rw[q];exact d.alloc d.size _
     refine zb.n 11 (zb.opV (w':=W21) (.slice (some ⟨N,0,none⟩) 3 3) rfl rfl (by rw[q,O];exact jR rfl rfl rfl rfl) ⟨λ_=>r _ d,?_⟩);simp only[Z8];refine zb.n 12 ?_;refine zb.oC 113 #[.tmp 14] #[142] #[.slice (some ⟨N,0,none⟩) 3 3] ((aG _ _ X).mono ?_) (zb.eo func113);rintro e bK ⟨aS,rfl,aD,f⟩;obtain⟨U,V,rfl,aB⟩:=aD.inB;replace d:=d.trans (f.mono d.size);refine⟨_,rfl,λ_=>r _ d,?_⟩;simp only[Z8];refine zb.n 13 (zb.opV (w':=bK) (.slice U (Xm H I ro).length V) rfl rfl (by go_simp) ⟨λ_=>r _ d,zb.dn ?_⟩);simp only[Z8];have aK:=pk (T.trans (d.mono T.size));have aJ:=pk aB;rw[aF];clear r aH aG d G B C S X q O aD f aB T aF;go_wp2;go_ret;exact⟨U,V,rfl,aJ.out,aK.out⟩
 ·skip
  obtain⟨W23,q⟩:∃W,W=M.drew.alloc (.cells #[.int .i64 H,.int .i64 I] 3):=⟨_,rfl⟩;obtain⟨g9,aQ⟩:∃g,g=M.drew.heap.size:=⟨_,rfl⟩;have f:ph M.drew.heap.size M.drew W23:=by rw[q];exact(pf _ _).alloc (zG _) _
  have B:kS [H,I] (.slice (some ⟨g9,0,none⟩) 2 2) W23:=by rw[q,aQ];exact VK _ _ _
  replace d:=d.trans (f.mono d.size);refine zb.opV (w':=W23) (.slice (some ⟨g9,0,none⟩) 2 2) rfl rfl (by rw[q,aQ];exact Mc rfl rfl rfl) ⟨λ_=>r _ d,?_⟩;clear q aQ f;simp only[Z8];refine zb.two 0 7 (by kernel_rfl) ?_ ?_
  ·skip
   obtain⟨W24,q⟩:∃W,W=W23.alloc (.cells (yt.map b8).toArray 5):=⟨_,rfl⟩;obtain⟨g0,aM⟩:∃g,g=W23.heap.size:=⟨_,rfl⟩;have f:ph W23.heap.size W23 W24:=by rw[q];exact(pf _ _).alloc (zG _) _
   have E:za W24 g0 5 (yt.map b8).toArray:=by rw[q,aM];exact za.new _ _ _
   have aE:M.heap.size<=g0:=by rw[aM];exact d.size
   replace B:=yO _ _ _ _ B f;replace d:=d.trans (f.mono d.size);refine zb.opV (w':=W24) (.slice (some ⟨g0,0,none⟩) 8 8) rfl rfl (by rw[q,aM];exact Uf rfl (λ_=>rfl)) ⟨λ_=>r _ d,?_⟩;clear q aM f;simp only[zD,zB,pj,zA,zF,zE];refine zb.two 1 7 (by kernel_rfl) ?_ ?_
   ·skip
    obtain⟨a4,aA,L,F,Z⟩:=kp (W:=W24) (g:=g0) (n:=8) (c:=8) E;have G:qq a4 a4.heap.size (some ⟨g0,0,none⟩) 8 yt:=qq.cells (E.inB _ E.lt (by decide)) L F;replace B:=B.cells F;replace d:=d.trans (Z.toBelow d.size (λk e=>by rw[e];exact aE));refine zb.opV (w':=a4) (.slice (some ⟨g0,0,none⟩) 8 8) rfl rfl (aA _ _ rfl rfl) ⟨λ_=>r _ d,?_⟩;clear aA L F Z E aE;simp only[Z8];refine zb.n 7 ?_;refine zb.oC 114 #[.tmp 9] #[67] #[.slice (some ⟨g9,0,none⟩) 2 2] ((vy B (by simp)).mono ?_) (zb.eo func114);rintro e bV ⟨a0,rfl,aN,f⟩;obtain⟨aO,aP,rfl,C⟩:=aN.inB;replace G:=(G.below f).more f.size;replace B:=yO _ _ _ _ B f;replace d:=d.trans (f.mono d.size);refine⟨_,rfl,λ_=>r _ d,?_⟩;clear f aN;simp only[Z8];refine zb.n 10 ?_;refine zb.oC 114 #[.tmp 12] #[67] #[.slice (some ⟨w.heap.size,3,none⟩) 16 16] ((aH _ d).mono ?_) (zb.eo func114);rintro e bA ⟨aR,rfl,aC,f⟩;obtain⟨aI,aL,rfl,S⟩:=aC.inB;replace G:=(G.below f).more f.size;replace B:=yO _ _ _ _ B f;replace C:=(C.below f).more f.size;replace d:=d.trans (f.mono d.size);refine⟨_,rfl,λ_=>r _ d,?_⟩;clear f aC;simp only[Z8];obtain⟨W28,q⟩:∃W,W=bA.alloc (.cells #[.slice (some ⟨g0,0,none⟩) 8 8,.slice aO (qy [H,I]).length aP,.slice aI (qy ro).length aL] 129):=⟨_,rfl⟩;obtain⟨N,O⟩:∃g,g=bA.heap.size:=⟨_,rfl⟩;have X:xN [yt,qy [H,I],qy ro] (.slice (some ⟨N,0,none⟩) 3 3) W28:=by rw[q,O];exact xq G C S
    replace d:ph M.heap.size M W28:=by rw[q];exact d.alloc d.size _
    refine zb.n 11 (zb.opV (w':=W28) (.slice (some ⟨N,0,none⟩) 3 3) rfl rfl (by rw[q,O];exact jR rfl rfl rfl rfl) ⟨λ_=>r _ d,?_⟩);simp only[Z8];refine zb.n 12 ?_;refine zb.oC 113 #[.tmp 14] #[142] #[.slice (some ⟨N,0,none⟩) 3 3] ((aG _ _ X).mono ?_) (zb.eo func113);rintro e bL ⟨aS,rfl,aD,f⟩;obtain⟨U,V,rfl,aB⟩:=aD.inB;replace d:=d.trans (f.mono d.size);refine⟨_,rfl,λ_=>r _ d,?_⟩;simp only[Z8];refine zb.n 13 (zb.opV (w':=bL) (.slice U (Xm H I ro).length V) rfl rfl (by go_simp) ⟨λ_=>r _ d,zb.dn ?_⟩);simp only[Z8];have aK:=pk (T.trans (d.mono T.size));have aJ:=pk aB;rw[aF];clear r aH aG d G B C S X q O aD f aB T aF;go_wp2;go_ret;exact⟨U,V,rfl,aJ.out,aK.out⟩
   ·skip
    refine zb.oC 114 #[.tmp 9] #[67] #[.slice (some ⟨g9,0,none⟩) 2 2] ((vy B (by simp)).mono ?_) (zb.eo func114);rintro e bM ⟨a0,rfl,aN,f⟩;obtain⟨aO,aP,rfl,C⟩:=aN.inB;replace E:=E.below f E.lt;replace B:=yO _ _ _ _ B f;replace d:=d.trans (f.mono d.size);refine⟨_,rfl,λ_=>r _ d,?_⟩;clear f aN;simp only[Z8];refine zb.two 1 10 (by kernel_rfl) ?_ ?_
    ·skip
     obtain⟨a5,aA,L,F,Z⟩:=kp (W:=bM) (g:=g0) (n:=8) (c:=8) E;have G:qq a5 a5.heap.size (some ⟨g0,0,none⟩) 8 yt:=qq.cells (E.inB _ E.lt (by decide)) L F;replace B:=B.cells F;replace C:=C.cells L F;replace d:=d.trans (Z.toBelow d.size (λk e=>by rw[e];exact aE));refine zb.opV (w':=a5) (.slice (some ⟨g0,0,none⟩) 8 8) rfl rfl (aA _ _ rfl rfl) ⟨λ_=>r _ d,?_⟩;clear aA L F Z E aE;simp only[Z8];refine zb.n 10 ?_;refine zb.oC 114 #[.tmp 12] #[67] #[.slice (some ⟨w.heap.size,3,none⟩) 16 16] ((aH _ d).mono ?_) (zb.eo func114);rintro e bB ⟨aR,rfl,aC,f⟩;obtain⟨aI,aL,rfl,S⟩:=aC.inB;replace G:=(G.below f).more f.size;replace B:=yO _ _ _ _ B f;replace C:=(C.below f).more f.size;replace d:=d.trans (f.mono d.size);refine⟨_,rfl,λ_=>r _ d,?_⟩;clear f aC;simp only[Z8];obtain⟨W33,q⟩:∃W,W=bB.alloc (.cells #[.slice (some ⟨g0,0,none⟩) 8 8,.slice aO (qy [H,I]).length aP,.slice aI (qy ro).length aL] 129):=⟨_,rfl⟩;obtain⟨N,O⟩:∃g,g=bB.heap.size:=⟨_,rfl⟩;have X:xN [yt,qy [H,I],qy ro] (.slice (some ⟨N,0,none⟩) 3 3) W33:=by rw[q,O];exact xq G C S
     replace d:ph M.heap.size M W33:=by rw[q];exact d.alloc d.size _
     refine zb.n 11 (zb.opV (w':=W33) (.slice (some ⟨N,0,none⟩) 3 3) rfl rfl (by rw[q,O];exact jR rfl rfl rfl rfl) ⟨λ_=>r _ d,?_⟩);simp only[Z8];refine zb.n 12 ?_;refine zb.oC 113 #[.tmp 14] #[142] #[.slice (some ⟨N,0,none⟩) 3 3] ((aG _ _ X).mono ?_) (zb.eo func113);rintro e bN ⟨aS,rfl,aD,f⟩;obtain⟨U,V,rfl,aB⟩:=aD.inB;replace d:=d.trans (f.mono d.size);refine⟨_,rfl,λ_=>r _ d,?_⟩;simp only[Z8];refine zb.n 13 (zb.opV (w':=bN) (.slice U (Xm H I ro).length V) rfl rfl (by go_simp) ⟨λ_=>r _ d,zb.dn ?_⟩);simp only[Z8];have aK:=pk (T.trans (d.mono T.size));have aJ:=pk aB;rw[aF];clear r aH aG d G B C S X q O aD f aB T aF;go_wp2;go_ret;exact⟨U,V,rfl,aJ.out,aK.out⟩
    ·skip
     refine zb.oC 114 #[.tmp 12] #[67] #[.slice (some ⟨w.heap.size,3,none⟩) 16 16] ((aH _ d).mono ?_) (zb.eo func114);rintro e bO ⟨aR,rfl,aC,f⟩;obtain⟨aI,aL,rfl,S⟩:=aC.inB;replace E:=E.below f E.lt;replace B:=yO _ _ _ _ B f;replace C:=(C.below f).more f.size;replace d:=d.trans (f.mono d.size);refine⟨_,rfl,λ_=>r _ d,?_⟩;clear f aC;simp only[Z8];refine zb.n 1 ?_;obtain⟨aW,aA,L,F,Z⟩:=kp (W:=bO) (g:=g0) (n:=8) (c:=8) E;have G:qq aW aW.heap.size (some ⟨g0,0,none⟩) 8 yt:=qq.cells (E.inB _ E.lt (by decide)) L F;replace B:=B.cells F;replace C:=C.cells L F;replace S:=S.cells L F;replace d:=d.trans (Z.toBelow d.size (λk e=>by rw[e];exact aE));refine zb.opV (w':=aW) (.slice (some ⟨g0,0,none⟩) 8 8) rfl rfl (aA _ _ rfl rfl) ⟨λ_=>r _ d,?_⟩;clear aA L F Z E aE;simp only[Z8];obtain⟨W37,q⟩:∃W,W=aW.alloc (.cells #[.slice (some ⟨g0,0,none⟩) 8 8,.slice aO (qy [H,I]).length aP,.slice aI (qy ro).length aL] 129):=⟨_,rfl⟩;obtain⟨N,O⟩:∃g,g=aW.heap.size:=⟨_,rfl⟩;have X:xN [yt,qy [H,I],qy ro] (.slice (some ⟨N,0,none⟩) 3 3) W37:=by rw[q,O];exact xq G C S
     replace d:ph M.heap.size M W37:=by rw[q];exact d.alloc d.size _
     refine zb.n 11 (zb.opV (w':=W37) (.slice (some ⟨N,0,none⟩) 3 3) rfl rfl (by rw[q,O];exact jR rfl rfl rfl rfl) ⟨λ_=>r _ d,?_⟩);simp only[Z8];refine zb.n 12 ?_;refine zb.oC 113 #[.tmp 14] #[142] #[.slice (some ⟨N,0,none⟩) 3 3] ((aG _ _ X).mono ?_) (zb.eo func113);rintro e bP ⟨aS,rfl,aD,f⟩;obtain⟨U,V,rfl,aB⟩:=aD.inB;replace d:=d.trans (f.mono d.size);refine⟨_,rfl,λ_=>r _ d,?_⟩;simp only[Z8];refine zb.n 13 (zb.opV (w':=bP) (.slice U (Xm H I ro).length V) rfl rfl (by go_simp) ⟨λ_=>r _ d,zb.dn ?_⟩);simp only[Z8];have aK:=pk (T.trans (d.mono T.size));have aJ:=pk aB;rw[aF];clear r aH aG d G B C S X q O aD f aB T aF;go_wp2;go_ret;exact⟨U,V,rfl,aJ.out,aK.out⟩
  ·skip
   refine zb.oC 114 #[.tmp 9] #[67] #[.slice (some ⟨g9,0,none⟩) 2 2] ((vy B (by simp)).mono ?_) (zb.eo func114);rintro e a1 ⟨a0,rfl,aN,f⟩;obtain⟨aO,aP,rfl,C⟩:=aN.inB;replace B:=yO _ _ _ _ B f;replace d:=d.trans (f.mono d.size);refine⟨_,rfl,λ_=>r _ d,?_⟩;clear f aN;simp only[Z8];refine zb.two 0 10 (by kernel_rfl) ?_ ?_
   ·skip
    obtain⟨W40,q⟩:∃W,W=a1.alloc (.cells (yt.map b8).toArray 5):=⟨_,rfl⟩;obtain⟨g0,aM⟩:∃g,g=a1.heap.size:=⟨_,rfl⟩;have f:ph a1.heap.size a1 W40:=by rw[q];exact(pf _ _).alloc (zG _) _
    have E:za W40 g0 5 (yt.map b8).toArray:=by rw[q,aM];exact za.new _ _ _
    have aE:M.heap.size<=g0:=by rw[aM];exact d.size
    replace B:=yO _ _ _ _ B f;replace C:=(C.below f).more f.size;replace d:=d.trans (f.mono d.size);refine zb.opV (w':=W40) (.slice (some ⟨g0,0,none⟩) 8 8) rfl rfl (by rw[q,aM];exact Uf rfl (λ_=>rfl)) ⟨λ_=>r _ d,?_⟩;clear q aM f;simp only[zD,zB,pj,zA,zF,zE];refine zb.two 1 10 (by kernel_rfl) ?_ ?_
    ·skip
     obtain⟨a6,aA,L,F,Z⟩:=kp (W:=W40) (g:=g0) (n:=8) (c:=8) E;have G:qq a6 a6.heap.size (some ⟨g0,0,none⟩) 8 yt:=qq.cells (E.inB _ E.lt (by decide)) L F;replace B:=B.cells F;replace C:=C.cells L F;replace d:=d.trans (Z.toBelow d.size (λk e=>by rw[e];exact aE));refine zb.opV (w':=a6) (.slice (some ⟨g0,0,none⟩) 8 8) rfl rfl (aA _ _ rfl rfl) ⟨λ_=>r _ d,?_⟩;clear aA L F Z E aE;simp only[Z8];refine zb.n 10 ?_;refine zb.oC 114 #[.tmp 12] #[67] #[.slice (some ⟨w.heap.size,3,none⟩) 16 16] ((aH _ d).mono ?_) (zb.eo func114);rintro e bC ⟨aR,rfl,aC,f⟩;obtain⟨aI,aL,rfl,S⟩:=aC.inB;replace G:=(G.below f).more f.size;replace B:=yO _ _ _ _ B f;replace C:=(C.below f).more f.size;replace d:=d.trans (f.mono d.size);refine⟨_,rfl,λ_=>r _ d,?_⟩;clear f aC;simp only[Z8];obtain⟨W43,q⟩:∃W,W=bC.alloc (.cells #[.slice (some ⟨g0,0,none⟩) 8 8,.slice aO (qy [H,I]).length aP,.slice aI (qy ro).length aL] 129):=⟨_,rfl⟩;obtain⟨N,O⟩:∃g,g=bC.heap.size:=⟨_,rfl⟩;have X:xN [yt,qy [H,I],qy ro] (.slice (some ⟨N,0,none⟩) 3 3) W43:=by rw[q,O];exact xq G C S
     replace d:ph M.heap.size M W43:=by rw[q];exact d.alloc d.size _
     refine zb.n 11 (zb.opV (w':=W43) (.slice (some ⟨N,0,none⟩) 3 3) rfl rfl (by rw[q,O];exact jR rfl rfl rfl rfl) ⟨λ_=>r _ d,?_⟩);simp only[Z8];refine zb.n 12 ?_;refine zb.oC 113 #[.tmp 14] #[142] #[.slice (some ⟨N,0,none⟩) 3 3] ((aG _ _ X).mono ?_) (zb.eo func113);rintro e bQ ⟨aS,rfl,aD,f⟩;obtain⟨U,V,rfl,aB⟩:=aD.inB;replace d:=d.trans (f.mono d.size);refine⟨_,rfl,λ_=>r _ d,?_⟩;simp only[Z8];refine zb.n 13 (zb.opV (w':=bQ) (.slice U (Xm H I ro).length V) rfl rfl (by go_simp) ⟨λ_=>r _ d,zb.dn ?_⟩);simp only[Z8];have aK:=pk (T.trans (d.mono T.size));have aJ:=pk aB;rw[aF];clear r aH aG d G B C S X q O aD f aB T aF;go_wp2;go_ret;exact⟨U,V,rfl,aJ.out,aK.out⟩
    ·skip
     refine zb.oC 114 #[.tmp 12] #[67] #[.slice (some ⟨w.heap.size,3,none⟩) 16 16] ((aH _ d).mono ?_) (zb.eo func114);rintro e bR ⟨aR,rfl,aC,f⟩;obtain⟨aI,aL,rfl,S⟩:=aC.inB;replace E:=E.below f E.lt;replace B:=yO _ _ _ _ B f;replace C:=(C.below f).more f.size;replace d:=d.trans (f.mono d.size);refine⟨_,rfl,λ_=>r _ d,?_⟩;clear f aC;simp only[Z8];refine zb.n 1 ?_;obtain⟨aX,aA,L,F,Z⟩:=kp (W:=bR) (g:=g0) (n:=8) (c:=8) E;have G:qq aX aX.heap.size (some ⟨g0,0,none⟩) 8 yt:=qq.cells (E.inB _ E.lt (by decide)) L F;replace B:=B.cells F;replace C:=C.cells L F;replace S:=S.cells L F;replace d:=d.trans (Z.toBelow d.size (λk e=>by rw[e];exact aE));refine zb.opV (w':=aX) (.slice (some ⟨g0,0,none⟩) 8 8) rfl rfl (aA _ _ rfl rfl) ⟨λ_=>r _ d,?_⟩;clear aA L F Z E aE;simp only[Z8];obtain⟨W47,q⟩:∃W,W=aX.alloc (.cells #[.slice (some ⟨g0,0,none⟩) 8 8,.slice aO (qy [H,I]).length aP,.slice aI (qy ro).length aL] 129):=⟨_,rfl⟩;obtain⟨N,O⟩:∃g,g=aX.heap.size:=⟨_,rfl⟩;have X:xN [yt,qy [H,I],qy ro] (.slice (some ⟨N,0,none⟩) 3 3) W47:=by rw[q,O];exact xq G C S
     replace d:ph M.heap.size M W47:=by rw[q];exact d.alloc d.size _
     refine zb.n 11 (zb.opV (w':=W47) (.slice (some ⟨N,0,none⟩) 3 3) rfl rfl (by rw[q,O];exact jR rfl rfl rfl rfl) ⟨λ_=>r _ d,?_⟩);simp only[Z8];refine zb.n 12 ?_;refine zb.oC 113 #[.tmp 14] #[142] #[.slice (some ⟨N,0,none⟩) 3 3] ((aG _ _ X).mono ?_) (zb.eo func113);rintro e bS ⟨aS,rfl,aD,f⟩;obtain⟨U,V,rfl,aB⟩:=aD.inB;replace d:=d.trans (f.mono d.size);refine⟨_,rfl,λ_=>r _ d,?_⟩;simp only[Z8];refine zb.n 13 (zb.opV (w':=bS) (.slice U (Xm H I ro).length V) rfl rfl (by go_simp) ⟨λ_=>r _ d,zb.dn ?_⟩);simp only[Z8];have aK:=pk (T.trans (d.mono T.size));have aJ:=pk aB;rw[aF];clear r aH aG d G B C S X q O aD f aB T aF;go_wp2;go_ret;exact⟨U,V,rfl,aJ.out,aK.out⟩
   ·skip
    refine zb.oC 114 #[.tmp 12] #[67] #[.slice (some ⟨w.heap.size,3,none⟩) 16 16] ((aH _ d).mono ?_) (zb.eo func114);rintro e a2 ⟨aR,rfl,aC,f⟩;obtain⟨aI,aL,rfl,S⟩:=aC.inB;replace B:=yO _ _ _ _ B f;replace C:=(C.below f).more f.size;replace d:=d.trans (f.mono d.size);refine⟨_,rfl,λ_=>r _ d,?_⟩;clear f aC;simp only[Z8];refine zb.n 0 ?_;obtain⟨W50,q⟩:∃W,W=a2.alloc (.cells (yt.map b8).toArray 5):=⟨_,rfl⟩;obtain⟨g0,aM⟩:∃g,g=a2.heap.size:=⟨_,rfl⟩;have f:ph a2.heap.size a2 W50:=by rw[q];exact(pf _ _).alloc (zG _) _
    have E:za W50 g0 5 (yt.map b8).toArray:=by rw[q,aM];exact za.new _ _ _
    have aE:M.heap.size<=g0:=by rw[aM];exact d.size
    replace B:=yO _ _ _ _ B f;replace C:=(C.below f).more f.size;replace S:=(S.below f).more f.size;replace d:=d.trans (f.mono d.size);refine zb.opV (w':=W50) (.slice (some ⟨g0,0,none⟩) 8 8) rfl rfl (by rw[q,aM];exact Uf rfl (λ_=>rfl)) ⟨λ_=>r _ d,?_⟩;clear q aM f;simp only[zD,zB,pj,zA,zF,zE];refine zb.n 1 ?_;obtain⟨aY,aA,L,F,Z⟩:=kp (W:=W50) (g:=g0) (n:=8) (c:=8) E;have G:qq aY aY.heap.size (some ⟨g0,0,none⟩) 8 yt:=qq.cells (E.inB _ E.lt (by decide)) L F;replace B:=B.cells F;replace C:=C.cells L F;replace S:=S.cells L F;replace d:=d.trans (Z.toBelow d.size (λk e=>by rw[e];exact aE));refine zb.opV (w':=aY) (.slice (some ⟨g0,0,none⟩) 8 8) rfl rfl (aA _ _ rfl rfl) ⟨λ_=>r _ d,?_⟩;clear aA L F Z E aE;simp only[Z8];obtain⟨W52,q⟩:∃W,W=aY.alloc (.cells #[.slice (some ⟨g0,0,none⟩) 8 8,.slice aO (qy [H,I]).length aP,.slice aI (qy ro).length aL] 129):=⟨_,rfl⟩;obtain⟨N,O⟩:∃g,g=aY.heap.size:=⟨_,rfl⟩;have X:xN [yt,qy [H,I],qy ro] (.slice (some ⟨N,0,none⟩) 3 3) W52:=by rw[q,O];exact xq G C S
    replace d:ph M.heap.size M W52:=by rw[q];exact d.alloc d.size _
    refine zb.n 11 (zb.opV (w':=W52) (.slice (some ⟨N,0,none⟩) 3 3) rfl rfl (by rw[q,O];exact jR rfl rfl rfl rfl) ⟨λ_=>r _ d,?_⟩);simp only[Z8];refine zb.n 12 ?_;refine zb.oC 113 #[.tmp 14] #[142] #[.slice (some ⟨N,0,none⟩) 3 3] ((aG _ _ X).mono ?_) (zb.eo func113);rintro e bT ⟨aS,rfl,aD,f⟩;obtain⟨U,V,rfl,aB⟩:=aD.inB;replace d:=d.trans (f.mono d.size);refine⟨_,rfl,λ_=>r _ d,?_⟩;simp only[Z8];refine zb.n 13 (zb.opV (w':=bT) (.slice U (Xm H I ro).length V) rfl rfl (by go_simp) ⟨λ_=>r _ d,zb.dn ?_⟩);simp only[Z8];have aK:=pk (T.trans (d.mono T.size));have aJ:=pk aB;rw[aF];clear r aH aG d G B C S X q O aD f aB T aF;go_wp2;go_ret;exact⟨U,V,rfl,aJ.out,aK.out⟩
theorem YP {w:World}{ops:Array oM}{rest:List oM}{o:oM}{a:Act}{Q:Exit->Act->World->Prop}(d:o.guard=none)(T:oD)(x y:py)(e:o.op=.store T x y){t:oD}{cs cs':Y7}(f:a.eval x=.pointer (some ⟨w.heap.size,0,none⟩))(g:a.eval y=.agg cs'){n:Nat}(c:yx Y3 T n)(hn:cs.size=n)(hs:cs'.size=cs.size)(h1:∀v∈cs'.toList,v.oneCell'=true)
  (h:∀w',ph w.heap.size w w'->za w' w.heap.size t cs'->wpList Y3 ops Q rest (a.put o.dst undef) w'):wpList Y3 ops Q (o::rest) a (w.alloc (.cells cs t)) :=
 zt d T x y e w.heap.size f g c (za.new w t cs) hn hs h1 (h _ (zf ((pf _ w).alloc (zG _) _) (zG _) _) ((za.new w t cs).setRow cs'))
theorem YM.Ok.zero:(⟨0,0,0,λ_=>none⟩:YM).Ok 0:=⟨⟨dy _,dy _⟩,⟨dy _,dy _⟩,⟨dy _,dy _⟩⟩
section
variable {P:Nat}{fr pg rm1 rm2:Int}{G1 G2:Nat->Y4}{S1 S2:Zz}{c1 c2 c1' c2':YM}{i j:Nat}
end
theorem KN (w:World)(P:Y5)(n c:Int):pr Y3 92 #[.pointer P,.int .i64 n,.int .i64 c] w λe w'=>∃f,e=Y0 (.agg #[f,.int .i64 4])/\f.oneCell'=true/\ph w.heap.size w w'/\∀p size,P=some ⟨p,0,none⟩->w.cell? ⟨p,0,none⟩=some (.int .i64 size)->yl w' ⟨f,4,decide (n<c∨size<=n)⟩:=by
 obtain⟨W0,d⟩:=Z9 (((w.alloc (.cells #[.pointer P] 45)).alloc (.cells #[.int .i64 n] 3)).alloc (.cells #[.int .i64 c] 3));have g:ph w.heap.size w W0:=by rw[d];exact(((pf _ w).alloc (zG _) _).alloc (by simp) _).alloc (by simp;omega) _
 have E:W0.heap.size=w.heap.size+1+1+1:=by rw[d];simp
 have h:za W0 w.heap.size 45 #[.pointer P]:=by rw[d];exact((za.new w _ _).alloc _).alloc _
 have q:za W0 (w.heap.size+1) 3 #[.int .i64 n]:=by have:=(za.new (w.alloc (.cells #[.pointer P] 45)) 3 #[.int .i64 n]).alloc (.cells #[.int .i64 c] 3);rw[pq] at this;rw[d];exact this
 have r:za W0 (w.heap.size+1+1) 3 #[.int .i64 c]:=by have:=za.new ((w.alloc (.cells #[.pointer P] 45)).alloc (.cells #[.int .i64 n] 3)) 3 #[.int .i64 c];rw[pq,pq] at this;rw[d];exact this
 obtain⟨f,hf⟩:∃f:Value,f=.func (.func 154) #[] #[.pointer (some ⟨w.heap.size+1,0,none⟩),.pointer (some ⟨w.heap.size+1+1,0,none⟩),.pointer (some ⟨w.heap.size,0,none⟩)]:=⟨_,rfl⟩;have C:f.oneCell'=true:=by rw[hf];rfl
 have u:∀W,ph W0.heap.size W0 W->∀p size,P=some ⟨p,0,none⟩->w.cell? ⟨p,0,none⟩=some (.int .i64 size)->yl W ⟨f,4,decide (n<c∨size<=n)⟩:=λW L p size e hc=>by subst e;rw[hf];exact yl.later (FK 4 (Tr (p:=p) ((q.cell 0).trans rfl) ((r.cell 0).trans rfl) ((h.cell 0).trans rfl) ((g.cell (p:=⟨p,0,none⟩) (Qb hc)).trans hc) q.lt r.lt h.lt (zO (Qb hc) g.size))) L
 have F:=pk u;have H:Hid (((w.alloc (.cells #[.pointer P] 45)).alloc (.cells #[.int .i64 n] 3)).alloc (.cells #[.int .i64 c] 3)=W0):=pk d.symm;have G:=pk hf;have s:=pk E;clear u h q r d E hf
 go_enter func92,ntmps92
 go_wp2_with (rw[H.out];refine YP rfl 156 (.tmp 6) (.tmp 8) (w:=W0) rfl (cs':=#[f,.int .i64 4]) (by rw[s.out];rfl) (by rw[G.out];rfl) QY rfl rfl (by simp[C];rfl) ?_;intro w4 B b4)
 have I:ph w.heap.size w w4:=g.trans (B.mono g.size);rw[s.out] at b4;refine oQ (yM 6 rfl rfl QY b4 rfl) rfl ⟨f,rfl,C,I,F.out _ B⟩
theorem DX (w:World)(P:Y5)(n:Int):pr Y3 127 #[.pointer P,.int .i64 n] w λe w'=>∃f,e=Y0 (.agg #[f,.int .i64 2])/\f.oneCell'=true/\ph w.heap.size w w'/\∀p A len c,P=some ⟨p,0,none⟩->w.cell? ⟨p,40,none⟩=some (.slice A len c)->yl w' ⟨f,2,decide (n<0∨(len:Int)<=n)⟩:=by
 obtain⟨W0,d⟩:=Z9 ((w.alloc (.cells #[.pointer P] 45)).alloc (.cells #[.int .i64 n] 3));have g:ph w.heap.size w W0:=by rw[d];exact((pf _ w).alloc (zG _) _).alloc (by simp) _
 have C:W0.heap.size=w.heap.size+1+1:=by rw[d];simp
 have h:za W0 w.heap.size 45 #[.pointer P]:=by rw[d];exact(za.new w _ _).alloc _
 have q:za W0 (w.heap.size+1) 3 #[.int .i64 n]:=by have:=za.new (w.alloc (.cells #[.pointer P] 45)) 3 #[.int .i64 n];rw[pq] at this;rw[d];exact this
 obtain⟨f,hf⟩:∃f:Value,f=.func (.func 201) #[] #[.pointer (some ⟨w.heap.size+1,0,none⟩),.pointer (some ⟨w.heap.size,0,none⟩)]:=⟨_,rfl⟩;have B:f.oneCell'=true:=by rw[hf];rfl
 have s:∀W,ph W0.heap.size W0 W->∀p A len c,P=some ⟨p,0,none⟩->w.cell? ⟨p,40,none⟩=some (.slice A len c)->yl W ⟨f,2,decide (n<0∨(len:Int)<=n)⟩:=λW I p A len c e hc=>by subst e;rw[hf];exact yl.later (yl.two 2 (NZ (p:=p) ((q.cell 0).trans rfl) ((h.cell 0).trans rfl) ((g.cell (p:=⟨p,40,none⟩) (Qb hc)).trans hc) q.lt h.lt (zO (Qb hc) g.size))) I
 have E:=pk s;have G:Hid ((w.alloc (.cells #[.pointer P] 45)).alloc (.cells #[.int .i64 n] 3)=W0):=pk d.symm;have F:=pk hf;have r:=pk C;clear s h q d C hf
 go_enter func127,ntmps127
 go_wp2_with (rw[G.out];refine YP rfl 156 (.tmp 4) (.tmp 6) (w:=W0) rfl (cs':=#[f,.int .i64 2]) (by rw[r.out];rfl) (by rw[F.out];rfl) QY rfl rfl (by simp[B];rfl) ?_;intro w4 u b4)
 have H:ph w.heap.size w w4:=g.trans (u.mono g.size);rw[r.out] at b4;refine oQ (yM 4 rfl rfl QY b4 rfl) rfl ⟨f,rfl,B,H,E.out _ u⟩
section
variable {W0 W:World}{K:xH}{p:Nat}{v:yz}{st last:qm}{under:Bool}{mk:Value}
theorem qv.asked (h:qv W0 K p v st last under mk W)(u:Bool)(A:Y5)(c:Nat)(xs:List Xv)(d:yp W W.heap.size 2 A xs.length c (yd xs))(hl:xs.length<=900)(ha:∀x∈xs,yl W x):pr Y3 72 #[.pointer (some ⟨p,0,none⟩),.bool u,.slice A xs.length c] W λe w'=>e=Y0 (.int .i64 (if under != u then 191 else Kl xs))/\ph W.heap.size W w' :=
 (RN W (some ⟨p,0,none⟩) false under u (wG h.rY h.pb.lt) (λ_=>⟨p,rfl,h.rX,h.pb.lt⟩) A c xs d hl (λ_=>ha)).mono λe w' h=>⟨by rw[h.1];rfl,h.2⟩
theorem BA (W:World)(n sz:Nat):yp W n sz none 0 0 []:=⟨zG _,by decide,λ_=>rfl,by simp,λv c=>absurd c (by simp),λh=>absurd h (by simp)⟩
theorem qv.rf (h:qv W0 K p v st last under mk W)(u:Bool):pr Y3 72 #[.pointer (some ⟨p,0,none⟩),.bool u,.slice none 0 0] W λe w'=>e=Y0 (.int .i64 (if under != u then 191 else 0))/\ph W.heap.size W w' :=
 h.asked u none 0 [] (BA _ _ _) (by simp) (λx c=>absurd c (by simp))
theorem RM (h:qv W0 K p v st last false mk W):pr Y3 39 #[.pointer (some ⟨p,0,none⟩)] W λe w'=>e=Y0 (.int .i64 0)/\qv W0 K p v st last true mk w'/\ze (λk=>k=p) W w':=by
 have d:=h.rf false
 go_enter func39,ntmps39
 go_wp2_with (go_at_call 72;refine d.mono ?_;rintro e r ⟨rfl,c⟩;have h1:=h.grow c;have g:=h1.rX;have q:=h1.pb.free 39)
 go_ret;obtain⟨h2,f⟩:=h1.sE (under':=true);exact⟨rfl,h2,(ze.below c).trans f⟩
theorem Sc (h:qv W0 K p v st last under mk W):pr Y3 40 #[.pointer (some ⟨p,0,none⟩)] W λe w'=>e=Y0 (.int .i64 st.size)/\W=w':=by
 have c:=QD h.rY;have c0:=h.sv
 go_enter func40,ntmps40
 go_wp2_with (go_at_call 73;refine c.mono ?_;rintro e d ⟨rfl,rfl⟩)
 go_ret;exact⟨rfl,rfl⟩
end
theorem VJ (W:World)(xs:List Xv)(h1:∀v∈yd xs,v.oneCell'=true)(T:oD)(hn:xs.length<=1000):yp (W.alloc (.cells (yd xs).toArray T)) (W.alloc (.cells (yd xs).toArray T)).heap.size 2 (some ⟨W.heap.size,0,none⟩) xs.length xs.length (yd xs) :=
 ⟨zG _,by omega,(λe=>by cases e),Da xs,h1,λ_=>⟨W.heap.size,0,rfl,by simp,λj v c=>by
  rw[qC,(za.new W T (yd xs).toArray).cell]
  simpa using c⟩⟩
theorem qa.mono {K:xH}{W W':World}{v v':yz}(h:qa K W' v v')(hs:W.heap.size<=W'.heap.size):qa K W v v':=λk c=>(h k c).elim .inl (λe => .inr (by omega))
structure ta (K:xH)(v v':yz)(n:Int)(y:Y4)(x:Int):Prop where
 nn:v'.N=v.N+1
 ii:v'.i=v.i
 yy:v'.Y K=v.Y K
 sz:v'.S.sz=v.S.sz
 dd:(x=0/\v'.D=λj=>if j=n then some y else v.D j)∨(x=160/\DD K.P K.room v.c.V/\v'.D=v.D)
section
variable {W0 W:World}{K:xH}{p:Nat}{v:yz}{st last:qm}{mk:Value}
theorem Yh (h:qv W0 K p v st last true mk W)(hK:K.Ok)(hN:v.N<=800000)(n:Int)(hn:1<=n/\n<st.size)(hP:n<(K.P:Int))(A:Y5)(c:Nat)(y:Y4)(hy:y.length=512)(aN:qq W W.heap.size A c y):pr Y3 83 #[.pointer (some ⟨p,0,none⟩),.int .i64 n,.slice A 512 c] W λe w'=>∃x v',e=Y0 (.int .i64 x)/\qv W0 K p v' st last true mk w'/\ta K v v' n y x/\qa K W v v'/\ze (K.mu v) W w':=by
 obtain⟨W1,aB,r,I⟩:=YK W 129 #[.slice A 512 c];have hd:decide (n<1∨st.size<=n)=false:=decide_eq_false (by omega);have aH:=pk aB.symm;clear aB
 go_enter func83,ntmps83
 go_wp2_with (go_at_call 92;rw[aH.out];refine(KN W1 (some ⟨p,0,none⟩) n 1).mono ?_;rintro e F ⟨f,rfl,aM,B,aA⟩)
 have h2:=(h.grow r).grow B;have L:=I.below B I.lt;obtain⟨xs,g⟩:∃xs:List Xv,xs=[⟨.func (.func 135) #[] #[.pointer (some ⟨W.heap.size,0,none⟩)],2,false⟩,⟨f,4,false⟩]:=⟨_,rfl⟩;have aF:∀v∈yd xs,v.oneCell'=true:=λv X=>by
  rw[g] at X;simp only[yd,JK,zJ,zN,qZ,nj,zX,zQ,qM,dG,or_false] at X;rcases X with rfl|rfl|rfl|rfl
  ·rfl
  ·rfl
  ·exact aM
  ·rfl
 obtain⟨H,V,s,-⟩:=YK F 156 #[.func (.func 135) #[] #[.pointer (some ⟨W.heap.size,0,none⟩)],.int .i64 2,f,.int .i64 4];have aC:yp H H.heap.size 2 (some ⟨F.heap.size,0,none⟩) xs.length xs.length (yd xs):=by have:=VJ F xs aF 156 (by rw[g];simp);rw[V];subst g;exact this
 have M:=h2.grow s;have b3:=L.below s L.lt;have ha:∀x∈xs,yl H x:=λx Z=>by
  rw[g] at Z;simp only[qM,dG,or_false] at Z;rcases Z with rfl|rfl
  ·refine yl.one 2 ⟨zb.eo func135,λW4 aL => ?_⟩;refine(SV (bb:=W.heap.size) (len:=512) (c:=c) (A:=A) ((b3.below aL b3.lt).boxed)).mono ?_;rintro e w' ⟨rfl,rfl⟩;exact⟨rfl,pf _ _⟩
  ·have:=aA p st.size rfl (h.grow r).sv;rw[hd] at this;exact yl.later this s
 have G:=M.asked true (some ⟨F.heap.size,0,none⟩) xs.length xs aC (by rw[g];simp) ha;have hE:(if (true != true)=true then 191 else Kl xs)=0:=by rw[g];rfl
 have aG:xs.length=2:=by rw[g];rfl
 rw[hE,aG] at G;rw[<-V];refine G.mono ?_;rintro e w4 ⟨rfl,T⟩;have O:=M.grow T;have b4:=b3.below T b3.lt;have C:ph W.heap.size W w4:=((r.trans (B.mono r.size)).trans (s.mono (by have:=r.size;have:=B.size;omega))).trans (T.mono (by have:=r.size;have:=B.size;have:=s.size;omega));have d:w4.drew.cell? ⟨p,19,none⟩=some (.pointer (some ⟨K.a,0,none⟩))/\w4.drew.cell? ⟨W.heap.size,0,none⟩=some (.slice A 512 c):=⟨O.rY,b4.boxed⟩;have aI:=b4.lt;have aD:=((aN.below C).more C.size).drew;have S:qv W0 K p v st last true mk w4.drew:=O.grow (pf _ _).drew;clear ha aC G hE aG aA aF h2 M L b3 s V g O I b4
 go_wp2_with fail
 refine zb.st (λW':World=>W'.cell? ⟨p,19,none⟩=some (.pointer (some ⟨K.a,0,none⟩))/\W'.cell? ⟨W.heap.size,0,none⟩=some (.slice A 512 c)) 9 ?_;refine zb.q0 0 (.pointer (some ⟨p,0,none⟩)) d ?_;refine zb.q0 1 (.pointer (some ⟨p,0,none⟩)) d ?_;refine zb.q0 2 (.pointer (some ⟨p,19,none⟩)) d ?_;refine zb.q0 3 (.pointer (some ⟨K.a,0,none⟩)) d ?_;refine zb.q0 4 (.int .i64 n) d ?_;refine zb.q0 5 (.slice A 512 c) d ?_;simp only[Z8];refine zb.n 6 ?_;refine zb.oC 65 #[.tmp 22,.tmp 23,.tmp 24] #[120,3,129] #[.pointer (some ⟨K.a,0,none⟩),.int .i64 n,.slice A 512 c] ((Rb S.ca hK hN n A c y hy aD).mono ?_) (zb.eo func65);rintro e w5 ⟨x,v',rfl,aJ,q,e2,e3,e4,hq,aE,E⟩;have h5:=S.rH E aJ;have hG:ze (K.mu v) W w5:=(ze.below (C.trans ((pf _ _).drew.mono C.size))).trans E
 have hF:ta K v v' n y x:=⟨q,e2,e3,e4,hq.elim (λh => .inl ⟨h.1,h.2.2⟩) (λh => .inr (by
  rcases h.1 with h1|h1
  ·omega
  ·exact⟨h1.1,h1.2,h.2⟩))⟩
 have aK:qa K W v v':=aE.mono C.size;have U:w5.cell? ⟨p,19,none⟩=some (.pointer (some ⟨K.a,0,none⟩))/\w5.cell? ⟨W.heap.size,0,none⟩=some (.slice A 512 c):=⟨h5.rY,E.cell d.2 (by show W.heap.size<w4.heap.size;exact aI) (λhm=>by have:=h.ca.rZ _ hm;simp at this)⟩;refine⟨_,rfl,λ_=>U,?_⟩;simp only[Z8];refine zb.n 7 (zb.opV (w':=w5) (.int .i64 x) rfl rfl (by go_simp) ⟨λ_=>U,zb.dn ?_⟩);simp only[Z8];clear U d aD S hq E aE;go_wp2;go_ret;exact⟨x,v',rfl,h5,hF,aK,hG⟩
end
def kM (f:Int):Y4:=KO (qy [f])
theorem KT (f:Int):(kM f).length=512:=vH (by have:=kK [f];simp at this;omega)
theorem LR {f:Int}(h:0<=f/\f<4294967296):((xI ((kM f).take 4):Nat):Int)=f:=by
 have e:(kM f).take 4=Gj f:=by
  unfold kM KO;have d:(Gj f).length=4:=ya _ _;have c:qy [f]=Gj f:=by simp[qy]
  rw[c,List.take_append_of_le_length (by omega),qB (by omega)]
 rw[e];exact Eo h
theorem Il (W:World)(a:Int):kS [a] (.slice (some ⟨W.heap.size,0,none⟩) 1 1) (W.alloc (.cells #[.int .i64 a] 3)):=⟨W.heap.size,rfl,λj c=>by
 rw[(za.new W 3 #[.int .i64 a]).cell]
 match j,c with
 | 0,_=>rfl
 | j+1,c=>exact absurd c (by simp)⟩
section
variable {W0 W:World}{K:xH}{p:Nat}{v v':yz}{st last:qm}{under:Bool}{mk:Value}
theorem Jo {W':World}(h:ze (K.mu v) W W'):ze (qp K p v) W W':=h.more λ_ c _ => .inr c
theorem MO {W':World}(h:ze (λk=>k=p) W W'):ze (qp K p v) W W':=h.more λ_ c _ => .inl c
theorem Sl (h:qv W0 K p v st last true mk W)(hK:K.Ok)(hN:v.N<=800000)(n:Int)(hn:1<=n/\n<st.size)(hP:n<(K.P:Int))(hm:0<=st.many/\st.many<=1000):pr Y3 144 #[.pointer (some ⟨p,0,none⟩),.int .i64 n] W λe w'=>∃x v',e=Y0 (.int .i64 x)/\qv W0 K p v' (if x=0 then {st with first:=n,many:=st.many+1} else st) last true mk w'/\ta K v v' n (kM st.first) x/\qa K W v v'/\ze (qp K p v) W w':=by
 have C:=QD h.rY;have c1:=h.pI;have U:(qy [st.first]).length<=512:=by have:=kK [st.first];simp at this;omega
 have hW:IntKind.i64.wrap (st.many+1)=st.many+1:=zg _
 go_enter func144,ntmps144
 go_wp2_with (first
  | (go_at_call 73;refine C.mono ?_;rintro e w1 ⟨rfl,rfl⟩)
  | (go_at_call 114;refine(vy (Il W st.first) (by simp)).mono ?_;rintro e w2 ⟨v2,rfl,own2,G⟩;obtain⟨B,c2,rfl,q⟩:=own2.inB)
  | (revert q;intro q;go_at_call 113;refine(Vw (ls:=[qy [st.first]]) (xN.new (w:=w2) [((B,c2),qy [st.first])] (by intro x d;simp only[qM,dG,or_false] at d;subst d;exact q)) (by simp) (by simpa using U)).mono ?_;rintro e w3 ⟨v3,rfl,X,H⟩;obtain⟨Z,c3,rfl,T⟩:=X.inB))
 have r:ph W.heap.size W (W.alloc (.cells #[.int .i64 st.first] 3)):=(pf _ W).alloc (zG _) _;have s:ph W.heap.size W w2:=r.trans (G.mono r.size);have g:ph W.heap.size W w3:=s.trans (((pf _ w2).alloc (zG _) (.cells #[.slice B (qy [st.first]).length c2] 129)).trans (H.mono (by simp)) |>.mono s.size);have E:=h.grow g;have V:(KO (qy [st.first])).length=512:=KT st.first;rw[V];refine(Yh E hK hN n hn hP Z c3 (kM st.first) (KT _) (by simpa[kM] using T)).mono ?_;rintro e w4 ⟨x,v',rfl,c,hF,O,I⟩;have S:=O.mono g.size;have u:ze (qp K p v) W w4:=(ze.below g).trans (Jo I);clear T q own2 X G H r s g E V C c1 h I O U
 by_cases d:x=0
 ·subst d;have c2':=c.mac;have c1':=c.pI;have f1:=c.pb.free 1;obtain⟨f,L⟩:=c.sG n;have aA:=f.mac;have f2:=f.pb.free 2;obtain⟨F,M⟩:=f.setMany (st.many+1);have H6:=pk F;have HG:=pk (u.trans ((MO L).trans (MO M)));clear c f F L M u;go_wp2;go_ret;exact⟨0,v',rfl,(by rw[if_pos rfl];exact H6.out),hF,S,HG.out⟩
 ·clear hm hW hn;go_wp2;go_ret;exact⟨x,v',rfl,(by rw[if_neg d];exact c),hF,S,u⟩
end
section
variable {w:World}{o:oM}{ρ:py->Value}{x y:py}
theorem MP (l:List (Value×Nat)):∀a:Y7,(l.foldl (λcs x=>cs.setIfInBounds x.snd x.fst) a).size=a.size:=by
 induction l with
 | nil=>intro a;rfl
 | cons b l ih=>intro a;rw[List.foldl_cons,ih];simp
theorem uX (c:Y8)(m:Value)(arr:Y7)(hs:arr.size=c.length+1):(c.zipIdx.foldl (λcs x=>cs.setIfInBounds x.snd x.fst) arr).setIfInBounds c.length m=(c++[m]).toArray:=by
 apply Array.ext_getElem?;intro j;have h:=Kc 0 c 0 arr;simp only[qC] at h;have e:(c++[m]).toArray[j]?=(c++[m])[j]?:=by simp
 rw[e,zS,MP]
 by_cases d:c.length=j
 ·subst d;rw[if_pos rfl,if_pos (by omega),qU (zG _)];simp
 ·rw[if_neg d,h j]
  by_cases h2:j<c.length
  ·rw[if_pos (by omega),List.getElem?_append_left h2];rfl
  ·rw[if_neg (by omega),Array.getElem?_eq_none (by omega),List.getElem?_eq_none (by simp;omega)]
theorem EO (s:qm)(hs:s.roots.length=16)(M:Nat)(D:Int->Option Y4)(c:o.op=.build 214 #[(0,x),(1,y)])(h1:ρ x=.agg (xR s).toArray)(h2:ρ y=.map (some M)):(oB ρ o).run Y3 w=.ok (.value (.agg (Xq ⟨s,M,D⟩).toArray)) w:=by
 have hl:=zp hs;have key:=uX (xR s) (.map (some M)) #[.int .i64 0,.int .i64 0,.int .i64 0,.int .i64 0,.int .i64 0,.int .i64 0,.int .i64 0,.int .i64 0,.int .i64 0,.int .i64 0,.int .i64 0,.int .i64 0,.int .i64 0,.int .i64 0,.int .i64 0,.int .i64 0,.int .i64 0,.int .i64 0,.int .i64 0,.map none] (by rw[hl];rfl);rw[hl] at key;simp[oB,c,h1,h2,go_sem,Xq,pv,hl,key,MP]
theorem EK (m:vK)(d:m.s.roots.length=16)(e:o.op=.buildSlice 126 1 #[(0,x)])(h1:ρ x=.agg (Xq m).toArray):(oB ρ o).run Y3 w=.ok (.value (.slice (some ⟨w.heap.size,0,none⟩) 1 1)) (w.alloc (.cells (Xq m).toArray 214)):=by
 have c:=Qz d;have key:=λarr hs=>BF (Xq m) arr hs
 rw[c] at key;simp[oB,e,h1,go_sem,pv,c,key]
end
section
variable {w:World}{ops:Array oM}{i:Nat}{o:oM}{a:Act}{Q:Exit->Act->World->Prop}{K:Act->World->Prop}
theorem uS (e:ops[i]?=some o)(d:o.guard=none){S:oD}(s x:py)(hc:o.op=.call {callee:=.builtin .append,args:=#[s,x],argTypes:=#[S,S]})
  (v c v':Value) (w':World) (hs:a.eval s=v) (g:a.eval x=c) (f:(Builtin.append_ #[S,S] o.type #[v,c]).run Y3 w=.ok v' w') (h:K (a.put o.dst v') w'):wpOp Y3 ops Q i K a w:=by
 refine zb.opV v' e d (w':=w') ?_ h;unfold oB;simp only[hc,resolve,invoke,builtin,Sem.run_bind,Sem.run_pure,Result.andThen_ok,zI,zJ,zN,hs,g,f]
end
section
variable {W0 W W':World}{K:xH}{p:Nat}{v v':yz}{st last:qm}{under:Bool}{mk:Value}{ms:List vK}
theorem ve.pM (h:ve W0 K v W):∀k y,v.D k=some y->0<=k/\k<(K.P:Int):=λk y c=>by
 have h1:=jq.1 c;have:=(h.ro k y true h1).1;exact this
theorem ve.pU (h:ve W0 K v W):tT K v.D:=⟨h.pM,by
 have h1:tO K.P v.D<=Xt K.P v.c.V:=Qj (List.nodup_range.filter _) (λk d=>by
  rw[yB,List.mem_range] at d;rw[ka];refine⟨d.1,?_⟩;obtain⟨y,f⟩:=Option.isSome_iff_exists.1 d.2;have h2:=jq.1 f;cases e:v.c.V (k:Int) with
  | none=>rw[show v.R (k:Int)=none from Pk e] at h2;cases h2
  | some x=>rfl)
 have:=h.cn
 omega⟩
theorem Sd (h:qv W0 K p v st last true mk W)(hK:K.Ok)(hM:vc W0 K v ms mk W)(hn:ms.length<=900):pr Y3 74 #[.pointer (some ⟨p,0,none⟩)] W λe w'=>∃M mk',e=Y0 (.tuple #[.int .i64 (ms.length:Int),.int .i64 0])/\qv W0 K p v st last true mk' w'/\vc W0 K v (ms++[⟨st,M,v.D⟩]) mk' w'/\ze (λk=>k=p∨UX mk k) W w':=by
 have HA:=h.rf true;have aP:=zp h.hs;have aR:=h.ca.cs.fh.up.size;have aM:=h.ca.rZ;have aL:=h.ca.pU
 go_enter func74,ntmps74
 go_wp2_with (go_at_call 72;refine HA.mono ?_;rintro e w1 ⟨rfl,aC⟩)
 obtain⟨w1d,aO⟩:∃x,x=w1.drew:=⟨_,rfl⟩;have u:ph W.heap.size W w1d:=by rw[aO];exact aC.trans ((pf _ _).drew.mono aC.size)
 have h1:=h.grow u;have aE:=hM.grow u;have f:w1d.rangeAt p 0 (xR st)/\w1d.cell? ⟨p,40,none⟩=some mk:=⟨h1.rM,h1.pE⟩;have HD:=callsIn_wide.1 (IM 10 (zG _) h1 hK);refine zb.st (λW':World=>W'.rangeAt p 0 (xR st)/\W'.cell? ⟨p,40,none⟩=some mk) 16 ?_;rw[<-aO];refine zb.q 0 (.pointer (some ⟨p,0,none⟩)) f ?_;refine zb.q 1 (.pointer (some ⟨p,0,none⟩)) f ?_;refine zb.q 2 (.pointer (some ⟨p,0,none⟩)) f ?_;refine zb.q 3 (.pointer (some ⟨p,40,none⟩)) f ?_;refine zb.q 4 (mk) f ?_;refine zb.q 5 (.pointer (some ⟨p,0,none⟩)) f ?_;refine zb.q 6 (.pointer (some ⟨p,0,none⟩)) f ?_;refine zb.q 7 (.pointer (some ⟨p,0,none⟩)) f ?_;simp only[Z8];refine zb.t 8 (.agg (xR st).toArray) rfl f (λW ⟨c,d⟩=>by exact yX kq c aP rfl rfl) ?_;refine zb.q 9 (.pointer (some ⟨p,0,none⟩)) f ?_;simp only[Z8];refine zb.n 10 ?_;refine zb.oC 126 #[.tmp 19] #[45] #[.pointer (some ⟨p,0,none⟩)] (HD.mono ?_) (zb.eo func126);rintro e g ⟨M,rfl,aH,aQ,E⟩;have h2:=h1.grow E;have aF:=aE.grow E;have X:g.rangeAt p 0 (xR st)/\g.cell? ⟨p,40,none⟩=some mk:=⟨h2.rM,h2.pE⟩;refine⟨_,rfl,λ_=>X,?_⟩;simp only[Z8];refine zb.n 11 (zb.opV (w':=g) _ rfl rfl (EO st h.hs M v.D rfl rfl rfl) ⟨λ_=>X,?_⟩);simp only[Z8];obtain⟨w3,aA⟩:∃x,x=g.alloc (.cells (Xq ⟨st,M,v.D⟩).toArray 214):=⟨_,rfl⟩;have F:ph g.heap.size g w3:=by rw[aA];exact(pf _ _).alloc (zG _) _
 have H:=h2.grow F;have B:=aF.grow F;have aI:=aH.grow F;have aK:za w3 g.heap.size 214 (Xq ⟨st,M,v.D⟩).toArray:=by rw[aA];exact za.new _ _ _
 have aJ:w3.rangeAt p 0 (xR st)/\w3.cell? ⟨p,40,none⟩=some mk:=⟨H.rM,H.pE⟩;refine zb.n 12 (zb.opV (w':=w3) _ rfl rfl (by rw[aA];exact EK ⟨st,M,v.D⟩ h.hs rfl rfl) ⟨λ_=>aJ,?_⟩);simp only[Z8];have S:ph W.heap.size W w3:=u.trans ((E.trans (F.mono E.size)).mono u.size);obtain⟨mk',w4,Z,V,G,aN⟩:=B.row.append 126 (by omega) (by have:=S.size;omega) ⟨st,M,v.D⟩ h.hs g.heap.size aK;have I:∀k,UX mk k->kW w3 k:=λk q=>(B.row.blk k q).1
 have s:=H.rG G I (λk q=>(B.row.blk k q).2)
 have U:vc W0 K v (ms++[⟨st,M,v.D⟩]) mk' w4:=⟨V,λx r=>by
  rcases qA.1 r with r|r
  ·exact⟨(B.maps x r).1.rG G I,(B.maps x r).2⟩
  ·rw[qK] at r;subst r
   exact⟨aI.rG G I,λe=>by have h7:M<W.heap.size:=aM _ e;have:=u.size;omega,aL⟩⟩
 have C:w4.rangeAt p 0 (xR st)/\w4.cell? ⟨p,40,none⟩=some mk:=⟨s.rM,s.pE⟩;obtain⟨L,N,rfl,_⟩:=V.has;have aB:(ms++[(⟨st,M,v.D⟩:vK)]).length=ms.length+1:=by simp
 rw[aB] at Z aN U;refine zb.n 13 (uS rfl rfl (.tmp 14) (.tmp 22) rfl mk _ _ w4 rfl rfl Z ⟨λ_=>C,?_⟩);simp only[Z8];have f4:=s.pb.free 40;obtain⟨O,T⟩:=s.re (mk':=.slice L (ms.length+1) N);have aG:=U.own s T;refine zb.n 14 (zb.opV (w':=w4) (.pointer (some ⟨p,0,none⟩)) rfl rfl (by obtain⟨c,d⟩:=C;go_simp) ⟨λ_=>C,?_⟩);simp only[Z8];refine zb.n 15 (zb.opV (w':=w4) (.pointer (some ⟨p,40,none⟩)) rfl rfl (by obtain⟨c,d⟩:=C;go_simp) ⟨λ_=>C,?_⟩);simp only[Z8];refine zb.n 16 (zb.opS (w':=w4.setCell ⟨p,40,none⟩ (.slice L (ms.length+1) N)) rfl rfl (by go_simp) ⟨λh=>absurd rfl h,zb.dn ?_⟩);simp only[zD,zC,zB,pj];have c5:=O.pE;have hW:IntKind.i64.wrap (((ms.length+1:Nat):Int)-1)=(ms.length:Int):=by rw[show ((ms.length+1:Nat):Int)-1=(ms.length:Int) by omega];exact zg _
 have aD:ze (λk=>k=p∨UX mk k) W (w4.setCell ⟨p,40,none⟩ (.slice L (ms.length+1) N)):=(ze.below S).trans ((G.more λk q _ => .inr q).trans (T.more λk q _ => .inl q));have H5:=pk O;have HM:=pk aG;have HG:=pk aD;clear h h1 h2 H s hM aE aF B U V G aN Z I f X aJ C aH aI aK u E F S HD HA aL aM aD aG O T f4 aB;go_wp2
 go_ret2
 exact⟨M,_,rfl,H5.out,HM.out,HG.out⟩
end
end
section
open Go Go.RowKit vA Go.Shelf Go.Sort

end
section
open Go Go.RowKit vA
section
variable {ρ:py->Value}{w:World}{o:oM}{x z m:py}
theorem uF {g n c k:Nat}(h:o.op=.slice 126 x none (some z) (some m))(h1:ρ x=.slice (some ⟨g,0,none⟩) n c)(d:ρ z=.int .i64 (k:Int))(e:ρ m=.int .i64 (k:Int))(hn:k<=c):(oB ρ o).run Y3 w=.ok (.value (.slice (some ⟨g,0,none⟩) k k)) w:=by
 have ht:Y3.underlying 126=some (.slice (Y3.elem 126)):=by kernel_rfl
 have f:(k:Int)<=(c:Int):=by omega
 simp[oB,h,h1,d,e,go_sem,run_sliceAt_slice _ _ _ _ _ _ ht,pv,f]
end
section
variable {W0 W W':World}{K:xH}{p:Nat}{v v':yz}{st last:qm}{under:Bool}{mk:Value}{ms:List vK}
theorem ve.sF (h:ve W0 K v W){k:Nat}{T:oD}{cs:Y7}(e:za W k T cs)(h1:T≠114)(h2:T≠171)(c:T≠185)(d:T≠194):¬ K.mu v k:=λf=>by
 exact yW.rI h.cs.ca e c d f
theorem Xu.elem {B:Nat}(h:Xu B W mk ms)(n:Nat)(hn:n<ms.length):∃g c,mk=.slice (some ⟨g,0,none⟩) ms.length c/\ms.length<=c/\g<W.heap.size/\W.rangeAt g (n*20) (Xq ms[n]):=by
 obtain⟨A,c,e,h1,_,r,u⟩:=h.has;cases A with
 | none=>have:=r rfl;omega
 | some a =>
  obtain⟨g,cur,rfl,_,f,_,_,s⟩:=u a rfl;refine⟨g,c,e,h1,f.lt,λj x d => ?_⟩;have C:=IZ h.sy n hn;have q:=(qQ.1 d).1;rw[Qz (h.sy _ (qI hn))] at q;rw[f.cell,qN];rw[<-C,List.getElem?_take_of_lt q,List.getElem?_drop,<-s] at d;have E:=(qQ.1 d).1;rw[List.getElem?_take_of_lt (by simp at E;omega)] at d;exact d
end
section
variable {W0 W W':World}{K:xH}{p:Nat}{v v' v9:yz}{st last:qm}{mk:Value}{ms:List vK}{D:Int->Option Y4}{A:Y5}{ks:List Nat}{b i:Nat}{cs:Y7}{wr w9:World}
end
section
variable {W0 W W':World}{K:xH}{p:Nat}{v v':yz}{st last st' last':qm}{under under':Bool}{mk mk':Value}{ms:List vK}
theorem qv.sQ (h:qv W0 K p v st last under mk W){k:Nat}{T:oD}{cs:Y7}(d:za W k T cs)(h1:T≠114)(h2:T≠171)(e:T≠185)(f:T≠194)(g:T≠128):¬ qp K p v k:=λc=>by
 rcases c with rfl|c
 ·exact zo d h.pb g rfl
 ·exact h.ca.sF d h1 h2 e f c
theorem vc.sj (h:vc W0 K v ms mk W)(c:qv W0 K p v st last under mk' W)(g:ze (qp K p v) W W')(s:qa K W v v'):vc W0 K v' ms mk W' :=
 ⟨h.row.rE g (λk q=>by
  rintro(e|e)
  ·subst e;exact(h.row.blk k q).1.rI c.pb (by decide)
  ·exact c.ca.pK (h.row.blk k q).1 e),λx u=>by
  obtain⟨h1,h2,r⟩:=h.maps x u;refine⟨h1.rU g c.sms (λe => ?_),λe => ?_,r⟩
  ·rcases e with e|e
   ·obtain⟨es,B,f,d,_⟩:=h1.has;rw[e] at d;exact d.rO c.pb rfl
   ·exact h2 e
  ·rcases s _ e with e|e
   ·exact h2 e
   ·have:=h1.lt
    omega⟩
end
theorem UM {w:World}{a f r P:Nat}{room now hh mm:Int}{V:qo}(h:yW w a f r P room now hh mm V):pr Y3 147 #[.pointer (some ⟨a,0,none⟩)] w λe w'=>e=Y0 (.pointer (some ⟨f,0,none⟩))/\w=w':=by
 have c:=jr h.cb;have c0:w.cell? ⟨a,0,none⟩=some (.pointer (some ⟨f,0,none⟩)):=(h.cb.cell _).trans rfl
 go_enter func147,ntmps147
 go_wp2_with (go_at_call 109;refine c.mono ?_;rintro e w' ⟨rfl,rfl⟩)
 go_ret;exact⟨rfl,rfl⟩
def jK (K:xH)(D:Int->Option Y4):Prop:=∀l:List Nat,(∀p b,D p=some b->p.toNat∈l)->K.room<=(l.length:Int)
theorem ve.tight {W0 W:World}{K:xH}{v:yz}(h:ve W0 K v W)(hn:DD K.P K.room v.c.V):jK K v.D:=λl hl=>hn.pO (λp b e=>hl p b (jq.2 e)) (λk u e=>(h.ro k u.y u.d (vo e)).1.1)
def YO:Y4:=zP 512 0
structure Nb (K:xH)(v v':yz)(st st':qm)(n x:Int):Prop where
 nn:v'.N<=v.N+2
 ii:v'.i=v.i
 yy:v'.Y K=v.Y K
 sz:v'.S.sz=v.S.sz
 dd:(x=0/\st.first=0/\n=st.size/\st.size<K.pg/\st'={st with size:=st.size+1}/\v'.D=λj=>if j=n then some YO else v.D j) ∨
  (x=0/\st.first≠0/\n=st.first/\st'={st with first:=(xI ((v.view K st.first.toNat).take 4):Int),many:=st.many-1}/\v'.D=λj=>if j=n then some YO else v.D j) ∨
  (x≠0/\n=0/\st'=st/\v'.D=v.D/\((st.first=0/\K.pg<=st.size/\x=160)∨jK K v.D∨(st.first≠0/\(st.size<=(xI ((v.view K st.first.toNat).take 4):Int)∨st.many-1<0))))
theorem Fb {ρ:py->Value}{o:oM}{w:World}(c:o.op=.alloc 125):(oB ρ o).run Y3 w=.ok (.value (.pointer (some ⟨w.heap.size,0,none⟩))) (w.alloc (.cells #[.int .i64 0,.int .i64 0,.int .i64 0,.int .i64 0,.int .i64 0,.int .i64 0,.int .i64 0,.int .i64 0,.int .i64 0,.int .i64 0,.int .i64 0,.int .i64 0,.int .i64 0,.int .i64 0,.int .i64 0,.int .i64 0,.int .i64 0,.int .i64 0,.int .i64 0] 125)):=by
 simp[oB,c,Instr.alloc,newVar,newRow,go_sem,pv]
theorem ze.rn {Mu:Nat->Prop}{a c:World}(h:ze Mu a c){b j:Nat}{u:Value}(e:a.heap.size<=b):ze Mu a (c.setCell ⟨b,j,none⟩ u) :=
 ⟨h.os,h.tape,h.output,by simpa using h.size,λk d hn=>(Below.heap_setCell c ⟨b,j,none⟩ u k (by show k≠b;omega)).trans (h.block k d hn)⟩
theorem qv.rF {W0 X:World}{K:xH}{p:Nat}{v:yz}{st last:qm}{under:Bool}{mk:Value}(h:qv W0 K p v st last under mk X){b:Nat}{T:oD}{cs:Y7}(d:za X b T cs)(hs:cs.size<=64)(g:∀n,cs[0]? ≠ some (.int .u64 n))(q:W0.heap.size<=b)(r:¬ K.mu v b)(hf:b≠K.f)(s:b≠p)(j:Nat)(u:Value):qv W0 K p v st last under mk (X.setCell ⟨b,j,none⟩ u):=by
 have c:ze (λk=>k=b) X (X.setCell ⟨b,j,none⟩ u):=ze.setCell _ _ _ rfl;have B:QS X b:=⟨.inr (.inl ⟨T,cs,d,hs,g⟩),.inr (.inl ⟨T,cs,d,hs⟩)⟩;exact⟨h.ca.rE c (λk e=>by subst e;exact B) (λk e=>by subst e;exact q) (λk e=>by subst e;exact⟨r,hf⟩),c.blk h.pb (λe=>s e.symm),h.np,h.hs,h.hl⟩
def JR (W0:World)(K:xH)(p:Nat)(v:yz)(st last:qm)(mk:Value)(W:World)(e:dT)(w':World):Prop:=∃n x v' st',e=Y0 (.tuple #[.int .i64 n,.int .i64 x])/\qv W0 K p v' st' last true mk w'/\Nb K v v' st st' n x/\qa K W v v'/\ze (qp K p v) W w'
theorem JR.mk {W0:World}{K:xH}{p:Nat}{v:yz}{st last:qm}{mk:Value}{W:World}{e:dT}{w':World}(h:∃n x v' st',e=Y0 (.tuple #[.int .i64 n,.int .i64 x])/\qv W0 K p v' st' last true mk w'/\Nb K v v' st st' n x/\qa K W v v'/\ze (qp K p v) W w'):JR W0 K p v st last mk W e w':=h
-- THE WALK
section
variable {W0 W:World}{K:xH}{p:Nat}{v:yz}{st last:qm}{mk:Value}
theorem Se (h:qv W0 K p v st last true mk W)(hK:K.Ok)(hN:v.N<=700000)(cJ:1<=st.size/\st.size<=(K.P:Int))(hf:0<=st.first/\st.first<(K.P:Int))(hm:0<=st.many/\st.many<=1000)(cB:¬ st.first=0->(v.D st.first).isSome=true):pr Y3 89 #[.pointer (some ⟨p,0,none⟩)] W (JR W0 K p v st last mk W):=by
 have HA:=h.rf true;have aT:=zp h.hs;have cH:=hK.P2;have cI:=hK.hP
 go_enter func89,ntmps89
 go_wp2_with (go_at_call 72;refine HA.mono ?_;rintro e w1 ⟨rfl,a0⟩)
 obtain⟨w1d,bF⟩:∃x,x=w1.drew:=⟨_,rfl⟩;have aC:ph W.heap.size W w1d:=by rw[bF];exact a0.trans ((pf _ _).drew.mono a0.size)
 have h1:=h.grow aC;have d:w1d.rangeAt p 0 (xR st)/\w1d.cell? ⟨p,1,none⟩=some (.int .i64 st.first):=⟨h1.rM,h1.pI⟩;refine zb.st (λW':World=>W'.rangeAt p 0 (xR st)/\W'.cell? ⟨p,1,none⟩=some (.int .i64 st.first)) 99 ?_;rw[<-bF];refine zb.q0 0 (.pointer (some ⟨p,0,none⟩)) d ?_;refine zb.q0 1 (.pointer (some ⟨p,0,none⟩)) d ?_;refine zb.q0 2 (.pointer (some ⟨p,0,none⟩)) d ?_;simp only[Z8];refine zb.t0 3 (.agg (xR st).toArray) rfl d (λW ⟨e0,L⟩=>by exact yX kq e0 aT rfl rfl) ?_;refine zb.q0 4 (.pointer (some ⟨p,0,none⟩)) d ?_;refine zb.q0 5 (.pointer (some ⟨p,0,none⟩)) d ?_;refine zb.q0 6 (.pointer (some ⟨p,0,none⟩)) d ?_;refine zb.q0 7 (.pointer (some ⟨p,1,none⟩)) d ?_;refine zb.q0 8 (.int .i64 st.first) d ?_;simp only[Z8];obtain⟨b,Z⟩:=Z9 w1d.heap.size;obtain⟨w2,aU⟩:=Z9 (w1d.alloc (.cells #[.int .i64 0,.int .i64 0,.int .i64 0,.int .i64 0,.int .i64 0,.int .i64 0,.int .i64 0,.int .i64 0,.int .i64 0,.int .i64 0,.int .i64 0,.int .i64 0,.int .i64 0,.int .i64 0,.int .i64 0,.int .i64 0,.int .i64 0,.int .i64 0,.int .i64 0] 125));have b2:za w2 b 125 #[.int .i64 0,.int .i64 0,.int .i64 0,.int .i64 0,.int .i64 0,.int .i64 0,.int .i64 0,.int .i64 0,.int .i64 0,.int .i64 0,.int .i64 0,.int .i64 0,.int .i64 0,.int .i64 0,.int .i64 0,.int .i64 0,.int .i64 0,.int .i64 0,.int .i64 0]:=by rw[aU,Z];exact za.new _ _ _
 have a1:ph w1d.heap.size w1d w2:=by rw[aU];exact(pf _ _).alloc (zG _) _
 have h2:=h1.grow a1;have bP:w2.rangeAt p 0 (xR st)/\w2.cell? ⟨p,1,none⟩=some (.int .i64 st.first):=⟨h2.rM,h2.pI⟩;refine zb.n 9 (zb.opV (w':=w2) (.pointer (some ⟨b,0,none⟩)) rfl rfl (by rw[aU,Z];exact Fb rfl) ⟨λ_=>bP,?_⟩);simp only[Z8];obtain⟨w3,aV⟩:=Z9 (w2.setRow b (xR st).toArray);have b3:za w3 b 125 (xR st).toArray:=by rw[aV];exact b2.setRow _
 have a2:ph w1d.heap.size w1d w3:=by rw[aV];exact zf a1 (by rw[Z];exact zG _) _
 have E:=h1.grow a2;have a4:w3.rangeAt p 0 (xR st)/\w3.cell? ⟨p,1,none⟩=some (.int .i64 st.first):=⟨E.rM,E.pI⟩;refine zb.n 10 (zb.opS (w':=w3) rfl rfl (by rw[aV];exact FV _ _ _ rfl b rfl rfl kq b2 rfl (by simp[aT]) (by simpa using Ui st)) ⟨λ_=>a4,?_⟩);simp only[zD,zC,zB,pj];refine zb.n 11 (zb.opV (w':=w3) (.int .i64 st.first) rfl rfl (by go_simp) ⟨λ_=>a4,zb.dn ?_⟩);simp only[Z8];have T:ph W.heap.size W w3:=aC.trans (a2.mono aC.size);have a9:W.heap.size<=b:=by rw[Z];exact aC.size
 have aR:¬ K.mu v b:=λg=>by have:=h1.ca.rZ _ g;omega
 have bA:b≠K.f:=by have:=h1.ca.cs.fh.fb.lt;omega
 have bB:b≠p:=by have:=h1.pb.lt;omega
 have a8:W0.heap.size<=b:=by have:=h.ca.cs.fh.up.size;omega
 clear d bP a4 aU aV b2 h2 HA h1 a0 aC a1 bF Z a2
 by_cases aG:st.first=0
 ·have bI:w3.cell? ⟨b,0,none⟩=some (.int .i64 st.size):=(b3.cell 0).trans (by simp[xR]);have aZ:=E.rY;have cD:=VH K.fr K.pg;have cL:IntKind.i64.wrap (st.size+1)=st.size+1:=zg _
  by_cases cC:K.pg<=st.size
  ·have hF:Nb K v v st st 0 160:=⟨by omega,rfl,rfl,rfl,.inr (.inr ⟨by decide,rfl,rfl,rfl,.inl ⟨aG,cC,rfl⟩⟩)⟩;have M:=pk hF;clear hF
   go_wp2_with (first
    | (go_at_call 147;refine(UM E.ca.cs.ca).mono ?_;rintro e w4 ⟨rfl,rfl⟩)
    | (go_at_call 110;refine(YX E.ca.cs.fh.fb).mono ?_;rintro e w4 ⟨rfl,O⟩))
   exact oE (oN rfl _ _ _) rfl (JR.mk ⟨0,160,v,st,rfl,E.grow O,M.out,λk g => .inl g,ze.below (T.trans (O.mono T.size))⟩)
  ·go_wp2_with (first
    | (go_at_call 147;refine(UM E.ca.cs.ca).mono ?_;rintro e w4 ⟨rfl,rfl⟩)
    | (go_at_call 110;refine(YX E.ca.cs.fh.fb).mono ?_;rintro e w4 ⟨rfl,O⟩;have bW:=(O.cell (p:=⟨b,0,none⟩) b3.lt).trans bI;have bY:=(b3.below O b3.lt).free 0))
   have b4:=b3.below O b3.lt;have h4:=E.grow O;have V:ze (K.mu v) W w4:=ze.below (T.trans (O.mono T.size));have b5:=b4.set 0 (.int .i64 (st.size+1));have ea:(xR st).toArray.setIfInBounds 0 (.int .i64 (st.size+1))=(xR {st with size:=st.size+1}).toArray:=by simp[xR]
   rw[ea] at b5;obtain⟨q,F⟩:∃q:qm,q={st with size:=st.size+1}:=⟨_,rfl⟩;rw[<-F] at b5;have bE:q.roots.length=16:=by rw[F];exact h.hs
   have aY:=pk F;clear F;have h5:=h4.rF b4 (by simp[aT]) (λn=>by simp[xR]) a8 aR bA bB 0 (.int .i64 (st.size+1));have bN:ze (K.mu v) W (w4.setCell ⟨b,0,none⟩ (.int .i64 (st.size+1))):=V.rn a9;generalize w4.setCell ⟨b,0,none⟩ (.int .i64 (st.size+1))=w5 at *;clear ea b4 h4 V bW bY O bI aZ E b3 T cD
   go_wp2_with fail
   have hd:=h5.grow (pf _ _).drew;have bd:za w5.drew b 125 (xR q).toArray:=b5;have d:=hd.rY;refine zb.st (λW':World=>W'.cell? ⟨p,19,none⟩=some (.pointer (some ⟨K.a,0,none⟩))) 99 ?_;refine zb.t0 0 (.pointer (some ⟨p,0,none⟩)) rfl d (λW c=>by obtain e0:=c;go_simp) ?_;refine zb.t0 1 (.pointer (some ⟨p,0,none⟩)) rfl d (λW c=>by obtain e0:=c;go_simp) ?_;refine zb.t0 2 (.pointer (some ⟨p,19,none⟩)) rfl d (λW c=>by obtain e0:=c;go_simp) ?_;refine zb.t0 3 (.pointer (some ⟨K.a,0,none⟩)) rfl d (λW c=>by obtain e0:=c;go_simp) ?_;refine zb.t0 4 (.int .i64 st.size) rfl d (λW c=>by obtain e0:=c;go_simp) ?_;simp only[Z8];refine zb.n 5 ?_;refine zb.oC 113 #[.const (.slice none 0 0)] #[142] #[.slice none 0 0] ((Gd _).mono ?_) (zb.eo func113);rintro e w7 ⟨v7,rfl,aL,S⟩;obtain⟨A7,c7,rfl,aH⟩:=aL.inB;have B:=hd.grow S;refine⟨_,rfl,λ_=>B.rY,?_⟩;simp only[Z8];simp only[dV];refine zb.n 6 ?_;refine zb.oC 65 #[.tmp 73,.tmp 74,.tmp 75] #[120,3,129] #[.pointer (some ⟨K.a,0,none⟩),.int .i64 st.size,.slice A7 512 c7] ((Rb B.ca hK (by omega) st.size A7 c7 YO rfl aH).mono ?_) (zb.eo func65);rintro e w8 ⟨x,v8,rfl,aD,L,e2,e3,e4,hq,aI,H⟩;have C:=B.rH H aD;refine⟨_,rfl,λ_=>C.rY,?_⟩;simp only[Z8];refine zb.n 7 (zb.opV (w':=w8) (.int .i64 x) rfl rfl (by go_simp) ⟨λ_=>C.rY,zb.dn ?_⟩);simp only[Z8];have U:ph w5.heap.size w5 w7:=(pf _ _).drew.trans (S.mono (zG _));have b8:za w8 b 125 (xR q).toArray:=H.blk (bd.below S bd.lt) aR;have bG:=bN.size;have X:ze (qp K p v) W w8:=(bN.trans ((ze.below U).trans H)).more λ_ g _ => .inr g
   have aF:qa K W v v8:=aI.mono (zT bG U.size);have aJ:q.roots.length=16:=bE;have aA:=zp aJ
   have aK:x=0∨(x=160/\jK K v.D):=hq.elim (λh => .inl h.1) (λh => .inr (by
    rcases h.1 with h1|h1
    ·omega
    ·exact⟨h1.1,by have:=B.ca.tight h1.2;exact this⟩))
   clear d hd bd S aH aL B aD aI U
   by_cases I:x=0
   ·subst I;have G:v8.D=λj=>if j=st.size then some YO else v.D j:=by
     rcases hq with h1|h1
     ·exact h1.2.2
     ·exact absurd h1.1 (by omega)
    have a3:w8.rangeAt b 0 (xR q):=λj u hj=>by rw[qC,b8.cell];simpa using hj
    have a7:w8.there p 0 (xR q).toArray.size:=Zy C.pb (by rw[kY C.hs C.hl];simp[aA]);obtain⟨h9,aE⟩:=C.setState aJ;have hF:Nb K v v8 st q st.size 0:=⟨by omega,e2,e3,e4,.inl ⟨rfl,aG,rfl,by omega,aY.out,G⟩⟩;have M:=pk hF;have H9:=pk h9;have aX:=pk (X.trans (ze.more aE (λk g _ => .inl g)));clear hF G hq h9 aE H X
    go_wp2_with (first
     | (refine zr rfl (yX kq a3 aA rfl rfl) ?_)
     | (refine wpList_store_mid rfl 125 _ _ rfl p 0 (xR q).toArray rfl rfl a7 (by simpa[aA] using kq.size) (all_oneCell_toArray (Ui _)) ?_)
     | (go_at_call 148;refine(Sb _ _).mono ?_;rintro e w' ⟨rfl,rfl⟩))
    exact oE (oN rfl _ _ _) rfl (JR.mk ⟨st.size,0,v8,_,rfl,H9.out,M.out,aF,aX.out⟩)
   ·have G:v8.D=v.D:=by
     rcases hq with h1|h1
     ·exact absurd h1.1 I
     ·exact h1.2
    have hF:Nb K v v8 st st 0 x:=⟨by omega,e2,e3,e4,.inr (.inr ⟨I,rfl,rfl,G,.inr (.inl (aK.elim (λh=>absurd h I) (λh=>h.2)))⟩)⟩;have M:=pk hF;clear hF G hq aK H
    go_wp2_with (go_at_call 148;refine(MD _ _ _ I).mono ?_;rintro e w' ⟨rfl,rfl⟩)
    refine oQ (oN rfl _ _ _) rfl ?_;exact JR.mk ⟨0,x,v8,st,rfl,C,M.out,aF,X⟩
 ·obtain⟨y,bT⟩:=Option.isSome_iff_exists.1 (cB aG);have aZ:=E.rY
  go_wp2_with fail
  refine(wg E.ca hK (by omega) st.first y bT).mono ?_;rintro e w4 ⟨v4,b1,bU,_,bL,r1,r2,r3,r4,r5,bD,V⟩;have h4:=E.rH V bL;have bM:ze (K.mu v) W w4:=(ze.below T).trans V;have aQ:qa K W v v4:=bD.mono T.size;have bC:¬ K.mu v4 b:=λg=>(bD b g).elim aR (λe=>by have:=b3.lt;omega)
  have b4:=V.blk b3 aR;clear E b3 T V bD bL aZ;obtain⟨A4,c4,rfl,bR,_⟩:=b1;have bV:y=v.view K st.first.toNat:=by rw[ju,show ((st.first.toNat:Nat):Int)=st.first by omega,bT];rfl
  rw[bU];have bS:=bR.drew;have aM:=DW w4.drew A4 c4 0 y bS bU (by omega);rw[ga] at aM;obtain⟨r,aS⟩:∃r:Int,r=(xI (y.take 4):Int):=⟨_,rfl⟩;rw[<-aS] at aM;rw[bV] at aS;have bH:=pk aS;clear aS bV bR;have cK:IntKind.i64.wrap (st.many-1)=st.many-1:=zg _
  go_wp2_with fail
  have bK:=h4.grow (pf _ _).drew;have aN:za w4.drew b 125 (xR st).toArray:=b4;have d:w4.drew.cell? ⟨b,2,none⟩=some (.int .i64 st.many):=(aN.cell 2).trans (by simp[xR]);refine zb.st (λW':World=>W'.cell? ⟨b,2,none⟩=some (.int .i64 st.many)) 8 ?_;refine zb.t 0 (.slice A4 512 c4) rfl d (λW c=>by obtain e0:=c;go_simp) ?_;refine zb.t 2 (.pointer (some ⟨b,2,none⟩)) rfl d (λW c=>by obtain e0:=c;go_simp) ?_;refine zb.t 3 (.int .i64 st.many) rfl d (λW c=>by obtain e0:=c;go_simp) ?_;refine zb.t 4 (.int .i64 (st.many-1)) rfl d (λW c=>by obtain e0:=c;go_simp) ?_;simp only[Z8];refine zb.n 1 ?_;refine zb.oC 69 #[.tmp 53,.const (.int .i64 0)] #[129,3] #[.slice A4 512 c4,.int .i64 0] (aM.mono ?_) (zb.eo func69);rintro e w5 ⟨rfl,aO⟩;have h5:=bK.grow aO;have b5:=aN.below aO aN.lt;have a5:w5.cell? ⟨b,2,none⟩=some (.int .i64 st.many):=(b5.cell 2).trans (by simp[xR]);refine⟨_,rfl,λ_=>a5,?_⟩;simp only[Z8];refine zb.t 5 (.pointer (some ⟨b,1,none⟩)) rfl a5 (λW c=>by obtain e0:=c;go_simp) ?_;simp only[Z8];have bX:w5.cell? ⟨b,1,none⟩=some (.int .i64 st.first):=(b5.cell 1).trans (by simp[xR]);have bZ:=b5.free 1;have b6:=b5.set 1 (.int .i64 r);have h6:=h5.rF b5 (by simp[aT]) (λn=>by simp[xR]) a8 bC bA bB 1 (.int .i64 r);have bO:ze (K.mu v) W (w5.setCell ⟨b,1,none⟩ (.int .i64 r)):=(bM.trans (ze.below ((pf _ _).drew.trans (aO.mono (zG _))))).rn a9;have ea:(xR st).toArray.setIfInBounds 1 (.int .i64 r)=(xR {st with first:=r}).toArray:=by simp[xR]
  rw[ea] at b6;have a6:(w5.setCell ⟨b,1,none⟩ (.int .i64 r)).cell? ⟨b,2,none⟩=some (.int .i64 st.many):=(b6.cell 2).trans (by simp[xR]);refine zb.n 6 (zb.opS (w':=w5.setCell ⟨b,1,none⟩ (.int .i64 r)) rfl rfl (by go_simp) ⟨λ_=>a6,?_⟩);simp only[zD,zC,zB,pj];have b0:=b6.free 2;have b7:=b6.set 2 (.int .i64 (st.many-1));have B:=h6.rF b6 (by simp[zp (s:={st with first:=r}) h.hs]) (λn=>by simp[xR]) a8 bC bA bB 2 (.int .i64 (st.many-1));have aP:=bO.rn (j:=2) (u:=.int .i64 (st.many-1)) a9;generalize w5.setCell ⟨b,1,none⟩ (.int .i64 r)=w6 at *;refine zb.t 7 (.pointer (some ⟨b,2,none⟩)) rfl a6 (λW c=>by obtain e0:=c;go_simp) ?_;simp only[Z8];have bJ:(xR {st with first:=r}).toArray.setIfInBounds 2 (.int .i64 (st.many-1))=(xR {st with first:=r,many:=st.many-1}).toArray:=by simp[xR]
  rw[bJ] at b7;refine zb.n 8 (zb.opS (w':=w6.setCell ⟨b,2,none⟩ (.int .i64 (st.many-1))) rfl rfl (by go_simp) ⟨λh=>absurd rfl h,zb.dn ?_⟩);simp only[zD,zC,zB,pj];generalize w6.setCell ⟨b,2,none⟩ (.int .i64 (st.many-1))=aB at *;obtain⟨q,F⟩:∃q:qm,q={st with first:=r,many:=st.many-1}:=⟨_,rfl⟩;rw[<-F] at b7;have bE:q.roots.length=16:=by rw[F];exact h.hs
  have cE:aB.cell? ⟨b,0,none⟩=some (.int .i64 st.size):=(b7.cell 0).trans (by rw[F];simp[xR]);have cF:aB.cell? ⟨b,1,none⟩=some (.int .i64 r):=(b7.cell 1).trans (by rw[F];simp[xR]);have cG:aB.cell? ⟨b,2,none⟩=some (.int .i64 (st.many-1)):=(b7.cell 2).trans (by rw[F];simp[xR]);have aY:=pk F;clear F d a5 a6 ea bJ bZ b0 b5 b6 h5 h6 bO bX aO aM bS bK aN b4 h4 bM;have bQ:(st.size<=r∨st.many-1<0)->Nb K v v4 st st 0 190:=λZ=>⟨by omega,r2,r3,r4,.inr (.inr ⟨by decide,rfl,rfl,r5,.inr (.inr ⟨aG,by rw[<-bH.out];exact Z⟩)⟩)⟩
  have aW:=pk bQ;clear bQ
  by_cases b9:st.size<=r
  ·go_wp2;exact oE (oN rfl _ _ _) rfl (JR.mk ⟨0,190,v4,st,rfl,B,aW.out (.inl b9),aQ,aP.more λ_ g _ => .inr g⟩)
  by_cases cA:st.many-1<0
  ·go_wp2;exact oE (oN rfl _ _ _) rfl (JR.mk ⟨0,190,v4,st,rfl,B,aW.out (.inr cA),aQ,aP.more λ_ g _ => .inr g⟩)
  clear aW
  go_wp2_with fail
  have hd:=B.grow (pf _ _).drew;have bd:za aB.drew b 125 (xR q).toArray:=b7;have d:=hd.rY;refine zb.st (λW':World=>W'.cell? ⟨p,19,none⟩=some (.pointer (some ⟨K.a,0,none⟩))) 99 ?_;refine zb.t0 0 (.pointer (some ⟨p,0,none⟩)) rfl d (λW c=>by obtain e0:=c;go_simp) ?_;refine zb.t0 1 (.pointer (some ⟨p,0,none⟩)) rfl d (λW c=>by obtain e0:=c;go_simp) ?_;refine zb.t0 2 (.pointer (some ⟨p,19,none⟩)) rfl d (λW c=>by obtain e0:=c;go_simp) ?_;refine zb.t0 3 (.pointer (some ⟨K.a,0,none⟩)) rfl d (λW c=>by obtain e0:=c;go_simp) ?_;refine zb.t0 4 (.int .i64 st.first) rfl d (λW c=>by obtain e0:=c;go_simp) ?_;simp only[Z8];refine zb.n 5 ?_;refine zb.oC 113 #[.const (.slice none 0 0)] #[142] #[.slice none 0 0] ((Gd _).mono ?_) (zb.eo func113);rintro e w7 ⟨v7,rfl,aL,S⟩;obtain⟨A7,c7,rfl,aH⟩:=aL.inB;have B:=hd.grow S;refine⟨_,rfl,λ_=>B.rY,?_⟩;simp only[Z8];simp only[dV];refine zb.n 6 ?_;refine zb.oC 65 #[.tmp 73,.tmp 74,.tmp 75] #[120,3,129] #[.pointer (some ⟨K.a,0,none⟩),.int .i64 st.first,.slice A7 512 c7] ((Rb B.ca hK (by omega) st.first A7 c7 YO rfl aH).mono ?_) (zb.eo func65);rintro e w8 ⟨x,v8,rfl,aD,L,e2,e3,e4,hq,aI,H⟩;have C:=B.rH H aD;refine⟨_,rfl,λ_=>C.rY,?_⟩;simp only[Z8];refine zb.n 7 (zb.opV (w':=w8) (.int .i64 x) rfl rfl (by go_simp) ⟨λ_=>C.rY,zb.dn ?_⟩);simp only[Z8];have U:ph aB.heap.size aB w7:=(pf _ _).drew.trans (S.mono (zG _));have b8:za w8 b 125 (xR q).toArray:=H.blk (bd.below S bd.lt) bC;have bG:=aP.size;have X:ze (qp K p v) W w8:=((aP.more (Nu:=λk=>K.mu v k∨K.mu v4 k) (λ_ g _ => .inl g)).trans (((ze.below U).trans H).more λ_ g _ => .inr g)).more (λk g hl => .inr (g.elim id (λh=>(aQ k h).elim id (λe=>by omega))));have aF:qa K W v v8:=λk g=>((aI.mono (zT bG U.size)) k g).elim (λh=>aQ k h) .inr
  have aJ:q.roots.length=16:=bE;have aA:=zp aJ
  have aK:x=0∨(x=160/\jK K v.D):=hq.elim (λh => .inl h.1) (λh => .inr (by
   rcases h.1 with h1|h1
   ·omega
   ·exact⟨h1.1,by have:=B.ca.tight h1.2;rw[r5] at this;exact this⟩))
  clear d hd bd S aH aL B aD aI U
  by_cases I:x=0
  ·subst I;have G:v8.D=λj=>if j=st.first then some YO else v.D j:=by
    rcases hq with h1|h1
    ·rw[<-r5];exact h1.2.2
    ·exact absurd h1.1 (by omega)
   have a3:w8.rangeAt b 0 (xR q):=λj u hj=>by rw[qC,b8.cell];simpa using hj
   have a7:w8.there p 0 (xR q).toArray.size:=Zy C.pb (by rw[kY C.hs C.hl];simp[aA]);obtain⟨h9,aE⟩:=C.setState aJ;have hF:Nb K v v8 st q st.first 0:=⟨by omega,e2.trans r2,e3.trans r3,e4.trans r4,.inr (.inl ⟨rfl,aG,rfl,by rw[aY.out,bH.out],G⟩)⟩;have M:=pk hF;have H9:=pk h9;have aX:=pk (X.trans (ze.more aE (λk g _ => .inl g)));clear hF G hq h9 aE H X
   go_wp2_with (first
    | (refine zr rfl (yX kq a3 aA rfl rfl) ?_)
    | (refine wpList_store_mid rfl 125 _ _ rfl p 0 (xR q).toArray rfl rfl a7 (by simpa[aA] using kq.size) (all_oneCell_toArray (Ui _)) ?_)
    | (go_at_call 148;refine(Sb _ _).mono ?_;rintro e w' ⟨rfl,rfl⟩))
   exact oE (oN rfl _ _ _) rfl (JR.mk ⟨st.first,0,v8,_,rfl,H9.out,M.out,aF,aX.out⟩)
  ·have G:v8.D=v.D:=by
    rcases hq with h1|h1
    ·exact absurd h1.1 I
    ·exact h1.2.trans r5
   have hF:Nb K v v8 st st 0 x:=⟨by omega,e2.trans r2,e3.trans r3,e4.trans r4,.inr (.inr ⟨I,rfl,rfl,G,.inr (.inl (aK.elim (λh=>absurd h I) (λh=>h.2)))⟩)⟩;have M:=pk hF;clear hF G hq aK H
   go_wp2_with (go_at_call 148;refine(MD _ _ _ I).mono ?_;rintro e w' ⟨rfl,rfl⟩)
   refine oQ (oN rfl _ _ _) rfl ?_;exact JR.mk ⟨0,x,v8,st,rfl,C,M.out,aF,X⟩
end
def AF:qm:=⟨0,0,0,zP 16 0⟩
def jB:qm:=⟨1,0,0,zP 16 0⟩
section
variable {W0 W:World}{K:xH}{p:Nat}{v:yz}{st last:qm}{under:Bool}{mk:Value}
theorem qv.ru (h:qv W0 K p v st last under mk W)(n:Int):qv W0 K p v {st with size:=n} last under mk (W.setCell ⟨p,0,none⟩ (.int .i64 n))/\ze (λk=>k=p) W (W.setCell ⟨p,0,none⟩ (.int .i64 n)):=by
 have c:ze (λk=>k=p) W (W.setCell ⟨p,0,none⟩ (.int .i64 n)):=ze.setCell _ _ _ rfl;have d:=h.pb.set 0 (.int .i64 n);rw[Si] at d;exact⟨h.own c d h.hs h.hl,c⟩
end
def EF (W0:World)(d f l many P:Nat)(fr pg room:Int)(W:World)(e:dT)(w':World):Prop :=
 ((2<=room/\room<=2000)/\∃p a r v,e=Y0 (.tuple #[.pointer (some ⟨p,0,none⟩),.int .i64 0])/\qv W0 ⟨d,f,l,a,r,many,P,fr,pg,room⟩ p v jB jB false (.slice none 0 0) w'/\v.N<=3/\v.i<=2/\v.S.sz=1/\(v.D=λ_=>none)/\v.Y ⟨d,f,l,a,r,many,P,fr,pg,room⟩ 0=jc jB) ∨
 (¬ (2<=room/\room<=2000)/\e=Y0 (.tuple #[.pointer none,.int .i64 2])/\ph W.heap.size W w')
theorem OS {W0:World}{d f l many P:Nat}{fr pg room:Int}{W:World}{e:dT}{w':World}(h:(2<=room/\room<=2000)/\∃p a r v,e=Y0 (.tuple #[.pointer (some ⟨p,0,none⟩),.int .i64 0])/\qv W0 ⟨d,f,l,a,r,many,P,fr,pg,room⟩ p v jB jB false (.slice none 0 0) w'/\v.N<=3/\v.i<=2/\v.S.sz=1/\(v.D=λ_=>none)/\v.Y ⟨d,f,l,a,r,many,P,fr,pg,room⟩ 0=jc jB):EF W0 d f l many P fr pg room W e w':=.inl h
theorem Az (w:World)(x:Obj):ph w.heap.size w (w.alloc x):=(pf _ _).alloc (zG _) _
theorem UH {R:kR}:∀{P:Nat},(∀(q:Nat) b,¬ q=0->¬ R (q:Int)=some (b,true))->∀{b},0<P->R ((0:Nat):Int)=some (b,true)->QN R P=[(0,b)]
 | 0,_,_,h,_=>absurd h (by decide)
 | 1,_,b,_,h=>by
  show []++(match R ((0:Nat):Int) with|some (b,true)=>[(0,b)] | _=>[])=_
  rw[h];rfl
 | P+2,hn,b,_,h=>by
  have e:=UH (P:=P+1) hn (Nat.succ_pos _) h;show QN R (P+1)++(match R ((P+1:Nat):Int) with|some (b,true)=>[(P+1,b)] | _=>[])=_
  rw[e];have h2:=λb=>hn (P+1) b (by omega)
  cases c:R ((P+1:Nat):Int) with
  | none=>rfl
  | some x =>
   obtain⟨y,d⟩:=x;cases d with
   | false=>rfl
   | true=>exact absurd c (h2 y)
theorem Ly {R:kR}{P:Nat}{b:Y4}(hP:0<P)(h:R ((0:Nat):Int)=some (b,true))(hn:∀(q:Nat) b,¬ q=0->¬ R (q:Int)=some (b,true)):QN R P=[(0,b)]:=UH hn hP h
theorem ub {W0 w:World}{d f l a r many P:Nat}{fr pg room:Int}(hP:(P:Int)=pg)(c:2<=room/\room<=2000)
  (h:Bm W0 d f l a r many P fr pg room ⟨laid (λ_=>qx) (JD 1 (kg 1 1 0 0) 1),[],0,false⟩ ⟨1,1,0,[]⟩ ⟨0,0,0,λ_=>none⟩ w):ve W0 ⟨d,f,l,a,r,many,P,fr,pg,room⟩ ⟨λ_=>YO,⟨0⟩,⟨0,0,0,λ_=>none⟩,0,0⟩ w:=by
 refine⟨⟨⟨h.fh.up,h.fh.fb⟩,h.ca,h.nb,λk u hu=>by cases hu⟩,YM.Ok.zero,(λp b d e=>by cases e),?_⟩;have:Xt P (λ_=>none)=0:=by unfold Xt xL jT;simp
 show (Xt P (λ_=>none):Int)<=room
 rw[this];omega
theorem IC {W0 W:World}{d f l many P:Nat}{fr pg room:Int}(h:Kt W0 d f l many fr pg ⟨laid (λ_=>qx) (JD 1 (kg 1 1 0 0) 1),[],0,false⟩ ⟨1,1,0,[]⟩ W)(bF:xB fr pg=true)(hm:(many:Int)=2+9*fr+8*pg)(bZ:many<=40000)(hP:(P:Int)=pg)(bQ:P<=900)(hr:2<=room/\room<=2000)(bV:(P:Int)<=room):pr Y3 38 #[.pointer (some ⟨f,0,none⟩),.int .i64 room] W (EF W0 d f l many P fr pg room W):=by
 have b0:=(vN fr pg).1 bF;have hz:∃k,¬ (laid (λ_=>qx) (JD 1 (kg 1 1 0 0) 1)) k=qx:=(ug.begun (fr:=fr) (pg:=pg) (by omega) (by omega)).nz;have bW:=h.up.size;have HN:=BS (P:=P) (room:=room) h hz (λx hx=>absurd hx (by simp));have aT:pr Y3 63 #[.pointer (some ⟨f,0,none⟩),.int .i64 room] W λe w'=>∃a r,e=Y0 (.tuple #[.pointer (some ⟨a,0,none⟩),.int .i64 0])/\Bm W0 d f l a r many P fr pg room ⟨laid (λ_=>qx) (JD 1 (kg 1 1 0 0) 1),[],0,false⟩ ⟨1,1,0,[]⟩ ⟨0,0,0,λ_=>none⟩ w'/\ph W.heap.size W w':=HN.mono λe w' hn=>by
  rcases hn with⟨_,a,r,he,hC,_,hB⟩|⟨hn,_⟩
  ·exact⟨a,r,he,hC,hB⟩
  ·exact absurd hr hn
 clear HN h
 go_enter func38,ntmps38
 go_wp2_with fail
 refine wp_scope_jumps (rest:=?rest) 0 (λ_ _=>False) (λ_ _=>0) ?hf ?first ?pass
 case hf=>exact rfl
 case pass=>exact λ_ _ hx=>hx.elim
 case first =>
  go_wp2_with (go_at_call 63;refine aT.mono ?_;rintro e w1 ⟨a,r,rfl,aL,aW⟩)
  have aX:=aL;have aJ:=ub (many:=many) hP hr aL;obtain⟨K,C⟩:∃K:xH,K=⟨d,f,l,a,r,many,P,fr,pg,room⟩:=⟨_,rfl⟩;have hK:K.Ok:=by rw[C];exact⟨hP,bQ,hr,bV⟩
  obtain⟨v0,L⟩:∃v0:yz,v0=⟨λ_=>YO,⟨0⟩,⟨0,0,0,λ_=>none⟩,0,0⟩:=⟨_,rfl⟩;rw[<-C,<-L] at aJ;have bM:K.a=a:=by rw[C]
  have aE:K.r=r:=by rw[C]
  have bO:K.l=l:=by rw[C]
  have aN:K.f=f:=by rw[C]
  have a1:K.P=P:=by rw[C]
  have a2:K.room=room:=by rw[C]
  have bN:K.fr=fr:=by rw[C]
  have bP:K.pg=pg:=by rw[C]
  have b1:v0.N=0/\v0.i=0/\v0.S.sz=0:=by rw[L];exact⟨rfl,rfl,rfl⟩
  have bI:v0.D=λ_=>none:=by rw[L];rfl
  have bX:v0.c=⟨0,0,0,λ_=>none⟩:=by rw[L]
  subst bM;have aS:=pk C;clear C;obtain⟨p,hp⟩:=Z9 w1.heap.size;obtain⟨w2,aI⟩:=Z9 (w1.alloc (.cells #[.int .i64 0,.int .i64 0,.int .i64 0,.int .i64 0,.int .i64 0,.int .i64 0,.int .i64 0,.int .i64 0,.int .i64 0,.int .i64 0,.int .i64 0,.int .i64 0,.int .i64 0,.int .i64 0,.int .i64 0,.int .i64 0,.int .i64 0,.int .i64 0,.int .i64 0,.pointer (some ⟨K.a,0,none⟩),.int .i64 0,.int .i64 0,.int .i64 0,.int .i64 0,.int .i64 0,.int .i64 0,.int .i64 0,.int .i64 0,.int .i64 0,.int .i64 0,.int .i64 0,.int .i64 0,.int .i64 0,.int .i64 0,.int .i64 0,.int .i64 0,.int .i64 0,.int .i64 0,.int .i64 0,.bool false,.slice none 0 0] 128));have T:qv W0 K p v0 AF AF false (.slice none 0 0) w2:=by rw[aI,hp];refine⟨aJ.grow ((pf _ _).alloc (zG _) _),?_,zT bW aW.size,rfl,rfl⟩;exact za.new w1 _ _
  rw[<-aI,<-hp];have aC:=YL.grow aX (show ph w1.heap.size w1 w2 by rw[aI];exact Az _ _);have bD:=T.pb;have bE:W0.heap.size<=p:=T.np;have aU:=TU aC.fh.fb aC.fh.lg;clear aJ aL aX aI hp L aT aW;have c0:w2.cell? ⟨p,0,none⟩=some (.int .i64 0):=T.sv;have f0:=T.pb.free 0;have aB:=(T.ru 0).1;have aO:qv W0 K p v0 jB AF false (.slice none 0 0) ((w2.setCell ⟨p,0,none⟩ (.int .i64 0)).setCell ⟨p,0,none⟩ (.int .i64 1)):=(aB.ru 1).1;have c3:(w2.setCell ⟨p,0,none⟩ (.int .i64 0)).cell? ⟨p,0,none⟩=some (.int .i64 0):=aB.sv;have f3:=aB.pb.free 0;have a3:=aO.rM;have aG:(xR jB).length=19:=rfl;have aY:Bm W0 d f l K.a r many P fr pg room ⟨laid (λ_=>qx) (JD 1 (kg 1 1 0 0) 1),[],0,false⟩ ⟨1,1,0,[]⟩ ⟨0,0,0,λ_=>none⟩ ((w2.setCell ⟨p,0,none⟩ (.int .i64 0)).setCell ⟨p,0,none⟩ (.int .i64 1)):=by have q1:=YL.other aC bD (by rw[kY rfl rfl];decide) (λn e=>by cases e) bE (by decide) (by decide) (by decide) (by decide) (by decide) (ze.setCell (Mu:=λk=>k=p) w2 ⟨p,0,none⟩ (.int .i64 0) rfl);exact YL.other q1 aB.pb (by rw[kY rfl rfl];decide) (λn e=>by cases e) bE (by decide) (by decide) (by decide) (by decide) (by decide) (ze.setCell (Mu:=λk=>k=p) _ ⟨p,0,none⟩ (.int .i64 1) rfl)
  clear T aB aC bD;refine aU.mono ?_;rintro e w' ⟨rfl,rfl⟩
  go_wp2_with (refine zr rfl (yX kq a3 aG rfl rfl) ?_)
  generalize (w2.setCell ⟨p,0,none⟩ (.int .i64 0)).setCell ⟨p,0,none⟩ (.int .i64 1)=w4 at *;clear c3 f3 c0 f0 aU;have bH:(jc jB).length=512:=JM rfl;refine(Sg w4 jB rfl).mono ?_;rintro e w5 ⟨A5,c5,rfl,a7,aK⟩;have aF:=aO.grow aK;have aZ:=YL.grow aY aK
  go_wp2_with fail
  refine(Rb aF.ca hK (by omega) 0 A5 c5 (jc jB) bH a7).mono ?_;rintro e w6 ⟨x,s,rfl,B,e1,e2,e3,e4,hq,a8,aM⟩;have hx:x=0/\s.D=λj=>if j=0 then some (jc jB) else v0.D j:=by
   rcases hq with h1|h1
   ·exact⟨h1.1,h1.2.2⟩
   ·exfalso;rcases h1.1 with h2|h2
    ·omega
    ·have:=aF.ca.tight h2.2 [] (λp b e=>by rw[bI] at e;cases e);simp at this;omega
  obtain⟨rfl,aD⟩:=hx;have I:=aF.rH aM B;have G:Bm W0 d f l K.a r many P fr pg room ⟨laid (λ_=>qx) (JD 1 (kg 1 1 0 0) 1),[],0,false⟩ ⟨1,1,0,[]⟩ s.c w6:=by have h1:=B.cs.ca;have h2:=aM;have M:=a8;unfold xH.mu at h2;unfold qa xH.mu at M;rw[aE,bX] at h2 M;rw[aN,aE,a1,a2] at h1;exact YL.rH aZ h2 h1 M
  have bL:w6.cell? ⟨p,0,none⟩=some (.int .i64 1):=I.sv;clear aO aF aK a7 a3 hq a8 aM aY aZ
  go_wp2_with fail
  have O:FM w6 l d many fr pg 1 1 0:=by obtain⟨_,A9,c9,vs,bU,a0,bY⟩:=G.fh.lg;have L:vs=[]:=List.map_eq_nil_iff.1 bY;subst L;obtain rfl:=a0.nil rfl;obtain rfl:=a0.row.nil rfl;exact⟨⟨_,G.fh.dk⟩,bU⟩
  have aA:=G.fh.fb;have bB:QN (xY s.c.V) P=[(0,jc jB)]:=by
   have bT:xY s.c.V ((0:Nat):Int)=some (jc jB,true):=jq.1 (show s.D 0=some _ by rw[aD];rfl)
   exact Ly (by omega) bT (λq b hq e=>by
    have h2:s.D (q:Int)=some b:=jq.2 e;rw[aD] at h2;replace h2:(if (q:Int)=0 then some (jc jB) else v0.D (q:Int))=some b:=h2;rw[if_neg (by omega),bI] at h2
    cases h2)
  have Z:=G.ca;have aR:=(callsIn_wide (n:=12)).1 (LU 12 (by decide) Z O.dl (show wq s.c.V from λk u hu=>(B.ro k u.y u.d (vo hu)).2.1) (by omega) (jc jB) bH bB 1 (λW' A k xs hB hA=>Cm (aA.below hB aA.lt) (O.grow hB) A k xs (jc jB) hA 1 ⟨by decide,by omega⟩ bF (by omega) (by decide) (by omega) (by omega) (by decide)));refine aR.mono ?_;rintro e w8 ⟨rfl,a4,X⟩;obtain⟨F,aH⟩:∃F:yz,F=⟨s.view K,⟨1⟩,⟨s.c.now,s.c.hh,s.c.mm,kP s.c.V⟩,s.i,s.N⟩:=⟨_,rfl⟩;have aP:∀q b e,xY (kP s.c.V) q=some (b,e)->e=false/\∃e',xY s.c.V q=some (b,e'):=λq b e hq=>by
   unfold xY kP at hq;cases H:s.c.V q with
   | none=>rw[H] at hq;cases hq
   | some u =>
    rw[H,dH,dH] at hq;injection hq with hq
    injection hq with q1 q2
    exact⟨q2.symm,u.d,by rw[vo H,<-q1]⟩
  have bG:jN K.P (s.view K) (xY (kP s.c.V)):=λq b e hq=>by
   obtain⟨_,e',h2⟩:=aP q b e hq;have M:=B.ro q b e' h2;refine⟨M.1,M.2.1,λ_ => ?_⟩;have h4:xY s.c.V ((q.toNat:Nat):Int)=some (b,e'):=by rw[show ((q.toNat:Nat):Int)=q by omega];exact h2
   exact(jN.view B.ro h4).symm
  have a5:(Xt K.P (kP s.c.V):Int)<=K.room:=by
   have h1:=Oy (P:=K.P) (V:=s.c.V) (V':=kP s.c.V) (λk E=>by
    unfold kP at E;cases H:s.c.V k with
    | none=>rw[H] at E;cases E
    | some u=>rfl)
   have h2:=B.cn;omega
  have a6:∀k,(xJ K.a r s.c.V k∨(k=d∨k=l))->W0.heap.size<=k:=λk E=>by
   rcases E with E|rfl|rfl
   ·exact G.nb k E
   ·exact G.fh.gd
   ·exact G.fh.gl
  have a9:¬ (xJ K.a r s.c.V f∨(f=d∨f=l)):=λe=>by
   rcases e with e|e
   ·exact Z.rI aA (by decide) (by decide) e
   ·exact O.dl.ne aA (by decide) (by decide) e
  have bA:¬ (xJ K.a r s.c.V p∨(p=d∨p=l)):=λe=>by
   rcases e with e|e
   ·exact Z.rI I.pb (by decide) (by decide) e
   ·exact O.dl.ne I.pb (by decide) (by decide) e
  have aV:ve W0 K F w8:=by
   rw[aH];refine⟨⟨⟨B.cs.fh.up.trans (X.toBelow B.cs.fh.up.size a6),?_⟩,?_,?_,?_⟩,⟨B.ok.now,B.ok.hh,B.ok.mm⟩,bG,a5⟩
   ·have h9:=X.blk aA a9;rw[aN,bO,bN,bP];exact h9
   ·rw[aN,aE,a1,a2];exact a4
   ·intro k E;rw[aE] at E;exact G.nb k (OH k E)
   ·intro q u hu hl g o e;have hu:kP s.c.V q=some u:=hu;unfold kP at hu;cases H:s.c.V q with
    | none=>rw[H] at hu;cases hu
    | some v0 =>
     rw[H,dH] at hu;injection hu with hu
     subst hu;obtain⟨cs,hb⟩:=B.cs.ty q v0 H hl g o e
     exact⟨cs,X.blk hb (λe=>by
      rcases e with e|e
      ·exact Z.rI hb (by decide) (by decide) e
      ·exact O.dl.ne hb (by decide) (by decide) e)⟩
  have U:qv W0 K p F jB AF false (.slice none 0 0) w8:=⟨aV,X.blk I.pb bA,I.np,I.hs,I.hl⟩;have aQ:F.S.sz=1/\F.Y K 0=jc jB/\F.D=λ_=>none:=by
   rw[aH];refine⟨rfl,?_,NG (λq b e=>by have:=(aP q b true e).1;cases this)⟩;show s.view K 0=_
   rw[ju,show (((0:Nat):Int))=0 from rfl,aD];rfl
  have bJ:F.N<=3/\F.i<=2:=by
   rw[aH];show s.N<=3/\s.i<=2
   omega
  have bR:=U.rM;have bS:w8.there p 20 (xR jB).toArray.size:=Zy U.pb (by rw[kY U.hs U.hl];simp[aG]);obtain⟨bC,_⟩:=U.sd (last':=jB) rfl;have bK:=pk bC;clear I U bC aV X aD bL bB aR Z a4 aP bG a5 a6 a9 bA O G B aH
  go_wp2_with (first
   | (refine zr rfl (yX kq bR aG rfl rfl) ?_)
   | (refine wpList_store_mid rfl 125 _ _ rfl p 20 (xR jB).toArray rfl rfl bS (by simpa[aG] using kq.size) (all_oneCell_toArray (Ui _)) ?_))
  simp only[Exit.jump];exact oE (oN rfl _ _ _) rfl (OS ⟨hr,p,K.a,r,F,rfl,by rw[<-aS.out];exact bK.out,bJ.1,bJ.2,aQ.1,aQ.2.2,by rw[<-aS.out];exact aQ.2.1⟩)
section
variable {W0 W:World}{K:xH}{p:Nat}{v:yz}{st last:qm}{mk:Value}
theorem ZK (h:qv W0 K p v st last true mk W)(n:Int)(hn:0<=n/\n<st.size):pr Y3 52 #[.pointer (some ⟨p,0,none⟩),.int .i64 0,.int .i64 n] W λe w'=>e=Y0 (.int .i64 0)/\qv W0 K p v {st with roots:=st.roots.set 0 n} last true mk w'/\ze (λk=>k=p) W w':=by
 obtain⟨W1,Z,q,F⟩:=YK W 3 #[.int .i64 0];have hd:decide (n<0∨st.size<=n)=false:=decide_eq_false (by omega);have aD:=pk Z.symm;clear Z
 go_enter func52,ntmps52
 go_wp2_with (go_at_call 92;rw[aD.out];refine(KN W1 (some ⟨p,0,none⟩) n 0).mono ?_;rintro e B ⟨f,rfl,aF,s,S⟩)
 have h2:=(h.grow q).grow s;have G:=F.below s F.lt;obtain⟨xs,g⟩:∃xs:List Xv,xs=[⟨.func (.func 91) #[] #[.pointer (some ⟨W.heap.size,0,none⟩)],2,false⟩,⟨f,4,false⟩]:=⟨_,rfl⟩;have aB:∀v∈yd xs,v.oneCell'=true:=λv M=>by
  rw[g] at M;simp only[yd,JK,zJ,zN,qZ,nj,zX,zQ,qM,dG,or_false] at M;rcases M with rfl|rfl|rfl|rfl
  ·rfl
  ·rfl
  ·exact aF
  ·rfl
 obtain⟨E,L,r,-⟩:=YK B 156 #[.func (.func 91) #[] #[.pointer (some ⟨W.heap.size,0,none⟩)],.int .i64 2,f,.int .i64 4];have aA:yp E E.heap.size 2 (some ⟨B.heap.size,0,none⟩) xs.length xs.length (yd xs):=by have:=VJ B xs aB 156 (by rw[g];simp);rw[L];subst g;exact this
 have O:=h2.grow r;have b3:=G.below r G.lt;have ha:∀x∈xs,yl E x:=λx N=>by
  rw[g] at N;simp only[qM,dG,or_false] at N;rcases N with rfl|rfl
  ·refine yl.one 2 ⟨zb.eo func91,λW4 aE => ?_⟩;refine(DV (bi:=W.heap.size) (i:=0) ((b3.below aE b3.lt).boxed)).mono ?_;rintro e w' ⟨rfl,rfl⟩;exact⟨rfl,pf _ _⟩
  ·have:=S p st.size rfl (h.grow q).sv;rw[hd] at this;exact yl.later this r
 have C:=O.asked true (some ⟨B.heap.size,0,none⟩) xs.length xs aA (by rw[g];simp) ha;have U:(if (true != true)=true then 191 else Kl xs)=0:=by rw[g];rfl
 have aC:xs.length=2:=by rw[g];rfl
 rw[U,aC] at C;rw[<-L];refine C.mono ?_;rintro e w4 ⟨rfl,H⟩;have b4:=b3.below H b3.lt;have I:ph W.heap.size W w4:=((q.trans (s.mono q.size)).trans (r.mono (by have:=q.size;have:=s.size;omega))).trans (H.mono (by have:=q.size;have:=s.size;have:=r.size;omega));have T:ph W.heap.size W w4.drew:=I.trans ((pf _ _).drew.mono I.size);have u:qv W0 K p v st last true mk w4.drew:=h.grow T;have d:w4.drew.cell? ⟨W.heap.size,0,none⟩=some (.int .i64 0):=b4.boxed;clear ha aA C U aC S aB h2 O G b3 r L g F b4 I H
 go_wp2_with fail
 refine zb.st (λW':World=>W'.cell? ⟨W.heap.size,0,none⟩=some (.int .i64 0)) 99 ?_;refine zb.t0 0 (.pointer (some ⟨p,0,none⟩)) rfl d (λW c=>by obtain e0:=c;go_simp) ?_;refine zb.t0 1 (.int .i64 0) rfl d (λW c=>by obtain e0:=c;go_simp) ?_;refine zb.t0 2 (.int .i64 n) rfl d (λW c=>by obtain e0:=c;go_simp) ?_;refine zb.t0 3 (.pointer (some ⟨p,0,none⟩)) rfl d (λW c=>by obtain e0:=c;go_simp) ?_;refine zb.t0 4 (.pointer (some ⟨p,0,none⟩)) rfl d (λW c=>by obtain e0:=c;go_simp) ?_;refine zb.t0 5 (.pointer (some ⟨p,3,none⟩)) rfl d (λW c=>by obtain e0:=c;go_simp) ?_;refine zb.t0 6 (.pointer (some ⟨p,3,none⟩)) rfl d (λW c=>by obtain e0:=c;go_simp) ?_;simp only[Z8];have aG:3<(xR st).length:=by rw[zp h.hs];decide
 have c3:w4.drew.cell? ⟨p,3,none⟩=some (xR st)[3]:=by have:=u.rM 3 _ (zM aG);simpa using this
 generalize (xR st)[3]=z3 at c3;have f3:=u.pb.free 3;obtain⟨h5,V⟩:=u.sY (i:=0) (by decide) n;have X:(w4.drew.setCell ⟨p,3,none⟩ (.int .i64 n)).cell? ⟨W.heap.size,0,none⟩=some (.int .i64 0):=V.cell d (Qb d) (λe=>by have:=h.pb.lt;have e:W.heap.size=p:=e;omega);refine zb.n 7 (zb.opS (w':=w4.drew.setCell ⟨p,3,none⟩ (.int .i64 n)) rfl rfl (by go_simp) ⟨λ_=>X,zb.dn ?_⟩);simp only[zD,zC,zB,pj];clear X d u c3 f3;go_wp2;go_ret;exact⟨rfl,h5,(ze.below T).trans V⟩
end
section
variable {W0 W:World}{K:xH}{p:Nat}{v:yz}{st last:qm}{under:Bool}{mk:Value}{ms:List vK}
theorem DZ (h:qv W0 K p v st last true mk W)(T:vc W0 K v ms mk W)(n:Nat)(aA:n<ms.length)(aI:ms.length<=900):pr Y3 78 #[.pointer (some ⟨p,0,none⟩),.int .i64 (n:Int)] W λe w'=>∃mk',e=Y0 (.int .i64 0)/\qv W0 K p v st last true mk' w'/\vc W0 K v (ms.take n) mk' w'/\ze (λk=>k=p) W w':=by
 obtain⟨g,c,rfl,aH,aG,_⟩:=T.row.elem n aA;have aD:decide ((n:Int)<0∨(ms.length:Int)<=(n:Int))=false:=decide_eq_false (by omega)
 go_enter func78,ntmps78
 go_wp2_with (go_at_call 127;refine(DX W (some ⟨p,0,none⟩) (n:Int)).mono ?_;rintro e u ⟨f,rfl,X,r,O⟩)
 have h2:=h.grow r;obtain⟨xs,d⟩:∃xs:List Xv,xs=[⟨f,2,false⟩]:=⟨_,rfl⟩;have aB:∀v∈yd xs,v.oneCell'=true:=λv L=>by
  rw[d] at L;simp only[yd,JK,zJ,zN,qZ,nj,zX,zQ,qM,dG,or_false] at L;rcases L with rfl|rfl
  ·exact X
  ·rfl
 obtain⟨C,I,s,-⟩:=YK u 156 #[f,.int .i64 2];have Z:yp C C.heap.size 2 (some ⟨u.heap.size,0,none⟩) xs.length xs.length (yd xs):=by have:=VJ u xs aB 156 (by rw[d];simp);rw[I];subst d;exact this
 have E:=h2.grow s;have ha:∀x∈xs,yl C x:=λx M=>by rw[d] at M;simp only[qM,dG,or_false] at M;subst M;have:=O p _ _ _ rfl h.pE;rw[aD] at this;exact yl.later this s
 have B:=E.asked true (some ⟨u.heap.size,0,none⟩) xs.length xs Z (by rw[d];simp) ha;have S:(if (true != true)=true then 191 else Kl xs)=0:=by rw[d];rfl
 have aC:xs.length=1:=by rw[d];rfl
 rw[S,aC] at B;rw[<-I];refine B.mono ?_;rintro e w4 ⟨rfl,F⟩;have G:ph W.heap.size W w4:=(r.trans (s.mono r.size)).trans (F.mono (by have:=r.size;have:=s.size;omega));have q:=E.grow F;have U:=T.grow G;have aE:=q.pE;have aF:=q.pb.free 40;obtain⟨N,H⟩:=q.re (mk':=.slice (some ⟨g,0,none⟩) n n);have V:=(U.own q H).take rfl (Nat.le_of_lt aA);have H5:=pk N;have HM:=pk V;have HG:=pk ((ze.below G).trans H);clear ha Z B S aC O aB h2 E s I d r F X q U N V H G
 go_wp2_with (refine zr rfl (uF rfl rfl rfl rfl (by omega)) ?_)
 go_ret;exact⟨_,rfl,H5.out,HM.out,HG.out⟩
theorem Vv (h:qv W0 K p v st last under mk W)(i:Nat)(n:Int)(d:st.roots[i]?=some n):pr Y3 41 #[.pointer (some ⟨p,0,none⟩),.int .i64 (i:Int)] W λe w'=>e=Y0 (.tuple #[.int .i64 n,.int .i64 0])/\W=w':=by
 have f:=QD h.rY;have g:i<16:=by have:=(qQ.1 d).1;rw[h.hs] at this;exact this
 have c:W.cell? ⟨p,3+i,none⟩=some (.int .i64 n):=by
  have:=h.rM (3+i) (.int .i64 n) (by
   unfold xR;rw[show 3+i=i+1+1+1 by omega,qY,qY,qY,List.getElem?_map,d]
   rfl)
  rwa [qC] at this
 have q:(0:Int)<=(i:Int):=by omega
 have r:(i:Int)<16:=by omega
 clear h d
 go_enter func41,ntmps41
 go_wp2_with (go_at_call 73;refine f.mono ?_;rintro e w' ⟨rfl,rfl⟩)
 go_ret2
 exact⟨rfl,rfl⟩
end
theorem DT (w:World)(p:Nat)(size n c:Int)(hc:w.cell? ⟨p,0,none⟩=some (.int .i64 size)):pr Y3 92 #[.pointer (some ⟨p,0,none⟩),.int .i64 n,.int .i64 c] w λe w'=>∃x y z,e=Y0 (.agg #[.func (.func 154) #[] #[x,y,z],.int .i64 4])/\ph w.heap.size w w'/\Xw w' 154 #[x,y,z] (decide (n<c∨size<=n)):=by
 obtain⟨W0,d⟩:=Z9 (((w.alloc (.cells #[.pointer (some ⟨p,0,none⟩)] 45)).alloc (.cells #[.int .i64 n] 3)).alloc (.cells #[.int .i64 c] 3));have g:ph w.heap.size w W0:=by rw[d];exact(((pf _ w).alloc (zG _) _).alloc (by simp) _).alloc (by simp;omega) _
 have E:W0.heap.size=w.heap.size+1+1+1:=by rw[d];simp
 have h:za W0 w.heap.size 45 #[.pointer (some ⟨p,0,none⟩)]:=by rw[d];exact((za.new w _ _).alloc _).alloc _
 have q:za W0 (w.heap.size+1) 3 #[.int .i64 n]:=by have:=(za.new (w.alloc (.cells #[.pointer (some ⟨p,0,none⟩)] 45)) 3 #[.int .i64 n]).alloc (.cells #[.int .i64 c] 3);rw[pq] at this;rw[d];exact this
 have r:za W0 (w.heap.size+1+1) 3 #[.int .i64 c]:=by have:=za.new ((w.alloc (.cells #[.pointer (some ⟨p,0,none⟩)] 45)).alloc (.cells #[.int .i64 n] 3)) 3 #[.int .i64 c];rw[pq,pq] at this;rw[d];exact this
 have B:Xw W0 154 #[.pointer (some ⟨w.heap.size+1,0,none⟩),.pointer (some ⟨w.heap.size+1+1,0,none⟩),.pointer (some ⟨w.heap.size,0,none⟩)] (decide (n<c∨size<=n)) :=
  Tr (p:=p) ((q.cell 0).trans rfl) ((r.cell 0).trans rfl) ((h.cell 0).trans rfl) ((g.cell (p:=⟨p,0,none⟩) (Qb hc)).trans hc) q.lt r.lt h.lt (zO (Qb hc) g.size)
 obtain⟨f,hf⟩:∃f:Value,f=.func (.func 154) #[] #[.pointer (some ⟨w.heap.size+1,0,none⟩),.pointer (some ⟨w.heap.size+1+1,0,none⟩),.pointer (some ⟨w.heap.size,0,none⟩)]:=⟨_,rfl⟩;have I:f.oneCell'=true:=by rw[hf];rfl
 have F:=pk B;have G:Hid (((w.alloc (.cells #[.pointer (some ⟨p,0,none⟩)] 45)).alloc (.cells #[.int .i64 n] 3)).alloc (.cells #[.int .i64 c] 3)=W0):=pk d.symm;have s:=pk hf;have u:=pk E;clear B h q r d E hc hf
 go_enter func92,ntmps92
 go_wp2_with (rw[G.out];refine YP rfl 156 (.tmp 6) (.tmp 8) (w:=W0) rfl (cs':=#[f,.int .i64 4]) (by rw[u.out];rfl) (by rw[s.out];rfl) QY rfl rfl (by simp[I];rfl) ?_;intro w4 C b4)
 have H:ph w.heap.size w w4:=g.trans (C.mono g.size);rw[u.out] at b4;refine oQ (yM 6 rfl rfl QY b4 rfl) rfl ⟨_,_,_,by rw[s.out],H,F.out.later C⟩
theorem tQ.pZ {x:Int ⊕ Y4}{e:dT}{w':World}(h:tQ x e w'):∃A n k er,e=Y0 (.tuple #[.slice A n k,.int .i64 er]):=by
 cases x with
 | inl er =>
  obtain rfl:=h;exact⟨none,0,0,er,rfl⟩
 | inr y =>
  obtain⟨A,c,rfl,d,_⟩:=h;exact⟨A,y.length,c,0,rfl⟩
section
variable {W0 W:World}{K:xH}{p:Nat}{v:yz}{st last:qm}{under:Bool}{mk:Value}{ms:List vK}
def Tx (W0:World)(K:xH)(p:Nat)(v:yz)(st last:qm)(under:Bool)(mk:Value)(n:Int)(W:World)(e:dT)(w':World):Prop:=∃x v',tQ x e w'/\qv W0 K p v' st last under mk w'/\v'.N=v.N+1/\v'.i=v.i/\v'.Y K=v.Y K/\v'.S.sz=v.S.sz/\v'.D=v.D/\(∀y,x=.inr y->y=v.view K n.toNat/\y.length=512)/\(∀er,x=.inl er->(er=4/\(K.P:Int)<=n)∨(er=160/\jK K v.D))/\qa K W v v'/\ze (K.mu v) W w'
theorem Tx.of {n:Int}{e:dT}{w':World}(h:∃x v',tQ x e w'/\qv W0 K p v' st last under mk w'/\v'.N=v.N+1/\v'.i=v.i/\v'.Y K=v.Y K/\v'.S.sz=v.S.sz/\v'.D=v.D/\(∀y,x=.inr y->y=v.view K n.toNat/\y.length=512)/\(∀er,x=.inl er->(er=4/\(K.P:Int)<=n)∨(er=160/\jK K v.D))/\qa K W v v'/\ze (K.mu v) W w'):Tx W0 K p v st last under mk n W e w':=h
theorem RH (h:qv W0 K p v st last under mk W)(Z:K.Ok)(hN:v.N<=800000)(n:Int)(hn:1<=n/\n<st.size)(g:Y4)(T:v.D n=some g):pr Y3 216 #[.pointer (some ⟨p,0,none⟩),.int .i64 n] W (Tx W0 K p v st last under mk n W):=by
 have F:=QD h.rY;have q:=DT W p st.size n 1 h.sv;rw[decide_eq_false (by omega)] at q
 go_enter func216,ntmps216
 go_wp2_with (first
  | (go_at_call 73;refine F.mono ?_;rintro e w' ⟨rfl,rfl⟩)
  | (go_at_call 92;refine q.mono ?_;rintro e w1 ⟨x,y,z,rfl,d,I⟩)
  | (refine YP rfl 156 (.tmp 6) (.tmp 11) rfl rfl rfl QY rfl rfl (λu hu=>by simp at hu;rcases hu with rfl|rfl<;>rfl) ?_;intro w2 f G;have r:=I.later f;have c2:w2.cell? ⟨w1.heap.size,0,none⟩=some (.func (.func 154) #[] #[x,y,z]):=(G.cell 0).trans rfl;have X:=r.enters))
 refine(r.sM _ (pf _ _)).mono ?_;rintro e w3 ⟨rfl,L⟩;have s:ph W.heap.size W w3:=(d.trans (f.mono d.size)).trans (L.mono (by have:=d.size;have:=f.size;omega));have c:=h.grow s;have V:=c.rY;clear F q I r c2 X G d f L
 go_wp2_with fail
 refine(wg c.ca Z hN n g T).mono ?_;rintro e w4 ⟨v4,B,aA,_,M,r1,r2,r3,r4,r5,S,C⟩;have H:=c.rH C M;have aB:g=v.view K n.toNat:=by rw[ju,show ((n.toNat:Nat):Int)=n by omega,T];rfl
 have O:Tx W0 K p v st last under mk n W e w4:=Tx.of ⟨.inr g,v4,B,H,r1,r2,r3,r4,r5,λz E=>(by injection E with E;rw[<-E];exact⟨aB,aA⟩),(λer he=>by cases he),S.mono s.size,(ze.below s).trans C⟩;have U:=pk O;obtain⟨A4,k4,c4,er,rfl⟩:=B.pZ;clear O c H M C S V B;go_wp2
 go_ret2
 exact U.out
end
section
variable {K:xH}{v v':yz}{st st':qm}{n x:Int}
theorem Nb.new (h:Nb K v v' st st' n x)(hf:st.first=0)(hs:st.size<K.pg)(ht:¬ jK K v.D):x=0/\n=st.size/\st'={st with size:=st.size+1}/\v'.D=λj=>if j=st.size then some YO else v.D j:=by
 rcases h.dd with⟨h1,_,h3,_,h5,h6⟩|⟨_,h2,_⟩|⟨_,_,_,_,h5⟩
 ·exact⟨h1,h3,h5,by rw[h6,h3]⟩
 ·exact absurd hf h2
 ·rcases h5 with⟨_,h6,_⟩|h6|⟨h6,_⟩
  ·omega
  ·exact absurd h6 ht
  ·exact absurd hf h6
theorem Nb.old (h:Nb K v v' st st' n x)(hf:st.first≠0){f:Int}(c:v.view K st.first.toNat=kM f)(e:0<=f/\f<st.size)(hs:st.size<=1000)(g:1<=st.many)(ht:¬ jK K v.D):x=0/\n=st.first/\st'={st with first:=f,many:=st.many-1}/\v'.D=λj=>if j=st.first then some YO else v.D j:=by
 have d:=LR (f:=f) ⟨e.1,by omega⟩;rcases h.dd with⟨_,h2,_⟩|⟨h1,_,h3,h4,h5⟩|⟨_,_,_,_,h5⟩
 ·exact absurd h2 hf
 ·rw[c,d] at h4;exact⟨h1,h3,h4,by rw[h5,h3]⟩
 ·rcases h5 with⟨h6,_⟩|h6|⟨_,h6⟩
  ·exact absurd h6 hf
  ·exact absurd h6 ht
  ·rw[c,d] at h6;omega
end
theorem jx (w:World):pr Y3 51 #[.int .i64 0] w λe w'=>(∃v,e=Y0 v)/\w=w':=by
 go_enter func51,ntmps51
 go_wp2;go_end0;exact⟨⟨_,rfl⟩,rfl⟩
structure qe (W0:World)(K:xH)(p t:Nat)(k:Int)(v:yz)(st last:qm)(under:Bool)(mk:Value)(ms:List vK)(W:World):Prop where
 pa:qv W0 K p v st last under mk W
 mm:vc W0 K v ms mk W
 tb:za W t 89 #[.pointer (some ⟨p,0,none⟩),.int .i64 k]
structure Xo (K:xH)(v v':yz):Prop where
 nn:v'.N<=v.N+1
 ii:v'.i=v.i
 yy:v'.Y K=v.Y K
 sz:v'.S.sz=v.S.sz
 dd:v'.D=v.D
structure XE (K:xH)(v:yz)(n:Int)(x:yo):Prop where
 at_:(v.D n).isSome=true
 fits:Jv x (v.view K n.toNat)
 rd:kG (v.view K n.toNat)=some x
section
variable {W0 W W':World}{K:xH}{p t:Nat}{k:Int}{v v':yz}{st last st' last':qm}{under:Bool}{mk mk':Value}{ms:List vK}
theorem qe.grow (h:qe W0 K p t k v st last under mk ms W)(hB:ph W.heap.size W W'):qe W0 K p t k v st last under mk ms W':=⟨h.pa.grow hB,h.mm.grow hB,h.tb.below hB h.tb.lt⟩
theorem qe.sI (h:qe W0 K p t k v st last under mk ms W):¬ qp K p v t:=h.pa.sQ h.tb (by decide) (by decide) (by decide) (by decide) (by decide)
theorem qe.rH (h:qe W0 K p t k v st last under mk ms W)(e:qv W0 K p v' st' last under mk W')(c:ze (qp K p v) W W')(d:qa K W v v'):qe W0 K p t k v' st' last under mk ms W' :=
 ⟨e,h.mm.sj h.pa c d,c.blk h.tb h.sI⟩
theorem QS.of {b:Nat}{T:oD}{cs:Y7}(c:za W b T cs)(hs:cs.size<=64)(d:∀n,cs[0]? ≠ some (.int .u64 n)):QS W b :=
 ⟨.inr (.inl ⟨_,_,c,hs,d⟩),.inr (.inl ⟨_,_,c,hs⟩)⟩
def Qg (T:oD):Prop:=T≠114/\T≠171/\T≠185/\T≠194/\T≠128/\T≠119/\T≠89/\T≠214/\T≠999999
instance (T:oD):Decidable (Qg T):=by delta Qg;infer_instance
theorem qv.rU (h:qv W0 K p v st last under mk W){b:Nat}{T:oD}{cs:Y7}(d:ze (λk=>k=b) W W')(c:za W b T cs)(q:QS W b)(g:W0.heap.size<=b)(f:Qg T):qv W0 K p v st last under mk W':=by
 obtain⟨t1,r,t3,t4,t5,s,_⟩:=f;exact⟨h.ca.rE d (λk e=>by subst e;exact q) (λk e=>by subst e;exact g) (λk e=>by subst e;exact⟨h.ca.sF c t1 r t3 t4,zo c h.ca.cs.fh.fb s⟩),d.blk h.pb (λe=>zo c h.pb t5 e.symm),h.np,h.hs,h.hl⟩
theorem vc.rF (h:vc W0 K v ms mk W){b:Nat}{T:oD}{cs:Y7}(d:ze (λk=>k=b) W W')(q:za W b T cs)(u:QS W b)(g:Qg T):vc W0 K v ms mk W' :=
 ⟨h.row.rE d (λk s e=>by
  have e:k=b:=e;subst e
  exact(h.row.blk k s).1.rI q ⟨g.2.2.2.2.2.2.2.1,g.2.2.2.2.2.2.2.2⟩),λx B=>by
  obtain⟨h1,h2,r⟩:=h.maps x B;refine⟨h1.rU d (λk e=>by subst e;exact u) (λe => ?_),h2,r⟩;obtain⟨es,C,f,c,_⟩:=h1.has;rw[e] at c
  exact c.rO q rfl⟩
theorem qe.rF (h:qe W0 K p t k v st last under mk ms W){b:Nat}{T:oD}{cs:Y7}(d:ze (λk=>k=b) W W')(c:za W b T cs)(hs:cs.size<=64)(g:∀n,cs[0]? ≠ some (.int .u64 n))(q:W0.heap.size<=b)(f:Qg T):qe W0 K p t k v st last under mk ms W' :=
 ⟨h.pa.rU d c (QS.of c hs g) q f,h.mm.rF d c (QS.of c hs g) f,d.blk h.tb (λe=>zo c h.tb f.2.2.2.2.2.2.1 e.symm)⟩
theorem qe.up (h:qe W0 K p t k v st last under mk ms W):W0.heap.size<=W.heap.size:=h.pa.ca.cs.fh.up.size
theorem qe.rD (h:qe W0 K p t k v st last under mk ms W){b:Nat}{T:oD}{cs:Y7}(d:za W b T cs)(c:Qg T):¬ qp K p v b:=h.pa.sQ d c.1 c.2.1 c.2.2.1 c.2.2.2.1 c.2.2.2.2.1
theorem qj (w:World)(b:Nat)(cs:Y7):ze (λk=>k=b) w (w.setRow b cs):=⟨rfl,rfl,rfl,by simp[oe],λk _ c=>oL w b k cs c⟩
theorem qe.tp (h:qe W0 K p t k v st last under mk ms W):W.cell? ⟨t,0,none⟩=some (.pointer (some ⟨p,0,none⟩)):=by rw[h.tb.cell];rfl
theorem qe.tk (h:qe W0 K p t k v st last under mk ms W):W.cell? ⟨t,1,none⟩=some (.int .i64 k):=by rw[h.tb.cell];rfl
theorem qe.none (h:qe W0 K p t k v st last under mk ms W):pr Y3 42 #[.pointer (some ⟨t,0,none⟩)] W λe w'=>e=Y0 (.bool false)/\W=w':=Ft h.tp
theorem Ms (h:qe W0 K p t k v st last under mk ms W):pr Y3 20 #[.pointer (some ⟨t,0,none⟩)] W λe w'=>e=Y0 (.pointer (some ⟨p,0,none⟩))/\W=w':=by
 have d:=h.none;have c:=h.tp
 go_enter func20,ntmps20
 go_wp2_with (go_at_call 42;refine d.mono ?_;rintro e f ⟨rfl,rfl⟩)
 go_ret;exact⟨rfl,rfl⟩
theorem Xz (h:qe W0 K p t k v st last under mk ms W){i:Nat}(s:k=(i:Int)){n:Int}(r:st.roots[i]?=some n):pr Y3 45 #[.pointer (some ⟨t,0,none⟩)] W λe w'=>e=Y0 (.int .i64 n)/\ph W.heap.size W w':=by
 have u:=h.none;have hd:=h.grow (pf _ W).drew;have q:=Vv hd.pa i n r;have c:W.drew.cell? ⟨t,0,none⟩=some (.pointer (some ⟨p,0,none⟩))/\W.drew.cell? ⟨t,1,none⟩=some (.int .i64 k):=⟨hd.tp,hd.tk⟩;rw[<-s] at q;have B:ph W.heap.size W W.drew:=(pf _ W).drew;clear h hd s r
 go_enter func45,ntmps45
 go_wp2_with (go_at_call 42;refine u.mono ?_;rintro e C ⟨rfl,rfl⟩)
 refine zb.st (λW':World=>W'.cell? ⟨t,0,none⟩=some (.pointer (some ⟨p,0,none⟩))/\W'.cell? ⟨t,1,none⟩=some (.int .i64 k)) 99 ?_;generalize W.drew=g at *;refine zb.q0 0 (.pointer (some ⟨t,0,none⟩)) c ?_;refine zb.q0 1 (.pointer (some ⟨t,0,none⟩)) c ?_;refine zb.q0 2 (.pointer (some ⟨t,0,none⟩)) c ?_;refine zb.q0 3 (.pointer (some ⟨p,0,none⟩)) c ?_;refine zb.q0 4 (.pointer (some ⟨t,0,none⟩)) c ?_;refine zb.q0 5 (.pointer (some ⟨t,0,none⟩)) c ?_;refine zb.q0 6 (.pointer (some ⟨t,1,none⟩)) c ?_;refine zb.q0 7 (.int .i64 k) c ?_;simp only[Z8];refine zb.n 8 ?_;refine zb.oC 41 #[.tmp 11,.tmp 15] #[45,3] #[.pointer (some ⟨p,0,none⟩),.int .i64 k] (q.mono ?_) (zb.eo func41);rintro e w5 ⟨rfl,rfl⟩;refine⟨_,rfl,λ_=>c,?_⟩;simp only[Z8];refine zb.n 9 (zb.opV (w':=g) (.tuple #[.int .i64 n,.int .i64 0]) rfl rfl (by go_simp) ⟨λ_=>c,?_⟩);refine zb.q0 10 (.int .i64 n) c ?_;refine zb.q0 11 (.int .i64 0) c ?_;simp only[Z8];refine zb.n 12 (zb.opV (w':=g) (.int .i64 n) rfl rfl (by go_simp) ⟨λ_=>c,?_⟩);simp only[Z8];refine zb.n 13 (zb.opV (w':=g) (.int .i64 0) rfl rfl (by go_simp) ⟨λ_=>c,zb.dn ?_⟩);simp only[Z8];go_wp2;go_ret;exact⟨rfl,B⟩
theorem Vk (h:qe W0 K p t k v st last under mk ms W)(T:K.Ok)(V:v.N<=800000)(n:Int)(hn:1<=n/\n<st.size)(hP:n<(K.P:Int))(Z:¬ jK K v.D)(aA:(v.D n).isSome=true):pr Y3 141 #[.agg #[.pointer (some ⟨t,0,none⟩)],.int .i64 n] W λe w'=>∃v' A c,e=Y0 (.slice A 512 c)/\qq w' w'.heap.size A c (v.view K n.toNat)/\(v.view K n.toNat).length=512/\qe W0 K p t k v' st last under mk ms w'/\Xo K v v'/\qa K W v v'/\ze (qp K p v) W w':=by
 obtain⟨W1,g,d,L⟩:=YK W 92 #[.pointer (some ⟨t,0,none⟩)];have h1:=h.grow d;have c0:=h1.tp;obtain⟨y0,aC⟩:=Option.isSome_iff_exists.1 aA;have r:=RH h1.pa T V n hn y0 aC;have s:=c0;rw[g] at s;have I:=pk g.symm;clear g
 go_enter func141,ntmps141
 go_wp2_with fail
 rw[I.out];refine r.mono ?_;rintro e w2 ⟨x,v',O,G,M,u,B,C,E,H,F,q,f⟩;rcases x with er|y
 ·exfalso;rcases F er rfl with h2|h2
  ·omega
  ·exact Z h2.2
 obtain⟨rfl,aD⟩:=H y rfl;obtain⟨A,c,rfl,aB,_⟩:=O;have S:ze (qp K p v) W w2:=(ze.below d).trans (Jo f);have h2:=h1.rH G (Jo f) q;have X:qa K W v v':=q.mono d.size;have U:Xo K v v':=⟨by omega,u,B,C,E⟩;clear r h h1 G M u B C E H F q f c0 s L
 go_wp2_with (go_at_call 51;refine(jx _).mono ?_;rintro e w3 ⟨⟨_,rfl⟩,rfl⟩)
 go_ret;exact⟨v',A,c,rfl,aB,aD,h2,U,X,S⟩
theorem QW (h:qe W0 K p t k v st last under mk ms W)(hK:K.Ok)(hN:v.N<=800000)(n:Int)(hn:1<=n/\n<st.size)(hP:n<(K.P:Int))(hT:¬ jK K v.D)(x:yo)(hx:XE K v n x):pr Y3 86 #[.agg #[.pointer (some ⟨t,0,none⟩)],.int .i64 n] W λe w'=>∃v' f B s C q ci,e=Y0 (.agg (zu x f B s C q ci))/\XH w' w'.heap.size x f B s C q ci/\qe W0 K p t k v' st last under mk ms w'/\Xo K v v'/\qa K W v v'/\ze (qp K p v) W w'/\∃d,qe W0 K p t k v' st last under mk ms d/\ph d.heap.size d w'/\W.heap.size<=d.heap.size/\xm w' d.heap.size x f B s C q ci:=by
 have a1:=h.up;obtain⟨W1,S,aC,b1,b4⟩:=Bp W 92 #[.pointer (some ⟨t,0,none⟩)] 69 YN;have aZ:W1.heap.size=W.heap.size+1+1:=by rw[S,pq,pq]
 have h1:=h.grow aC;have c1:=b1.boxed;have HP:=Vk h1 hK hN n hn hP hT hx.at_;have aB:=c1;rw[S] at aB;unfold YN at S b4 aB;have aQ:=pk S.symm;have nb:=h1.rD b4 (by decide);clear S h
 go_enter func86,ntmps86
 go_wp2_with fail
 rw[aQ.out];refine HP.mono ?_;rintro e H ⟨v',A,c,rfl,aL,aO,h2,aW,aM,V⟩;have L:=V.blk b4 nb;have U:=Gl H A c (v.view K n.toNat) aL x hx.rd hx.fits;rw[aO] at U;unfold Uw at U;clear HP
 go_wp2_with fail
 refine U.mono ?_;rintro e I ⟨f,B,s,C,q,ci,rfl,n3,F,aD⟩;have aK:=aD.rows;obtain⟨N,G⟩:=Z9 (zu x f B s C q ci);have X:N.size=4:=by rw[G];rfl
 have aH:∀u∈N.toList,u.oneCell'=true:=by rw[G];exact zy rfl rfl rfl rfl
 have aY:∀m,N[0]? ≠ some (.int .u64 m):=λm e=>by rw[G] at e;cases e
 rw[<-G];have a0:W.heap.size+2<=H.heap.size:=by have:=V.size;omega
 have aX:=F.size;have h3:=h2.grow F;have Z:=L.below F L.lt;obtain⟨W4,aI,aG,aF⟩:=YK I 69 #[.bool false,.slice none 0 0,.slice none 0 0,.slice none 0 0];have E:ph I.heap.size I (W4.setRow I.heap.size N):=zf aG (zG _) _;have aT:=aF.setRow N;generalize aJ:W4.setRow I.heap.size N=W5 at *;have h5:=h3.grow E;have n5:=n3.grow E;have aA:=Z.below E Z.lt;have h6:=h5.rF (qj W5 (W.heap.size+1) N) aA (by decide) (λm e=>by cases e) (by omega) (by decide);have aE:=aA.setRow N;have n6:=n5.rK (w':=W5.setRow (W.heap.size+1) N) aK (by simp[oe]) (λr T=>oL _ _ r _ (by omega));have o6:=(aD.rK (w':=W5) (λr _ T=>E.block r T)).rK (w':=W5.setRow (W.heap.size+1) N) (λr T _=>oL _ _ r _ (by omega));have o7:∃d,qe W0 K p t k v' st last under mk ms d/\ph d.heap.size d (W5.setRow (W.heap.size+1) N)/\W.heap.size<=d.heap.size/\xm (W5.setRow (W.heap.size+1) N) d.heap.size x f B s C q ci:=by
  have aN:(H.setRow (W.heap.size+1) N).heap.size=H.heap.size:=by simp[oe]
  have O:=F.trans (E.mono aX);refine⟨H.setRow (W.heap.size+1) N,h2.rF (qj H (W.heap.size+1) N) L (by decide) (λm e=>by cases e) (by omega) (by decide),?_,by omega,by rw[aN];exact o6⟩;rw[aN];refine⟨O.os,O.tape,O.output,by simp[oe];exact O.size,λr T => ?_⟩
  by_cases e:r=W.heap.size+1
  ·rw[e];exact aE.trans (L.setRow N).symm
  ·exact(oL _ _ r _ e).trans ((O.block r T).trans (oL _ _ r _ e).symm)
 have aU:ze (qp K p v) W (W5.setRow (W.heap.size+1) N):=by have M:ze (qp K p v) W W5:=(((ze.below aC).trans V).trans (ze.below F)).trans (ze.below E);exact⟨M.os,M.tape,M.output,by simp[oe];exact M.size,λk hk hm=>(oL _ _ k _ (by omega)).trans (M.block k hk hm)⟩
 have aV:qa K W v v':=aM.mono aC.size;have aP:=pk G;have aR:=pk aI.symm;have aS:=pk aJ;clear h1 h2 h3 h5 n3 n5 aK aD aL aO aM V L Z b1 b4 c1 aB aI aJ G F aG E U
 go_wp2_with (first
  | (rw[aR.out];refine vW zj aF X aH ?_;rw[aS.out])
  | (refine yV rfl 69 (.tmp 5) rfl I.heap.size rfl zj aT X ?_)
  | (refine vW zj aA X aH ?_))
 exact oQ (yi rfl (xF (g:=W.heap.size+1) 4 rfl zj aE X)) rfl ⟨v',f,B,s,C,q,ci,by rw[aP.out],n6,h6,aW,aV,aU,o7⟩
theorem Fu (h:qe W0 K p t k v st last under mk ms W)(E:K.Ok)(F:v.N<=800000)(n:Int)(hn:1<=n/\n<st.size)(hP:n<(K.P:Int))(G:¬ jK K v.D)(x:yo)(H:XE K v n x):pr Y3 86 #[.agg #[.pointer (some ⟨t,0,none⟩)],.int .i64 n] W λe w'=>∃v' c g f r d q,e=Y0 (.agg (zu x c g f r d q))/\XH w' w'.heap.size x c g f r d q/\qe W0 K p t k v' st last under mk ms w'/\Xo K v v'/\qa K W v v'/\ze (qp K p v) W w' :=
 (QW h E F n hn hP G x H).mono λe w' ⟨v',c,g,f,r,d,q,h1,h2,s,u,B,C,_⟩=>⟨v',c,g,f,r,d,q,h1,h2,s,u,B,C⟩
end
def vE (x:yo):Y4:=qb x++zP (512-(qb x).length) 0
structure ur (K:xH)(v v':yz)(n:Int)(y:Y4):Prop where
 nn:v'.N<=v.N+2
 ii:v'.i=v.i
 yy:v'.Y K=v.Y K
 sz:v'.S.sz=v.S.sz
 dd:v'.D=λj=>if j=n then some y else v.D j
section
variable {W0 W W':World}{K:xH}{p t:Nat}{k:Int}{v v':yz}{st last st' last':qm}{mk mk':Value}{ms:List vK}
theorem jA (h:qe W0 K p t k v st last true mk ms W)(hK:K.Ok)(hN:v.N<=800000)(n:Int)(hn:1<=n/\n<st.size)(hP:n<(K.P:Int))(hT:¬ jK K v.D)(x:yo)(f:Y5)(s:Nat)(q:Y5)(B:Nat)(g:Y5)(ci:Nat)(V:XH W W.heap.size x f s q B g ci)(hl:x.cells.length<=1000)(aE:x.keys.length<=1000)(aF:x.kids.length<=1001)(hR:yj x)(aD:(qb x).length<=512):pr Y3 50 #[.agg #[.pointer (some ⟨t,0,none⟩)],.int .i64 n,.agg (zu x f s q B g ci)] W λe w'=>∃v',(∃u,e=Y0 u)/\qe W0 K p t k v' st last true mk ms w'/\ur K v v' n (vE x)/\qa K W v v'/\ze (qp K p v) W w':=by
 obtain⟨N,E⟩:=Z9 (zu x f s q B g ci);have aB:N.size=4:=by rw[E];rfl
 obtain⟨W1,S,d,F,b5⟩:=Bp W 92 #[.pointer (some ⟨t,0,none⟩)] 69 N;have h1:=h.grow d;have X:=V.grow d;have r:=MS W1 x f s q B g ci X hl aE aF hR aD;have aG:(vE x).length=512:=by unfold vE;rw[zH,dV];omega
 unfold FR at r;rw[show qb x++zP (512-(qb x).length) 0=vE x from rfl,<-E] at r;rw[<-E];have Z:=pk S.symm;clear S V X E h
 go_enter func50,ntmps50
 go_wp2_with (first
  | (rw[Z.out];refine yV rfl 69 (.tmp 5) rfl (W.heap.size+1) rfl zj b5 aB ?_))
 refine r.mono ?_;rintro e w2 ⟨A,c,rfl,T,C⟩;have h2:=h1.grow C;have c0:=h2.tp;have c1:=(F.below C F.lt).boxed;have M:=Yh h2.pa hK hN n hn hP A c (vE x) aG T
 go_wp2_with (first
  | (go_at_call 51;refine(jx _).mono ?_;rintro e w3 ⟨⟨_,rfl⟩,rfl⟩))
 refine M.mono ?_;rintro e w4 ⟨xe,v',rfl,U,hF,L,I⟩;obtain⟨rfl,O⟩:xe=0/\v'.D=λj=>if j=n then some (vE x) else v.D j:=by
  rcases hF.dd with G|⟨_,G,_⟩
  ·exact G
  ·exact absurd (h2.pa.ca.tight G) hT
 have h4:=h2.rH U (Jo I) L;have H:=d.trans (C.mono d.size);have hG:ze (qp K p v) W w4:=(ze.below H).trans (Jo I);have aA:ur K v v' n (vE x):=⟨by have:=hF.nn;omega,hF.ii,hF.yy,hF.sz,O⟩;have aC:qa K W v v':=L.mono H.size;clear U hF L I M r h1 h2 F b5 c0 c1 T O d C H
 go_wp2_with (first
  | (go_at_call 51;refine(jx _).mono ?_;rintro e w3 ⟨⟨_,rfl⟩,rfl⟩))
 go_end0;exact⟨v',⟨_,rfl⟩,h4,aA,aC,hG⟩
end
theorem kX (n:Nat)(hn:n<=100000)(r:Y4):xP (jQ n++r)=some (n,r):=by
 rw[GZ (CS n (by omega) r) hn,gU]
theorem VG (s:ByteArray)(hs:s.size<=100000)(r:Y4):jk (QO s++r)=some (s,r):=by
 have h2:s.data.toList.length=s.size:=zW;have e:Pq (QO s++r)=some (s.data.toList,(jQ s.data.toList.length).length+s.data.toList.length):=by unfold Pq QO Ef;rw[qO,CS _ (by omega)];simp only[gU,List.take_left,zH];rw[if_pos (by omega)]
 rw[GX e,<-Kz];have:(jQ s.data.toList.length).length+s.data.toList.length=(QO s).length:=by unfold QO Ef;rw[zH]
 rw[this,gU]
theorem Py {c:xK}(e:yq c.key=true)(h:xO c=true)(r:Y4):kH (jL c++r)=some (c,r):=by
 obtain⟨key,val,f,size⟩:=c;unfold yq at e;simp only[decide_eq_true_eq] at e;unfold xO at h;unfold kH jL;simp only at h ⊢;rw[qO,qO,VG _ (by omega)];simp only
 by_cases d:f=0
 ·subst d;simp only[if_true,oZ,decide_eq_true_eq,beq_iff_eq] at h;rw[kX _ (by simp)];simp only[Int.toNat_zero,if_true];rw[VG _ (by omega)];simp only[h.2]
 ·simp only[d,if_false,oZ,decide_eq_true_eq] at h;unfold xW at h;simp only[oZ,decide_eq_true_eq] at h;obtain⟨⟨⟨h1,h2⟩,g⟩,q⟩:=h;rw[kX _ (by omega)];simp only[d,if_false];rw[if_neg (by omega),kX _ (by omega)];simp only[od,dK,xK.mk.injEq,and_true,true_and];refine⟨?_,by omega,by omega⟩;have:val.data.toList=[]:=by
   have:=List.isEmpty_iff.1 h2
   rwa [mC] at this
  rw[Kz val,this];rfl
theorem Pw {k:ByteArray}{i:Int}(c:yq k=true)(h:xW i=true)(r:Y4):jJ (UY k i++r)=some ((k,i),r):=by
 unfold yq at c;unfold xW at h;simp only[oZ,decide_eq_true_eq] at c h;unfold jJ UY;rw[qO,VG _ (by omega)];simp only;rw[kX _ (by omega)];simp only[od,dK,and_true,true_and];omega
theorem Jd {α : Type}{f:Y4->Option (α × Y4)}{g : α -> Y4}:∀(cs:List α) (r:Y4),(∀c∈cs,∀r,f (g c++r)=some (c,r))->yY f cs.length ((cs.map g).flatten++r)=some (cs,r)
 | [],r,_=>rfl
 | c::cs,r,h=>by rw[zJ,qZ,qO,zL];unfold yY;rw[h c (by simp)];simp only;rw[Jd cs r λc hc=>h c (by simp[hc])]
theorem Gq (keys:List ByteArray)(k0:Int)(rest:List Int)(h:rest.length=keys.length):qh ⟨false,[],keys,k0::rest⟩=(keys.zip rest).map λp=>UY p.1 p.2:=by
 unfold qh;refine List.ext_getElem (by simp[h]) λj h1 h2 => ?_
 simp only[zN,zQ,qE,List.length_range] at h1;simp only[zN,zQ,List.getElem_map,List.getElem_range,List.getElem_zip];rw[qT,qT,zM h1,qY,zM (by omega)];rfl
theorem Jk (cells:List xK):qh ⟨true,cells,[],[]⟩=cells.map jL:=by simp[qh]
theorem SR {x:yo}(e:yj x)(hl:(qb x).length<=512):kG (vE x)=some x:=by
 have hF:Jv x (vE x):=⟨e,hl,rfl⟩;rw[Pr hF];have E:=Ql e;have C:=jm x;have g:(qh x).length<=100000:=by
  have:∀l∈qh x,1<=l.length:=by
   intro l f;unfold qh at f;rcases qA.1 f with f|f
   ·obtain⟨c,_,rfl⟩:=qP.1 f;have:=Oi c.rQ.toNat;unfold jL;simp only[zH];omega
   ·obtain⟨j,_,rfl⟩:=qP.1 f;have:=Oi (x.kids.getD (j+1) 0).toNat;unfold UY;simp only[zH];omega
  have h2:∀(ls:List Y4),(∀l∈ls,1<=l.length)->ls.length<=ls.flatten.length:=by
   intro ls
   induction ls with
   | nil=>simp
   | cons a ls ih =>
    intro h;have:=h a (by simp);have:=ih λl hl=>h l (by simp[hl])
    simp only[zL,qZ,zH];omega
  have:=h2 _ this;omega
 obtain⟨leaf,cells,keys,kids⟩:=x;cases leaf with
 | true =>
  obtain⟨h1,h2,d⟩:=e.leaf rfl;simp only at h1 h2 d;subst h1 h2;rw[Jk,qE] at g;unfold vE qb ym;rw[Jk];simp only[if_true,zX,List.drop_succ_cons,ga,yE,qO,qE];rw[kX _ g];simp only;rw[Jd cells _ λc hc r=>Py (e.short c.key (qP.2 ⟨c,hc,rfl⟩)) (d c hc) r]
 | false =>
  obtain⟨h1,h2,d,q⟩:=e.inner rfl;simp only at h1 h2 d q;subst h1;cases kids with
  | nil=>simp at d
  | cons k0 rest =>
   have B:rest.length=keys.length:=by simpa using d
   rw[Gq _ _ _ B,qE] at g;have s:=q k0 (by simp);unfold xW at s;simp only[oZ,decide_eq_true_eq] at s;unfold vE qb ym;rw[Gq _ _ _ B];simp only[Bool.false_eq_true,if_false,zX,List.drop_succ_cons,ga,qO,qE,List.getD_cons_zero];rw[kX _ g];simp only;rw[kX _ (by omega)];simp only;rw[Jd (keys.zip rest) _ λp u r=>Pw (e.short p.1 (List.of_mem_zip u).1) (q p.2 (List.mem_cons_of_mem _ (List.of_mem_zip u).2)) r];simp only[od,yo.mk.injEq,true_and];refine⟨?_,?_⟩
   ·rw[List.map_fst_zip (by omega)]
   ·rw[List.map_snd_zip (by omega)];congr 1;omega
end
end Go.Proofs.YtohmkffoojdahaaGreat
