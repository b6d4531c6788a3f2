/- Texts that the proof of WalkHolds leans on, part 11. -/
import Derived.Shelf.Spec.SlicesInsert
import Derived.Shelf.Strings.Builder1
import Derived.Test.YtohmkffoojdahaaGreatWalkHoldsB10
open List renaming replicate->zP
set_option linter.unusedVariables false
set_option linter.unusedSimpArgs false
set_option maxRecDepth 100000
set_option maxHeartbeats 8000000

open And renaming intro->my
open ByteArray renaming empty->oR
open Go renaming Calls->pr,Addr->px,Operand->py,execOp->oB,Oper->oM,maxLen->oo,callFunc->dF,goInt->mX
open Go.Act renaming put->pj
open Go.Builtin renaming copy_->dI
open Go.Extern.SlicesOverlaps renaming overlaps->mE
open Go.Lib renaming run_overlaps_apart->mi
open Go.Proofs renaming wpList_copy_runI->mI
open Go.Result renaming andThen->pv
open Go.RowKit renaming Below->ph
open Go.Value renaming slice->dW
open Go.World renaming frozen?->gQ,shape?->mW
open List renaming filter_append->gg,take_succ_cons->mw
open Nat renaming min_def->gJ
open Go.Proofs.Tryz renaming prog->Y3
open Go.Proofs.Tryz
namespace Go.Proofs.YtohmkffoojdahaaGreat
section
open Go Go.RowKit vA
abbrev yN:=ByteArray×ByteArray
theorem Zq {a b:ByteArray}(h:a.toList=b.toList):a=b:=by
 rw[mC,mC] at h;rw[Kz a,Kz b,h]
theorem xo (a:ByteArray):xD a a=false:=Hq _
theorem kZ {a b c:ByteArray}(h:xD a b=true)(k:xD b c=true):xD a c=true:=VW _ _ _ h k
theorem vF {a b:ByteArray}(h:xD a b=true):xD b a=false:=NU _ _ h
theorem Un {a b:ByteArray}(h:xD b a=false)(hn:a≠b):xD a b=true:=EB _ _ h (by
 rw[beq_eq_false_iff_ne]
 exact λe=>hn (Zq e.symm))
theorem LP {a b c:ByteArray}(h:xD a b=true)(k:xD c b=false):xD a c=true:=by
 by_cases e:b=c
 ·rw[<-e];exact h
 ·exact kZ h (Un k e)
theorem Cp {a b c:ByteArray}(h:xD b a=false)(k:xD b c=true):xD a c=true:=by
 by_cases e:a=b
 ·rw[e];exact k
 ·exact kZ (Un h e) k
theorem RV {a b:ByteArray}:AX a b=true↔xD b a=false:=by
 unfold AX;constructor
 ·intro h;rcases Bool.or_eq_true_iff.1 h with h|h
  ·exact vF h
  ·rw[beq_iff_eq] at h;rw[Zq h];exact xo _
 ·intro h
  by_cases e:a=b
  ·subst e;simp
  ·have:=Un h e;unfold xD at this;rw[this];rfl
def qg (l:List yN):Prop:=l.Pairwise λa b=>xD a.1 b.1=true
def putE (l:List yN)(e:yN):List yN:=l.filter (λx=>xD x.1 e.1)++e::l.filter (λx=>xD e.1 x.1)
theorem CW {A M B:List yN}{e:yN}(d:∀a∈A,xD a.1 e.1=true)(hB:∀b∈B,xD e.1 b.1=true):putE (A++(M++B)) e=A++(putE M e++B):=by
 have h1:A.filter (λx=>xD x.1 e.1)=A:=List.filter_eq_self.2 d;have h2:A.filter (λx=>xD e.1 x.1)=[]:=List.filter_eq_nil_iff.2 λa ha=>by rw[vF (d a ha)];simp
 have f:B.filter (λx=>xD x.1 e.1)=[]:=List.filter_eq_nil_iff.2 λa ha=>by rw[vF (hB a ha)];simp
 have h:B.filter (λx=>xD e.1 x.1)=B:=List.filter_eq_self.2 hB;unfold putE;simp only[gg,h1,h2,f,h,yE,zQ,qO,zX]
theorem Gb {l:List yN}{e x:yN}(h:x∈putE l e):x∈l∨x.1=e.1:=by
 unfold putE at h;rcases qA.1 h with h|h
 ·exact .inl (yB.1 h).1
 ·rcases qM.1 h with rfl|h
  ·exact .inr rfl
  ·exact .inl (yB.1 h).1
theorem Oe {l:List yN}{e:yN}:putE l e≠[]:=by unfold putE;simp
theorem qg.sW {l:List yN}(h:qg l)(e:yN):qg (putE l e):=by
 unfold qg Go.Proofs.YtohmkffoojdahaaGreat.putE;refine List.pairwise_append.2 ⟨h.filter _,List.pairwise_cons.2 ⟨λb d=>(yB.1 d).2,h.filter _⟩,λa ha b d => ?_⟩;have h1:=(yB.1 ha).2;rcases qM.1 d with rfl|d
 ·exact h1
 ·exact kZ h1 (yB.1 d).2
theorem He:∀(l:List yN) (k:ByteArray),(l.filter (λx=>xD x.1 k)).length+(l.filter (λx=>xD k x.1)).length<=l.length
 | [],_=>by simp
 | a::l,k=>by
  have d:=He l k;simp only[List.filter_cons,zL]
  by_cases h:xD a.1 k=true
  ·have h2:=vF h;simp only[h,h2,if_true,zL];simp;omega
  ·simp only[h,oF,if_false];split<;>(try simp only[zL])<;>omega
theorem ZJ (l:List yN)(e:yN):(putE l e).length<=l.length+1:=by
 have:=He l e.1;unfold putE;simp only[zH,zL];omega
theorem jn:∀{es:List yN} (_:qg es) (key:ByteArray),es.filter (λx=>xD x.1 key)=es.take (yQ key (es.map (·.1)))/\∀e∈es.drop (yQ key (es.map (·.1))),xD e.1 key=false
 | [],_,_=>⟨rfl,by simp⟩
 | a::es,h,key=>by
  obtain⟨h1,h2⟩:=List.pairwise_cons.1 h;obtain⟨q,r⟩:=jn h2 key;rw[zJ];unfold yQ;cases ha:xD a.1 key with
  | true =>
   simp only[if_true,List.filter_cons,ha,mw,List.drop_succ_cons];exact⟨by rw[q],r⟩
  | false =>
   have f:∀e∈a::es,xD e.1 key=false:=λe d=>by
    rcases qM.1 d with rfl|d
    ·exact ha
    ·cases j:xD e.1 key with
     | false=>rfl
     | true=>rw[kZ (h1 e d) j] at ha;cases ha
   simp only[oF,if_false,List.take_zero,List.drop_zero];exact⟨List.filter_eq_nil_iff.2 λe d=>by rw[f e d];simp,f⟩
theorem SY {es:List yN}(h:qg es)(e:yN)(hn:∀x∈es,x.1≠e.1):putE es e=es.take (yQ e.1 (es.map (·.1)))++e::es.drop (yQ e.1 (es.map (·.1))):=by
 obtain⟨h1,h2⟩:=jn h e.1;unfold putE;rw[h1];congr 2;rw[<-qJ (yQ e.1 (es.map (·.1))) es];simp only[gg];rw[List.filter_eq_nil_iff.2 (λx a => ?_),List.filter_eq_self.2 (λx a => ?_)]
 ·simp
 ·exact Un (h2 x (by simpa using a)) λf=>hn x (qV (by simpa using a)) f.symm
 ·have d:x∈es.take (yQ e.1 (es.map (·.1))):=by simpa using a
  rw[<-h1] at d;rw[vF (yB.1 d).2];simp
theorem CV {es:List yN}(h:qg es)(e:yN)(f:yQ e.1 (es.map (·.1))<es.length)(d:es[yQ e.1 (es.map (·.1))].1=e.1):putE es e=es.take (yQ e.1 (es.map (·.1)))++e::es.drop (yQ e.1 (es.map (·.1))+1):=by
 obtain⟨h1,h2⟩:=jn h e.1;unfold putE;rw[h1];generalize yQ e.1 (es.map (·.1))=i at *;congr 2;have hs:es=es.take i++es[i] :: es.drop (i+1):=by rw[<-qR f,qJ]
 have hd:qg (es.drop i):=h.sublist (List.drop_sublist _ _);rw[qR f] at hd;obtain⟨j,_⟩:=List.pairwise_cons.1 hd
 conv=>lhs;rw[hs]
 simp only[gg,List.filter_cons,d,xo,oF,if_false];rw[List.filter_eq_nil_iff.2 (λx a => ?_),List.filter_eq_self.2 (λx a => ?_)]
 ·simp
 ·rw[<-d];exact j x a
 ·rw[<-h1] at a;rw[vF (yB.1 a).2];simp
def tv (key:ByteArray):List ByteArray->Nat->Prop
 | [],i=>i=0
 | k::_,0=>xD key k=true
 | k::ks,i+1=>xD key k=false/\tv key ks i
theorem Vd (key:ByteArray):∀{ks:List ByteArray},ks.Pairwise (λa b=>xD a b=true)->tv key ks (vv key ks)
 | [],_=>rfl
 | k::ks,h=>by
  obtain⟨h1,h2⟩:=List.pairwise_cons.1 h;have j:=Vd key h2;unfold vv at j ⊢;rw[List.countP_cons];cases d:AX k key with
  | true =>
   simp only[if_true];exact⟨RV.1 d,j⟩
  | false =>
   have f:xD key k=true:=by
    cases e:xD key k with
    | true=>rfl
    | false=>rw[RV.2 e] at d;cases d
   have:ks.countP (AX · key)=0:=List.countP_eq_zero.2 λx q=>by intro hl;have:=RV.1 hl;rw[kZ f (h1 x q)] at this;cases this
   rw[this];exact f
def Mb:List ByteArray->List (List yN)->Prop
 | [],[_]=>True
 | k::ks,l::ls=>(∀e∈l,xD e.1 k=true)/\(∀e∈ls.flatten,xD e.1 k=false)/\Mb ks ls
 | _,_=>False
theorem Mb.length:∀{ks:List ByteArray} {ls:List (List yN)},Mb ks ls->ls.length=ks.length+1
 | [],[_],_=>rfl
 | _::_,_::_,h=>by simp[Mb.length h.2.2]
 | [],[],h=>h.elim
 | [],_::_::_,h=>h.elim
 | _::_,[],h=>h.elim
theorem Mb.sorted:∀{ks:List ByteArray} {ls:List (List yN)},Mb ks ls->(∀l∈ls,l≠[])->ks.Pairwise (λa b=>xD a b=true)
 | [],_,_,_ => .nil
 | [_],_,_,_=>List.pairwise_singleton _ _
 | k::k1::ks,l::l1::ls,h,hn=>by
  have j:=Mb.sorted h.2.2 λl hl=>hn l (by simp[hl])
  have f:xD k k1=true:=by
   cases l1 with
   | nil=>exact absurd rfl (hn [] (by simp))
   | cons e l1=>exact Cp (h.2.1 e (by simp)) (h.2.2.1 e (by simp))
  refine List.pairwise_cons.2 ⟨λb d => ?_,j⟩;rcases qM.1 d with rfl|d
  ·exact f
  ·exact kZ f ((List.pairwise_cons.1 j).1 b d)
 | _::_::_,[_],h,_=>h.2.2.elim
 | _::_::_,[],h,_=>h.elim
structure Mid (key:ByteArray)(keys:List ByteArray)(ls:List (List yN))(i:Nat)(L1:List (List yN))(M:List yN)(L2:List (List yN)):Prop where
 eq:ls=L1++M::L2
 len:L1.length=i
 low:∀e∈L1.flatten,xD e.1 key=true
 high:∀e∈L2.flatten,xD key e.1=true
 one:∀M',(∀e∈M',e∈M∨e.1=key)->Mb keys (L1++M'::L2)
 two:∀A B s,(∀e∈A,(e∈M∨e.1=key)/\xD e.1 s=true)->(∀e∈B,(e∈M∨e.1=key)/\xD e.1 s=false)->B≠[]->Mb (keys.take i++s::keys.drop i) (L1++A::B::L2)
theorem Mb.pT {key:ByteArray}:∀{keys:List ByteArray} {ls:List (List yN)} (i:Nat),Mb keys ls->tv key keys i->∃j M q,Mid key keys ls i j M q
 | [],[l],i,_,f=>by obtain rfl:i=0:=f;exact⟨[],l,[],rfl,rfl,by simp,by simp,λ_ _=>trivial,λA B s r hB _=>⟨λe a=>(r e a).2,λe a=>(hB e (by simpa using a)).2,trivial⟩⟩
 | k::ks,l::ls,0,h,f=>by
  have f:xD key k=true:=f;refine⟨[],l,ls,rfl,rfl,by simp,λe a=>LP f (h.2.1 e a),λE C=>⟨λe a => ?_,h.2.1,h.2.2⟩,λA B s r hB hn => ?_⟩
  ·rcases C e a with h1|h1
   ·exact h.1 e h1
   ·rw[h1];exact f
  ·have G:∀e∈B,xD e.1 k=true:=λe a=>by
    rcases(hB e a).1 with h1|h1
    ·exact h.1 e h1
    ·rw[h1];exact f
   refine⟨λe a=>(r e a).2,λe a => ?_,G,h.2.1,h.2.2⟩;rw[qZ] at a;rcases qA.1 a with a|a
   ·exact(hB e a).2
   ·obtain⟨b,H⟩:=List.exists_mem_of_ne_nil B hn;exact vF (LP (Cp (hB b H).2 (G b H)) (h.2.1 e a))
 | k::ks,l::ls,i+1,h,f=>by
  obtain⟨N,O⟩:=f;obtain⟨j,M,q,d⟩:=Mb.pT i h.2.2 O;have F:∀e,(e∈M∨e.1=key)->xD e.1 k=false:=λe a=>by
   rcases a with h1|h1
   ·exact h.2.1 e (by rw[d.eq];simp[h1])
   ·rw[h1];exact N
  have I:∀e∈j.flatten,xD e.1 k=false:=λe a=>h.2.1 e (by rw[d.eq];simp at a ⊢;exact .inl a)
  have L:∀e∈q.flatten,xD e.1 k=false:=λe a=>h.2.1 e (by rw[d.eq];simp at a ⊢;exact .inr (.inr a))
  refine⟨l::j,M,q,by rw[d.eq];rfl,by rw[zL,d.len],λe a => ?_,d.high,λE C=>⟨h.1,λe a => ?_,d.one E C⟩,λA B s r hB hn=>⟨h.1,λe a => ?_,d.two A B s r hB hn⟩⟩
  ·rw[qZ] at a;rcases qA.1 a with a|a
   ·exact LP (h.1 e a) N
   ·exact d.low e a
  ·replace a:e∈(j++E::q).flatten:=a;rw[yF,qZ] at a;rcases qA.1 a with a|a
   ·exact I e a
   ·rcases qA.1 a with a|a
    ·exact F e (C e a)
    ·exact L e a
  ·replace a:e∈(j++A::B::q).flatten:=a;rw[yF,qZ,qZ] at a;rcases qA.1 a with a|a
   ·exact I e a
   ·rcases qA.1 a with a|a
    ·exact F e (r e a).1
    ·rcases qA.1 a with a|a
     ·exact F e (hB e a).1
     ·exact L e a
 | [],[],_,h,_=>h.elim
 | [],_::_::_,_,h,_=>h.elim
 | _::_,[],_,h,_=>h.elim
def xc (e:yN):Y8:=[.string e.1,.string e.2]
def yc (es:List yN):Y8:=(es.map xc).flatten
theorem Ke (a b:List yN):yc (a++b)=yc a++yc b:=by
 unfold yc;rw[qW,yF]
theorem jo (es:List yN):∀v∈yc es,v.oneCell'=true:=λv a=>by
 obtain⟨l,hl,a⟩:=List.mem_flatten.1 a;obtain⟨e,_,rfl⟩:=qP.1 hl;unfold xc at a;simp only[qM,List.not_mem_nil,or_false] at a;rcases a with rfl|rfl<;>rfl
theorem Ta:∀(cs:List yN) (k:Nat) (h:k<cs.length) (j:Nat) (v:Value),(xc cs[k])[j]?=some v->(yc cs)[k*2+j]?=some v
 | c::cs,0,_,j,v,a=>by have e:yc (c::cs)=xc c++yc cs:=rfl;have d:=(qQ.1 a).1;have a:(xc c)[j]?=some v:=a;rw[e,Nat.zero_mul,qC,List.getElem?_append_left (show j<(xc c).length from d)];exact a
 | c::cs,k+1,h,j,v,a=>by have e:yc (c::cs)=xc c++yc cs:=rfl;have hl:(xc c).length=2:=rfl;rw[e,qU (by rw[hl];omega),hl,show (k+1)*2+j-2=k*2+j from by omega];exact Ta cs k (by simpa using h) j v a
theorem Rh {w:World}{B g o n c:Nat}{cs:List yN}(h:yp w B 2 (some ⟨g,o,none⟩) n c (yc cs))(hn:n=cs.length)(j:Nat)(a:j<cs.length):w.rangeAt g (o+j*2) (xc cs[j]):=λi v f=>by
 obtain⟨q,o',e,_,d⟩:=h.rC (by omega);injection e with e
 injection e with e1 e2
 subst e1 e2;rw[Nat.add_assoc];exact d _ _ (Ta cs j a i v f)
theorem MT:Zj 22 36 2 32 (.agg #[.string oR,.string oR]):=⟨underlying22,by kernel_rfl,by kernel_rfl,by decide⟩
theorem Pm:yx Y3 36 2:=⟨⟨_,underlying36,rfl⟩,by kernel_rfl⟩
theorem Uz {ρ:py->Value}{w:World}{o:oM}{x:py}(m:yN)(a:o.op=.buildSlice 22 1 #[(0,x)])(h1:ρ x=.agg (xc m).toArray):(oB ρ o).run Y3 w=.ok (.value (.slice (some ⟨w.heap.size,0,none⟩) 1 1)) (w.alloc (.cells (xc m).toArray 36)):=by
 unfold xc at *;simp[oB,a,h1,go_sem,pv]
def Xs (l:List yN)(ky:ByteArray):List yN:=l.filter λe => !(e.1.toList==ky.toList)
theorem NH (l:List yN)(a:ByteArray)(k:Nat)(h:k<l.length):Xs (l.take (k+1)) a=Xs (l.take k) a++(if (l[k].1.toList==a.toList)=true then [] else [l[k]]):=by
 unfold Xs;rw[zU h,gg]
 by_cases h:l[k].1.toList=a.toList<;>simp[h]
theorem Ox (l:List yN)(a:ByteArray):(Xs l a).length<=l.length:=List.length_filter_le _ _
theorem RG (w:World)(l:List yN)(A:Y5)(c B:Nat)(q:yp w B 2 A l.length c (yc l))(aB:B<=w.heap.size)(hl:l.length<=60)(a:ByteArray):pr Y3 53 #[.slice A l.length c,.string a] w λe w'=>∃v,e=Y0 v/\w'.ownsRow w.heap.size 36 2 v (Xs l a).length (yc (Xs l a))/\ph w.heap.size w w':=by
 have aE:=q.le;have aF:=q.max;have O:w.ownsRow w.heap.size 36 2 (.slice none 0 0) 0 []:=World.ownsRow_nil w w.heap.size _ _
 go_enter func53,ntmps53
 go_wp2_with fail
 go_loopw [5,6] (λv i wr=>∃(k:Nat),k<=l.length/\i=.int .i64 k/\wr.ownsRow w.heap.size 36 2 v (Xs (l.take k) a).length (yc (Xs (l.take k) a))/\ph w.heap.size w wr) (λ_ i _=>l.length-(intOf i).toNat)
 case atStart=>exact⟨0,by omega,rfl,O,pf _ _⟩
 case round =>
  obtain⟨k,hk,rfl,s,hB⟩:=hrel
  by_cases F:k<l.length
  ·obtain⟨g,o,rfl,hg,_⟩:=q.rC (by omega);have V:g<w.heap.size:=by omega
   have I:=Rh q rfl k F;have L:wr.rangeAt g (o+k*2) (xc l[k]):=λj v E=>(hB.cell (p:=⟨g,_,none⟩) V).trans (I j v E)
   have d0:wr.cell? ⟨g,o+k*2,none⟩=some (.string l[k].1):=L 0 _ rfl;have G:=NH l a k F;have aC:=Ox (l.take k) a;have aD:(l.take k).length<=k:=List.length_take_le _ _;generalize l[k]=x at *;generalize Xs (l.take k) a=D at *;have h:=pk G;clear G I;have aG:IntKind.i64.wrap ((k:Int)+1)=(k:Int)+1:=xd _;have Q:=hB.size;cases hs:x.1.toList==a.toList with
   | true =>
    rw[hs,if_pos rfl,yE] at h;go_wp2;exact⟨⟨k+1,by omega,by simp,by rw[h.out];exact s,hB⟩,by simp[intOf];omega⟩
   | false =>
    rw[hs,if_neg (by simp)] at h;have nb:=za.new wr 36 (xc x).toArray;have f:ph wr.heap.size wr (wr.alloc (.cells (xc x).toArray 36)):=jf _ _;obtain⟨d,C⟩:=Z9 (wr.alloc (.cells (xc x).toArray 36));rw[<-C] at nb f
    have Z:yp d d.heap.size 2 (some ⟨wr.heap.size,0,none⟩) 1 1 (xc x):=⟨zG _,by decide,(λe=>by cases e),rfl,jo [x],λ_=>⟨wr.heap.size,0,rfl,nb.lt,λj u E=>by
     rw[qC,nb.cell]
     simpa using E⟩⟩
    have H:d.ownsRow w.heap.size 36 2 _ _ _:=qw s f;have N:=pk C.symm;clear C
    go_wp2_with (first
     | (refine zr rfl (yX Pm L rfl rfl rfl) ?_)
     | (refine zr rfl (Uz x rfl rfl) ?_;rw[N.out])
     | (at_builtin;refine xy rfl MT _ _ rfl w.heap.size _ _ _ rfl H _ _ 1 1 _ rfl Z (by unfold oo;omega) (by omega) (by have:=f.size;omega) ?_;intro v5 w5 aA U))
    have P:ph w.heap.size w w5:=((hB.trans (f.mono Q))).grown U (by have:=f.size;omega) (λr X=>zh H r X);refine⟨⟨k+1,by omega,by simp,?_,P⟩,by simp[intOf];omega⟩;rw[h.out,zH,Ke];exact aA
  ·obtain rfl:k=l.length:=by omega
   rw[List.take_length] at s;go_wp2;go_ret;exact⟨_,rfl,s,hB⟩
theorem vU:Zj 65 94 4 48 (.agg #[.string oR,.string oR,.int .i64 0,.int .i64 0]):=⟨underlying65,by kernel_rfl,by kernel_rfl,by decide⟩
def FP (w:World)(g n i:Nat)(cs cx:Y8)(e:Ending)(w':World):Prop:=∃h c',e=Y0 (.slice (some ⟨h,0,none⟩) (n+1) c')/\(h=g∨w.heap.size<=h)/\n+1<=c'/\c'<=oo/\(∃cur',za w' h 94 cur'/\cur'.size=c'*4/\cur'.toList.take ((n+1)*4)=cs.take (i*4)++cx++cs.drop (i*4))/\w.grownBy w' (some g)
theorem Fa {ρ:py->Value}{w w':World}{o:oM}{x y:py}{u v r:Value}(a:o.op=.call {callee:=.builtin .copy,args:=#[x,y],argTypes:=#[65,65]})(h1:ρ x=u)(h2:ρ y=v)(d:(dI #[65,65] o.type #[u,v]).run Y3 w=.ok r w'):(oB ρ o).run Y3 w=.ok (.value r) w':=by
 unfold oB;simp only[a,resolve,invoke,builtin,oY,oU,oO,zI,zJ,zN,h1,h2,d]
theorem Bz {ρ:py->Value}{w w':World}{o:oM}{x y:py}{u v r:Value}(a:o.op=.call {callee:=.builtin .append,args:=#[x,y],argTypes:=#[65,3]})(h1:ρ x=u)(h2:ρ y=v)(d:(Builtin.append_ #[65,3] o.type #[u,v]).run Y3 w=.ok r w'):(oB ρ o).run Y3 w=.ok (.value r) w':=by
 unfold oB;simp only[a,resolve,invoke,builtin,oY,oU,oO,zI,zJ,zN,h1,h2,d]
section
variable {w:World}{g c n i g2:Nat}{cur:Y7}{cs cx:Y8}
theorem Is (H:za w g 94 cur)(A:cur.size=c*4)(s:cs=cur.toList.take (n*4))(hi:i<n)(aC:n+1<=c)(aF:c<=oo)(hn:n<=100000)
  (B:za w g2 94 cx.toArray) (aI:cx.length=4) (V:∀u∈cx,u.oneCell'=true) (U:∀u∈cs,u.oneCell'=true) (aL:g2≠g) :
  pr Y3 145 #[.slice (some ⟨g,0,none⟩) n c,.int .i64 (i:Int),.slice (some ⟨g2,0,none⟩) 1 1] w (FP w g n i cs cx):=by
 have aG:cs.length=n*4:=by rw[s,zZ,zW,A];omega
 have aA:(cs.drop (i*4)).length=(n-i)*4:=by rw[qD,aG];omega
 have E:za w.drew g 94 cur:=H;have aB:∀ty h O,(dI #[65,65] ty #[.slice (some ⟨g,(i+1)*4,none⟩) (n+1-(i+1)) h,.slice (some ⟨g,i*4,none⟩) (n+1-i) O]).run Y3 w.drew=.ok (mX ((n-i:Nat):Int)) (w.drew.setRow g (cur.toList.take ((i+1)*4)++cs.drop (i*4)++cur.toList.drop ((i+1)*4+(cs.drop (i*4)).length)).toArray):=λty h O =>
  Yt vU w.drew ty g ((i+1)*4) (n+1-(i+1)) h ⟨g,i*4,none⟩ (n+1-i) O (n-i) cur 94 (cs.drop (i*4)) E (by simp only[gJ];split<;>omega) aA (λj u r=>by
   rw[dX,E.cell];rw[dL,s,yH] at r;split at r
   ·simpa using r
   ·cases r) (by rw[aA,A];omega) (λu hu=>U u (qV hu))
 have aM:∀lb cb,(dF 217 #[.slice (some ⟨g2,0,none⟩) 1 1,.slice (some ⟨g,(i+1)*4,none⟩) lb cb]).run Y3 w=.ok (.value (.bool false)) w:=λlb cb=>by
  rw[run_callFunc_extern func217 (by kernel_rfl) (by kernel_rfl) (by kernel_rfl) (e:=mE #[65,65] #[4]) (by kernel_rfl),
   mi w 65 4 94 vU.rX 4 (λw=>YC vU w) ⟨g2,0,none⟩ ⟨g,(i+1)*4,none⟩ 1 1 lb cb aL 94 94 cx.toArray.size cur.size (by simp[mW,show w.heap[g2]?=_ from B]) (by simp[mW,show w.heap[g]?=_ from H]) (by rw[A];omega) (by simp[gQ,show w.heap[g2]?=_ from B]) (by simp[gQ,show w.heap[g2]?=_ from B])]
  rfl
 obtain⟨P,G,Q⟩:=Oa (L:=cur.toList) (X:=cs.take (i*4)) (Y:=cs.drop (i*4)) (C:=cx) (sz:=4) (i:=i) (n:=n) aI (by rw[s,db];congr 1;omega) (by rw[s]) (by omega) (by rw[zW,A];omega);have F:za (w.drew.setRow g (cur.toList.take ((i+1)*4)++cs.drop (i*4)++cur.toList.drop ((i+1)*4+(cs.drop (i*4)).length)).toArray) g 94 (cur.toList.take ((i+1)*4)++cs.drop (i*4)++cur.toList.drop ((i+1)*4+(cs.drop (i*4)).length)).toArray:=E.setRow _;have N:za (w.drew.setRow g (cur.toList.take ((i+1)*4)++cs.drop (i*4)++cur.toList.drop ((i+1)*4+(cs.drop (i*4)).length)).toArray) g2 94 cx.toArray:=za.rB (show za w.drew g2 94 cx.toArray from B) (by omega) _;generalize aD:cur.toList.take ((i+1)*4)++cs.drop (i*4)++cur.toList.drop ((i+1)*4+(cs.drop (i*4)).length)=a at *;have I:w.grownBy (w.drew.setRow g a.toArray) (some g):=zz (yP w _) (vC _ _ _);obtain⟨f,Z⟩:=Z9 (w.drew.setRow g a.toArray);rw[<-Z] at aB F N I;have aH:∀ty h,(dI #[65,65] ty #[.slice (some ⟨g,i*4,none⟩) (n+1-i) h,.slice (some ⟨g2,0,none⟩) 1 1]).run Y3 f=.ok (mX 1) (f.setRow g (a.take (i*4)++cx++a.drop (i*4+cx.length)).toArray):=λty h =>
  Yt vU f ty g (i*4) (n+1-i) h ⟨g2,0,none⟩ 1 1 1 a.toArray 94 cx F (by simp only[gJ];split<;>omega) (by omega) (λj u r=>by
   rw[dX,N.cell]
   simpa using r) (by have:=G;simp only[zR,zW] at this ⊢;omega) V
 have aK:w.grownBy (f.setRow g (a.take (i*4)++cx++a.drop (i*4+cx.length)).toArray) (some g):=zz I (vC _ _ _);have aJ:=F.setRow (a.take (i*4)++cx++a.drop (i*4+cx.length)).toArray;generalize aE:a.take (i*4)++cx++a.drop (i*4+cx.length)=L2 at *;have E3:=pk (my G Q);have E1:=pk P;clear P G Q aD aE Z s H E B F N I V U;have d:True:=trivial;have aP:¬ ((c:Int)<(n:Int)+1):=by omega
 have aN:IntKind.i64.wrap ((n:Int)+1)=(n:Int)+1:=zg _;have aO:IntKind.i64.wrap ((i:Int)+1)=(i:Int)+1:=zg _
 go_enter func145,ntmps145
 go_wp2_with (first
  | (refine zr rfl (XM (k:=n+1) vU rfl rfl (by first|rfl|exact(by push_cast;rfl)) aC) ?_)
  | (refine zr rfl (QV (i:=i+1) vU rfl rfl rfl (by omega) (by omega)) ?_)
  | (refine zr rfl (QV (i:=i) vU rfl rfl rfl (by omega) (by omega)) ?_)
  | (simp only[aM]))
 refine zb.st (λ_=>True) 99 ?_;refine zb.q0 0 (.slice (some ⟨g,0,none⟩) (n+1) c) d ?_;refine zb.q0 1 (.int .i64 (i:Int)) d ?_;refine zb.q0 2 (.int .i64 1) d ?_;refine zb.q0 3 (.int .i64 ((i:Int)+1)) d ?_;simp only[Z8];refine zb.t0 4 (.slice (some ⟨g,(i+1)*4,none⟩) (n+1-(i+1)) (c-(i+1))) rfl d (λW q=>by exact QV (i:=i+1) vU rfl rfl rfl (by omega) (by omega)) ?_;refine zb.q0 5 (.slice (some ⟨g,0,none⟩) (n+1) c) d ?_;refine zb.q0 6 (.int .i64 (i:Int)) d ?_;simp only[Z8];refine zb.t0 7 (.slice (some ⟨g,i*4,none⟩) (n+1-i) (c-i)) rfl d (λW q=>by exact QV (i:=i) vU rfl rfl rfl (by omega) (by omega)) ?_;simp only[Z8];refine zb.n 8 (zb.opV (w':=f) (mX ((n-i:Nat):Int)) rfl rfl (by exact Fa rfl rfl rfl (aB _ _ _)) ⟨λ_=>d,zb.dn ?_⟩);simp only[Z8]
 go_wp2_with (first
  | (refine zr rfl (QV (i:=i) vU rfl rfl rfl (by omega) (by omega)) ?_)
  | (at_builtin;refine mI _ rfl _ _ 65 65 rfl _ _ rfl rfl (aH _ _) ?_))
 go_ret;exact⟨g,c,rfl,.inl rfl,aC,aF,⟨_,aJ,by rw[zR,E3.out.2,zW,A],by rw[E1.out]⟩,aK⟩
theorem It (E:za w g 94 cur)(Z:cur.size=c*4)(B:cs=cur.toList.take (n*4))(hi:i<n)(aV:n<=c)(aW:¬ n+1<=c)(hn:n<=100000)
  (hx:za w g2 94 cx.toArray) (aH:cx.length=4) (aB:∀u∈cx,u.oneCell'=true) (aA:∀u∈cs,u.oneCell'=true) :
  pr Y3 145 #[.slice (some ⟨g,0,none⟩) n c,.int .i64 (i:Int),.slice (some ⟨g2,0,none⟩) 1 1] w (FP w g n i cs cx):=by
 have I:cs.length=n*4:=by rw[B,zZ,zW,Z];omega
 have aF:(cs.drop (i*4)).length=(n-i)*4:=by rw[qD,I];omega
 have aE:(cs.take (i*4)).length=i*4:=by rw[zZ,I];omega
 obtain⟨G,cur',F,aC,aO,V,aM⟩:=Vr vU w g i c (n+1-i) cur E (by rw[Z];omega) (by omega) (by omega) (by omega) (by decide);rw[show i+(n+1-i)=n+1 by omega] at F aC;have hX:cur'.toList.take (i*4)=cs.take (i*4):=by rw[aM,B,db];congr 1;omega
 have aT:=E.lt;obtain⟨h,hh⟩:=Z9 w.heap.size;obtain⟨d,s⟩:=Z9 (w.drew.alloc (.cells cur' 94));have P:za d h 94 cur':=by rw[s,hh];exact za.new w.drew 94 cur'
 have aI:za d g 94 cur:=by rw[s];exact za.alloc (show za w.drew g 94 cur from E) _
 have aN:za d g2 94 cx.toArray:=by rw[s];exact za.alloc (show za w.drew g2 94 cx.toArray from hx) _
 have aK:w.grownBy d (some g):=by rw[s];exact Yk (yP w _) _
 rw[<-s,<-hh] at F;obtain⟨e1,H,e3⟩:=CU (L:=cur'.toList) (X:=cs.take (i*4)) (Y:=cs.drop (i*4)) (C:=cx) (sz:=4) (i:=i) (n:=n) aH hX aE (by omega) (by omega) (by rw[zW,V];omega);have aG:∀ty,(dI #[65,65] ty #[.slice (some ⟨h,i*4,none⟩) (n+1-i) (G-i),.slice (some ⟨g2,0,none⟩) 1 1]).run Y3 d=.ok (mX ((1:Nat):Int)) (d.setRow h (cur'.toList.take (i*4)++cx++cur'.toList.drop (i*4+cx.length)).toArray):=λty =>
  Yt vU d ty h (i*4) (n+1-i) (G-i) ⟨g2,0,none⟩ 1 1 1 cur' 94 cx P (by simp only[gJ];split<;>omega) (by omega) (λj u A=>by
   rw[dX,aN.cell]
   simpa using A) (by omega) aB
 have Q:=P.setRow (cur'.toList.take (i*4)++cx++cur'.toList.drop (i*4+cx.length)).toArray;have N:=aI.rB (k:=h) (by omega) (cur'.toList.take (i*4)++cx++cur'.toList.drop (i*4+cx.length)).toArray;have O:=vG aK (b:=h) (by omega) (cur'.toList.take (i*4)++cx++cur'.toList.drop (i*4+cx.length)).toArray;generalize aP:cur'.toList.take (i*4)++cx++cur'.toList.drop (i*4+cx.length)=a at *;obtain⟨f,aD⟩:=Z9 (d.setRow h a.toArray);rw[<-aD] at aG Q N O;have U:za f.drew h 94 a.toArray:=Q;have aJ:za f.drew g 94 cur:=N;have aL:w.grownBy f.drew (some g):=zz O (yP _ _);have aR:∀ty,(dI #[65,65] ty #[.slice (some ⟨h,(i+1)*4,none⟩) (n+1-(i+1)) (G-(i+1)),.slice (some ⟨g,i*4,none⟩) (n-i) (c-i)]).run Y3 f.drew=.ok (mX ((n-i:Nat):Int)) (f.drew.setRow h (a.take ((i+1)*4)++cs.drop (i*4)++a.drop ((i+1)*4+(cs.drop (i*4)).length)).toArray):=λty =>
  Yt vU f.drew ty h ((i+1)*4) (n+1-(i+1)) (G-(i+1)) ⟨g,i*4,none⟩ (n-i) (c-i) (n-i) a.toArray 94 (cs.drop (i*4)) U (by simp only[gJ];split<;>omega) aF (λj u A=>by
   rw[dX,aJ.cell];rw[dL,B,yH] at A;split at A
   ·simpa using A
   ·cases A) (by have:=H;simp only[zR,zW] at this ⊢;omega) (λu hu=>aA u (qV hu))
 have aU:=U.setRow (a.take ((i+1)*4)++cs.drop (i*4)++a.drop ((i+1)*4+(cs.drop (i*4)).length)).toArray;have aS:=vG aL (b:=h) (by omega) (a.take ((i+1)*4)++cs.drop (i*4)++a.drop ((i+1)*4+(cs.drop (i*4)).length)).toArray;generalize aQ:a.take ((i+1)*4)++cs.drop (i*4)++a.drop ((i+1)*4+(cs.drop (i*4)).length)=L2 at *;have E3:=pk (my H e3);have E1:=pk e1;have HS:=pk V;have HH:=pk hh;clear e1 H e3 aP aQ s aD B E hx aI aN aK P Q N O U aJ aL aB aA hX aM V aT aF aE I Z aH hh;have q:True:=trivial;have a0:(c:Int)<(n:Int)+1:=by omega
 have aX:IntKind.i64.wrap ((n:Int)+1)=(n:Int)+1:=zg _;have aY:IntKind.i64.wrap ((i:Int)+1)=(i:Int)+1:=zg _;have aZ:IntKind.i64.wrap ((n:Int)+1-(i:Int))=((n+1-i:Nat):Int):=by rw[zg _];omega
 go_enter func145,ntmps145
 go_wp2_with (first
  | (refine zr rfl (XM (k:=i) vU rfl rfl rfl (by omega)) ?_)
  | (refine zr rfl (QV (i:=i) vU rfl rfl rfl (by omega) (by omega)) ?_)
  | (refine zr rfl (Bz rfl rfl rfl (F _)) ?_)
  | (at_builtin;refine mI _ rfl _ _ 65 65 rfl _ _ rfl rfl (aG _) ?_))
 refine zb.st (λ_=>True) 99 ?_;refine zb.q0 0 (.slice (some ⟨h,0,none⟩) (n+1) G) q ?_;refine zb.q0 1 (.int .i64 (i:Int)) q ?_;refine zb.q0 2 (.int .i64 1) q ?_;refine zb.q0 3 (.int .i64 ((i:Int)+1)) q ?_;simp only[Z8];refine zb.t0 4 (.slice (some ⟨h,(i+1)*4,none⟩) (n+1-(i+1)) (G-(i+1))) rfl q (λW r=>by exact QV (i:=i+1) vU rfl rfl rfl (by omega) (by omega)) ?_;refine zb.q0 5 (.slice (some ⟨g,0,none⟩) n c) q ?_;refine zb.q0 6 (.int .i64 (i:Int)) q ?_;simp only[Z8];refine zb.t0 7 (.slice (some ⟨g,i*4,none⟩) (n-i) (c-i)) rfl q (λW r=>by exact QV (i:=i) vU rfl rfl rfl (by omega) (by omega)) ?_;simp only[Z8];refine zb.n 8 (zb.opV (w':=f.drew.setRow h L2.toArray) (mX ((n-i:Nat):Int)) rfl rfl (by exact Fa rfl rfl rfl (aR _)) ⟨λ_=>q,zb.dn ?_⟩);simp only[Z8];go_wp2;go_ret;exact⟨h,G,rfl,.inr (by rw[HH.out];exact zG _),aC,aO,⟨_,aU,by have:=E3.out;simp only[zR,zW,HS.out] at this ⊢;omega,by rw[E1.out]⟩,aS⟩
theorem Cy {base:Nat}{v:Value}(d:w.ownsRow base 94 4 v n cs)(h:base<=w.heap.size)(hn:n<=100000)(r:za w g2 94 cx.toArray)(B:cx.length=4)(s:∀u∈cx,u.oneCell'=true):pr Y3 145 #[v,.int .i64 (n:Int),.slice (some ⟨g2,0,none⟩) 1 1] w λe w'=>∃v',e=Y0 v'/\w'.ownsRow base 94 4 v' (n+1) (cs++cx)/\w.grownBy w' v.ownBlock:=by
 have q:yp w w.heap.size 4 (some ⟨g2,0,none⟩) 1 1 cx:=⟨zG _,by decide,(λe=>by cases e),by omega,s,λ_=>⟨g2,0,rfl,r.lt,λj u A=>by
  rw[qC,r.cell]
  simpa using A⟩⟩
 have C:(n:Int)<=(n:Int):=dy _;rcases d.2 with⟨rfl,rfl⟩|⟨g,cap,cur,rfl,hb,hg,hle2,hm,hs,ht⟩
 ·go_enter func145,ntmps145
  go_wp2_with (at_builtin;refine xy rfl vU _ _ rfl base _ 0 cs rfl d _ _ 1 1 cx rfl q (by decide) (by decide) h ?_;intro v5 w5 f a)
  go_ret;exact⟨v5,rfl,f,a⟩
 ·go_enter func145,ntmps145
  go_wp2_with (at_builtin;refine xy rfl vU _ _ rfl base _ n cs rfl d _ _ 1 1 cx rfl q (by unfold oo;omega) (by omega) h ?_;intro v5 w5 f a)
  all_goals (go_ret;exact⟨_,rfl,f,a⟩)
theorem Lh {base:Nat}{v:Value}(f:w.ownsRow base 94 4 v n cs)(F:base<=w.heap.size)(L:i<=n)(hn:n<=100000)(j:za w g2 94 cx.toArray)(a:cx.length=4)(d:∀u∈cx,u.oneCell'=true)(q:∀u∈cs,u.oneCell'=true)(I:v.ownBlock≠some g2):pr Y3 145 #[v,.int .i64 (i:Int),.slice (some ⟨g2,0,none⟩) 1 1] w λe w'=>∃v',e=Y0 v'/\w'.ownsRow base 94 4 v' (n+1) (cs.take (i*4)++cx++cs.drop (i*4))/\w.grownBy w' v.ownBlock:=by
 have G:=f.1
 by_cases H:i=n
 ·subst H;rw[qB (by omega),dm (by omega),yE];exact Cy f F hn j a d
 ·rcases f.2 with⟨rfl,rfl⟩|⟨g,cap,cur,rfl,hb,hg,hle2,hm,hs,ht⟩
  ·omega
  ·have key:pr Y3 145 #[.slice (some ⟨g,0,none⟩) n cap,.int .i64 (i:Int),.slice (some ⟨g2,0,none⟩) 1 1] w (FP w g n i cs cx):=by
    by_cases r:n+1<=cap
    ·exact Is hg hs ht.symm (by omega) r hm hn j a d q (λe=>I (by rw[e];rfl))
    ·exact It hg hs ht.symm (by omega) hle2 r hn j a d q
   refine key.mono ?_;rintro e w' ⟨h,c',rfl,hh,h1,h2,⟨s,A,B,C⟩,E⟩;exact⟨_,rfl,⟨by rw[zH,zH,zZ,qD,G,a];omega,.inr ⟨h,c',s,rfl,by omega,A,h1,h2,B,C⟩⟩,E⟩
end
section
variable {S T:TypeId}{sz by_:Nat}{z:Value}{ρ:py->Value}{w:World}{o:oM}{x y u:py}
theorem Np {g n c i:Nat}(a:Zj S T sz by_ z)(h:o.op=.slice S x (some y) none none)(h1:ρ x=.slice (some ⟨g,0,none⟩) n c)(h2:ρ y=.int .i64 (i:Int))(j:i<=n):(oB ρ o).run Y3 w=.ok (.value (.slice (some ⟨g,if c=i then 0 else i*sz,none⟩) (n-i) (c-i))) w:=by
 have ht:=Rl a;have d:(i:Int)<=(n:Int):=by omega
 have hs:=YC a
 by_cases f:c=i
 ·simp[oB,h,h1,h2,go_sem,run_sliceAt_slice _ _ _ _ _ _ ht,pv,d,run_slice_l (ht:=ht),a.rX,hs,sliced,f]
 ·simp[oB,h,h1,h2,go_sem,run_sliceAt_slice _ _ _ _ _ _ ht,pv,d,run_slice_l (ht:=ht),a.rX,hs,sliced,f,dX]
end
section
variable {W0 W W':World}{K:xH}{p t:Nat}{k:Int}{v v':yz}{st last st' last':qm}{mk mk':Value}{ms:List vK}
theorem Fx (w:World)(s:Value)(a u:ByteArray)(hu:u.size<=60):pr Y3 46 #[.agg #[s],.string a,.string u] w λe w'=>e=Y0 (.agg #[.string a,.string u,.int .i64 0,.int .i64 0])/\ph w.heap.size w w':=by
 have r:(u.size:Int)<=60:=by omega
 obtain⟨q,d,h,-,b6⟩:=Bp w 92 #[s] 94 #[.string ⟨#[]⟩,.string ⟨#[]⟩,.int .i64 0,.int .i64 0];have b7:=b6.setRow #[.string a,.string u,.int .i64 0,.int .i64 0];have j:=zf h (Nat.le_succ w.heap.size) #[.string a,.string u,.int .i64 0,.int .i64 0];have f:=pk d.symm;clear d hu
 go_enter func46,ntmps46
 go_wp2_with (rw[f.out];refine zt rfl 94 (.tmp 6) (.tmp 17) rfl (w.heap.size+1) rfl rfl qt b6 rfl rfl (zy rfl rfl rfl rfl) ?_)
 exact oQ (yi rfl (xF (g:=w.heap.size+1) 6 rfl qt b7 rfl)) rfl ⟨rfl,j⟩
end
section
variable {W0 W W':World}{K:xH}{p t:Nat}{v v' v'':yz}{st last st' last':qm}{mk mk':Value}{ms:List vK}
theorem ze.fresh {w d w2:World}(h2:ze (qp K p v') d w2)(h1:ze (qp K p v) w d)(hn:qa K w v v')(hs:w.heap.size<=d.heap.size):ze (qp K p v) w w2 :=
 ⟨h2.os.trans h1.os,h2.tape.trans h1.tape,h2.output.trans h1.output,zT h1.size h2.size,λk f a=>(h2.block k (zO f hs) (λe=>by
  rcases e with e|e
  ·exact a (.inl e)
  ·rcases hn k e with e|e
   ·exact a (.inr e)
   ·omega)).trans (h1.block k f a)⟩
theorem qa.trans {w a:World}(h1:qa K w v v')(h2:qa K a v' v'')(hs:w.heap.size<=a.heap.size):qa K w v v'':=λk d=>by
 rcases h2 k d with e|e
 ·exact h1 k e
 ·exact .inr (by omega)
end
def Zm (D:Int->Option Y4):Int->List Int->Prop
 | f,[]=>f=0
 | f,n::r=>f=n/\∃g,D n=some (kM g)/\Zm D g r
structure xh (K:xH)(D:Int->Option Y4)(st:qm)(used free:List Int):Prop where
 nd:(used++free).Nodup
 rP:∀n∈used++free,1<=n/\n<st.size
 sD:(used.length:Int)+(free.length:Int)+1=st.size
 sup:∀p b,D p=some b->p∈used++free
 at_:∀n∈used++free,(D n).isSome=true
 ch:Zm D st.first free
 mn:st.many=(free.length:Int)
 sz:st.size<=K.pg
theorem Zm.rE {D D':Int->Option Y4}:∀{l:List Int} {f:Int},Zm D f l->(∀n∈l,D' n=D n)->Zm D' f l
 | [],f,h,_=>h
 | n::r,f,⟨h1,g,h2,h3⟩,hk=>⟨h1,g,(hk n (by simp)).trans h2,h3.rE λm a=>hk m (by simp[a])⟩
theorem Zm.next {D:Int->Option Y4}{l:List Int}{f s:Int}(h:Zm D f l)(a:∀n∈l,1<=n/\n<s)(hs:1<=s):0<=f/\f<s:=by
 cases l with
 | nil =>
  obtain rfl:f=0:=h;omega
 | cons n r =>
  obtain⟨rfl,_⟩:=h;have:=a f (by simp);omega
section
variable {K:xH}{D D':Int->Option Y4}{st:qm}{used used' free:List Int}
theorem xh.ge (h:xh K D st used free):1<=st.size:=by have:=h.sD;omega
theorem xh.perm (h:xh K D st used free)(a:used'.Perm used):xh K D st used' free:=by
 have hq:=a.append_right free;exact⟨hq.nodup_iff.2 h.nd,λn hn=>h.rP n (hq.mem_iff.1 hn),by rw[a.length_eq];exact h.sD,λp b e=>hq.mem_iff.2 (h.sup p b e),λn hn=>h.at_ n (hq.mem_iff.1 hn),h.ch,h.mn,h.sz⟩
theorem xh.put (h:xh K D st used free){n:Int}(hn:n∈used)(y:Y4):xh K (λj=>if j=n then some y else D j) st used free:=by
 refine⟨h.nd,h.rP,h.sD,λp b e => ?_,λm a => ?_,h.ch.rE λm a => ?_,h.mn,h.sz⟩
 ·replace e:(if p=n then some y else D p)=some b:=e
  by_cases d:p=n
  ·rw[d];exact List.mem_append_left _ hn
  ·rw[if_neg d] at e;exact h.sup p b e
 ·show (if m=n then some y else D m).isSome=true
  split
  ·rfl
  ·exact h.at_ m a
 ·have:m≠n:=λe=>(List.nodup_append.1 h.nd).2.2 n hn m a e.symm
  show (if m=n then some y else D m)=D m
  rw[if_neg this]
theorem xh.loose (h:xh K D st used free)(a:K.Ok):¬ jK K D:=λht=>by
 have:=ht ((used++free).map Int.toNat) (λp b e=>qP.2 ⟨p,h.sup p b e,rfl⟩);rw[qE,zH] at this;have h1:=h.sD;have h2:=h.sz;have d:=a.hP;have f:=a.rp;omega
theorem xh.pL {n:Int}(h:xh K D st (n::used) free):xh K (λj=>if j=n then some (kM st.first) else D j) {st with first:=n,many:=st.many+1} used (n::free):=by
 have hq:(used++n::free).Perm (n::used++free):=List.perm_middle;have f:∀m∈free,m≠n:=λm a e=>(List.nodup_append.1 h.nd).2.2 n (by simp) m a e.symm
 refine⟨hq.nodup_iff.2 h.nd,λm a=>h.rP m (hq.mem_iff.1 a),?_,λp b e=>hq.mem_iff.2 ?_,λm a => ?_,⟨rfl,st.first,?_,h.ch.rE λm a => ?_⟩,?_,h.sz⟩
 ·have:=h.sD;simp only[zL] at this ⊢;show _=st.size
  omega
 ·replace e:(if p=n then some (kM st.first) else D p)=some b:=e
  by_cases d:p=n
  ·rw[d];simp
  ·rw[if_neg d] at e;exact h.sup p b e
 ·show (if m=n then some (kM st.first) else D m).isSome=true
  split
  ·rfl
  ·exact h.at_ m (hq.mem_iff.1 a)
 ·simp
 ·show (if m=n then some (kM st.first) else D m)=D m
  rw[if_neg (f m a)]
 ·show st.many+1=_
  rw[h.mn];simp
theorem xh.old {n:Int}(h:xh K D st used (n::free))(hf:st.first=n){g:Int}(q:D n=some (kM g))(hc:Zm D g free)(y:Y4):xh K (λj=>if j=n then some y else D j) {st with first:=g,many:=st.many-1} (n::used) free:=by
 have hq:(n::used++free).Perm (used++n::free):=List.perm_middle.symm;have f:∀m∈free,m≠n:=λm a e=>by have h1:=(List.nodup_append.1 h.nd).2.1;exact(List.nodup_cons.1 h1).1 (e▸a)
 refine⟨hq.nodup_iff.2 h.nd,λm a=>h.rP m (hq.mem_iff.1 a),?_,λp b e=>hq.mem_iff.2 ?_,λm a => ?_,hc.rE λm a => ?_,?_,h.sz⟩
 ·have:=h.sD;simp only[zL] at this ⊢;show _=st.size
  omega
 ·replace e:(if p=n then some y else D p)=some b:=e
  by_cases d:p=n
  ·rw[d];simp
  ·rw[if_neg d] at e;exact h.sup p b e
 ·show (if m=n then some y else D m).isSome=true
  split
  ·rfl
  ·exact h.at_ m (hq.mem_iff.1 a)
 ·show (if m=n then some y else D m)=D m
  rw[if_neg (f m a)]
 ·show st.many-1=_
  rw[h.mn];simp
theorem xh.new (h:xh K D st used [])(hs:st.size<K.pg)(y:Y4):xh K (λj=>if j=st.size then some y else D j) {st with size:=st.size+1} (st.size::used) []:=by
 have f:∀m∈used,m≠st.size:=λm a e=>by have:=h.rP m (by simp[a]);omega
 have q:=h.ge;refine⟨?_,λm a => ?_,?_,λp b e => ?_,λm a => ?_,h.ch,h.mn,?_⟩
 ·have h1:=h.nd;rw[yE] at h1 ⊢;exact List.nodup_cons.2 ⟨λe=>f _ e rfl,h1⟩
 ·show 1<=m/\m<st.size+1
  rw[yE] at a;rcases qM.1 a with rfl|a
  ·omega
  ·have:=h.rP m (by simp[a]);omega
 ·have:=h.sD;simp only[zL,zY] at this ⊢;show _=st.size+1
  omega
 ·replace e:(if p=st.size then some y else D p)=some b:=e
  by_cases d:p=st.size
  ·simp[d]
  ·rw[if_neg d] at e;have:=h.sup p b e;simp at this ⊢;exact .inr this
 ·show (if m=st.size then some y else D m).isSome=true
  split
  ·rfl
  ·next hne =>
   refine h.at_ m ?_;simp at a ⊢;exact a.resolve_left hne
 ·show st.size+1<=K.pg
  omega
end
section
variable {W0 W W':World}{K:xH}{p t:Nat}{k:Int}{v v':yz}{st last st' last':qm}{mk mk':Value}{ms:List vK}{used free:List Int}
theorem YR (h:qe W0 K p t k v st last true mk ms W)(A:K.Ok)(hN:v.N<=700000)(a:xh K v.D st used free)(hr:(used.length:Int)+1<K.pg):pr Y3 49 #[.agg #[.pointer (some ⟨t,0,none⟩)]] W λe w'=>∃n v' st' f,e=Y0 (.int .i64 n)/\qe W0 K p t k v' st' last true mk ms w'/\ur K v v' n YO/\xh K v'.D st' (n::used) f/\n∉used/\st'.roots=st.roots/\qa K W v v'/\ze (qp K p v) W w':=by
 have aK:=A.hP;have aL:=A.P2;have aN:=a.sz;have G:=a.ge;have U:=a.sD;have V:=a.mn;have E:=a.loose A;have aI:((free.length:Nat):Int)<=1000:=by omega
 have Z:=a.ch.next (s:=st.size) (λn hn=>a.rP n (List.mem_append_right _ hn)) G;obtain⟨W1,F,q,-⟩:=YK W 92 #[.pointer (some ⟨t,0,none⟩)];have h1:=h.grow q;have P:=h1.tp;rw[F] at P
 have L:=Se h1.pa A hN ⟨G,by omega⟩ ⟨Z.1,by omega⟩ ⟨by omega,by omega⟩ (λhf=>by
  cases free with
  | nil=>exact absurd a.ch hf
  | cons m r =>
   obtain⟨e,g,B,_⟩:=a.ch;rw[e,B]
   rfl)
 have O:∀n x v' st',Nb K v v' st st' n x->∃f,x=0/\ur K v v' n YO/\xh K v'.D st' (n::used) f/\n∉used/\st'.roots=st.roots:=λn x v' st' hF=>by
  cases free with
  | nil =>
   have hf:st.first=0:=a.ch;simp only[zY] at U;obtain⟨h1,h2,j,d⟩:=hF.new hf (by omega) E;refine⟨[],h1,⟨hF.nn,hF.ii,hF.yy,hF.sz,by rw[h2];exact d⟩,?_,?_,by rw[j]⟩
   ·rw[d,j,h2];exact a.new (by omega) YO
   ·rw[h2];intro H;have:=a.rP st.size (List.mem_append_left _ H);omega
  | cons m r =>
   obtain⟨e,g,B,hc⟩:=a.ch;have aM:=a.rP m (by simp);have aJ:=hc.next (s:=st.size) (λn hn=>a.rP n (by simp[hn])) G;have hv:v.view K st.first.toNat=kM g:=by rw[ju,show ((st.first.toNat:Nat):Int)=m by omega,B];rfl
   obtain⟨h1,h2,j,d⟩:=hF.old (by omega) hv aJ (by omega) (by rw[V];simp only[zL];omega) E;rw[e] at h2 d;refine⟨r,h1,⟨hF.nn,hF.ii,hF.yy,hF.sz,by rw[h2];exact d⟩,?_,?_,by rw[j]⟩
   ·rw[d,j,h2];exact a.old e B hc YO
   ·rw[h2];exact λH=>(List.nodup_append.1 a.nd).2.2 m H m (by simp) rfl
 have aF:=pk F.symm;clear F h E a Z aI V U
 go_enter func49,ntmps49
 go_wp2_with fail
 rw[aF.out];refine L.mono ?_;rintro e w2 ⟨n,x,v',st',rfl,aA,hF,I,C⟩;obtain⟨f,rfl,aH,Q,X,aB⟩:=O n x v' st' hF;have h2:=h1.rH aA C I;have hG:ze (qp K p v) W w2:=(ze.below q).trans C;have aG:qa K W v v':=I.mono q.size;have aD:=pk Q;have aC:=pk X;have aE:=pk aB;clear aA hF I C L h1 P q O Q X aB
 go_wp2_with (first
  | (go_at_call 51;refine(jx _).mono ?_;rintro e w3 ⟨⟨_,rfl⟩,rfl⟩))
 go_ret;exact⟨n,v',st',f,rfl,h2,aH,aD.out,aC.out,aE.out,aG,hG⟩
end
section
variable {W0 W W' wx:World}{K:xH}{p t:Nat}{k:Int}{v v':yz}{st last:qm}{under:Bool}{mk:Value}{ms:List vK}{M:Nat->Prop}{x:yo}{Ac Ak Ai:Y5}{cc ck ci:Nat}
theorem qe.rZ (h:qe W0 K p t k v st last under mk ms W):∀j,qp K p v j->j<W.heap.size:=λj a=>by
 rcases a with rfl|a
 ·exact h.pa.pb.lt
 ·exact h.pa.ca.rZ j a
def kz (M:Nat->Prop)(n:Nat)(A:Y5):Prop:=0<n->∀g o,A=some ⟨g,o,none⟩->¬ M g
structure yf (W:World)(K:xH)(p:Nat)(v:yz)(x:yo)(Ac:Y5)(cc:Nat)(Ak:Y5)(ck:Nat)(Ai:Y5)(ci:Nat):Prop where
 is:XH W W.heap.size x Ac cc Ak ck Ai ci
 c:kz (qp K p v) x.cells.length Ac
 k:kz (qp K p v) x.keys.length Ak
 i:kz (qp K p v) x.kids.length Ai
theorem yp.rG {sz n c:Nat}{A:Y5}{cs:Y8}(h:yp W W.heap.size sz A n c cs)(hf:kz M n A)(d:ze M W W'):yp W' W'.heap.size sz A n c cs:=by
 refine⟨h.le,h.max,h.nil,h.len,h.one,λa => ?_⟩;obtain⟨g,o,e,f,r⟩:=h.rC a;refine⟨g,o,e,zO f d.size,λj u q => ?_⟩;rw[<-r j u q];exact World.cell?_of_block (w:=W) (d.block g f (hf a g o e))
theorem kz.next {sz n c:Nat}{A:Y5}{cs:Y8}(h:yp W W.heap.size sz A n c cs)(hf:kz (qp K p v) n A)(hn:qa K W v v'):kz (qp K p v') n A:=λf g o e a=>by
 obtain⟨j,o',d,q,_⟩:=h.rC f;rw[e] at d;injection d with d
 injection d with e1
 subst e1;rcases a with a|a
 ·exact hf f g o e (.inl a)
 ·rcases hn g a with a|a
  ·exact hf f g o e (.inr a)
  ·omega
theorem yf.rH (h:yf W K p v x Ac cc Ak ck Ai ci)(a:ze (qp K p v) W W')(hn:qa K W v v'):yf W' K p v' x Ac cc Ak ck Ai ci :=
 ⟨⟨h.is.c.rG h.c a,h.is.k.rG h.k a,h.is.i.rG h.i a⟩,h.c.next h.is.c hn,h.k.next h.is.k hn,h.i.next h.is.i hn⟩
theorem yf.grow (h:yf W K p v x Ac cc Ak ck Ai ci)(hB:ph W.heap.size W W'):yf W' K p v x Ac cc Ak ck Ai ci:=⟨h.is.grow hB,h.c,h.k,h.i⟩
theorem yf.new (h:qe W0 K p t k v st last under mk ms wx)(d:XH W W.heap.size x Ac cc Ak ck Ai ci)(hn:Kr wx.heap.size Ac Ak Ai):yf W K p v x Ac cc Ak ck Ai ci :=
 ⟨d,λ_ g o e a=>by have:=h.rZ g a;have:=hn g o (.inl e);omega,λ_ g o e a=>by have:=h.rZ g a;have:=hn g o (.inr (.inl e));omega,λ_ g o e a=>by have:=h.rZ g a;have:=hn g o (.inr (.inr e));omega⟩
theorem yf.own (h:qe W0 K p t k v st last under mk ms wx)(a:XH W W.heap.size x Ac cc Ak ck Ai ci)(hn:xm W wx.heap.size x Ac cc Ak ck Ai ci):yf W K p v x Ac cc Ak ck Ai ci:=yf.new h a hn.rows
theorem yp.rl {sz n c:Nat}{A:Y5}{cs:Y8}(h:yp W W.heap.size sz A n c cs){b:Nat}(j:W.heap.size<=b):kz (λk=>k=b) n A:=λd g o e r=>by
 obtain⟨f,o',a,q,_⟩:=h.rC d;rw[e] at a;injection a with a
 injection a with e1
 omega
theorem yf.box (a:yf W K p v x Ac cc Ak ck Ai ci)(h:yf W' K p v' x Ac cc Ak ck Ai ci){b:Nat}(d:W.heap.size<=b)(cs:Y7):yf (W'.setRow b cs) K p v' x Ac cc Ak ck Ai ci :=
 ⟨⟨h.is.c.rG (a.is.c.rl d) (qj _ _ _),h.is.k.rG (a.is.k.rl d) (qj _ _ _),h.is.i.rG (a.is.i.rl d) (qj _ _ _)⟩,h.c,h.k,h.i⟩
def YG (b:Nat)(x:yo)(Ac Ak Ai:Y5):Prop:=∀g o,(0<x.cells.length/\Ac=some ⟨g,o,none⟩∨0<x.keys.length/\Ak=some ⟨g,o,none⟩∨0<x.kids.length/\Ai=some ⟨g,o,none⟩)->b<=g
theorem YG.less {b a:Nat}(h:YG b x Ac Ak Ai)(d:a<=b):YG a x Ac Ak Ai:=λg o e=>zT d (h g o e)
theorem Kr.ge {b:Nat}(h:Kr b Ac Ak Ai):YG b x Ac Ak Ai:=λg o e=>h g o (by
 rcases e with e|e|e
 ·exact .inl e.2
 ·exact .inr (.inl e.2)
 ·exact .inr (.inr e.2))
theorem yf.pG (h:yf W' K p v' x Ac cc Ak ck Ai ci){b f:Nat}(d:YG f x Ac Ak Ai)(q:b<f)(cs:Y7):yf (W'.setRow b cs) K p v' x Ac cc Ak ck Ai ci :=
 ⟨⟨h.is.c.rG (M:=λk=>k=b) (λa g o e j=>by have:=d g o (.inl ⟨a,e⟩);omega) (qj _ _ _),h.is.k.rG (M:=λk=>k=b) (λa g o e j=>by have:=d g o (.inr (.inl ⟨a,e⟩));omega) (qj _ _ _),h.is.i.rG (M:=λk=>k=b) (λa g o e j=>by have:=d g o (.inr (.inr ⟨a,e⟩));omega) (qj _ _ _)⟩,h.c,h.k,h.i⟩
theorem yf.sU (h:yf W K p v x Ac cc Ak ck Ai ci){i:Nat}{m:Int}(a:x.kids[i]?=some m):∃g o,Ai=some ⟨g,o,none⟩/\g<W.heap.size/\W.cell? ⟨g,o+i,none⟩=some (.int .i64 m)/\i<x.kids.length:=by
 have f:i<x.kids.length:=by
  rcases nG i x.kids.length with h|h
  ·exact h
  ·rw[List.getElem?_eq_none h] at a;cases a
 obtain⟨g,o,e,d,j⟩:=h.is.i.rC (by omega);refine⟨g,o,e,d,j i _ ?_,f⟩;unfold Xr;rw[List.getElem?_map,a];rfl
end
def Oj (Q:Exit->Act->World->Prop):Exit->Act->World->Prop
 | .panic _,_,_=>False
 | e,a,w=>Q e a w
theorem Sv {Q:Exit->Act->World->Prop}{e:Exit}{a:Act}{w:World}(h:Oj Q e a w):Q e a w:=by
 cases e<;>first|exact h|exact h.elim
theorem Sw {Q:Exit->Act->World->Prop}{a:Act}{w:World}(h:Q .normal a w):Oj Q .normal a w:=h
theorem KF (p f:Value)(w:World):CallsD Y3 75 #[p,f] .returning w λe d w'=>e=Y0 (.tuple #[])/\d=.returning/\w'=w:=by
 refine callsD_of_wpS func75 rfl λa cs hu => ?_
 apply wpS_seq;apply wpS_region;simp[wpOpsS,go_sem,recoverD,hu,ntmps75,Exit.thenS];apply wpS_seq;apply wpS_region;simp[wpOpsS,go_sem,Exit.thenS];refine wpS_cond (t:=false) (by simp[Act.eval,Array.replicate]) ?_;simp only[oF,if_false];refine wpS_of_wp (wp_skip ?_);cases a
 simp_all [bodyPostS,results,Tryz.results75]
section
variable {W0 W W':World}{K:xH}{p t:Nat}{k:Int}{v v':yz}{st last st' last':qm}{mk mk':Value}{ms:List vK}
theorem qe.own (h:qe W0 K p t k v st last true mk ms W){b:Nat}{T:TypeId}{cs:Y7}(d:za W b T cs)(a:Qg T):¬ (b=p∨UX mk b):=λe=>by
 rcases e with e|e
 ·exact h.rD d a (.inl e)
 ·exact(h.mm.row.blk b e).1.rI d ⟨a.2.2.2.2.2.2.2.1,a.2.2.2.2.2.2.2.2⟩
theorem qe.sb (h:qe W0 K p t k v st last true mk ms W):¬ (t=p∨UX mk t):=λe=>by
 rcases e with e|e
 ·exact h.sI (.inl e)
 ·exact(h.mm.row.blk t e).1.rI h.tb (by decide)
structure wO (W0:World)(K:xH)(p t:Nat)(k:Int)(v:yz)(st last:qm)(mk:Value)(ms:List vK)(X:Nat->Prop)(W:World)(v':yz)(st':qm)(w1:World)(w':World):Prop where
 at_:∃mk',qe W0 K p t k v' st' last true mk' ms w'
 rE:∀b T cs,b<W.heap.size->za w1 b T cs->Qg T->za w' b T cs
 nm:qa K W v v'
 up:W.heap.size<=w'.heap.size
theorem Mx (h:qe W0 K p t k v st last true mk ms W)(hK:K.Ok)(bK:ms.length<=800)(F:Nat)(q1 q2:Value)(eg:∀args w,(dF F args).run Y3 w=.ok (.enter F args) w)(X:Nat->Prop)(hX:∀j,X j->j<W.heap.size)(Post:yz->qm->World->Prop)
  (HF:∀W' mk' M,(∀b T cs,za W b T cs->Qg T->za W' b T cs)->W.heap.size<=W'.heap.size->qe W0 K p t k v st last true mk' (ms++[⟨st,M,v.D⟩]) W'->pr Y3 F #[.agg #[.pointer (some ⟨t,0,none⟩)],q1,q2] W' λe w'=>∃v' st',(∃z,e=Y0 z)/\qe W0 K p t k v' st' last true mk' (ms++[⟨st,M,v.D⟩]) w'/\Post v' st' w'/\qa K W' v v'/\ze (λj=>qp K p v j∨X j) W' w') :
  pr Y3 43 #[.pointer (some ⟨t,0,none⟩),.func (.func F) #[] #[q1,q2]] W λe w'=>∃v' st' w1,e=Y0 (.int .i64 0)/\Post v' st' w1/\wO W0 K p t k v st last mk ms X W v' st' w1 w':=by
 obtain⟨W1,aB,aU,O,b4⟩:=Bp W 23 #[.pointer (some ⟨t,0,none⟩)] 27 #[.int .i64 0];have h1:=h.grow aU;have bT:=h.up;have bL:W.heap.size+2<=W1.heap.size:=by rw[aB,pq,pq];omega
 have aQ:=h1.tp;have aS:=O.boxed;rw[aB] at aQ aS;have HM:=Sd h1.pa hK h1.mm (by omega);have a9:=pk aB.symm;have aK:∀b T cs,za W b T cs->za W1 b T cs:=λb T cs d=>d.below aU d.lt
 have o2:=h1.own O (by decide);have o4:=h1.own b4 (by decide);have ot:=h1.sb;have a1:∀b T cs,za W1 b T cs->Qg T->¬ (b=p∨UX mk b):=λb T cs d B=>h1.own d B
 have a8:=h1.tb;clear aB h h1
 go_enter_defers func43,ntmps43
 go_wp2_with fail
 rw[a9.out];refine HM.mono ?_;rintro e w2 ⟨M,mk',rfl,a2,aV,I⟩;have h2:qe W0 K p t k v st last true mk' (ms++[⟨st,M,v.D⟩]) w2:=⟨a2,aV,I.blk a8 ot⟩;have aD:=I.blk O o2;have aF:=I.blk b4 o4;have bM:=I.size;obtain⟨W4,N⟩:=Z9 ((w2.alloc (.cells #[.int .i64 (ms.length:Int)] 3)).setCell ⟨W.heap.size+1,0,none⟩ (.int .i64 0));have H:ph w2.heap.size w2 (w2.alloc (.cells #[.int .i64 (ms.length:Int)] 3)):=jf _ _;have G:=aF.below H aF.lt;have aM:=aD.below H aD.lt;have aO:za (w2.alloc (.cells #[.int .i64 (ms.length:Int)] 3)) w2.heap.size 3 #[.int .i64 (ms.length:Int)]:=za.new w2 _ _;have h3:=h2.grow H;have bN:=H.size;have bC:=G.boxed;have bD:=G.free 0;have C:ze (λj=>j=W.heap.size+1) (w2.alloc (.cells #[.int .i64 (ms.length:Int)] 3)) W4:=by rw[N];exact ze.setCell _ _ _ rfl
 have h4:=h3.rF C G (by decide) (λm e=>by cases e) (by omega) (by decide);have V:za W4 (W.heap.size+1) 27 #[.int .i64 0]:=by rw[N];exact G.set 0 _
 have P:za W4 W.heap.size 23 #[.pointer (some ⟨t,0,none⟩)]:=C.blk aM (by omega);have aI:za W4 w2.heap.size 3 #[.int .i64 (ms.length:Int)]:=C.blk aO (by omega);have aT:=V.boxed;have aR:=P.boxed;have bO:=C.size;have aY:∀b T cs,za W b T cs->Qg T->za W4 b T cs:=λb T cs d B=>by have q:=I.blk (aK b T cs d) (a1 b T cs (aK b T cs d) B);exact C.blk (q.below H q.lt) (by have:=d.lt;omega)
 have aL:=HF W4 mk' M aY (by omega) h4;rw[N] at aT aR;have bA:=pk N.symm;clear N HF HM aK o2 o4 ot a1 a8 a2 aV O b4 aQ aS aD aF h2 h3 G aM aO
 go_wp2_with fail
 rw[bA.out];refine aL.mono ?_;rintro e w5 ⟨v',st',⟨z,rfl⟩,h5,bF,a0,L⟩;have nx:∀b T cs,za W4 b T cs->Qg T->W.heap.size<=b->¬ (qp K p v b∨X b):=λb T cs d B bI e=>by
  rcases e with e|e
  ·exact h4.rD d B e
  ·have:=hX b e;omega
 have aG:=L.blk V (nx _ _ _ V (by decide) (by omega));have aE:=L.blk P (nx _ _ _ P (by decide) (by omega));have aJ:=L.blk aI (nx _ _ _ aI (by decide) (by omega));have bP:=L.size;have s:ph w5.heap.size w5 w5.drew:=(pf _ _).drew;have r:=h5.grow s;have aC:=DZ r.pa r.mm ms.length (by rw[zH];simp) (by rw[zH];simp;omega);rw[List.take_left' rfl] at aC;have U:=aE.below s aE.lt;have aH:=aG.below s aG.lt;have aA:=aJ.below s aJ.lt;have E:w5.drew.cell? ⟨W.heap.size,0,none⟩=some (.pointer (some ⟨t,0,none⟩))/\w5.drew.cell? ⟨t,0,none⟩=some (.pointer (some ⟨p,0,none⟩))/\w5.drew.cell? ⟨w2.heap.size,0,none⟩=some (.int .i64 (ms.length:Int)):=⟨U.boxed,r.tp,aA.boxed⟩;have aZ:∀b T cs,za w5 b T cs->za w5.drew b T cs:=λb T cs d=>d.below s d.lt
 have bS:w5.heap.size<=w5.drew.heap.size:=s.size;have bE:qa K W v v':=a0.mono (by omega);clear h4 h5 L a0 nx V P aI aG aE aJ bC bD aT aR aY aL C s eg hX
 go_wp2_with fail
 refine Code.wp_mono (Q:=Oj _) (λe a w h=>Sv h) ?_;refine zb.st (λW':World=>W'.cell? ⟨W.heap.size,0,none⟩=some (.pointer (some ⟨t,0,none⟩))/\W'.cell? ⟨t,0,none⟩=some (.pointer (some ⟨p,0,none⟩))/\W'.cell? ⟨w2.heap.size,0,none⟩=some (.int .i64 (ms.length:Int))) 99 ?_;generalize w5.drew=wd at *;refine zb.q0 0 (.pointer (some ⟨t,0,none⟩)) E ?_;refine zb.q0 1 (.pointer (some ⟨t,0,none⟩)) E ?_;refine zb.q0 2 (.pointer (some ⟨t,0,none⟩)) E ?_;refine zb.q0 3 (.pointer (some ⟨p,0,none⟩)) E ?_;refine zb.q0 4 (.int .i64 (ms.length:Int)) E ?_;simp only[Z8];refine zb.n 5 ?_;refine zb.oC 78 #[.tmp 25,.tmp 26] #[45,3] #[.pointer (some ⟨p,0,none⟩),.int .i64 (ms.length:Int)] (aC.mono ?_) (zb.eo func78);rintro e w6 ⟨a4,rfl,a3,aW,A⟩;have a5:¬ W.heap.size=p:=λe=>r.rD U (by decide) (.inl e)
 have a6:¬ W.heap.size+1=p:=λe=>r.rD aH (by decide) (.inl e)
 have a7:¬ w2.heap.size=p:=λe=>r.rD aA (by decide) (.inl e)
 have h6:qe W0 K p t k v' st' last true a4 ms w6:=⟨a3,aW,A.blk r.tb (λe=>r.sI (.inl e))⟩;have Z:=A.blk aH a6;have aN:=A.blk U a5;have aP:=A.blk aA a7;have aX:w6.cell? ⟨W.heap.size,0,none⟩=some (.pointer (some ⟨t,0,none⟩))/\w6.cell? ⟨t,0,none⟩=some (.pointer (some ⟨p,0,none⟩))/\w6.cell? ⟨w2.heap.size,0,none⟩=some (.int .i64 (ms.length:Int)):=⟨aN.boxed,h6.tp,aP.boxed⟩;refine⟨_,rfl,λ_=>aX,zb.dn ?_⟩;simp only[Z8];have bH:=Z.boxed;have f46:=Z.free 0;have bQ:=A.size;have g7:ze (λj=>j=W.heap.size+1) w6 (w6.setCell ⟨W.heap.size+1,0,none⟩ (.int .i64 0)):=ze.setCell _ _ _ rfl;have h7:=h6.rF g7 Z (by decide) (λm e=>by cases e) (by omega) (by decide);have bB:=Z.set 0 (.int .i64 0);have bG:∀b T cs,b<W.heap.size->za w5 b T cs->Qg T->za (w6.setCell ⟨W.heap.size+1,0,none⟩ (.int .i64 0)) b T cs:=λb T cs bJ d B=>by have q:=aZ b T cs d;exact g7.blk (A.blk q (λe=>r.rD q B (.inl e))) (by omega)
 have bR:=g7.size;clear aX E aN aP U aH aA aC aZ r h6 a3 aW A a5 a6 a7 g7;refine Sw ?_;go_wp2;refine leaves_cons (f:=75) (args:=#[.pointer (some ⟨W.heap.size+1,0,none⟩),.func (.func 76) #[] #[.pointer (some ⟨W.heap.size,0,none⟩),.pointer (some ⟨w2.heap.size,0,none⟩)]]) (by simp) (by simp[go_sem]) ?_;refine(KF _ _ _).mono ?_;rintro e u' wz ⟨rfl,rfl,rfl⟩;exact⟨_,yi rfl (Zr (p:=⟨W.heap.size+1,0,none⟩) 4 rfl (by simp[go_sem]) bB.boxed),v',st',w5,rfl,bF,⟨⟨a4,h7⟩,bG,bE,by omega⟩⟩
end
section
variable {W0 W W':World}{K:xH}{p t:Nat}{k:Int}{v v':yz}{st last st' last':qm}{under:Bool}{mk mk':Value}{ms:List vK}
theorem Fs (h:qv W0 K p v st last under mk W)(d:vc W0 K v ms mk W)(hs:¬ st.size=0)(i:Nat)(n:Int)(j:st.roots[i]?=some n):pr Y3 17 #[.pointer (some ⟨p,0,none⟩),.int .i64 (i:Int)] W λe w'=>∃t,e=Y0 (.tuple #[.pointer (some ⟨t,0,none⟩),.int .i64 0])/\qe W0 K p t (i:Int) v st last under mk ms w'/\ph W.heap.size W w':=by
 have r:=Sc h;have q:=Vv h i n j;obtain⟨W1,f,a,A⟩:=YK W 89 #[.pointer (some ⟨p,0,none⟩),.int .i64 (i:Int)];have B:qe W0 K p W.heap.size (i:Int) v st last under mk ms W1:=⟨h.grow a,d.grow a,A⟩;have s:=pk f.symm;clear f h d j
 go_enter func17,ntmps17
 go_wp2_with (first
  | (go_at_call 40;refine r.mono ?_;rintro e C ⟨rfl,rfl⟩)
  | (go_at_call 41;refine q.mono ?_;rintro e C ⟨rfl,rfl⟩))
 rw[s.out];exact oE (results_tmp2 rfl _ _ _) rfl ⟨_,rfl,B,a⟩
end
end
section
open Go Go.RowKit vA Go.Shelf

end
section
open Go Go.RowKit vA
theorem VS:∀(l:List xK) (i:Nat),(vV l).take (i*4)=vV (l.take i)
 | [],i=>by simp[vV]
 | c::l,0=>by simp[vV]
 | c::l,i+1=>by have e:vV (c::l)=zm c++vV l:=rfl;have a:(zm c).length=4:=rfl;rw[e,List.take_append,a,show (i+1)*4-4=i*4 by omega,VS l i,qB (by rw[a];omega)];rfl
theorem VT:∀(l:List xK) (i:Nat),(vV l).drop (i*4)=vV (l.drop i)
 | [],i=>by simp[vV]
 | c::l,0=>by simp[vV]
 | c::l,i+1=>by have e:vV (c::l)=zm c++vV l:=rfl;have a:(zm c).length=4:=rfl;rw[e,List.drop_append,a,show (i+1)*4-4=i*4 by omega,VT l i,dm (by rw[a];omega)];rfl
theorem EA (l m:List xK):vV (l++m)=vV l++vV m:=by unfold vV;rw[qW,yF]
def QC (l:List xK)(i:Nat)(c:xK):List xK:=l.take i++c::l.drop i
theorem XU (l:List xK)(i:Nat)(c:xK)(a:i<=l.length):(QC l i c).length=l.length+1:=by
 unfold QC;rw[zH,zL,zZ,qD];omega
theorem NP (l:List xK)(i:Nat)(c:xK):vV (QC l i c)=(vV l).take (i*4)++zm c++(vV l).drop (i*4):=by
 rw[VS,VT];unfold QC;rw[EA,qO];rfl
theorem Fq (w:World)(A:Y5)(c:Nat)(l:List xK)(h:yp w w.heap.size 4 A l.length c (vV l))(hl:l.length<=100000)(i:Nat)(I:i<=l.length)(g2:Nat)(x:xK)(q:za w g2 94 (zm x).toArray):pr Y3 88 #[.slice A l.length c,.int .i64 (i:Int),.slice (some ⟨g2,0,none⟩) 1 1] w λe w'=>∃r c',e=Y0 (.slice r (l.length+1) c')/\w'.ownsRow w.heap.size 94 4 (.slice r (l.length+1) c') (l.length+1) (vV (QC l i x))/\ph w.heap.size w w':=by
 have f:=Xf w A c l h (by omega);unfold Us at f;have H:=q.lt
 go_enter func88,ntmps88
 go_wp2_with fail
 refine f.mono ?_;rintro e N ⟨C,c2,rfl,own2,a⟩;have s:=q.below a H;have L:(dW C l.length c2).ownBlock≠some g2:=λe=>by have:=zh own2 g2 e;omega
 have j:=Lh (i:=i) own2 a.size I hl s rfl (by
  intro u hu;simp[zm] at hu
  rcases hu with rfl|rfl|rfl|rfl<;>rfl) (Ya l) L
 rw[<-NP] at j;have G:=zh own2;clear f h q s own2
 go_wp2_with fail
 refine j.mono ?_;rintro e w3 ⟨v3,rfl,B,F⟩;have E:ph w.heap.size w w3:=a.grown F a.size G;obtain⟨d,c3,rfl⟩:∃d c3,v3=.slice d (l.length+1) c3:=by
  rcases B.2 with⟨rfl,e⟩|⟨g,cap,cur,e,_⟩
  ·omega
  ·exact⟨_,_,e⟩
 clear j;go_wp2;go_ret;exact⟨d,c3,rfl,B,E⟩
theorem Ve {ρ:py->Value}{w:World}{o:oM}{x:py}(m:xK)(a:o.op=.buildSlice 65 1 #[(0,x)])(h1:ρ x=.agg (zm m).toArray):(oB ρ o).run Y3 w=.ok (.value (.slice (some ⟨w.heap.size,0,none⟩) 1 1)) (w.alloc (.cells (zm m).toArray 94)):=by
 unfold zm at *;simp[oB,a,h1,go_sem,pv]
section
variable {W0 W W':World}{K:xH}{p t:Nat}{k:Int}{v v':yz}{st last st' last':qm}{mk mk':Value}{ms:List vK}
end
section
variable {W0 W W':World}{K:xH}{p t:Nat}{v v':yz}{st last st' last':qm}{mk mk':Value}{ms:List vK}
end
section
variable {W0 W W':World}{K:xH}{p t:Nat}{k:Int}{v v':yz}{st last st' last':qm}{mk mk':Value}{ms:List vK}
theorem Fw (h:qe W0 K p t k v st last true mk ms W)(hK:K.Ok)(hN:v.N<=800000)(n:Int)(hn:1<=n/\n<st.size)(hP:n<(K.P:Int))(hT:¬ jK K v.D)(x:yo)(Ac:Y5)(cc:Nat)(Ak:Y5)(ck:Nat)(Ai:Y5)(ci:Nat)(V:XH W W.heap.size x Ac cc Ak ck Ai ci)(hl:x.cells.length<=1000)(O:x.keys.length<=1000)(Q:x.kids.length<=1001)(I:yj x)(L:(qb x).length<=512):pr Y3 47 #[.agg #[.pointer (some ⟨t,0,none⟩)],.int .i64 n,.agg (zu x Ac cc Ak ck Ai ci)] W λe w'=>∃v',(∃u,e=Y0 u)/\qe W0 K p t k v' st last true mk ms w'/\ur K v v' n (vE x)/\qa K W v v'/\ze (qp K p v) W w':=by
 obtain⟨W1,d⟩:=Z9 ((W.alloc (.cells #[.pointer (some ⟨t,0,none⟩)] 92)).alloc (.cells (zu x Ac cc Ak ck Ai ci) 69));have f:ph W.heap.size W W1:=by rw[d];exact VX _ _ _
 have s:za W1 W.heap.size 92 #[.pointer (some ⟨t,0,none⟩)]:=by rw[d];exact(za.new W _ _).alloc _
 have b5:za W1 (W.heap.size+1) 69 (zu x Ac cc Ak ck Ai ci):=by have:=za.new (W.alloc (.cells #[.pointer (some ⟨t,0,none⟩)] 92)) 69 (zu x Ac cc Ak ck Ai ci);rw[pq] at this;rw[d];exact this
 have h1:=h.grow f;have B:=V.grow f;have q:=Ou W1 x Ac cc Ak ck Ai ci B hl O Q I L;have r:∀j,ph W1.heap.size W1 j->_:=λj a=>jA (h1.grow a) hK hN n hn hP hT x Ac cc Ak ck Ai ci (B.grow a) hl O Q I L
 obtain⟨N,A⟩:=Z9 (zu x Ac cc Ak ck Ai ci);have H:N.size=4:=by rw[A];rfl
 simp only[<-A] at q r b5 d ⊢;have X:=pk d.symm;clear d V B A h h1
 go_enter func47,ntmps47
 go_wp2_with (first
  | (rw[X.out];refine yV rfl 69 (.tmp 5) rfl (W.heap.size+1) rfl zj b5 H ?_))
 refine q.mono ?_;rintro e j ⟨rfl,a⟩;have C:=r j a;have E:=b5.below a b5.lt;have Z:=(s.below a s.lt).boxed;have F:=f.trans (a.mono f.size);clear q r s b5
 go_wp2_with (first
  | (refine yV rfl 69 (.tmp 5) rfl (W.heap.size+1) rfl zj E H ?_))
 refine C.mono ?_;rintro e w3 ⟨v',⟨z,rfl⟩,h3,aB,U,G⟩;have hG:ze (qp K p v) W w3:=(ze.below F).trans G;have aA:qa K W v v':=U.mono F.size;clear C E Z G U;go_wp2;refine oE (dS rfl _ _ _) rfl ?_;exact⟨v',⟨_,rfl⟩,h3,aB,aA,hG⟩
end
section
variable {W0 W W':World}{K:xH}{p t:Nat}{v v':yz}{st last st' last':qm}{mk mk':Value}{ms:List vK}
end
section
variable {W0 W W':World}{K:xH}{p t:Nat}{v v':yz}{st last st' last':qm}{mk mk':Value}{ms:List vK}
end
section
variable {W0 W W':World}{K:xH}{p t:Nat}{v v':yz}{st last st' last':qm}{under:Bool}{mk mk':Value}{ms:List vK}
end

section
variable {W0 W W':World}{K:xH}{p t:Nat}{v v':yz}{st last st' last':qm}{under:Bool}{mk mk':Value}{ms:List vK}
end
theorem PT (w:World)(s:Value)(d u:ByteArray):pr Y3 87 #[.agg #[s],.agg (zm ⟨d,u,0,0⟩).toArray] w λe w'=>(∃z,e=Y0 z)/\ph w.heap.size w w':=by
 obtain⟨W1,a⟩:=Z9 (((w.alloc (.cells #[s] 92)).alloc (.cells #[.string d,.string u,.int .i64 0,.int .i64 0] 94)).alloc (.cells #[.slice none 0 0] 67));have A:ph w.heap.size w W1:=by rw[a];exact Za _ _ _ _
 have j:za W1 w.heap.size 92 #[s]:=by rw[a];exact((za.new w _ _).alloc _).alloc _
 have b3:za W1 (w.heap.size+1) 94 #[.string d,.string u,.int .i64 0,.int .i64 0]:=by have:=(za.new (w.alloc (.cells #[s] 92)) 94 #[.string d,.string u,.int .i64 0,.int .i64 0]).alloc (.cells #[.slice none 0 0] 67);rw[pq] at this;rw[a];exact this
 have b4:za W1 (w.heap.size+1+1) 67 #[.slice none 0 0]:=by have:=za.new ((w.alloc (.cells #[s] 92)).alloc (.cells #[.string d,.string u,.int .i64 0,.int .i64 0] 94)) 67 #[.slice none 0 0];rw[pq,pq] at this;rw[a];exact this
 have q:=j.boxed;rw[a] at q;have f:=Mt W1 s (.func (.func 143) #[] #[.pointer (some ⟨w.heap.size+1+1,0,none⟩)]) d u;unfold zm at f ⊢;have C:=pk a.symm;have h:=b3;rw[a] at h;clear a
 go_enter func87,ntmps87
 go_wp2_with (first
  | (refine xA qt h ?_))
 rw[C.out];refine f.mono ?_;rintro e F ⟨⟨z,rfl⟩,B⟩;have E:=b4.below B b4.lt;have G:=E.boxed;have r:=A.trans (B.mono A.size);clear f j b3 h b4 q;go_wp2
 go_loopw [13] (λi wr=>i=.int .i64 0/\wr=F) (λ_ _=>0)
 case atStart=>exact⟨rfl,rfl⟩
 case round =>
  obtain⟨rfl,rfl⟩:=hrel;go_wp2
  first
   | (go_end0;exact⟨⟨_,rfl⟩,r⟩)
   | (refine oE (dS rfl _ _ _) rfl ?_;exact⟨⟨_,rfl⟩,r⟩)
section
variable {W0 W W':World}{K:xH}{p t:Nat}{k:Int}{v v':yz}{st last st' last':qm}{mk mk':Value}{ms:List vK}
end
section
variable {W0 W W':World}{K:xH}{p t:Nat}{k:Int}{v v':yz}{st last st' last':qm}{mk mk':Value}{ms:List vK}{x y:yo}{Ac Ak Ai Bc Bk Bi:Y5}{cc ck ci bc bk bi:Nat}
theorem Ba (W:World)(a b c d:Y7):∃f,f=(((W.alloc (.cells a 92)).alloc (.cells b 69)).alloc (.cells c 69)).alloc (.cells d 69)/\ph W.heap.size W f/\za f W.heap.size 92 a/\za f (W.heap.size+1) 69 b/\za f (W.heap.size+1+1) 69 c/\za f (W.heap.size+1+1+1) 69 d/\f.heap.size=W.heap.size+1+1+1+1:=by
 refine⟨_,rfl,(Za _ _ _ _).alloc (by simp[pq];omega) _,(((za.new W _ _).alloc _).alloc _).alloc _,?_,?_,?_,by simp[pq]⟩
 ·have:=((za.new (W.alloc (.cells a 92)) 69 b).alloc (.cells c 69)).alloc (.cells d 69)
  rwa [pq] at this
 ·have:=(za.new ((W.alloc (.cells a 92)).alloc (.cells b 69)) 69 c).alloc (.cells d 69)
  rwa [pq,pq] at this
 ·have:=za.new (((W.alloc (.cells a 92)).alloc (.cells b 69)).alloc (.cells c 69)) 69 d
  rwa [pq,pq,pq] at this
theorem Mr (h:qe W0 K p t k v st last true mk ms W)(hK:K.Ok)(hN:v.N<=800000)(hT:¬ jK K v.D)(hx:yf W K p v x Ac cc Ak ck Ai ci)(hy:yf W K p v y Bc bc Bk bk Bi bi)(i:Nat)(m:Int)(L:x.kids[i]?=some m)(hn:1<=m/\m<st.size)(hP:m<(K.P:Int))
  (hl:y.cells.length<=1000) (aR:y.keys.length<=1000) (aS:y.kids.length<=1001) (hR:yj y) (aQ:(qb y).length<=512) :
  pr Y3 85 #[.agg #[.pointer (some ⟨t,0,none⟩)],.agg (zu x Ac cc Ak ck Ai ci),.int .i64 (i:Int),.agg (zu y Bc bc Bk bk Bi bi)] W λe w'=>∃v',e=Y0 (.agg (zu x Ac cc Ak ck Ai ci))/\yf w' K p v' x Ac cc Ak ck Ai ci/\qe W0 K p t k v' st last true mk ms w'/\ur K v v' m (vE y)/\qa K W v v'/\ze (qp K p v) W w':=by
 have bF:=h.up;obtain⟨E,aB,F,b4,b5,b7,b8,bE⟩:=Ba W #[.pointer (some ⟨t,0,none⟩)] (zu x Ac cc Ak ck Ai ci) (zu y Bc bc Bk bk Bi bi) #[.bool false,.slice none 0 0,.slice none 0 0,.slice none 0 0];have h1:=h.grow F;have aE:=hx.grow F;have aF:=hy.grow F;have O:=Ou E y Bc bc Bk bk Bi bi aF.is hl aR aS hR aQ;have Q:∀a,ph E.heap.size E a->_:=λa G=>jA (h1.grow G) hK hN m hn hP hT y Bc bc Bk bk Bi bi (aF.grow G).is hl aR aS hR aQ
 have a7:=h1.rD b4 (by decide);have a8:=h1.rD b5 (by decide);have a9:=h1.rD b7 (by decide);have bA:=h1.rD b8 (by decide);obtain⟨g,o,eA,hg,hc,hi⟩:=aE.sU L;have bC:(i:Int)<(x.kids.length:Int):=by omega
 have bD:(0:Int)<=(i:Int):=by omega
 obtain⟨X,C⟩:=Z9 (zu x Ac cc Ak ck Ai ci);obtain⟨Y,aD⟩:=Z9 (zu y Bc bc Bk bk Bi bi);have aC:X.size=4:=by rw[C];rfl
 have aO:Y.size=4:=by rw[aD];rfl
 have a2:∀u∈X.toList,u.oneCell'=true:=by rw[C];exact zy rfl rfl rfl rfl
 have aN:X[3]?=some (.slice (some ⟨g,o,none⟩) x.kids.length ci):=by rw[C,eA];rfl
 have bB:∀m,X[0]? ≠ some (.int .u64 m):=λm e=>by rw[C] at e;cases e
 simp only[<-C,<-aD] at O Q b5 b7 aB ⊢;have aV:=pk aB.symm;have aW:=hx;clear aB hx hy aF C aD h
 go_enter func85,ntmps85
 go_wp2_with (first
  | (rw[aV.out];refine yV rfl 69 (.tmp 7) rfl (W.heap.size+1+1) rfl zj b7 aO ?_))
 refine O.mono ?_;rintro e a ⟨rfl,G⟩;have aL:ph a.heap.size a a.drew:=(pf _ _).drew;have q:ph E.heap.size E a.drew:=G.trans (aL.mono G.size);have aG:=Q a.drew q;have U:=b4.below q b4.lt;have V:=b5.below q b5.lt;have Z:=b7.below q b7.lt;have aI:=b8.below q b8.lt;have a6:=aE.grow q;have aP:a.drew.cell? ⟨g,o+i,none⟩=some (.int .i64 m):=(q.cell (p:=⟨g,o+i,none⟩) hg).trans hc;have aJ:a.drew.cell? ⟨W.heap.size+1,3,none⟩=some (.slice (some ⟨g,o,none⟩) x.kids.length ci):=by rw[V.cell];exact aN
 have r:za a.drew W.heap.size 92 #[.pointer (some ⟨t,0,none⟩)]/\a.drew.cell? ⟨W.heap.size+1,3,none⟩=some (.slice (some ⟨g,o,none⟩) x.kids.length ci)/\a.drew.cell? ⟨g,o+i,none⟩=some (.int .i64 m)/\za a.drew (W.heap.size+1+1) 69 Y:=⟨U,aJ,aP,Z⟩;clear O Q b4 b5 b7 b8 aE hc aL
 go_wp2_with fail
 refine zb.st (λW':World=>za W' W.heap.size 92 #[.pointer (some ⟨t,0,none⟩)]/\W'.cell? ⟨W.heap.size+1,3,none⟩=some (.slice (some ⟨g,o,none⟩) x.kids.length ci)/\W'.cell? ⟨g,o+i,none⟩=some (.int .i64 m)/\za W' (W.heap.size+1+1) 69 Y) 99 ?_;generalize a.drew=wd at *;refine zb.t0 0 (.agg #[.pointer (some ⟨t,0,none⟩)]) rfl r (λW ⟨s,d,f,A⟩=>by exact QT XS s rfl rfl rfl) ?_;refine zb.q0 1 (.pointer (some ⟨W.heap.size+1,3,none⟩)) r ?_;refine zb.q0 2 (.slice (some ⟨g,o,none⟩) x.kids.length ci) r ?_;refine zb.q0 3 (.int .i64 (i:Int)) r ?_;refine zb.q0 4 (.pointer (some ⟨g,o+i,none⟩)) r ?_;refine zb.q0 5 (.int .i64 m) r ?_;simp only[Z8];refine zb.t0 6 (.agg Y) rfl r (λW ⟨s,d,f,A⟩=>by exact QU zj A aO rfl rfl) ?_;simp only[Z8];refine zb.n 7 ?_;refine zb.oC 50 #[.tmp 16,.tmp 21,.tmp 22] #[92,3,69] #[.agg #[.pointer (some ⟨t,0,none⟩)],.int .i64 m,.agg Y] (aG.mono ?_) (zb.eo func50);rintro e w3 ⟨v',⟨z,rfl⟩,h3,a4,aT,B⟩;have aX:=B.blk U a7;have aH:=B.blk V a8;have aY:=B.blk Z a9;have aA:=B.blk aI bA;have aU:=a6.rH B aT;have aM:za w3 W.heap.size 92 #[.pointer (some ⟨t,0,none⟩)]/\w3.cell? ⟨W.heap.size+1,3,none⟩=some (.slice (some ⟨g,o,none⟩) x.kids.length ci)/\w3.cell? ⟨g,o+i,none⟩=some (.int .i64 m)/\za w3 (W.heap.size+1+1) 69 Y:=by
  refine⟨aX,by rw[aH.cell];exact aN,?_,aY⟩;obtain⟨g',o',I,_,a3,_⟩:=aU.sU L;rw[eA] at I;injection I with I
  injection I with d f
  subst d f;exact a3
 refine⟨_,rfl,λ_=>aM,zb.dn ?_⟩;simp only[Z8];have aK:ph W.heap.size W wd:=F.trans (q.mono F.size);have H:ze (qp K p v) W w3:=(ze.below aK).trans B;have a1:qa K W v v':=aT.mono aK.size;have h4:=h3.rF (qj w3 (W.heap.size+1+1+1) X) aA (by decide) (λm e=>by cases e) (by omega) (by decide);have aZ:=aA.setRow X;have a5:yf (w3.setRow (W.heap.size+1+1+1) X) K p v' x Ac cc Ak ck Ai ci:=aW.box aU (by omega) X;have a0:ze (qp K p v) W (w3.setRow (W.heap.size+1+1+1) X) :=
  ⟨H.os,H.tape,H.output,by simp[World.setRow];exact H.size,λj hj L=>(setRow_other _ _ j _ (by omega)).trans (H.block j hj L)⟩
 clear r aM U V Z aI aG aP aJ
 go_wp2_with (first
  | (refine yV rfl 69 (.tmp 5) rfl (W.heap.size+1) rfl zj aH aC ?_)
  | (refine vW zj aA aC a2 ?_))
 exact oQ (yi rfl (xF (g:=W.heap.size+1+1+1) 8 rfl zj aZ aC)) rfl ⟨v',rfl,a5,h4,a4,a1,a0⟩
end
theorem vR:Zj 66 9 1 16 (.string oR):=⟨underlying66,by kernel_rfl,by kernel_rfl,by decide⟩
def FN (w:World)(g n i:Nat)(cs cx:Y8)(e:Ending)(w':World):Prop:=∃h c',e=Y0 (.slice (some ⟨h,0,none⟩) (n+1) c')/\(h=g∨w.heap.size<=h)/\n+1<=c'/\c'<=oo/\(∃cur',za w' h 9 cur'/\cur'.size=c'/\cur'.toList.take ((n+1))=cs.take (i)++cx++cs.drop (i))/\w.grownBy w' (some g)
theorem FY {ρ:py->Value}{w w':World}{o:oM}{x y:py}{u v r:Value}(a:o.op=.call {callee:=.builtin .copy,args:=#[x,y],argTypes:=#[66,66]})(h1:ρ x=u)(h2:ρ y=v)(d:(dI #[66,66] o.type #[u,v]).run Y3 w=.ok r w'):(oB ρ o).run Y3 w=.ok (.value r) w':=by
 unfold oB;simp only[a,resolve,invoke,builtin,oY,oU,oO,zI,zJ,zN,h1,h2,d]
theorem Bw {ρ:py->Value}{w w':World}{o:oM}{x y:py}{u v r:Value}(a:o.op=.call {callee:=.builtin .append,args:=#[x,y],argTypes:=#[66,3]})(h1:ρ x=u)(h2:ρ y=v)(d:(Builtin.append_ #[66,3] o.type #[u,v]).run Y3 w=.ok r w'):(oB ρ o).run Y3 w=.ok (.value r) w':=by
 unfold oB;simp only[a,resolve,invoke,builtin,oY,oU,oO,zI,zJ,zN,h1,h2,d]
section
variable {w:World}{g c n i g2:Nat}{cur:Y7}{cs cx:Y8}
theorem Io (H:za w g 9 cur)(A:cur.size=c)(s:cs=cur.toList.take (n))(hi:i<n)(aC:n+1<=c)(aF:c<=oo)(hn:n<=100000)
  (B:za w g2 9 cx.toArray) (aI:cx.length=1) (V:∀u∈cx,u.oneCell'=true) (U:∀u∈cs,u.oneCell'=true) (aL:g2≠g) :
  pr Y3 212 #[.slice (some ⟨g,0,none⟩) n c,.int .i64 (i:Int),.slice (some ⟨g2,0,none⟩) 1 1] w (FN w g n i cs cx):=by
 have aG:cs.length=n:=by rw[s,zZ,zW,A];omega
 have aA:(cs.drop (i)).length=(n-i):=by rw[qD,aG]
 have E:za w.drew g 9 cur:=H;have aB:∀ty h O,(dI #[66,66] ty #[.slice (some ⟨g,(i+1),none⟩) (n+1-(i+1)) h,.slice (some ⟨g,i,none⟩) (n+1-i) O]).run Y3 w.drew=.ok (mX ((n-i:Nat):Int)) (w.drew.setRow g (cur.toList.take ((i+1))++cs.drop (i)++cur.toList.drop ((i+1)+(cs.drop (i)).length)).toArray):=λty h O =>
  ji vR w.drew ty g ((i+1)) (n+1-(i+1)) h ⟨g,i,none⟩ (n+1-i) O (n-i) cur 9 (cs.drop (i)) E (by simp only[gJ];split<;>omega) aA (λj u r=>by
   rw[dX,E.cell];rw[dL,s,yH] at r;split at r
   ·simpa using r
   ·cases r) (by rw[aA,A];omega) (λu hu=>U u (qV hu))
 have aM:∀lb cb,(dF 271 #[.slice (some ⟨g2,0,none⟩) 1 1,.slice (some ⟨g,(i+1),none⟩) lb cb]).run Y3 w=.ok (.value (.bool false)) w:=λlb cb=>by
  rw[run_callFunc_extern func271 (by kernel_rfl) (by kernel_rfl) (by kernel_rfl) (e:=mE #[66,66] #[4]) (by kernel_rfl),
   mi w 66 4 9 vR.rX 1 (λw=>YC vR w) ⟨g2,0,none⟩ ⟨g,(i+1),none⟩ 1 1 lb cb aL 9 9 cx.toArray.size cur.size (by simp[mW,show w.heap[g2]?=_ from B]) (by simp[mW,show w.heap[g]?=_ from H]) (by rw[A];omega) (by simp[gQ,show w.heap[g2]?=_ from B]) (by simp[gQ,show w.heap[g2]?=_ from B])]
  rfl
 obtain⟨P,G,Q⟩:=SH (L:=cur.toList) (X:=cs.take (i)) (Y:=cs.drop (i)) (C:=cx) (i:=i) (n:=n) aI (by rw[s,db];congr 1;omega) (by rw[s]) (by omega) (by rw[zW,A];omega);have F:za (w.drew.setRow g (cur.toList.take ((i+1))++cs.drop (i)++cur.toList.drop ((i+1)+(cs.drop (i)).length)).toArray) g 9 (cur.toList.take ((i+1))++cs.drop (i)++cur.toList.drop ((i+1)+(cs.drop (i)).length)).toArray:=E.setRow _;have N:za (w.drew.setRow g (cur.toList.take ((i+1))++cs.drop (i)++cur.toList.drop ((i+1)+(cs.drop (i)).length)).toArray) g2 9 cx.toArray:=za.rB (show za w.drew g2 9 cx.toArray from B) (by omega) _;generalize aD:cur.toList.take ((i+1))++cs.drop (i)++cur.toList.drop ((i+1)+(cs.drop (i)).length)=a at *;have I:w.grownBy (w.drew.setRow g a.toArray) (some g):=zz (yP w _) (vC _ _ _);obtain⟨f,Z⟩:=Z9 (w.drew.setRow g a.toArray);rw[<-Z] at aB F N I;have aH:∀ty h,(dI #[66,66] ty #[.slice (some ⟨g,i,none⟩) (n+1-i) h,.slice (some ⟨g2,0,none⟩) 1 1]).run Y3 f=.ok (mX 1) (f.setRow g (a.take (i)++cx++a.drop (i+cx.length)).toArray):=λty h =>
  ji vR f ty g (i) (n+1-i) h ⟨g2,0,none⟩ 1 1 1 a.toArray 9 cx F (by simp only[gJ];split<;>omega) (by omega) (λj u r=>by
   rw[dX,N.cell]
   simpa using r) (by have:=G;simp only[zR,zW] at this ⊢;omega) V
 have aK:w.grownBy (f.setRow g (a.take (i)++cx++a.drop (i+cx.length)).toArray) (some g):=zz I (vC _ _ _);have aJ:=F.setRow (a.take (i)++cx++a.drop (i+cx.length)).toArray;generalize aE:a.take (i)++cx++a.drop (i+cx.length)=L2 at *;have E3:=pk (my G Q);have E1:=pk P;clear P G Q aD aE Z s H E B F N I V U;have d:True:=trivial;have aP:¬ ((c:Int)<(n:Int)+1):=by omega
 have aN:IntKind.i64.wrap ((n:Int)+1)=(n:Int)+1:=zg _;have aO:IntKind.i64.wrap ((i:Int)+1)=(i:Int)+1:=zg _
 go_enter func212,ntmps212
 go_wp2_with (first
  | (refine zr rfl (XM (k:=n+1) vR rfl rfl (by first|rfl|exact(by push_cast;rfl)) aC) ?_)
  | (refine zr rfl (xQ (i:=i+1) vR rfl rfl rfl (by omega) (by omega)) ?_)
  | (refine zr rfl (xQ (i:=i) vR rfl rfl rfl (by omega) (by omega)) ?_)
  | (simp only[aM]))
 refine zb.st (λ_=>True) 99 ?_;refine zb.q0 0 (.slice (some ⟨g,0,none⟩) (n+1) c) d ?_;refine zb.q0 1 (.int .i64 (i:Int)) d ?_;refine zb.q0 2 (.int .i64 1) d ?_;refine zb.q0 3 (.int .i64 ((i:Int)+1)) d ?_;simp only[Z8];refine zb.t0 4 (.slice (some ⟨g,(i+1),none⟩) (n+1-(i+1)) (c-(i+1))) rfl d (λW q=>by exact xQ (i:=i+1) vR rfl rfl rfl (by omega) (by omega)) ?_;refine zb.q0 5 (.slice (some ⟨g,0,none⟩) (n+1) c) d ?_;refine zb.q0 6 (.int .i64 (i:Int)) d ?_;simp only[Z8];refine zb.t0 7 (.slice (some ⟨g,i,none⟩) (n+1-i) (c-i)) rfl d (λW q=>by exact xQ (i:=i) vR rfl rfl rfl (by omega) (by omega)) ?_;simp only[Z8];refine zb.n 8 (zb.opV (w':=f) (mX ((n-i:Nat):Int)) rfl rfl (by exact FY rfl rfl rfl (aB _ _ _)) ⟨λ_=>d,zb.dn ?_⟩);simp only[Z8]
 go_wp2_with (first
  | (refine zr rfl (xQ (i:=i) vR rfl rfl rfl (by omega) (by omega)) ?_)
  | (at_builtin;refine mI _ rfl _ _ 66 66 rfl _ _ rfl rfl (aH _ _) ?_))
 go_ret;exact⟨g,c,rfl,.inl rfl,aC,aF,⟨_,aJ,by rw[zR,E3.out.2,zW,A],by rw[E1.out]⟩,aK⟩
theorem Ip (E:za w g 9 cur)(Z:cur.size=c)(B:cs=cur.toList.take (n))(hi:i<n)(aV:n<=c)(aW:¬ n+1<=c)(hn:n<=100000)
  (hx:za w g2 9 cx.toArray) (aH:cx.length=1) (aB:∀u∈cx,u.oneCell'=true) (aA:∀u∈cs,u.oneCell'=true) :
  pr Y3 212 #[.slice (some ⟨g,0,none⟩) n c,.int .i64 (i:Int),.slice (some ⟨g2,0,none⟩) 1 1] w (FN w g n i cs cx):=by
 have I:cs.length=n:=by rw[B,zZ,zW,Z];omega
 have aF:(cs.drop (i)).length=(n-i):=by rw[qD,I]
 have aE:(cs.take (i)).length=i:=by rw[zZ,I];omega
 obtain⟨G,cur',F,aC,aO,V,aM⟩:=Vs vR w g i c (n+1-i) cur E (by rw[Z];omega) (by omega) (by omega) (by omega) (by decide);rw[show i+(n+1-i)=n+1 by omega] at F aC;have hX:cur'.toList.take (i)=cs.take (i):=by rw[aM,B,db];congr 1;omega
 have aT:=E.lt;obtain⟨h,hh⟩:=Z9 w.heap.size;obtain⟨d,s⟩:=Z9 (w.drew.alloc (.cells cur' 9));have P:za d h 9 cur':=by rw[s,hh];exact za.new w.drew 9 cur'
 have aI:za d g 9 cur:=by rw[s];exact za.alloc (show za w.drew g 9 cur from E) _
 have aN:za d g2 9 cx.toArray:=by rw[s];exact za.alloc (show za w.drew g2 9 cx.toArray from hx) _
 have aK:w.grownBy d (some g):=by rw[s];exact Yk (yP w _) _
 rw[<-s,<-hh] at F;obtain⟨e1,H,e3⟩:=Oc (L:=cur'.toList) (X:=cs.take (i)) (Y:=cs.drop (i)) (C:=cx) (i:=i) (n:=n) aH hX aE (by omega) (by omega) (by rw[zW,V];omega);have aG:∀ty,(dI #[66,66] ty #[.slice (some ⟨h,i,none⟩) (n+1-i) (G-i),.slice (some ⟨g2,0,none⟩) 1 1]).run Y3 d=.ok (mX ((1:Nat):Int)) (d.setRow h (cur'.toList.take (i)++cx++cur'.toList.drop (i+cx.length)).toArray):=λty =>
  ji vR d ty h (i) (n+1-i) (G-i) ⟨g2,0,none⟩ 1 1 1 cur' 9 cx P (by simp only[gJ];split<;>omega) (by omega) (λj u A=>by
   rw[dX,aN.cell]
   simpa using A) (by omega) aB
 have Q:=P.setRow (cur'.toList.take (i)++cx++cur'.toList.drop (i+cx.length)).toArray;have N:=aI.rB (k:=h) (by omega) (cur'.toList.take (i)++cx++cur'.toList.drop (i+cx.length)).toArray;have O:=vG aK (b:=h) (by omega) (cur'.toList.take (i)++cx++cur'.toList.drop (i+cx.length)).toArray;generalize aP:cur'.toList.take (i)++cx++cur'.toList.drop (i+cx.length)=a at *;obtain⟨f,aD⟩:=Z9 (d.setRow h a.toArray);rw[<-aD] at aG Q N O;have U:za f.drew h 9 a.toArray:=Q;have aJ:za f.drew g 9 cur:=N;have aL:w.grownBy f.drew (some g):=zz O (yP _ _);have aR:∀ty,(dI #[66,66] ty #[.slice (some ⟨h,(i+1),none⟩) (n+1-(i+1)) (G-(i+1)),.slice (some ⟨g,i,none⟩) (n-i) (c-i)]).run Y3 f.drew=.ok (mX ((n-i:Nat):Int)) (f.drew.setRow h (a.take ((i+1))++cs.drop (i)++a.drop ((i+1)+(cs.drop (i)).length)).toArray):=λty =>
  ji vR f.drew ty h ((i+1)) (n+1-(i+1)) (G-(i+1)) ⟨g,i,none⟩ (n-i) (c-i) (n-i) a.toArray 9 (cs.drop (i)) U (by simp only[gJ];split<;>omega) aF (λj u A=>by
   rw[dX,aJ.cell];rw[dL,B,yH] at A;split at A
   ·simpa using A
   ·cases A) (by have:=H;simp only[zR,zW] at this ⊢;omega) (λu hu=>aA u (qV hu))
 have aU:=U.setRow (a.take ((i+1))++cs.drop (i)++a.drop ((i+1)+(cs.drop (i)).length)).toArray;have aS:=vG aL (b:=h) (by omega) (a.take ((i+1))++cs.drop (i)++a.drop ((i+1)+(cs.drop (i)).length)).toArray;generalize aQ:a.take ((i+1))++cs.drop (i)++a.drop ((i+1)+(cs.drop (i)).length)=L2 at *;have E3:=pk (my H e3);have E1:=pk e1;have HS:=pk V;have HH:=pk hh;clear e1 H e3 aP aQ s aD B E hx aI aN aK P Q N O U aJ aL aB aA hX aM V aT aF aE I Z aH hh;have q:True:=trivial;have a0:(c:Int)<(n:Int)+1:=by omega
 have aX:IntKind.i64.wrap ((n:Int)+1)=(n:Int)+1:=zg _;have aY:IntKind.i64.wrap ((i:Int)+1)=(i:Int)+1:=zg _;have aZ:IntKind.i64.wrap ((n:Int)+1-(i:Int))=((n+1-i:Nat):Int):=by rw[zg _];omega
 go_enter func212,ntmps212
 go_wp2_with (first
  | (refine zr rfl (XM (k:=i) vR rfl rfl rfl (by omega)) ?_)
  | (refine zr rfl (xQ (i:=i) vR rfl rfl rfl (by omega) (by omega)) ?_)
  | (refine zr rfl (Bw rfl rfl rfl (F _)) ?_)
  | (at_builtin;refine mI _ rfl _ _ 66 66 rfl _ _ rfl rfl (aG _) ?_))
 refine zb.st (λ_=>True) 99 ?_;refine zb.q0 0 (.slice (some ⟨h,0,none⟩) (n+1) G) q ?_;refine zb.q0 1 (.int .i64 (i:Int)) q ?_;refine zb.q0 2 (.int .i64 1) q ?_;refine zb.q0 3 (.int .i64 ((i:Int)+1)) q ?_;simp only[Z8];refine zb.t0 4 (.slice (some ⟨h,(i+1),none⟩) (n+1-(i+1)) (G-(i+1))) rfl q (λW r=>by exact xQ (i:=i+1) vR rfl rfl rfl (by omega) (by omega)) ?_;refine zb.q0 5 (.slice (some ⟨g,0,none⟩) n c) q ?_;refine zb.q0 6 (.int .i64 (i:Int)) q ?_;simp only[Z8];refine zb.t0 7 (.slice (some ⟨g,i,none⟩) (n-i) (c-i)) rfl q (λW r=>by exact xQ (i:=i) vR rfl rfl rfl (by omega) (by omega)) ?_;simp only[Z8];refine zb.n 8 (zb.opV (w':=f.drew.setRow h L2.toArray) (mX ((n-i:Nat):Int)) rfl rfl (by exact FY rfl rfl rfl (aR _)) ⟨λ_=>q,zb.dn ?_⟩);simp only[Z8];go_wp2;go_ret;exact⟨h,G,rfl,.inr (by rw[HH.out];exact zG _),aC,aO,⟨_,aU,by have:=E3.out;simp only[zR,zW,HS.out] at this ⊢;omega,by rw[E1.out]⟩,aS⟩
theorem Cw {base:Nat}{v:Value}(d:w.ownsRow base 9 1 v n cs)(h:base<=w.heap.size)(hn:n<=100000)(r:za w g2 9 cx.toArray)(B:cx.length=1)(s:∀u∈cx,u.oneCell'=true):pr Y3 212 #[v,.int .i64 (n:Int),.slice (some ⟨g2,0,none⟩) 1 1] w λe w'=>∃v',e=Y0 v'/\w'.ownsRow base 9 1 v' (n+1) (cs++cx)/\w.grownBy w' v.ownBlock:=by
 have q:yp w w.heap.size 1 (some ⟨g2,0,none⟩) 1 1 cx:=⟨zG _,by decide,(λe=>by cases e),by omega,s,λ_=>⟨g2,0,rfl,r.lt,λj u A=>by
  rw[qC,r.cell]
  simpa using A⟩⟩
 have C:(n:Int)<=(n:Int):=dy _;rcases d.2 with⟨rfl,rfl⟩|⟨g,cap,cur,rfl,hb,hg,hle2,hm,hs,ht⟩
 ·go_enter func212,ntmps212
  go_wp2_with (at_builtin;refine xy rfl vR _ _ rfl base _ 0 cs rfl d _ _ 1 1 cx rfl q (by decide) (by decide) h ?_;intro v5 w5 f a)
  go_ret;exact⟨v5,rfl,f,a⟩
 ·go_enter func212,ntmps212
  go_wp2_with (at_builtin;refine xy rfl vR _ _ rfl base _ n cs rfl d _ _ 1 1 cx rfl q (by unfold oo;omega) (by omega) h ?_;intro v5 w5 f a)
  all_goals (go_ret;exact⟨_,rfl,f,a⟩)
theorem Lf {base:Nat}{v:Value}(f:w.ownsRow base 9 1 v n cs)(E:base<=w.heap.size)(L:i<=n)(hn:n<=100000)(j:za w g2 9 cx.toArray)(a:cx.length=1)(d:∀u∈cx,u.oneCell'=true)(q:∀u∈cs,u.oneCell'=true)(H:v.ownBlock≠some g2):pr Y3 212 #[v,.int .i64 (i:Int),.slice (some ⟨g2,0,none⟩) 1 1] w λe w'=>∃v',e=Y0 v'/\w'.ownsRow base 9 1 v' (n+1) (cs.take (i)++cx++cs.drop (i))/\w.grownBy w' v.ownBlock:=by
 have F:cs.length=n:=by have:=f.1;rwa [yL] at this
 by_cases G:i=n
 ·subst G;rw[qB (by omega),dm (by omega),yE];exact Cw f E hn j a d
 ·rcases f.2 with⟨rfl,rfl⟩|⟨g,cap,cur,rfl,hb,hg,hle2,hm,hs,ht⟩
  ·omega
  ·rw[yL] at hs ht;have key:pr Y3 212 #[.slice (some ⟨g,0,none⟩) n cap,.int .i64 (i:Int),.slice (some ⟨g2,0,none⟩) 1 1] w (FN w g n i cs cx):=by
    by_cases r:n+1<=cap
    ·exact Io hg hs ht.symm (by omega) r hm hn j a d q (λe=>H (by rw[e];rfl))
    ·exact Ip hg hs ht.symm (by omega) hle2 r hn j a d q
   refine key.mono ?_;rintro e w' ⟨h,c',rfl,hh,h1,h2,⟨s,A,I,B⟩,C⟩;exact⟨_,rfl,⟨by rw[zH,zH,zZ,qD,F,a];omega,.inr ⟨h,c',s,rfl,by omega,A,h1,h2,by omega,by rw[yL];exact B⟩⟩,C⟩
end
theorem vT:Zj 67 3 1 8 (.int .i64 0):=⟨underlying67,by kernel_rfl,by kernel_rfl,by decide⟩
def FO (w:World)(g n i:Nat)(cs cx:Y8)(e:Ending)(w':World):Prop:=∃h c',e=Y0 (.slice (some ⟨h,0,none⟩) (n+1) c')/\(h=g∨w.heap.size<=h)/\n+1<=c'/\c'<=oo/\(∃cur',za w' h 3 cur'/\cur'.size=c'/\cur'.toList.take ((n+1))=cs.take (i)++cx++cs.drop (i))/\w.grownBy w' (some g)
theorem FZ {ρ:py->Value}{w w':World}{o:oM}{x y:py}{u v r:Value}(a:o.op=.call {callee:=.builtin .copy,args:=#[x,y],argTypes:=#[67,67]})(h1:ρ x=u)(h2:ρ y=v)(d:(dI #[67,67] o.type #[u,v]).run Y3 w=.ok r w'):(oB ρ o).run Y3 w=.ok (.value r) w':=by
 unfold oB;simp only[a,resolve,invoke,builtin,oY,oU,oO,zI,zJ,zN,h1,h2,d]
theorem By {ρ:py->Value}{w w':World}{o:oM}{x y:py}{u v r:Value}(a:o.op=.call {callee:=.builtin .append,args:=#[x,y],argTypes:=#[67,3]})(h1:ρ x=u)(h2:ρ y=v)(d:(Builtin.append_ #[67,3] o.type #[u,v]).run Y3 w=.ok r w'):(oB ρ o).run Y3 w=.ok (.value r) w':=by
 unfold oB;simp only[a,resolve,invoke,builtin,oY,oU,oO,zI,zJ,zN,h1,h2,d]
section
variable {w:World}{g c n i g2:Nat}{cur:Y7}{cs cx:Y8}
theorem Iq (H:za w g 3 cur)(A:cur.size=c)(s:cs=cur.toList.take (n))(hi:i<n)(aC:n+1<=c)(aF:c<=oo)(hn:n<=100000)
  (B:za w g2 3 cx.toArray) (aI:cx.length=1) (V:∀u∈cx,u.oneCell'=true) (U:∀u∈cs,u.oneCell'=true) (aL:g2≠g) :
  pr Y3 213 #[.slice (some ⟨g,0,none⟩) n c,.int .i64 (i:Int),.slice (some ⟨g2,0,none⟩) 1 1] w (FO w g n i cs cx):=by
 have aG:cs.length=n:=by rw[s,zZ,zW,A];omega
 have aA:(cs.drop (i)).length=(n-i):=by rw[qD,aG]
 have E:za w.drew g 3 cur:=H;have aB:∀ty h O,(dI #[67,67] ty #[.slice (some ⟨g,(i+1),none⟩) (n+1-(i+1)) h,.slice (some ⟨g,i,none⟩) (n+1-i) O]).run Y3 w.drew=.ok (mX ((n-i:Nat):Int)) (w.drew.setRow g (cur.toList.take ((i+1))++cs.drop (i)++cur.toList.drop ((i+1)+(cs.drop (i)).length)).toArray):=λty h O =>
  ji vT w.drew ty g ((i+1)) (n+1-(i+1)) h ⟨g,i,none⟩ (n+1-i) O (n-i) cur 3 (cs.drop (i)) E (by simp only[gJ];split<;>omega) aA (λj u r=>by
   rw[dX,E.cell];rw[dL,s,yH] at r;split at r
   ·simpa using r
   ·cases r) (by rw[aA,A];omega) (λu hu=>U u (qV hu))
 have aM:∀lb cb,(dF 273 #[.slice (some ⟨g2,0,none⟩) 1 1,.slice (some ⟨g,(i+1),none⟩) lb cb]).run Y3 w=.ok (.value (.bool false)) w:=λlb cb=>by
  rw[run_callFunc_extern func273 (by kernel_rfl) (by kernel_rfl) (by kernel_rfl) (e:=mE #[67,67] #[4]) (by kernel_rfl),
   mi w 67 4 3 vT.rX 1 (λw=>YC vT w) ⟨g2,0,none⟩ ⟨g,(i+1),none⟩ 1 1 lb cb aL 3 3 cx.toArray.size cur.size (by simp[mW,show w.heap[g2]?=_ from B]) (by simp[mW,show w.heap[g]?=_ from H]) (by rw[A];omega) (by simp[gQ,show w.heap[g2]?=_ from B]) (by simp[gQ,show w.heap[g2]?=_ from B])]
  rfl
 obtain⟨P,G,Q⟩:=SH (L:=cur.toList) (X:=cs.take (i)) (Y:=cs.drop (i)) (C:=cx) (i:=i) (n:=n) aI (by rw[s,db];congr 1;omega) (by rw[s]) (by omega) (by rw[zW,A];omega);have F:za (w.drew.setRow g (cur.toList.take ((i+1))++cs.drop (i)++cur.toList.drop ((i+1)+(cs.drop (i)).length)).toArray) g 3 (cur.toList.take ((i+1))++cs.drop (i)++cur.toList.drop ((i+1)+(cs.drop (i)).length)).toArray:=E.setRow _;have N:za (w.drew.setRow g (cur.toList.take ((i+1))++cs.drop (i)++cur.toList.drop ((i+1)+(cs.drop (i)).length)).toArray) g2 3 cx.toArray:=za.rB (show za w.drew g2 3 cx.toArray from B) (by omega) _;generalize aD:cur.toList.take ((i+1))++cs.drop (i)++cur.toList.drop ((i+1)+(cs.drop (i)).length)=a at *;have I:w.grownBy (w.drew.setRow g a.toArray) (some g):=zz (yP w _) (vC _ _ _);obtain⟨f,Z⟩:=Z9 (w.drew.setRow g a.toArray);rw[<-Z] at aB F N I;have aH:∀ty h,(dI #[67,67] ty #[.slice (some ⟨g,i,none⟩) (n+1-i) h,.slice (some ⟨g2,0,none⟩) 1 1]).run Y3 f=.ok (mX 1) (f.setRow g (a.take (i)++cx++a.drop (i+cx.length)).toArray):=λty h =>
  ji vT f ty g (i) (n+1-i) h ⟨g2,0,none⟩ 1 1 1 a.toArray 3 cx F (by simp only[gJ];split<;>omega) (by omega) (λj u r=>by
   rw[dX,N.cell]
   simpa using r) (by have:=G;simp only[zR,zW] at this ⊢;omega) V
 have aK:w.grownBy (f.setRow g (a.take (i)++cx++a.drop (i+cx.length)).toArray) (some g):=zz I (vC _ _ _);have aJ:=F.setRow (a.take (i)++cx++a.drop (i+cx.length)).toArray;generalize aE:a.take (i)++cx++a.drop (i+cx.length)=L2 at *;have E3:=pk (my G Q);have E1:=pk P;clear P G Q aD aE Z s H E B F N I V U;have d:True:=trivial;have aP:¬ ((c:Int)<(n:Int)+1):=by omega
 have aN:IntKind.i64.wrap ((n:Int)+1)=(n:Int)+1:=zg _;have aO:IntKind.i64.wrap ((i:Int)+1)=(i:Int)+1:=zg _
 go_enter func213,ntmps213
 go_wp2_with (first
  | (refine zr rfl (XM (k:=n+1) vT rfl rfl (by first|rfl|exact(by push_cast;rfl)) aC) ?_)
  | (refine zr rfl (xQ (i:=i+1) vT rfl rfl rfl (by omega) (by omega)) ?_)
  | (refine zr rfl (xQ (i:=i) vT rfl rfl rfl (by omega) (by omega)) ?_)
  | (simp only[aM]))
 refine zb.st (λ_=>True) 99 ?_;refine zb.q0 0 (.slice (some ⟨g,0,none⟩) (n+1) c) d ?_;refine zb.q0 1 (.int .i64 (i:Int)) d ?_;refine zb.q0 2 (.int .i64 1) d ?_;refine zb.q0 3 (.int .i64 ((i:Int)+1)) d ?_;simp only[Z8];refine zb.t0 4 (.slice (some ⟨g,(i+1),none⟩) (n+1-(i+1)) (c-(i+1))) rfl d (λW q=>by exact xQ (i:=i+1) vT rfl rfl rfl (by omega) (by omega)) ?_;refine zb.q0 5 (.slice (some ⟨g,0,none⟩) (n+1) c) d ?_;refine zb.q0 6 (.int .i64 (i:Int)) d ?_;simp only[Z8];refine zb.t0 7 (.slice (some ⟨g,i,none⟩) (n+1-i) (c-i)) rfl d (λW q=>by exact xQ (i:=i) vT rfl rfl rfl (by omega) (by omega)) ?_;simp only[Z8];refine zb.n 8 (zb.opV (w':=f) (mX ((n-i:Nat):Int)) rfl rfl (by exact FZ rfl rfl rfl (aB _ _ _)) ⟨λ_=>d,zb.dn ?_⟩);simp only[Z8]
 go_wp2_with (first
  | (refine zr rfl (xQ (i:=i) vT rfl rfl rfl (by omega) (by omega)) ?_)
  | (at_builtin;refine mI _ rfl _ _ 67 67 rfl _ _ rfl rfl (aH _ _) ?_))
 go_ret;exact⟨g,c,rfl,.inl rfl,aC,aF,⟨_,aJ,by rw[zR,E3.out.2,zW,A],by rw[E1.out]⟩,aK⟩
theorem Ir (E:za w g 3 cur)(Z:cur.size=c)(B:cs=cur.toList.take (n))(hi:i<n)(aV:n<=c)(aW:¬ n+1<=c)(hn:n<=100000)
  (hx:za w g2 3 cx.toArray) (aH:cx.length=1) (aB:∀u∈cx,u.oneCell'=true) (aA:∀u∈cs,u.oneCell'=true) :
  pr Y3 213 #[.slice (some ⟨g,0,none⟩) n c,.int .i64 (i:Int),.slice (some ⟨g2,0,none⟩) 1 1] w (FO w g n i cs cx):=by
 have I:cs.length=n:=by rw[B,zZ,zW,Z];omega
 have aF:(cs.drop (i)).length=(n-i):=by rw[qD,I]
 have aE:(cs.take (i)).length=i:=by rw[zZ,I];omega
 obtain⟨G,cur',F,aC,aO,V,aM⟩:=Vs vT w g i c (n+1-i) cur E (by rw[Z];omega) (by omega) (by omega) (by omega) (by decide);rw[show i+(n+1-i)=n+1 by omega] at F aC;have hX:cur'.toList.take (i)=cs.take (i):=by rw[aM,B,db];congr 1;omega
 have aT:=E.lt;obtain⟨h,hh⟩:=Z9 w.heap.size;obtain⟨d,s⟩:=Z9 (w.drew.alloc (.cells cur' 3));have P:za d h 3 cur':=by rw[s,hh];exact za.new w.drew 3 cur'
 have aI:za d g 3 cur:=by rw[s];exact za.alloc (show za w.drew g 3 cur from E) _
 have aN:za d g2 3 cx.toArray:=by rw[s];exact za.alloc (show za w.drew g2 3 cx.toArray from hx) _
 have aK:w.grownBy d (some g):=by rw[s];exact Yk (yP w _) _
 rw[<-s,<-hh] at F;obtain⟨e1,H,e3⟩:=Oc (L:=cur'.toList) (X:=cs.take (i)) (Y:=cs.drop (i)) (C:=cx) (i:=i) (n:=n) aH hX aE (by omega) (by omega) (by rw[zW,V];omega);have aG:∀ty,(dI #[67,67] ty #[.slice (some ⟨h,i,none⟩) (n+1-i) (G-i),.slice (some ⟨g2,0,none⟩) 1 1]).run Y3 d=.ok (mX ((1:Nat):Int)) (d.setRow h (cur'.toList.take (i)++cx++cur'.toList.drop (i+cx.length)).toArray):=λty =>
  ji vT d ty h (i) (n+1-i) (G-i) ⟨g2,0,none⟩ 1 1 1 cur' 3 cx P (by simp only[gJ];split<;>omega) (by omega) (λj u A=>by
   rw[dX,aN.cell]
   simpa using A) (by omega) aB
 have Q:=P.setRow (cur'.toList.take (i)++cx++cur'.toList.drop (i+cx.length)).toArray;have N:=aI.rB (k:=h) (by omega) (cur'.toList.take (i)++cx++cur'.toList.drop (i+cx.length)).toArray;have O:=vG aK (b:=h) (by omega) (cur'.toList.take (i)++cx++cur'.toList.drop (i+cx.length)).toArray;generalize aP:cur'.toList.take (i)++cx++cur'.toList.drop (i+cx.length)=a at *;obtain⟨f,aD⟩:=Z9 (d.setRow h a.toArray);rw[<-aD] at aG Q N O;have U:za f.drew h 3 a.toArray:=Q;have aJ:za f.drew g 3 cur:=N;have aL:w.grownBy f.drew (some g):=zz O (yP _ _);have aR:∀ty,(dI #[67,67] ty #[.slice (some ⟨h,(i+1),none⟩) (n+1-(i+1)) (G-(i+1)),.slice (some ⟨g,i,none⟩) (n-i) (c-i)]).run Y3 f.drew=.ok (mX ((n-i:Nat):Int)) (f.drew.setRow h (a.take ((i+1))++cs.drop (i)++a.drop ((i+1)+(cs.drop (i)).length)).toArray):=λty =>
  ji vT f.drew ty h ((i+1)) (n+1-(i+1)) (G-(i+1)) ⟨g,i,none⟩ (n-i) (c-i) (n-i) a.toArray 3 (cs.drop (i)) U (by simp only[gJ];split<;>omega) aF (λj u A=>by
   rw[dX,aJ.cell];rw[dL,B,yH] at A;split at A
   ·simpa using A
   ·cases A) (by have:=H;simp only[zR,zW] at this ⊢;omega) (λu hu=>aA u (qV hu))
 have aU:=U.setRow (a.take ((i+1))++cs.drop (i)++a.drop ((i+1)+(cs.drop (i)).length)).toArray;have aS:=vG aL (b:=h) (by omega) (a.take ((i+1))++cs.drop (i)++a.drop ((i+1)+(cs.drop (i)).length)).toArray;generalize aQ:a.take ((i+1))++cs.drop (i)++a.drop ((i+1)+(cs.drop (i)).length)=L2 at *;have E3:=pk (my H e3);have E1:=pk e1;have HS:=pk V;have HH:=pk hh;clear e1 H e3 aP aQ s aD B E hx aI aN aK P Q N O U aJ aL aB aA hX aM V aT aF aE I Z aH hh;have q:True:=trivial;have a0:(c:Int)<(n:Int)+1:=by omega
 have aX:IntKind.i64.wrap ((n:Int)+1)=(n:Int)+1:=zg _;have aY:IntKind.i64.wrap ((i:Int)+1)=(i:Int)+1:=zg _;have aZ:IntKind.i64.wrap ((n:Int)+1-(i:Int))=((n+1-i:Nat):Int):=by rw[zg _];omega
 go_enter func213,ntmps213
 go_wp2_with (first
  | (refine zr rfl (XM (k:=i) vT rfl rfl rfl (by omega)) ?_)
  | (refine zr rfl (xQ (i:=i) vT rfl rfl rfl (by omega) (by omega)) ?_)
  | (refine zr rfl (By rfl rfl rfl (F _)) ?_)
  | (at_builtin;refine mI _ rfl _ _ 67 67 rfl _ _ rfl rfl (aG _) ?_))
 refine zb.st (λ_=>True) 99 ?_;refine zb.q0 0 (.slice (some ⟨h,0,none⟩) (n+1) G) q ?_;refine zb.q0 1 (.int .i64 (i:Int)) q ?_;refine zb.q0 2 (.int .i64 1) q ?_;refine zb.q0 3 (.int .i64 ((i:Int)+1)) q ?_;simp only[Z8];refine zb.t0 4 (.slice (some ⟨h,(i+1),none⟩) (n+1-(i+1)) (G-(i+1))) rfl q (λW r=>by exact xQ (i:=i+1) vT rfl rfl rfl (by omega) (by omega)) ?_;refine zb.q0 5 (.slice (some ⟨g,0,none⟩) n c) q ?_;refine zb.q0 6 (.int .i64 (i:Int)) q ?_;simp only[Z8];refine zb.t0 7 (.slice (some ⟨g,i,none⟩) (n-i) (c-i)) rfl q (λW r=>by exact xQ (i:=i) vT rfl rfl rfl (by omega) (by omega)) ?_;simp only[Z8];refine zb.n 8 (zb.opV (w':=f.drew.setRow h L2.toArray) (mX ((n-i:Nat):Int)) rfl rfl (by exact FZ rfl rfl rfl (aR _)) ⟨λ_=>q,zb.dn ?_⟩);simp only[Z8];go_wp2;go_ret;exact⟨h,G,rfl,.inr (by rw[HH.out];exact zG _),aC,aO,⟨_,aU,by have:=E3.out;simp only[zR,zW,HS.out] at this ⊢;omega,by rw[E1.out]⟩,aS⟩
theorem Cx {base:Nat}{v:Value}(d:w.ownsRow base 3 1 v n cs)(h:base<=w.heap.size)(hn:n<=100000)(r:za w g2 3 cx.toArray)(B:cx.length=1)(s:∀u∈cx,u.oneCell'=true):pr Y3 213 #[v,.int .i64 (n:Int),.slice (some ⟨g2,0,none⟩) 1 1] w λe w'=>∃v',e=Y0 v'/\w'.ownsRow base 3 1 v' (n+1) (cs++cx)/\w.grownBy w' v.ownBlock:=by
 have q:yp w w.heap.size 1 (some ⟨g2,0,none⟩) 1 1 cx:=⟨zG _,by decide,(λe=>by cases e),by omega,s,λ_=>⟨g2,0,rfl,r.lt,λj u A=>by
  rw[qC,r.cell]
  simpa using A⟩⟩
 have C:(n:Int)<=(n:Int):=dy _;rcases d.2 with⟨rfl,rfl⟩|⟨g,cap,cur,rfl,hb,hg,hle2,hm,hs,ht⟩
 ·go_enter func213,ntmps213
  go_wp2_with (at_builtin;refine xy rfl vT _ _ rfl base _ 0 cs rfl d _ _ 1 1 cx rfl q (by decide) (by decide) h ?_;intro v5 w5 f a)
  go_ret;exact⟨v5,rfl,f,a⟩
 ·go_enter func213,ntmps213
  go_wp2_with (at_builtin;refine xy rfl vT _ _ rfl base _ n cs rfl d _ _ 1 1 cx rfl q (by unfold oo;omega) (by omega) h ?_;intro v5 w5 f a)
  all_goals (go_ret;exact⟨_,rfl,f,a⟩)
theorem Lg {base:Nat}{v:Value}(f:w.ownsRow base 3 1 v n cs)(E:base<=w.heap.size)(L:i<=n)(hn:n<=100000)(j:za w g2 3 cx.toArray)(a:cx.length=1)(d:∀u∈cx,u.oneCell'=true)(q:∀u∈cs,u.oneCell'=true)(H:v.ownBlock≠some g2):pr Y3 213 #[v,.int .i64 (i:Int),.slice (some ⟨g2,0,none⟩) 1 1] w λe w'=>∃v',e=Y0 v'/\w'.ownsRow base 3 1 v' (n+1) (cs.take (i)++cx++cs.drop (i))/\w.grownBy w' v.ownBlock:=by
 have F:cs.length=n:=by have:=f.1;rwa [yL] at this
 by_cases G:i=n
 ·subst G;rw[qB (by omega),dm (by omega),yE];exact Cx f E hn j a d
 ·rcases f.2 with⟨rfl,rfl⟩|⟨g,cap,cur,rfl,hb,hg,hle2,hm,hs,ht⟩
  ·omega
  ·rw[yL] at hs ht;have key:pr Y3 213 #[.slice (some ⟨g,0,none⟩) n cap,.int .i64 (i:Int),.slice (some ⟨g2,0,none⟩) 1 1] w (FO w g n i cs cx):=by
    by_cases r:n+1<=cap
    ·exact Iq hg hs ht.symm (by omega) r hm hn j a d q (λe=>H (by rw[e];rfl))
    ·exact Ir hg hs ht.symm (by omega) hle2 r hn j a d q
   refine key.mono ?_;rintro e w' ⟨h,c',rfl,hh,h1,h2,⟨s,A,I,B⟩,C⟩;exact⟨_,rfl,⟨by rw[zH,zH,zZ,qD,F,a];omega,.inr ⟨h,c',s,rfl,by omega,A,h1,h2,by omega,by rw[yL];exact B⟩⟩,C⟩
end
theorem Ei (l:List ByteArray)(i:Nat)(s:ByteArray):XJ (l.take i++s::l.drop i)=(XJ l).take i++[.string s]++(XJ l).drop i:=by
 unfold XJ;rw[qW,zJ,mB,mA];simp
theorem Mp (w:World)(A:Y5)(c:Nat)(l:List ByteArray)(h:yp w w.heap.size 1 A l.length c (XJ l))(hl:l.length<=100000)(i:Nat)(I:i<=l.length)(g2:Nat)(x:ByteArray)(q:za w g2 9 #[.string x]):pr Y3 138 #[.slice A l.length c,.int .i64 (i:Int),.slice (some ⟨g2,0,none⟩) 1 1] w λe w'=>∃r c',e=Y0 (.slice r (l.length+1) c')/\w'.ownsRow w.heap.size 9 1 (.slice r (l.length+1) c') (l.length+1) (XJ (l.take i++x::l.drop i))/\ph w.heap.size w w':=by
 have f:=kA w A c l h (by omega);unfold Uq at f;have H:=q.lt
 go_enter func138,ntmps138
 go_wp2_with fail
 refine f.mono ?_;rintro e N ⟨C,c2,rfl,own2,a⟩;have s:=q.below a H;have L:(dW C l.length c2).ownBlock≠some g2:=λe=>by have:=zh own2 g2 e;omega
 have j:=Lf (i:=i) (cx:=[.string x]) own2 a.size I hl s rfl (by
  intro u hu;rw[qK] at hu;subst hu
  rfl) (jZ l) L
 rw[<-Ei] at j;have G:=zh own2;clear f h q s own2
 go_wp2_with fail
 refine j.mono ?_;rintro e w3 ⟨v3,rfl,B,F⟩;have E:ph w.heap.size w w3:=a.grown F a.size G;obtain⟨d,c3,rfl⟩:∃d c3,v3=.slice d (l.length+1) c3:=by
  rcases B.2 with⟨rfl,e⟩|⟨g,cap,cur,e,_⟩
  ·omega
  ·exact⟨_,_,e⟩
 clear j;go_wp2;go_ret;exact⟨d,c3,rfl,B,E⟩
theorem Iv (l:List Int)(i:Nat)(s:Int):Xr (l.take i++s::l.drop i)=(Xr l).take i++[.int .i64 s]++(Xr l).drop i:=by
 unfold Xr;rw[qW,zJ,mB,mA];simp
theorem Mq (w:World)(A:Y5)(c:Nat)(l:List Int)(h:yp w w.heap.size 1 A l.length c (Xr l))(hl:l.length<=100000)(i:Nat)(I:i<=l.length)(g2:Nat)(x:Int)(q:za w g2 3 #[.int .i64 x]):pr Y3 139 #[.slice A l.length c,.int .i64 (i:Int),.slice (some ⟨g2,0,none⟩) 1 1] w λe w'=>∃r c',e=Y0 (.slice r (l.length+1) c')/\w'.ownsRow w.heap.size 3 1 (.slice r (l.length+1) c') (l.length+1) (Xr (l.take i++x::l.drop i))/\ph w.heap.size w w':=by
 have f:=XY w A c l h (by omega);unfold Ur at f;have H:=q.lt
 go_enter func139,ntmps139
 go_wp2_with fail
 refine f.mono ?_;rintro e N ⟨C,c2,rfl,own2,a⟩;have s:=q.below a H;have L:(dW C l.length c2).ownBlock≠some g2:=λe=>by have:=zh own2 g2 e;omega
 have j:=Lg (i:=i) (cx:=[.int .i64 x]) own2 a.size I hl s rfl (by
  intro u hu;rw[qK] at hu;subst hu
  rfl) (YW l) L
 rw[<-Iv] at j;have G:=zh own2;clear f h q s own2
 go_wp2_with fail
 refine j.mono ?_;rintro e w3 ⟨v3,rfl,B,F⟩;have E:ph w.heap.size w w3:=a.grown F a.size G;obtain⟨d,c3,rfl⟩:∃d c3,v3=.slice d (l.length+1) c3:=by
  rcases B.2 with⟨rfl,e⟩|⟨g,cap,cur,e,_⟩
  ·omega
  ·exact⟨_,_,e⟩
 clear j;go_wp2;go_ret;exact⟨d,c3,rfl,B,E⟩
theorem Uk {n:Nat}(h:n<128):(jQ n).length=1:=by
 unfold jQ ZQ;rw[if_pos h];rfl
theorem Uj {n:Nat}(h:n<16384):(jQ n).length<=2:=by
 unfold jQ ZQ;split
 ·simp
 ·unfold ZQ;rw[if_pos (by omega)];simp
theorem Js {s:ByteArray}(h:s.size<=127):(QO s).length=s.size+1:=by
 have h2:s.data.toList.length=s.size:=zW;unfold QO Ef;rw[zH,Uk (by omega)];omega
def kU (u:ByteArray):Y4:=[0,0,0,0]++u.data.toList++zP (508-u.size) 0
structure xw (D:Int->Option Y4)(c:xK)(e:yN)(ps:List Int):Prop where
 key:c.key=e.1
 sz:e.1.size<=81
 val:(c.val=e.2/\c.rQ=0/\c.size=0/\e.2.size<=60/\ps=[])∨(c.val=oR/\ps=[c.rQ]/\c.size=(e.2.size:Int)/\60<e.2.size/\e.2.size<=400/\1<=c.rQ/\c.rQ<=2000/\D c.rQ=some (kU e.2))
def yh (D:Int->Option Y4):List xK->List yN->List Int->Prop
 | [],[],ps=>ps=[]
 | c::cs,e::es,ps=>∃p q,xw D c e p/\yh D cs es q/\ps=p++q
 | _,_,_=>False
section
variable {D D':Int->Option Y4}{c:xK}{e:yN}
theorem xw.rE {ps:List Int}(h:xw D c e ps)(s:∀n∈ps,D' n=D n):xw D' c e ps:=by
 refine⟨h.key,h.sz,?_⟩;rcases h.val with h1|⟨h1,h2,a,d,f,j,q,r⟩
 ·exact .inl h1
 ·exact .inr ⟨h1,h2,a,d,f,j,q,by rw[s _ (by rw[h2];simp)];exact r⟩
theorem yh.rE:∀{cs:List xK} {es:List yN} {ps:List Int},yh D cs es ps->(∀n∈ps,D' n=D n)->yh D' cs es ps
 | [],[],_,h,_=>h
 | c::cs,e::es,ps,⟨p,q,h1,h2,h3⟩,hk=>⟨p,q,h1.rE λn hn=>hk n (by rw[h3];simp[hn]),yh.rE h2 λn hn=>hk n (by rw[h3];simp[hn]),h3⟩
 | [],_::_,_,h,_=>h.elim
 | _::_,[],_,h,_=>h.elim
theorem xw.sV {ps:List Int}(h:xw D c e ps):ps.length<=1:=by
 rcases h.val with h1|h1
 ·rw[h1.2.2.2.2];simp
 ·rw[h1.2.1];simp
theorem xw.right {ps:List Int}(h:xw D c e ps):xO c=true:=by
 unfold xO;rcases h.val with⟨h1,h2,h3,h4,h5⟩|⟨h1,h2,h3,h4,h5,h6,h7,h8⟩
 ·rw[if_pos h2,h1,h3];simp[h4]
 ·rw[if_neg (by omega),h1,h3];have:ByteArray.empty.toList.isEmpty=true:=by decide +kernel
  rw[this];unfold xW;simp[h6,h7];omega
theorem xw.short {ps:List Int}(h:xw D c e ps):yq c.key=true:=by
 unfold yq;rw[h.key];simp[h.sz]
theorem xw.laid {ps:List Int}(h:xw D c e ps):(jL c).length<=144:=by
 unfold jL;have f:=Js (s:=c.key) (by have:=h.sz;rw[h.key];omega);have j:=h.sz;rw[h.key] at f;rw[h.key];simp only[zH];rcases h.val with⟨h1,h2,h3,h4,h5⟩|⟨h1,h2,h3,h4,h5,d,h7,h8⟩
 ·rw[if_pos h2,h2,h1];have:=Uk (n:=(0:Int).toNat) (by decide);have d:=Js (s:=e.2) (by omega);omega
 ·rw[if_neg (by omega)];have a:=Uj (n:=c.rQ.toNat) (by omega);have b:=Uj (n:=c.size.toNat) (by omega);omega
theorem yh.length:∀{cs:List xK} {es:List yN} {ps:List Int},yh D cs es ps->cs.length=es.length/\ps.length<=es.length
 | [],[],_,h=>by obtain rfl:_=[]:=h;simp
 | c::cs,e::es,ps,⟨p,q,h1,h2,h3⟩=>by have:=yh.length h2;have:=h1.sV;rw[h3];simp only[zL,zH];omega
 | [],_::_,_,h=>h.elim
 | _::_,[],_,h=>h.elim
theorem yh.keys:∀{cs:List xK} {es:List yN} {ps:List Int},yh D cs es ps->cs.map xK.key=es.map (·.1)
 | [],[],_,_=>rfl
 | c::cs,e::es,ps,⟨p,q,h1,h2,h3⟩=>by rw[zJ,zJ,h1.key,yh.keys h2]
 | [],_::_,_,h=>h.elim
 | _::_,[],_,h=>h.elim
theorem yh.each:∀{cs:List xK} {es:List yN} {ps:List Int},yh D cs es ps->∀c∈cs,∃e p,e∈es/\xw D c e p
 | [],[],_,_,c,hc=>by simp at hc
 | c::cs,e::es,ps,⟨p,q,h1,h2,h3⟩,x,a=>by
  rcases qM.1 a with rfl|a
  ·exact⟨e,p,by simp,h1⟩
  ·obtain⟨d,r,f,j⟩:=yh.each h2 x a;exact⟨d,r,by simp[f],j⟩
 | [],_::_,_,h,_,_=>h.elim
 | _::_,[],_,h,_,_=>h.elim
theorem yh.append:∀{cs:List xK} {es:List yN} {ps:List Int} {cs':List xK} {es':List yN} {a:List Int},yh D cs es ps->yh D cs' es' a->yh D (cs++cs') (es++es') (ps++a)
 | [],[],_,_,_,_,h,h'=>by obtain rfl:_=[]:=h;exact h'
 | c::cs,e::es,ps,_,_,_,⟨p,q,h1,h2,h3⟩,h'=>⟨p,_,h1,yh.append h2 h',by rw[h3,qO]⟩
 | [],_::_,_,_,_,_,h,_=>h.elim
 | _::_,[],_,_,_,_,h,_=>h.elim
theorem yh.split:∀(i:Nat) {cs:List xK} {es:List yN} {ps:List Int},yh D cs es ps->∃p q,ps=p++q/\yh D (cs.take i) (es.take i) p/\yh D (cs.drop i) (es.drop i) q
 | 0,cs,es,ps,h=>⟨[],ps,rfl,rfl,h⟩
 | i+1,[],[],ps,h=>⟨[],[],h,rfl,rfl⟩
 | i+1,c::cs,e::es,ps,⟨p,q,h1,h2,h3⟩=>by obtain⟨a,q1,d,f,j⟩:=yh.split i h2;exact⟨p++a,q1,by rw[h3,d,qO],⟨p,a,h1,f,rfl⟩,j⟩
 | _+1,[],_::_,_,h=>h.elim
 | _+1,_::_,[],_,h=>h.elim
end
theorem MN {ks:List ByteArray}(h:ks.Pairwise (λa b=>xD a b=true)):Yb ks/\Jy ks:=by
 have f:=List.pairwise_iff_getElem.1 h;refine⟨λj d=>vF (f j (j+1) (by omega) d (by omega)),λj d => ?_⟩;have:=f j (j+1) (by omega) d (by omega);rw[beq_eq_false_iff_ne];intro e;rw[Zq e] at this;rw[xo] at this;cases this
structure YJ where
 pg:Int
 nd:yo
 es:List yN
 ps:List Int
def Gs (ks:List YJ):List Int:=ks.map YJ.pg
def KZ (ks:List YJ):List yN:=(ks.map YJ.es).flatten
def Xk (ks:List YJ):List Int:=(ks.map λk=>k.pg::k.ps).flatten
structure Ks (x:yo)(es:List yN)(ps:List Int)(ks:List YJ):Prop where
 leaf:x.leaf=false
 cells:x.cells=[]
 kids:x.kids=Gs ks
 sZ:es=KZ ks
 sw:ps=Xk ks
 sep:Mb x.keys (ks.map YJ.es)
 pos:0<x.keys.length
 sz:∀s∈x.keys,s.size<=81
 rP:∀k∈ks,1<=k.pg/\k.pg<=2000
def ye (D:Int->Option Y4):Nat->yo->List yN->List Int->Prop
 | 0,x,es,ps=>x.leaf=true/\x.keys=[]/\x.kids=[]/\es≠[]/\yh D x.cells es ps
 | d+1,x,es,ps=>∃ks,Ks x es ps ks/\∀k∈ks,ye D d k.nd k.es k.ps/\D k.pg=some (vE k.nd)/\(qb k.nd).length<=512
section
variable {D D':Int->Option Y4}
theorem Uo {ks:List YJ}{k:YJ}(h:k∈ks):k.pg∈Xk ks/\∀n∈k.ps,n∈Xk ks:=by
 unfold Xk;refine⟨List.mem_flatten.2 ⟨k.pg::k.ps,qP.2 ⟨k,h,rfl⟩,by simp⟩,λn hn=>List.mem_flatten.2 ⟨k.pg::k.ps,qP.2 ⟨k,h,rfl⟩,by simp[hn]⟩⟩
theorem ye.rE:∀{d:Nat} {x:yo} {es:List yN} {ps:List Int},ye D d x es ps->(∀n∈ps,D' n=D n)->ye D' d x es ps
 | 0,_,_,_,⟨h1,h2,a,h4,h5⟩,hk=>⟨h1,h2,a,h4,h5.rE hk⟩
 | d+1,x,es,ps,⟨ks,hi,h⟩,hk=>⟨ks,hi,λk f=>by
  obtain⟨h1,h2,a⟩:=h k f;obtain⟨j,q⟩:=Uo f
  exact⟨ye.rE h1 λn hn=>hk n (by rw[hi.sw];exact q n hn),by rw[hk _ (by rw[hi.sw];exact j)];exact h2,a⟩⟩
theorem Ks.len {x:yo}{es:List yN}{ps:List Int}{ks:List YJ}(h:Ks x es ps ks):ks.length=x.keys.length+1:=by
 have:=h.sep.length
 rwa [qE] at this
theorem ye.ne:∀{d:Nat} {x:yo} {es:List yN} {ps:List Int},ye D d x es ps->es≠[]
 | 0,_,_,_,⟨_,_,_,h,_⟩=>h
 | d+1,x,es,ps,⟨ks,hi,h⟩=>by
  cases ks with
  | nil=>exact absurd hi.sep.length (by simp)
  | cons k ks =>
   have:=ye.ne (h k (by simp)).1;rw[hi.sZ];unfold KZ;simp[this]
theorem KY:∀{ks:List YJ} (d:Nat),(∀k∈ks,k.ps.length+2<=3*k.es.length/\d<k.es.length)->(Xk ks).length+ks.length<=3*(KZ ks).length/\ks.length<=(KZ ks).length/\(2<=ks.length->d+1<(KZ ks).length)
 | [],_,_=>by simp[Xk,KZ]
 | k::ks,d,h=>by
  obtain⟨h1,h2,_⟩:=KY d λj q=>h j (List.mem_cons_of_mem _ q)
  obtain⟨r,s⟩:=h k (by simp);have a:Xk (k::ks)=(k.pg::k.ps)++Xk ks:=rfl;have f:KZ (k::ks)=k.es++KZ ks:=rfl;rw[a,f];simp only[zH,zL];omega
theorem ye.sV:∀{d:Nat} {x:yo} {es:List yN} {ps:List Int},ye D d x es ps->ps.length+2<=3*es.length/\d<es.length
 | 0,_,es,_,⟨_,_,_,h,hc⟩=>by have:=hc.length;have:=List.length_pos_iff.2 h;omega
 | d+1,x,es,ps,⟨ks,hi,h⟩=>by
  obtain⟨h1,h2,a⟩:=KY d λk f=>ye.sV (h k f).1
  have:=hi.len;have:=hi.pos;rw[<-hi.sZ,<-hi.sw] at h1;rw[<-hi.sZ] at a;have:=a (by omega);omega
theorem ye.many {d:Nat}{x:yo}{es:List yN}{ps:List Int}(h:ye D d x es ps):x.cells.length<=es.length/\x.keys.length<=es.length/\x.kids.length<=es.length:=by
 cases d with
 | zero =>
  obtain⟨h1,h2,f,r,j⟩:=h;rw[h2,f,j.length.1];simp
 | succ d =>
  obtain⟨ks,a,h⟩:=h;obtain⟨h1,h2,f⟩:=KY d λk q=>ye.sV (h k q).1
  have:=a.len;rw[<-a.sZ] at h2;rw[a.cells,a.kids];unfold Gs;simp;omega
theorem qg.sU {ks:List YJ}(h:qg (KZ ks)):∀k∈ks,qg k.es:=λk a=>(List.pairwise_flatten.1 h).1 k.es (qP.2 ⟨k,a,rfl⟩)
theorem Tm {cells:List xK}{es:List yN}{ps:List Int}(h:yh D cells es ps)(hs:qg es):yj ⟨true,cells,[],[]⟩:=by
 have f:qi ⟨true,cells,[],[]⟩=es.map (·.1):=h.keys;have j:(es.map (·.1)).Pairwise (λa b=>xD a b=true):=List.pairwise_map.2 hs;obtain⟨h1,h2⟩:=MN j;refine⟨by rw[f];exact h1,by rw[f];exact h2,λs hs => ?_,λ_=>⟨rfl,rfl,λc hc => ?_⟩,λe=>by cases e⟩
 ·obtain⟨c,hc,rfl⟩:=qP.1 (show s∈cells.map xK.key from hs);obtain⟨e,p,_,d⟩:=h.each c hc;exact d.short
 ·obtain⟨e,p,_,d⟩:=h.each c hc;exact d.right
theorem ye.right {d:Nat}{x:yo}{es:List yN}{ps:List Int}(h:ye D d x es ps)(hs:qg es):yj x:=by
 cases d with
 | zero =>
  obtain⟨h1,h2,q,C,A⟩:=h;have:=Tm A hs;obtain⟨leaf,cells,keys,kids⟩:=x;simp only at h1 h2 q;subst h1 h2 q;exact this
 | succ d =>
  obtain⟨ks,f,h⟩:=h;have B:x.keys.Pairwise (λa b=>xD a b=true):=f.sep.sorted λl hl=>by obtain⟨k,j,rfl⟩:=qP.1 hl;exact(h k j).1.ne
  obtain⟨h1,h2⟩:=MN B;have hn:qi x=x.keys:=by unfold qi;rw[f.leaf];rfl
  refine⟨by rw[hn];exact h1,by rw[hn];exact h2,λs hs => ?_,(λe=>by rw[f.leaf] at e;cases e),λ_=>⟨f.cells,f.pos,?_,λi r => ?_⟩⟩
  ·rw[hn] at hs;unfold yq;simp[f.sz s hs]
  ·rw[f.kids];unfold Gs;rw[qE,f.len]
  ·rw[f.kids] at r;obtain⟨k,j,rfl⟩:=qP.1 r;have:=f.rP k j;unfold xW;simp[this]
end
section
variable {D D':Int->Option Y4}
theorem Co {x:yo}{es:List yN}{ps s:List Int}{c:xK}{e:yN}(h:ye D 0 x es ps)(hs:qg es)(hc:xw D c e s)(hn:je true (qi x) e.1=false):yu true (qi x) e.1<=x.cells.length/\∃p q,ps=p++q/\ye D 0 ⟨true,QC x.cells (yu true (qi x) e.1) c,[],[]⟩ (putE es e) (p++(s++q)):=by
 obtain⟨h1,h2,O,P,j⟩:=h;have I:qi x=es.map (·.1):=by unfold qi;rw[h1];exact j.keys
 unfold je at hn;rw[I] at hn ⊢;have H:yu true (es.map (·.1)) e.1=yQ e.1 (es.map (·.1)):=rfl;rw[H];have B:=Xb e.1 (es.map (·.1));rw[qE] at B;obtain⟨E,A⟩:=jn hs e.1;have L:∀y∈es,y.1≠e.1:=by
  intro y N f;generalize Q:yQ e.1 (es.map (·.1))=i at *;have d:y∈es.take i++es.drop i:=by rw[qJ];exact N
  rcases qA.1 d with d|d
  ·rw[<-E] at d;have:=(yB.1 d).2;rw[f,xo] at this;cases this
  ·have r:i<es.length:=by have:=List.length_pos_of_mem d;rw[qD] at this;omega
   have hd:qg (es.drop i):=hs.sublist (List.drop_sublist _ _);rw[qR r] at hd d A;rw[zM (by simpa using r)] at hn;simp only[da,Bool.true_and,beq_eq_false_iff_ne] at hn;rcases qM.1 d with C|d
   ·rw[C] at f;exact hn (by rw[f])
   ·have a:=(List.pairwise_cons.1 hd).1 y d;have b:=A es[i] (by first|exact List.mem_cons_self|(rw[qR r];exact List.mem_cons_self));rw[f,b] at a;cases a
 obtain⟨p,q,F,g2,G⟩:=j.split (yQ e.1 (es.map (·.1)));refine⟨by rw[j.length.1];exact B,p,q,F,rfl,rfl,rfl,Oe,?_⟩;rw[SY hs e L];show yh D (x.cells.take _++c::x.cells.drop _) _ _
 exact g2.append (cs':=c::x.cells.drop _) (es':=e::es.drop _) ⟨s,q,hc,G,rfl⟩
theorem Cn {x:yo}{es:List yN}{ps:List Int}{e:yN}(h:ye D 0 x es ps)(hs:qg es)(hn:je true (qi x) e.1=true):∃(U:yu true (qi x) e.1<x.cells.length) (j:yN) (p f q:List Int),j∈es/\ps=p++(f++q)/\xw D x.cells[yu true (qi x) e.1] j f/\j.1=e.1 /\
   ∀D' c d,(∀n∈p++q,D' n=D n)->xw D' c e d->ye D' 0 ⟨true,x.cells.take (yu true (qi x) e.1)++c::x.cells.drop (yu true (qi x) e.1+1),[],[]⟩ (putE es e) (p++(d++q)):=by
 obtain⟨h1,h2,P,Q,r⟩:=h;have N:qi x=es.map (·.1):=by unfold qi;rw[h1];exact r.keys
 unfold je at hn;rw[N] at hn ⊢;have L:yu true (es.map (·.1)) e.1=yQ e.1 (es.map (·.1)):=rfl;rw[L];have a:yQ e.1 (es.map (·.1))<es.length:=by
  rcases nG (yQ e.1 (es.map (·.1))) es.length with h|h
  ·exact h
  ·rw[List.getElem?_eq_none (by simpa using h)] at hn;simp at hn
 have B:es[yQ e.1 (es.map (·.1))].1=e.1:=by rw[zM (by simpa using a)] at hn;simp only[da,Bool.true_and,beq_iff_eq] at hn;exact Zq hn
 have O:=CV hs e a B;generalize yQ e.1 (es.map (·.1))=i at *;have C:i<x.cells.length:=by rw[r.length.1];exact a
 obtain⟨p,q,F,g2,s⟩:=r.split i;rw[qR a,qR C] at s;obtain⟨f,E,G,H,I⟩:=s;refine⟨C,es[i],p,f,E,qI _,by rw[F,I],G,B,λD' c d A hc=>⟨rfl,rfl,rfl,Oe,?_⟩⟩;rw[O];exact(g2.rE λn hn=>A n (by simp[hn])).append (cs':=c::x.cells.drop _) (es':=e::es.drop _) ⟨d,E,hc,H.rE λn hn=>A n (by simp[hn]),rfl⟩
theorem YV (a b:List YJ):KZ (a++b)=KZ a++KZ b:=by unfold KZ;rw[qW,yF]
theorem kO (a:YJ)(b:List YJ):KZ (a::b)=a.es++KZ b:=rfl
theorem ku (a b:List YJ):Xk (a++b)=Xk a++Xk b:=by unfold Xk;rw[qW,yF]
theorem jU (a:YJ)(b:List YJ):Xk (a::b)=a.pg::(a.ps++Xk b):=rfl
structure tu (x:yo)(es:List yN)(ks:List YJ)(e:yN)(K1:List YJ)(k:YJ)(K2:List YJ):Prop where
 eq:ks=K1++k::K2
 len:K1.length=vv e.1 x.keys
 put:putE es e=KZ K1++(putE k.es e++KZ K2)
 one:∀k',k'.pg=k.pg->k'.es=putE k.es e->Ks x (putE es e) (Xk (K1++k'::K2)) (K1++k'::K2)
 two:∀a b s,a.pg=k.pg->(1<=b.pg/\b.pg<=2000)->a.es++b.es=putE k.es e->(∀y∈a.es,xD y.1 s=true)->(∀y∈b.es,xD y.1 s=false)->b.es≠[]->s.size<=81 ->
  Ks ⟨false,[],x.keys.take (vv e.1 x.keys)++s::x.keys.drop (vv e.1 x.keys),x.kids.take (vv e.1 x.keys+1)++b.pg::x.kids.drop (vv e.1 x.keys+1)⟩ (putE es e) (Xk (K1++a::b::K2)) (K1++a::b::K2)
theorem Iu {x:yo}{es:List yN}{ps:List Int}{ks:List YJ}(d:Ks x es ps ks)(Z:∀k∈ks,k.es≠[])(e:yN):∃q k K2,tu x es ks e q k K2:=by
 have hp:x.keys.Pairwise (λa b=>xD a b=true):=d.sep.sorted λl hl=>by obtain⟨k,V,rfl⟩:=qP.1 hl;exact Z k V
 obtain⟨L1,M,L2,r⟩:=d.sep.pT (vv e.1 x.keys) (Vd e.1 hp);obtain⟨q,K',H,A,I⟩:=List.map_eq_append_iff.1 r.eq;obtain⟨k,K2,L,B,C⟩:=List.map_eq_cons_iff.1 I;subst H L;have G:q.length=vv e.1 x.keys:=by rw[<-r.len,<-A,qE]
 have X:∀a∈KZ q,xD a.1 e.1=true:=λa ha=>r.low a (by rw[<-A];exact ha)
 have U:∀a∈KZ K2,xD e.1 a.1=true:=λa ha=>r.high a (by rw[<-C];exact ha)
 have F:putE es e=KZ q++(putE k.es e++KZ K2):=by rw[d.sZ,YV,kO];exact CW X U
 refine⟨q,k,K2,rfl,G,F,λk' h1 h2 => ?_,λa b s h1 h2 E N O P Q => ?_⟩
 ·refine⟨d.leaf,d.cells,?_,?_,rfl,?_,d.pos,d.sz,?_⟩
  ·rw[d.kids];unfold Gs;simp[h1]
  ·rw[F,YV,kO,h2]
  ·rw[qW,zJ,A,C,h2];exact r.one _ λy h=>by rw[<-B];exact Gb h
  ·intro j f;rcases qA.1 f with f|f
   ·exact d.rP j (by simp[f])
   ·rcases qM.1 f with rfl|f
    ·rw[h1];exact d.rP k (by simp)
    ·exact d.rP j (by simp[f])
 ·refine⟨rfl,rfl,?_,?_,rfl,?_,(by show 0<(_++_::_).length;simp only[zH,zL];omega),?_,?_⟩
  ·show x.kids.take _++b.pg::x.kids.drop _=_
   rw[d.kids];unfold Gs;rw[<-G];have t1:(q.map YJ.pg).take (q.length+1)=q.map YJ.pg:=qB (by simp);have t2:(q.map YJ.pg).drop (q.length+1)=[]:=List.drop_eq_nil_of_le (by simp);simp[h1,List.take_append,List.drop_append,t1,t2]
  ·rw[F,YV,kO,kO,<-qO a.es,E]
  ·show Mb (x.keys.take _++s::x.keys.drop _) _
   rw[qW,zJ,zJ,A,C];refine r.two _ _ _ (λy h=>⟨?_,N y h⟩) (λy h=>⟨?_,O y h⟩) P
   ·rw[<-B];exact Gb (E▸List.mem_append_left _ h)
   ·rw[<-B];exact Gb (E▸List.mem_append_right _ h)
  ·intro y h;rcases qA.1 (show y∈x.keys.take _++s::x.keys.drop _ from h) with h|h
   ·exact d.sz y (yI h)
   ·rcases qM.1 h with rfl|h
    ·exact Q
    ·exact d.sz y (qV h)
  ·intro j f;rcases qA.1 f with f|f
   ·exact d.rP j (by simp[f])
   ·rcases qM.1 f with rfl|f
    ·rw[h1];exact d.rP k (by simp)
    ·rcases qM.1 f with rfl|f
     ·exact h2
     ·exact d.rP j (by simp[f])
theorem Mb.split:∀(i:Nat) {ks:List ByteArray} {ls:List (List yN)} (_:Mb ks ls) (_:ks.Pairwise (λa b=>xD a b=true)) (f:i<ks.length),Mb (ks.take i) (ls.take (i+1))/\Mb (ks.drop (i+1)) (ls.drop (i+1))/\(∀e∈(ls.take (i+1)).flatten,xD e.1 ks[i]=true)/\∀e∈(ls.drop (i+1)).flatten,xD e.1 ks[i]=false
 | 0,k::ks,l::ls,h,_,_=>⟨trivial,h.2.2,λe d=>h.1 e (by simpa using d),h.2.1⟩
 | i+1,k::ks,l::ls,h,hp,f=>by
  obtain⟨A,B⟩:=List.pairwise_cons.1 hp;have r:i<ks.length:=by simpa using f
  obtain⟨h1,h2,j,q⟩:=Mb.split i h.2.2 B r;refine⟨⟨h.1,λe d=>h.2.1 e ?_,h1⟩,h2,λe d => ?_,q⟩
  ·obtain⟨s,hl,d⟩:=List.mem_flatten.1 d;exact List.mem_flatten.2 ⟨s,yI hl,d⟩
  ·simp only[zC];rw[mw,qZ] at d;rcases qA.1 d with d|d
   ·exact kZ (h.1 e d) (A _ (qI _))
   ·exact j e d
 | _,[],_,_,_,f=>absurd f (by simp)
 | _,_::_,[],h,_,_=>h.elim
theorem ye.split {d:Nat}{x:yo}{es:List yN}{ps:List Int}(h:ye D d x es ps)(hs:qg es){k:Nat}(h0:0<k)(A:k<=xj x)(O:vQ x<=xM x):∃H I pa pb,es=H++I/\ps=pa++pb/\ye D d (xG x k) H pa/\ye D d (yT x k) I pb/\(∀y∈H,xD y.1 (yn x k)=true)/\(∀y∈I,xD y.1 (yn x k)=false)/\(yn x k).size<=81:=by
 have hR:=h.right hs;have B:k<xM x:=by unfold xj vQ xM at *;cases hx:x.leaf<;>simp[hx] at A O ⊢<;>omega
 have N:k<(qi x).length:=by rw[Jh];exact B
 have U:(yn x k).size<=81:=by have:=hR.short (yn x k) (by rw[Yy N];exact qI _);unfold yq at this;simpa using this
 cases d with
 | zero =>
  obtain⟨h1,h2,h3,h4,L⟩:=h;have aA:k<x.cells.length:=by unfold xM at B;rwa [h1,if_pos rfl] at B
  have Q:k<es.length:=by rw[<-L.length.1];exact aA
  obtain⟨p,q,g1,g2,g3⟩:=L.split k;have C:yn x k=es[k].1:=by
   rw[Yy N];have:qi x=es.map (·.1):=by unfold qi;rw[h1];exact L.keys
   simp only[this,da]
  have F:xG x k=⟨true,x.cells.take k,[],[]⟩:=by unfold xG;rw[h1];rfl
  have G:yT x k=⟨true,x.cells.drop k,[],[]⟩:=by unfold yT;rw[h1];rfl
  have E:=List.pairwise_iff_getElem.1 hs;refine⟨es.take k,es.drop k,p,q,(qJ _ _).symm,g1,(by rw[F];refine⟨rfl,rfl,rfl,λe => ?_,g2⟩;have:=congrArg List.length e;rw[zZ,zY] at this;omega),(by rw[G];refine⟨rfl,rfl,rfl,λe => ?_,g3⟩;have:=congrArg List.length e;rw[qD,zY] at this;omega),λy P => ?_,λy P => ?_,U⟩
  ·rw[C];obtain⟨j,r,rfl⟩:=List.mem_iff_getElem.1 P;rw[List.getElem_take];simp at r;exact E j k (by omega) Q (by omega)
  ·rw[C];obtain⟨j,r,rfl⟩:=List.mem_iff_getElem.1 P;rw[List.getElem_drop];simp at r
   by_cases e:j=0
   ·subst e;exact xo _
   ·exact vF (E k (k+j) Q (by omega) (by omega))
 | succ d =>
  obtain⟨ks,f,h⟩:=h;have E:x.keys.Pairwise (λa b=>xD a b=true):=f.sep.sorted λl hl=>by obtain⟨k,A,rfl⟩:=qP.1 hl;exact(h k A).1.ne
  have aB:k<x.keys.length:=by unfold xM at B;rwa [f.leaf,if_neg (by simp)] at B
  have aC:k<=x.keys.length-2:=by unfold xj at A;rwa [f.leaf,if_neg (by simp)] at A
  have aD:3<=x.keys.length:=by unfold vQ xM at O;rwa [f.leaf,if_neg (by simp),if_neg (by simp)] at O
  have C:yn x k=x.keys[k]:=by
   rw[Yy N];have:qi x=x.keys:=by unfold qi;rw[f.leaf];rfl
   simp only[this]
  obtain⟨V,X,Z,s4⟩:=Mb.split k f.sep E aB;have F:xG x k=⟨false,[],x.keys.take k,x.kids.take (k+1)⟩:=by unfold xG;rw[f.leaf];rfl
  have G:yT x k=⟨false,[],x.keys.drop (k+1),x.kids.drop (k+1)⟩:=by unfold yT;rw[f.leaf];rfl
  rw[<-mB] at V Z;rw[<-mA] at X s4;refine⟨KZ (ks.take (k+1)),KZ (ks.drop (k+1)),Xk (ks.take (k+1)),Xk (ks.drop (k+1)),by rw[<-YV,qJ];exact f.sZ,by rw[<-ku,qJ];exact f.sw,?_,?_,by rw[C];exact Z,by rw[C];exact s4,U⟩
  ·rw[F];refine⟨ks.take (k+1),⟨rfl,rfl,by simp[f.kids,Gs],rfl,rfl,V,?_,λs hs=>f.sz s (yI hs),λj r=>f.rP j (yI r)⟩,λj r=>h j (yI r)⟩;show 0<(x.keys.take k).length
   rw[zZ];omega
  ·rw[G];refine⟨ks.drop (k+1),⟨rfl,rfl,by simp[f.kids,Gs],rfl,rfl,X,?_,λs hs=>f.sz s (qV hs),λj r=>f.rP j (qV r)⟩,λj r=>h j (qV r)⟩;show 0<(x.keys.drop (k+1)).length
   rw[qD];omega
end
theorem Qm (cells:List xK)(h:cells.length<128):(qb ⟨true,cells,[],[]⟩).length=2+(cells.map jL).flatten.length:=by
 unfold qb;rw[Jk];simp only[if_true,yE,zH,zL,qE];rw[Uk h]
theorem Jl (keys:List ByteArray)(k0:Int)(rest:List Int)(a:rest.length=keys.length)(h:keys.length<128):(qb ⟨false,[],keys,k0::rest⟩).length=2+(jQ k0.toNat).length+((keys.zip rest).map λp=>UY p.1 p.2).flatten.length:=by
 unfold qb;rw[Gq _ _ _ a];have d:(keys.zip rest).length=keys.length:=by simp[a]
 simp only[oF,if_false,zH,zL,qE,List.getD_cons_zero];rw[Uk (by omega)]
theorem LZ (cells:List xK)(i:Nat)(c:xK)(a:i<=cells.length)(hl:cells.length<=100)(hc:(jL c).length<=144):(qb ⟨true,QC cells i c,[],[]⟩).length<=(qb ⟨true,cells,[],[]⟩).length+144:=by
 have e:=XU cells i c a;rw[Qm _ (by omega),Qm _ (by omega)];unfold QC
 conv=>rhs;rw[<-qJ i cells]
 simp only[qW,zJ,yF,qZ,zH];omega
theorem LY (cells:List xK)(i:Nat)(c:xK)(a:i<cells.length)(hl:cells.length<=100)(hc:(jL c).length<=144):(qb ⟨true,cells.take i++c::cells.drop (i+1),[],[]⟩).length<=(qb ⟨true,cells,[],[]⟩).length+144:=by
 rw[Qm _ (by simp;omega),Qm _ (by omega)]
 conv=>rhs;rw[<-qJ i cells,qR a]
 simp only[qW,zJ,yF,qZ,zH];omega
theorem Gr (keys:List ByteArray)(kids:List Int)(i:Nat)(s:ByteArray)(pg:Int)(f:kids.length=keys.length+1)(j:i<=keys.length)(hl:keys.length<=100)(hs:s.size<=81)(r:pg<=16000):(qb ⟨false,[],keys.take i++s::keys.drop i,kids.take (i+1)++pg::kids.drop (i+1)⟩).length<=(qb ⟨false,[],keys,kids⟩).length+84:=by
 cases kids with
 | nil=>simp at f
 | cons k0 rest =>
  have d:rest.length=keys.length:=by simpa using f
  rw[mw,List.drop_succ_cons,zX,Jl _ _ _ (by simp[d]) (by simp;omega),Jl _ _ _ d (by omega)];have e:(keys.take i++s::keys.drop i).zip (rest.take i++pg::rest.drop i)=(keys.take i).zip (rest.take i)++(s,pg)::(keys.drop i).zip (rest.drop i):=by rw[List.zip_append (by simp[d])];rfl
  have h:keys.zip rest=(keys.take i).zip (rest.take i)++(keys.drop i).zip (rest.drop i):=by rw[<-List.zip_append (by simp[d]),qJ,qJ]
  have a:=Js (s:=s) (by omega);have b:=Uj (n:=pg.toNat) (by omega);rw[e,h];have q:(UY s pg).length<=84:=by unfold UY;rw[zH];omega
  simp only[qW,zJ,yF,qZ,zH];omega
theorem XX {x:yo}(a:yj x)(h:512<(qb x).length):vQ x<=xM x:=by
 have h1:=jm x;have f:=Ql a;cases d:x.leaf with
 | true =>
  have h2:=jd (qh x) 200 (Zt a);unfold vQ;rw[d,if_pos rfl];rw[f] at h2;omega
 | false =>
  have h2:=jd (qh x) 101 (TK a d);unfold vQ;rw[d,if_neg (by simp)];rw[f] at h2;omega
theorem ye.ry {D:Int->Option Y4}{d:Nat}{x:yo}{es:List yN}{ps:List Int}(h:ye D d x es ps)(hs:qg es){k:Nat}(hh:kn (qh x) (xj x) k)(r:512<(qb x).length)(q:(qb x).length<=656):(qb (xG x k)).length<=512/\(qb (yT x k)).length<=512/\0<k/\k<=xj x:=by
 have a:=h.right hs;have f:=XX a r;have A:0<xj x:=by unfold xj vQ xM at *;cases B:x.leaf<;>simp[B] at f ⊢<;>omega
 obtain⟨h1,h2⟩:=NB a hh f q λhl c hc=>by
  rw[Qm _ (by simp)];cases d with
  | zero =>
   obtain⟨e,p,_,j⟩:=h.2.2.2.2.each c hc;have:=j.laid;simp;omega
  | succ d =>
   obtain⟨ks,s,_⟩:=h;rw[s.leaf] at hl;cases hl
 exact⟨h1,h2,hh.pos A,hh.le⟩
end
end Go.Proofs.YtohmkffoojdahaaGreat
