/- Texts that the proof of WalkRanges leans on, part 11. -/
import Derived.Test.YtohmkffoojdahaaGreatWalkRangesB10
open List renaming replicate->zP
set_option linter.unusedVariables false
set_option linter.unusedSimpArgs false
set_option maxRecDepth 100000
set_option maxHeartbeats 8000000

open ByteArray renaming empty->nX
open Go renaming Calls->nK,Addr->nN,Operand->nO,execOp->nQ,maxLen->gP,callFunc->gm,goInt->eH
open Go.Act renaming put->nJ
open Go.Builtin renaming copy_->gw
open Go.Ending renaming returned->eJ
open Go.Extern.SlicesOverlaps renaming overlaps->fW
open Go.Proofs renaming wpList_copy_runI->fa
open Go.Result renaming andThen->nM
open Go.RowKit renaming Below->nH
open Go.Value renaming slice->mN
open Go.World renaming setRow->gM,shape?->lu,frozen?->lz
open List renaming take_succ_cons->iA
open Go.Proofs.Tryz renaming prog->Y3
open Go.Proofs.Tryz
open Go.Value renaming int->Y1,pointer->Y9,slice->X1,bool->X3,string->X9,agg->Q0
open Go.IntKind renaming i64->Q4,u64->Q6
open Go.Obj renaming cells->Q9
open Option renaming none->K3,some->K4
namespace Go.Proofs.YtohmkffoojdahaaGreat
open Go Go.RowKit xq
abbrev qw:=ByteArray×ByteArray
theorem JE {a b:ByteArray}(h:a.toList=b.toList):a=b:=by
 rw[fU,fU] at h;rw[VS a,VS b,h]
theorem xL (a:ByteArray):ye a a=false:=DU _
theorem kg {a b c:ByteArray}(h:ye a b=true)(k:ye b c=true):ye a c=true:=Vr _ _ _ h k
theorem vF {a b:ByteArray}(h:ye a b=true):ye b a=false:=CZ _ _ h
theorem GP {a b:ByteArray}(h:ye b a=false)(hn:a≠b):ye a b=true:=IA _ _ h (by
 rw[beq_eq_false_iff_ne]
 exact λe=>hn (JE e.symm))
theorem OR {a b c:ByteArray}(h:ye a b=true)(k:ye c b=false):ye a c=true:=by
 by_cases e:b=c
 .rw[<-e];exact h
 .exact kg h (GP k e)
theorem OW {a b c:ByteArray}(h:ye b a=false)(k:ye b c=true):ye a c=true:=by
 by_cases e:a=b
 .rw[e];exact k
 .exact kg (GP h e) k
theorem FO {a b:ByteArray}:uW a b=true↔ye b a=false:=by
 unfold uW;constructor
 .intro h;rcases Bool.or_eq_true_iff.1 h with h|h
  .exact vF h
  .rw[beq_iff_eq] at h;rw[JE h];exact xL _
 .intro h
  by_cases e:a=b
  .subst e;simp
  .have:=GP h e;unfold ye at this;rw[this];rfl
def zu (l:List qw):Prop:=l.Pairwise λa b=>ye a.1 b.1=true
def putE (l:List qw)(e:qw):List qw:=l.filter (λx=>ye x.1 e.1)++e::l.filter (λx=>ye e.1 x.1)
theorem Bh {A M B:List qw}{e:qw}(d:∀a∈A,ye a.1 e.1=true)(hB:∀b∈B,ye e.1 b.1=true):putE (A++(M++B)) e=A++(putE M e++B):=by
 have h1:A.filter (λx=>ye x.1 e.1)=A:=List.filter_eq_self.2 d;have h2:A.filter (λx=>ye e.1 x.1)=[]:=List.filter_eq_nil_iff.2 λa ha=>by rw[vF (d a ha)];simp
 have f:B.filter (λx=>ye x.1 e.1)=[]:=List.filter_eq_nil_iff.2 λa ha=>by rw[vF (hB a ha)];simp
 have h:B.filter (λx=>ye e.1 x.1)=B:=List.filter_eq_self.2 hB;unfold putE;simp only[lF,h1,h2,f,h,qW,zQ,qQ,zW]
theorem Ha {l:List qw}{e x:qw}(h:x∈putE l e):x∈l\/x.1=e.1:=by
 unfold putE at h;rcases zZ.1 h with h|h
 .exact .inl (yD.1 h).1
 .rcases qN.1 h with rfl|h
  .exact .inr rfl
  .exact .inl (yD.1 h).1
theorem Eh {l:List qw}{e:qw}:putE l e≠[]:=by unfold putE;simp
theorem zu.dG {l:List qw}(h:zu l)(e:qw):zu (putE l e):=by
 unfold zu Go.Proofs.YtohmkffoojdahaaGreat.putE;refine List.pairwise_append.2 ⟨h.filter _,List.pairwise_cons.2 ⟨λb d=>(yD.1 d).2,h.filter _⟩,λa ha b d => ?_⟩;have h1:=(yD.1 ha).2;rcases qN.1 d with rfl|d
 .exact h1
 .exact kg h1 (yD.1 d).2
theorem DF:∀(l:List qw) (k:ByteArray),(l.filter (λx=>ye x.1 k)).length+(l.filter (λx=>ye k x.1)).length<=l.length
 | [],_=>by simp
 | a::l,k=>by
  have d:=DF l k;simp only[eG,zK]
  by_cases h:ye a.1 k=true
  .have h2:=vF h;simp only[h,h2,if_true,zK];simp;omega
  .simp only[h,nV,if_false];split<;>(try simp only[zK])<;>omega
theorem ZZ (l:List qw)(e:qw):(putE l e).length<=l.length+1:=by
 have:=DF l e.1;unfold putE;simp only[zH,zK];omega
theorem vN:∀{es:List qw} (_:zu es) (key:ByteArray),es.filter (λx=>ye x.1 key)=es.take (qz key (es.map (·.1)))/\∀e∈es.drop (qz key (es.map (·.1))),ye e.1 key=false
 | [],_,_=>⟨rfl,by simp⟩
 | a::es,h,key=>by
  obtain⟨h1,h2⟩:=List.pairwise_cons.1 h;obtain⟨q,r⟩:=vN h2 key;rw[zL];unfold qz;cases ha:ye a.1 key with
  | true =>
   simp only[if_true,eG,ha,iA,List.drop_succ_cons];exact⟨by rw[q],r⟩
  | false =>
   have f:∀e∈a::es,ye e.1 key=false:=λe d=>by
    rcases qN.1 d with rfl|d
    .exact ha
    .cases j:ye e.1 key with
     | false=>rfl
     | true=>rw[kg (h1 e d) j] at ha;cases ha
   simp only[nV,if_false,List.take_zero,List.drop_zero];exact⟨List.filter_eq_nil_iff.2 λe d=>by rw[f e d];simp,f⟩
theorem Ta {es:List qw}(h:zu es)(e:qw)(hn:∀x∈es,x.1≠e.1):putE es e=es.take (qz e.1 (es.map (·.1)))++e::es.drop (qz e.1 (es.map (·.1))):=by
 obtain⟨h1,h2⟩:=vN h e.1;unfold putE;rw[h1];congr 2;rw[<-qK (qz e.1 (es.map (·.1))) es];simp only[lF];rw[List.filter_eq_nil_iff.2 (λx a => ?_),List.filter_eq_self.2 (λx a => ?_)]
 .simp
 .exact GP (h2 x (by simpa using a)) λf=>hn x (qV (by simpa using a)) f.symm
 .have d:x∈es.take (qz e.1 (es.map (·.1))):=by simpa using a
  rw[<-h1] at d;rw[vF (yD.1 d).2];simp
theorem Bg {es:List qw}(h:zu es)(e:qw)(hi:qz e.1 (es.map (·.1))<es.length)(d:es[qz e.1 (es.map (·.1))].1=e.1):putE es e=es.take (qz e.1 (es.map (·.1)))++e::es.drop (qz e.1 (es.map (·.1))+1):=by
 obtain⟨h1,h2⟩:=vN h e.1;unfold putE;rw[h1];generalize qz e.1 (es.map (·.1))=i at *;congr 2;have hs:es=es.take i++es[i] :: es.drop (i+1):=by rw[<-qS hi,qK]
 have hd:zu (es.drop i):=h.sublist (List.drop_sublist _ _);rw[qS hi] at hd;obtain⟨f,_⟩:=List.pairwise_cons.1 hd
 conv=>lhs;rw[hs]
 simp only[lF,eG,d,xL,nV,if_false];rw[List.filter_eq_nil_iff.2 (λx a => ?_),List.filter_eq_self.2 (λx a => ?_)]
 .simp
 .rw[<-d];exact f x a
 .rw[<-h1] at a;rw[vF (yD.1 a).2];simp
def pI (key:ByteArray):List ByteArray->Nat->Prop
 | [],i=>i=0
 | k::_,0=>ye key k=true
 | k::ks,i+1=>ye key k=false/\pI key ks i
theorem Vw (key:ByteArray):∀{ks:List ByteArray},ks.Pairwise (λa b=>ye a b=true)->pI key ks (vO key ks)
 | [],_=>rfl
 | k::ks,h=>by
  obtain⟨h1,h2⟩:=List.pairwise_cons.1 h;have j:=Vw key h2;unfold vO at j ⊢;rw[List.countP_cons];cases d:uW k key with
  | true =>
   simp only[if_true];exact⟨FO.1 d,j⟩
  | false =>
   have f:ye key k=true:=by
    cases e:ye key k with
    | true=>rfl
    | false=>rw[FO.2 e] at d;cases d
   have:ks.countP (uW · key)=0:=List.countP_eq_zero.2 λx q=>by intro hl;have:=FO.1 hl;rw[kg f (h1 x q)] at this;cases this
   rw[this];exact f
def RJ:List ByteArray->List (List qw)->Prop
 | [],[_]=>True
 | k::ks,l::ls=>(∀e∈l,ye e.1 k=true)/\(∀e∈ls.flatten,ye e.1 k=false)/\RJ ks ls
 | _,_=>False
theorem RJ.length:∀{ks:List ByteArray} {ls:List (List qw)},RJ ks ls->ls.length=ks.length+1
 | [],[_],_=>rfl
 | _::_,_::_,h=>by simp[RJ.length h.2.2]
 | [],[],h=>h.elim
 | [],_::_::_,h=>h.elim
 | _::_,[],h=>h.elim
theorem RJ.sorted:∀{ks:List ByteArray} {ls:List (List qw)},RJ ks ls->(∀l∈ls,l≠[])->ks.Pairwise (λa b=>ye a b=true)
 | [],_,_,_ => .nil
 | [_],_,_,_=>List.pairwise_singleton _ _
 | k::k1::ks,l::l1::ls,h,hn=>by
  have j:=RJ.sorted h.2.2 λl hl=>hn l (by simp[hl])
  have f:ye k k1=true:=by
   cases l1 with
   | nil=>exact absurd rfl (hn [] K9)
   | cons e l1=>exact OW (h.2.1 e K9) (h.2.2.1 e K9)
  refine List.pairwise_cons.2 ⟨λb d => ?_,j⟩;rcases qN.1 d with rfl|d
  .exact f
  .exact kg f ((List.pairwise_cons.1 j).1 b d)
 | _::_::_,[_],h,_=>h.2.2.elim
 | _::_::_,[],h,_=>h.elim
structure Mid (key:ByteArray)(keys:List ByteArray)(ls:List (List qw))(i:Nat)(L1:List (List qw))(M:List qw)(L2:List (List qw)):Prop where
 eq:ls=L1++M::L2
 len:L1.length=i
 low:∀e∈L1.flatten,ye e.1 key=true
 high:∀e∈L2.flatten,ye key e.1=true
 one:∀M',(∀e∈M',e∈M\/e.1=key)->RJ keys (L1++M'::L2)
 two:∀A B s,(∀e∈A,(e∈M\/e.1=key)/\ye e.1 s=true)->(∀e∈B,(e∈M\/e.1=key)/\ye e.1 s=false)->B≠[]->RJ (keys.take i++s::keys.drop i) (L1++A::B::L2)
theorem RJ.nE {key:ByteArray}:∀{keys:List ByteArray} {ls:List (List qw)} (i:Nat),RJ keys ls->pI key keys i->∃j M q,Mid key keys ls i j M q
 | [],[l],i,_,f=>by obtain rfl:i=0:=f;exact⟨[],l,[],rfl,rfl,by simp,by simp,λ_ _=>trivial,λA B s r hB _=>⟨λe a=>(r e a).2,λe a=>(hB e (by simpa using a)).2,trivial⟩⟩
 | k::ks,l::ls,0,h,f=>by
  have f:ye key k=true:=f;refine⟨[],l,ls,rfl,rfl,by simp,λe a=>OR f (h.2.1 e a),λE C=>⟨λe a => ?_,h.2.1,h.2.2⟩,λA B s r hB hn => ?_⟩
  .rcases C e a with h1|h1
   .exact h.1 e h1
   .rw[h1];exact f
  .have G:∀e∈B,ye e.1 k=true:=λe a=>by
    rcases(hB e a).1 with h1|h1
    .exact h.1 e h1
    .rw[h1];exact f
   refine⟨λe a=>(r e a).2,λe a => ?_,G,h.2.1,h.2.2⟩;rw[yE] at a;rcases zZ.1 a with a|a
   .exact(hB e a).2
   .obtain⟨b,H⟩:=List.exists_mem_of_ne_nil B hn;exact vF (OR (OW (hB b H).2 (G b H)) (h.2.1 e a))
 | k::ks,l::ls,i+1,h,f=>by
  obtain⟨N,O⟩:=f;obtain⟨j,M,q,d⟩:=RJ.nE i h.2.2 O;have F:∀e,(e∈M\/e.1=key)->ye e.1 k=false:=λe a=>by
   rcases a with h1|h1
   .exact h.2.1 e (by rw[d.eq];simp[h1])
   .rw[h1];exact N
  have I:∀e∈j.flatten,ye e.1 k=false:=λe a=>h.2.1 e (by rw[d.eq];simp at a ⊢;exact .inl a)
  have L:∀e∈q.flatten,ye e.1 k=false:=λe a=>h.2.1 e (by rw[d.eq];simp at a ⊢;exact .inr (.inr a))
  refine⟨l::j,M,q,by rw[d.eq];rfl,by rw[zK,d.len],λe a => ?_,d.high,λE C=>⟨h.1,λe a => ?_,d.one E C⟩,λA B s r hB hn=>⟨h.1,λe a => ?_,d.two A B s r hB hn⟩⟩
  .rw[yE] at a;rcases zZ.1 a with a|a
   .exact OR (h.1 e a) N
   .exact d.low e a
  .replace a:e∈(j++E::q).flatten:=a;rw[List.flatten_append,yE] at a;rcases zZ.1 a with a|a
   .exact I e a
   .rcases zZ.1 a with a|a
    .exact F e (C e a)
    .exact L e a
  .replace a:e∈(j++A::B::q).flatten:=a;rw[List.flatten_append,yE,yE] at a;rcases zZ.1 a with a|a
   .exact I e a
   .rcases zZ.1 a with a|a
    .exact F e (r e a).1
    .rcases zZ.1 a with a|a
     .exact F e (hB e a).1
     .exact L e a
 | [],[],_,h,_=>h.elim
 | [],_::_::_,_,h,_=>h.elim
 | _::_,[],_,h,_=>h.elim
theorem GK {n:Nat}(h:n<128):(jU n).length=1:=by
 unfold jU Zh;rw[if_pos h];rfl
theorem GJ {n:Nat}(h:n<16384):(jU n).length<=2:=by
 unfold jU Zh;split
 .simp
 .unfold Zh;rw[if_pos K5];simp
theorem KK {s:ByteArray}(h:s.size<=127):(QT s).length=s.size+1:=by
 have h2:s.data.toList.length=s.size:=zV;unfold QT Il;rw[zH,GK K5];omega
def jz (u:ByteArray):Y4:=[0,0,0,0]++u.data.toList++zP (508-u.size) 0
structure xP (D:Int->Option Y4)(c:xG)(e:qw)(ps:List Int):Prop where
 key:c.key=e.1
 sz:e.1.size<=81
 val:(c.val=e.2/\c.pj=0/\c.size=0/\e.2.size<=60/\ps=[])\/(c.val=nX/\ps=[c.pj]/\c.size=(e.2.size:Int)/\60<e.2.size/\e.2.size<=400/\1<=c.pj/\c.pj<=2000/\D c.pj=some (jz e.2))
def yS (D:Int->Option Y4):List xG->List qw->List Int->Prop
 | [],[],ps=>ps=[]
 | c::cs,e::es,ps=>∃p q,xP D c e p/\yS D cs es q/\ps=p++q
 | _,_,_=>False
section
variable {D D':Int->Option Y4}{c:xG}{e:qw}
theorem xP.pR {ps:List Int}(h:xP D c e ps)(s:∀n∈ps,D' n=D n):xP D' c e ps:=by
 refine⟨h.key,h.sz,?_⟩;rcases h.val with h1|⟨h1,h2,a,d,f,j,q,r⟩
 .exact .inl h1
 .exact .inr ⟨h1,h2,a,d,f,j,q,by rw[s _ (by rw[h2];simp)];exact r⟩
theorem yS.pR:∀{cs:List xG} {es:List qw} {ps:List Int},yS D cs es ps->(∀n∈ps,D' n=D n)->yS D' cs es ps
 | [],[],_,h,_=>h
 | c::cs,e::es,ps,⟨p,q,h1,h2,h3⟩,hk=>⟨p,q,h1.pR λn hn=>hk n (by rw[h3];simp[hn]),yS.pR h2 λn hn=>hk n (by rw[h3];simp[hn]),h3⟩
 | [],_::_,_,h,_=>h.elim
 | _::_,[],_,h,_=>h.elim
theorem xP.ov {ps:List Int}(h:xP D c e ps):ps.length<=1:=by
 rcases h.val with h1|h1
 .rw[h1.2.2.2.2];simp
 .rw[h1.2.1];simp
theorem xP.right {ps:List Int}(h:xP D c e ps):xM c=true:=by
 unfold xM;rcases h.val with⟨h1,h2,h3,h4,h5⟩|⟨h1,h2,h3,h4,h5,h6,h7,h8⟩
 .rw[if_pos h2,h1,h3];simp[h4]
 .rw[if_neg K5,h1,h3];have:ByteArray.empty.toList.isEmpty=true:=by decide +kernel
  rw[this];unfold xY;simp[h6,h7];omega
theorem xP.short {ps:List Int}(h:xP D c e ps):yr c.key=true:=by
 unfold yr;rw[h.key];simp[h.sz]
theorem xP.laid {ps:List Int}(h:xP D c e ps):(jQ c).length<=144:=by
 unfold jQ;have f:=KK (s:=c.key) (by have:=h.sz;rw[h.key];omega);have j:=h.sz;rw[h.key] at f;rw[h.key];simp only[zH];rcases h.val with⟨h1,h2,h3,h4,h5⟩|⟨h1,h2,h3,h4,h5,d,h7,h8⟩
 .rw[if_pos h2,h2,h1];have:=GK (n:=(0:Int).toNat) K7;have d:=KK (s:=e.2) K5;omega
 .rw[if_neg K5];have a:=GJ (n:=c.pj.toNat) K5;have b:=GJ (n:=c.size.toNat) K5;omega
theorem yS.length:∀{cs:List xG} {es:List qw} {ps:List Int},yS D cs es ps->cs.length=es.length/\ps.length<=es.length
 | [],[],_,h=>by obtain rfl:_=[]:=h;simp
 | c::cs,e::es,ps,⟨p,q,h1,h2,h3⟩=>by have:=yS.length h2;have:=h1.ov;rw[h3];simp only[zK,zH];omega
 | [],_::_,_,h=>h.elim
 | _::_,[],_,h=>h.elim
theorem yS.keys:∀{cs:List xG} {es:List qw} {ps:List Int},yS D cs es ps->cs.map xG.key=es.map (·.1)
 | [],[],_,_=>rfl
 | c::cs,e::es,ps,⟨p,q,h1,h2,h3⟩=>by rw[zL,zL,h1.key,yS.keys h2]
 | [],_::_,_,h=>h.elim
 | _::_,[],_,h=>h.elim
theorem yS.each:∀{cs:List xG} {es:List qw} {ps:List Int},yS D cs es ps->∀c∈cs,∃e p,e∈es/\xP D c e p
 | [],[],_,_,c,hc=>by simp at hc
 | c::cs,e::es,ps,⟨p,q,h1,h2,h3⟩,x,a=>by
  rcases qN.1 a with rfl|a
  .exact⟨e,p,by simp,h1⟩
  .obtain⟨d,r,f,j⟩:=yS.each h2 x a;exact⟨d,r,by simp[f],j⟩
 | [],_::_,_,h,_,_=>h.elim
 | _::_,[],_,h,_,_=>h.elim
theorem yS.append:∀{cs:List xG} {es:List qw} {ps:List Int} {cs':List xG} {es':List qw} {a:List Int},yS D cs es ps->yS D cs' es' a->yS D (cs++cs') (es++es') (ps++a)
 | [],[],_,_,_,_,h,h'=>by obtain rfl:_=[]:=h;exact h'
 | c::cs,e::es,ps,_,_,_,⟨p,q,h1,h2,h3⟩,h'=>⟨p,_,h1,yS.append h2 h',by rw[h3,qQ]⟩
 | [],_::_,_,_,_,_,h,_=>h.elim
 | _::_,[],_,_,_,_,h,_=>h.elim
theorem yS.split:∀(i:Nat) {cs:List xG} {es:List qw} {ps:List Int},yS D cs es ps->∃p q,ps=p++q/\yS D (cs.take i) (es.take i) p/\yS D (cs.drop i) (es.drop i) q
 | 0,cs,es,ps,h=>⟨[],ps,rfl,rfl,h⟩
 | i+1,[],[],ps,h=>⟨[],[],h,rfl,rfl⟩
 | i+1,c::cs,e::es,ps,⟨p,q,h1,h2,h3⟩=>by obtain⟨a,q1,d,f,j⟩:=yS.split i h2;exact⟨p++a,q1,by rw[h3,d,qQ],⟨p,a,h1,f,rfl⟩,j⟩
 | _+1,[],_::_,_,h=>h.elim
 | _+1,_::_,[],_,h=>h.elim
end
theorem Mw {ks:List ByteArray}(h:ks.Pairwise (λa b=>ye a b=true)):Yn ks/\KP ks:=by
 have f:=List.pairwise_iff_getElem.1 h;refine⟨λj d=>vF (f j (j+1) K5 d K5),λj d => ?_⟩;have:=f j (j+1) K5 d K5;rw[beq_eq_false_iff_ne];intro e;rw[JE e] at this;rw[xL] at this;cases this
structure YP where
 pg:Int
 nd:ym
 es:List qw
 ps:List Int
def Uu (ks:List YP):List Int:=ks.map YP.pg
def KR (ks:List YP):List qw:=(ks.map YP.es).flatten
def ZD (ks:List YP):List Int:=(ks.map λk=>k.pg::k.ps).flatten
structure Jd (x:ym)(es:List qw)(ps:List Int)(ks:List YP):Prop where
 leaf:x.leaf=false
 cells:x.cells=[]
 kids:x.kids=Uu ks
 oV:es=KR ks
 dE:ps=ZD ks
 sep:RJ x.keys (ks.map YP.es)
 pos:0<x.keys.length
 sz:∀s∈x.keys,s.size<=81
 pZ:∀k∈ks,1<=k.pg/\k.pg<=2000
def yU (D:Int->Option Y4):Nat->ym->List qw->List Int->Prop
 | 0,x,es,ps=>x.leaf=true/\x.keys=[]/\x.kids=[]/\es≠[]/\yS D x.cells es ps
 | d+1,x,es,ps=>∃ks,Jd x es ps ks/\∀k∈ks,yU D d k.nd k.es k.ps/\D k.pg=some (xx k.nd)/\(qg k.nd).length<=512
section
variable {D D':Int->Option Y4}
theorem Kr {ks:List YP}{k:YP}(h:k∈ks):k.pg∈ZD ks/\∀n∈k.ps,n∈ZD ks:=by
 unfold ZD;refine⟨List.mem_flatten.2 ⟨k.pg::k.ps,qR.2 ⟨k,h,rfl⟩,by simp⟩,λn hn=>List.mem_flatten.2 ⟨k.pg::k.ps,qR.2 ⟨k,h,rfl⟩,by simp[hn]⟩⟩
theorem yU.pR:∀{d:Nat} {x:ym} {es:List qw} {ps:List Int},yU D d x es ps->(∀n∈ps,D' n=D n)->yU D' d x es ps
 | 0,_,_,_,⟨h1,h2,a,h4,h5⟩,hk=>⟨h1,h2,a,h4,h5.pR hk⟩
 | d+1,x,es,ps,⟨ks,hi,h⟩,hk=>⟨ks,hi,λk f=>by
  obtain⟨h1,h2,a⟩:=h k f;obtain⟨m1,m2⟩:=Kr f
  exact⟨yU.pR h1 λn hn=>hk n (by rw[hi.dE];exact m2 n hn),by rw[hk _ (by rw[hi.dE];exact m1)];exact h2,a⟩⟩
theorem Jd.len {x:ym}{es:List qw}{ps:List Int}{ks:List YP}(h:Jd x es ps ks):ks.length=x.keys.length+1:=by
 have:=h.sep.length
 rwa [qH] at this
theorem yU.ne:∀{d:Nat} {x:ym} {es:List qw} {ps:List Int},yU D d x es ps->es≠[]
 | 0,_,_,_,⟨_,_,_,h,_⟩=>h
 | d+1,x,es,ps,⟨ks,hi,h⟩=>by
  cases ks with
  | nil=>exact absurd hi.sep.length K9
  | cons k ks =>
   have:=yU.ne (h k K9).1;rw[hi.oV];unfold KR;simp[this]
theorem Ku:∀{ks:List YP} (d:Nat),(∀k∈ks,k.ps.length+2<=3*k.es.length/\d<k.es.length)->(ZD ks).length+ks.length<=3*(KR ks).length/\ks.length<=(KR ks).length/\(2<=ks.length->d+1<(KR ks).length)
 | [],_,_=>by simp[ZD,KR]
 | k::ks,d,h=>by
  obtain⟨h1,h2,_⟩:=Ku d λj q=>h j (List.mem_cons_of_mem _ q)
  obtain⟨r,s⟩:=h k K9;have a:ZD (k::ks)=(k.pg::k.ps)++ZD ks:=rfl;have f:KR (k::ks)=k.es++KR ks:=rfl;rw[a,f];simp only[zH,zK];omega
theorem yU.ov:∀{d:Nat} {x:ym} {es:List qw} {ps:List Int},yU D d x es ps->ps.length+2<=3*es.length/\d<es.length
 | 0,_,es,_,⟨_,_,_,h,hc⟩=>by have:=hc.length;have:=List.length_pos_iff.2 h;omega
 | d+1,x,es,ps,⟨ks,hi,h⟩=>by
  obtain⟨h1,h2,a⟩:=Ku d λk f=>yU.ov (h k f).1
  have:=hi.len;have:=hi.pos;rw[<-hi.oV,<-hi.dE] at h1;rw[<-hi.oV] at a;have:=a K5;omega
theorem yU.many {d:Nat}{x:ym}{es:List qw}{ps:List Int}(h:yU D d x es ps):x.cells.length<=es.length/\x.keys.length<=es.length/\x.kids.length<=es.length:=by
 cases d with
 | zero =>
  obtain⟨h1,h2,a,q,f⟩:=h;rw[h2,a,f.length.1];simp
 | succ d =>
  obtain⟨ks,hi,h⟩:=h;obtain⟨h1,h2,a⟩:=Ku d λk j=>yU.ov (h k j).1
  have:=hi.len;rw[<-hi.oV] at h2;rw[hi.cells,hi.kids];unfold Uu;simp;omega
theorem zu.oW {ks:List YP}(h:zu (KR ks)):∀k∈ks,zu k.es:=λk a=>(List.pairwise_flatten.1 h).1 k.es (qR.2 ⟨k,a,rfl⟩)
theorem Pp {cells:List xG}{es:List qw}{ps:List Int}(h:yS D cells es ps)(hs:zu es):yh ⟨true,cells,[],[]⟩:=by
 have f:qh ⟨true,cells,[],[]⟩=es.map (·.1):=h.keys;have j:(es.map (·.1)).Pairwise (λa b=>ye a b=true):=List.pairwise_map.2 hs;obtain⟨h1,h2⟩:=Mw j;refine⟨by rw[f];exact h1,by rw[f];exact h2,λs hs => ?_,λ_=>⟨rfl,rfl,λc hc => ?_⟩,λe=>by cases e⟩
 .obtain⟨c,hc,rfl⟩:=qR.1 (show s∈cells.map xG.key from hs);obtain⟨e,p,_,d⟩:=h.each c hc;exact d.short
 .obtain⟨e,p,_,d⟩:=h.each c hc;exact d.right
theorem yU.right {d:Nat}{x:ym}{es:List qw}{ps:List Int}(h:yU D d x es ps)(hs:zu es):yh x:=by
 cases d with
 | zero =>
  obtain⟨h1,h2,j,B,r⟩:=h;have:=Pp r hs;obtain⟨leaf,cells,keys,kids⟩:=x;simp only at h1 h2 j;subst h1 h2 j;exact this
 | succ d =>
  obtain⟨ks,hi,h⟩:=h;have A:x.keys.Pairwise (λa b=>ye a b=true):=hi.sep.sorted λl hl=>by obtain⟨k,f,rfl⟩:=qR.1 hl;exact(h k f).1.ne
  obtain⟨h1,h2⟩:=Mw A;have hn:qh x=x.keys:=by unfold qh;rw[hi.leaf];rfl
  refine⟨by rw[hn];exact h1,by rw[hn];exact h2,λs hs => ?_,(λe=>by rw[hi.leaf] at e;cases e),λ_=>⟨hi.cells,hi.pos,?_,λi q => ?_⟩⟩
  .rw[hn] at hs;unfold yr;simp[hi.sz s hs]
  .rw[hi.kids];unfold Uu;rw[qH,hi.len]
  .rw[hi.kids] at q;obtain⟨k,f,rfl⟩:=qR.1 q;have:=hi.pZ k f;unfold xY;simp[this]
end
theorem RZ {u:ByteArray}(h:u.size<=508):(jz u).length=512:=by
 have h2:u.data.toList.length=u.size:=zV;unfold jz;simp only[zH,List.length_replicate,zK,zY,h2];omega
theorem LU (u:ByteArray):xH ((jz u).take 4)=0:=by
 unfold jz;simp[xH]
theorem BG {u:ByteArray}(j:Nat)(d:j<u.data.toList.length)(a:4+j<(jz u).length):(jz u)[4+j]=u.data.toList[j]:=by
 have e:([0,0,0,0]++u.data.toList++zP (508-u.size) 0)[4+j]?=some u.data.toList[j]:=by rw[qQ,qU K9,List.getElem?_append_left (by simpa using d)];simp
 have:(jz u)[4+j]?=some u.data.toList[j]:=e;rw[zM a] at this;exact fo this
section
variable {W0 W W':World}{K:xB}{p t:Nat}{k:Int}{v v':yj}{st last st' last':qj}{under:Bool}{mk mk':Value}{ms:List xo}
theorem UF (h:zy W0 K p t k v st last under mk ms W)(hK:K.Ok)(hN:v.N<=800000)(n:Int)(hn:1<=n/\n<st.size)(hP:n<(K.P:Int))(hT:¬ jD K v.D)(u ky:ByteArray)(hu:60<u.size/\u.size<=400)(O:v.D n=some (jz u))
  (F:Nat) (q:Value) (eg:∀args w,(gm F args).run Y3 w=.ok (.enter F args) w) (P:yj->World->Prop)
  (H:∀a v1 A,zy W0 K p t k v1 st last under mk ms a->XY K v v1->W.heap.size<=a.heap.size->ze (qi K p v) W a->zz K W v v1->qv a a.heap.size A u.size u.data.toList->nK Y3 F #[Y1 Q4 n,X1 A u.size u.size,q] a λe w'=>(∃z,e=Y0 z)/\P v1 w') :
  nK Y3 142 #[Q0 #[Y9 t],Q0 (zl ⟨ky,nX,n,(u.size:Int)⟩).toArray,.func (.func F) #[] #[q]] W λe w'=>(∃z,e=Y0 z)/\∃v1,P v1 w':=by
 obtain⟨a,E,r,b3,b4⟩:=Bz W 92 #[Y9 t] 94 #[X9 ky,X9 nX,Y1 Q4 n,Y1 Q4 (u.size:Int)];have h1:=h.grow r;have s:=UD h1 hK hN n hn hP hT (by rw[O];rfl);have aD:v.view K n.toNat=jz u:=by rw[jv,show ((n.toNat:Nat):Int)=n by omega,O];rfl
 rw[aD] at s;have c2:a.cell? ⟨W.heap.size+1,2,K3⟩=K4 (Y1 Q4 n):=by rw[b4.cell];rfl
 have c3:a.cell? ⟨W.heap.size+1,3,K3⟩=K4 (Y1 Q4 (u.size:Int)):=by rw[b4.cell];rfl
 have c0:=b3.boxed;have I:=c2;have L:=c3;rw[E] at I L;have aB:=nI E.symm;have aG:u.data.toList.length=u.size:=zV;clear E;unfold zl
 go_enter func142,ntmps142
 go_wp2;rw[aB.out];clear I L
 go_loopw [6,7] (λj i wr=>(j=Y1 Q4 (u.size:Int)/\i=Y1 Q4 n/\wr=a)\/(j=Y1 Q4 0/\i=Y1 Q4 0/\∃v1,P v1 wr)) (λj _ _=>match j with | .int _ m=>m.toNat|_=>0)
 case atStart=>exact .inl ⟨rfl,rfl,rfl⟩
 case round =>
  rcases hrel with⟨rfl,rfl,rfl⟩|⟨rfl,rfl,v1,hP1⟩
  .have aJ:¬ n=0:=K5
   have aL:¬ u.size=0:=K5
   go_wp2_with fail
   refine s.mono ?_;rintro e w2 ⟨v',A,c,rfl,f,aE,h2,Z,aA,C⟩;have B:=YB w2 A c (jz u) f;rw[aE,Vi K5,LU] at B;have hcut:=f.max;have aF:=f.le;obtain⟨g,o,rfl,V,U⟩:=f.pO K5
   go_wp2_with fail
   refine B.mono ?_;rintro e w3 ⟨rfl,d⟩;have M:=h2.grow d;have X:qv w3 w3.heap.size (K4 ⟨g,o+4,K3⟩) u.size u.data.toList:=by refine⟨by omega,by omega,(λe=>by cases e),λ_=>⟨g,o+4,rfl,zO V d.size,λj hj => ?_⟩⟩;have:=U (4+j) K5;rw[BG j hj K5] at this;rw[d.cell (p:=⟨g,o+4+j,K3⟩) V,<-this,Nat.add_assoc]
   have Q:ze (qi K p v) W w3:=((ze.below r).trans C).trans (ze.below d);have G:=H w3 v' (K4 ⟨g,o+4,K3⟩) M Z (by have:=r.size;have:=C.size;have:=d.size;omega) Q (aA.mono r.size) X;have aH:(if (508:Int)<(u.size:Int) then (508:Int) else (u.size:Int))=(u.size:Int):=by rw[if_neg K5]
   have aM:IntKind.i64.wrap (4+(u.size:Int))=4+(u.size:Int):=xX _;have aK:(4+min (u.size:Int) 508).toNat-4=u.size:=K5
   have aI:min (u.size:Int) 508=(u.size:Int):=K5
   clear s B h2 M Z aA C Q f X U H h1 h
   go_wp2_with fail
   refine G.mono ?_;rintro e w4 ⟨⟨z,rfl⟩,aC⟩;clear G
   go_wp2_with fail
   refine⟨.inr ⟨rfl,rfl,v',aC⟩,?_⟩;show (0:Int).toNat<((u.size:Int)).toNat
   omega
  .go_wp2
   first
    |(go_end0;exact⟨⟨_,rfl⟩,v1,hP1⟩)
    |(refine nT (mF rfl _ _ _) rfl ?_;exact⟨⟨_,rfl⟩,v1,hP1⟩)
end
section
variable {W0 W W':World}{K:xB}{p t:Nat}{v v':yj}{st last st' last':qj}{under:Bool}{mk mk':Value}{ms:List xo}
end
theorem LY (w:World)(s:Value)(d u:ByteArray):nK Y3 87 #[Q0 #[s],Q0 (zl ⟨d,u,0,0⟩).toArray] w λe w'=>(∃z,e=Y0 z)/\nH w.heap.size w w':=by
 obtain⟨W1,a⟩:=Z9 (((w.alloc (Q9 #[s] 92)).alloc (Q9 #[X9 d,X9 u,Y1 Q4 0,Y1 Q4 0] 94)).alloc (Q9 #[X1 none 0 0] 67));have r:nH w.heap.size w W1:=by rw[a];exact YK _ _ _ _
 have b2:za W1 w.heap.size 92 #[s]:=by rw[a];exact((za.new w _ _).alloc _).alloc _
 have b3:za W1 (w.heap.size+1) 94 #[X9 d,X9 u,Y1 Q4 0,Y1 Q4 0]:=by have:=(za.new (w.alloc (Q9 #[s] 92)) 94 #[X9 d,X9 u,Y1 Q4 0,Y1 Q4 0]).alloc (Q9 #[X1 none 0 0] 67);rw[nG] at this;rw[a];exact this
 have b4:za W1 (w.heap.size+1+1) 67 #[X1 none 0 0]:=by have:=za.new ((w.alloc (Q9 #[s] 92)).alloc (Q9 #[X9 d,X9 u,Y1 Q4 0,Y1 Q4 0] 94)) 67 #[X1 none 0 0];rw[nG,nG] at this;rw[a];exact this
 have j:=b2.boxed;rw[a] at j;have f:=KY W1 s (.func (.func 143) #[] #[Y9 (w.heap.size+1+1:Nat)]) d u;unfold zl at f ⊢;have B:=nI a.symm;have h:=b3;rw[a] at h;clear a
 go_enter func87,ntmps87
 go_wp2_with (first
  | (refine yp ql h ?_))
 rw[B.out];refine f.mono ?_;rintro e E ⟨⟨z,rfl⟩,A⟩;have C:=b4.below A b4.lt;have F:=C.boxed;have q:=r.trans (A.mono r.size);clear f b2 b3 h b4 j;go_wp2
 go_loopw [13] (λi wr=>i=Y1 Q4 0/\wr=E) (λ_ _=>0)
 case atStart=>exact⟨rfl,rfl⟩
 case round =>
  obtain⟨rfl,rfl⟩:=hrel;go_wp2
  first
   |(go_end0;exact⟨⟨_,rfl⟩,q⟩)
   |(refine nT (mF rfl _ _ _) rfl ?_;exact⟨⟨_,rfl⟩,q⟩)
section
variable {S T:TypeId}{sz by_:Nat}{z:Value}{ρ:nO->Value}{w:World}{o:Oper}{x y u:nO}
theorem Cy {g n c i:Nat}(a:ZQ S T sz by_ z)(h:o.op=.slice S x (some y) none none)(h1:ρ x=X1 g n c)(h2:ρ y=Y1 Q4 (i:Int))(hi:i<=n):(nQ ρ o).run Y3 w=.ok (.value (X1 (K4 ⟨g,if c=i then 0 else i*sz,K3⟩) (n-i) (c-i))) w:=by
 have ht:=Fc a;have d:(i:Int)<=(n:Int):=K5
 have hs:=YI a
 by_cases f:c=i
 .simp[nQ,h,h1,h2,go_sem,run_sliceAt_slice _ _ _ _ _ _ ht,nM,d,run_slice_l (ht:=ht),a.oB,hs,sliced,f]
 .simp[nQ,h,h1,h2,go_sem,run_sliceAt_slice _ _ _ _ _ _ ht,nM,d,run_slice_l (ht:=ht),a.oB,hs,sliced,f,mP]
end
section
variable {W0 W W':World}{K:xB}{p t:Nat}{k:Int}{v v':yj}{st last st' last':qj}{mk mk':Value}{ms:List xo}
end
section
variable {W0 W W':World}{K:xB}{p t:Nat}{k:Int}{v v':yj}{st last st' last':qj}{mk mk':Value}{ms:List xo}{x y:ym}{Ac Ak Ai Bc Bk Bi:Y5}{cc ck ci bc bk bi:Nat}
theorem wL (W:World)(a b c d:Y7):∃f,f=(((W.alloc (Q9 a 92)).alloc (Q9 b 69)).alloc (Q9 c 69)).alloc (Q9 d 69)/\nH W.heap.size W f/\za f W.heap.size 92 a/\za f (W.heap.size+1) 69 b/\za f (W.heap.size+1+1) 69 c/\za f (W.heap.size+1+1+1) 69 d/\f.heap.size=W.heap.size+1+1+1+1:=by
 refine⟨_,rfl,(YK _ _ _ _).alloc (by simp[nG];omega) _,(((za.new W _ _).alloc _).alloc _).alloc _,?_,?_,?_,by simp[nG]⟩
 .have:=((za.new (W.alloc (Q9 a 92)) 69 b).alloc (Q9 c 69)).alloc (Q9 d 69)
  rwa [nG] at this
 .have:=(za.new ((W.alloc (Q9 a 92)).alloc (Q9 b 69)) 69 c).alloc (Q9 d 69)
  rwa [nG,nG] at this
 .have:=za.new (((W.alloc (Q9 a 92)).alloc (Q9 b 69)).alloc (Q9 c 69)) 69 d
  rwa [nG,nG,nG] at this
theorem Rf (h:zy W0 K p t k v st last true mk ms W)(hK:K.Ok)(hN:v.N<=800000)(hT:¬ jD K v.D)(hx:yc W K p v x Ac cc Ak ck Ai ci)(hy:yc W K p v y Bc bc Bk bk Bi bi)(i:Nat)(m:Int)(L:x.kids[i]?=some m)(hn:1<=m/\m<st.size)(hP:m<(K.P:Int))
  (hl:y.cells.length<=1000) (aQ:y.keys.length<=1000) (aR:y.kids.length<=1001) (hR:yh y) (aP:(qg y).length<=512) :
  nK Y3 85 #[Q0 #[Y9 t],Q0 (zx x Ac cc Ak ck Ai ci),Y1 Q4 (i:Int),Q0 (zx y Bc bc Bk bk Bi bi)] W λe w'=>∃v',e=Y0 (Q0 (zx x Ac cc Ak ck Ai ci))/\yc w' K p v' x Ac cc Ak ck Ai ci/\zy W0 K p t k v' st last true mk ms w'/\ra K v v' m (xx y)/\zz K W v v'/\ze (qi K p v) W w':=by
 have bE:=h.up;obtain⟨E,aA,F,b4,b5,b7,b8,bD⟩:=wL W #[Y9 t] (zx x Ac cc Ak ck Ai ci) (zx y Bc bc Bk bk Bi bi) #[X3 false,X1 none 0 0,X1 none 0 0,X1 none 0 0];have h1:=h.grow F;have aD:=hx.grow F;have aE:=hy.grow F;have M:=Et E y Bc bc Bk bk Bi bi aE.is hl aQ aR hR aP;have O:∀a,nH E.heap.size E a->_:=λa G=>jG (h1.grow G) hK hN m hn hP hT y Bc bc Bk bk Bi bi (aE.grow G).is hl aQ aR hR aP
 have a6:=h1.pP b4 K7;have a7:=h1.pP b5 K7;have a8:=h1.pP b7 K7;have a9:=h1.pP b8 K7;obtain⟨g,o,eA,hg,hc,hi⟩:=aD.oW L;have bB:(i:Int)<(x.kids.length:Int):=K5
 have bC:(0:Int)<=(i:Int):=K5
 obtain⟨X,C⟩:=Z9 (zx x Ac cc Ak ck Ai ci);obtain⟨Y,aC⟩:=Z9 (zx y Bc bc Bk bk Bi bi);have aB:X.size=4:=by rw[C];rfl
 have aN:Y.size=4:=by rw[aC];rfl
 have a1:∀u∈X.toList,u.oneCell'=true:=by rw[C];exact zw rfl rfl rfl rfl
 have aM:X[3]?=some (X1 (K4 ⟨g,o,K3⟩) x.kids.length ci):=by rw[C,eA];rfl
 have bA:∀m,X[0]? ≠ K4 (Y1 Q6 m):=λm e=>by rw[C] at e;cases e
 simp only[<-C,<-aC] at M O b5 b7 aA ⊢;have aU:=nI aA.symm;have aV:=hx;clear aA hx hy aE C aC h
 go_enter func85,ntmps85
 go_wp2_with (first
  | (rw[aU.out];refine yO rfl 69 (.tmp 7) rfl (W.heap.size+1+1) rfl zm b7 aN ?_))
 refine M.mono ?_;rintro e a ⟨rfl,G⟩;have aK:nH a.heap.size a a.drew:=(nF _ _).drew;have q:nH E.heap.size E a.drew:=G.trans (aK.mono G.size);have aF:=O a.drew q;have Q:=b4.below q b4.lt;have U:=b5.below q b5.lt;have V:=b7.below q b7.lt;have aH:=b8.below q b8.lt;have a5:=aD.grow q;have aO:a.drew.cell? ⟨g,o+i,K3⟩=K4 (Y1 Q4 m):=(q.cell (p:=⟨g,o+i,K3⟩) hg).trans hc;have aI:a.drew.cell? ⟨W.heap.size+1,3,K3⟩=some (X1 (K4 ⟨g,o,K3⟩) x.kids.length ci):=by rw[U.cell];exact aM
 have r:za a.drew W.heap.size 92 #[Y9 t]/\a.drew.cell? ⟨W.heap.size+1,3,K3⟩=some (X1 (K4 ⟨g,o,K3⟩) x.kids.length ci)/\a.drew.cell? ⟨g,o+i,K3⟩=K4 (Y1 Q4 m)/\za a.drew (W.heap.size+1+1) 69 Y:=⟨Q,aI,aO,V⟩;clear M O b4 b5 b7 b8 aD hc aK
 go_wp2_with fail
 refine zb.st (λW':World=>za W' W.heap.size 92 #[Y9 t]/\W'.cell? ⟨W.heap.size+1,3,K3⟩=some (X1 (K4 ⟨g,o,K3⟩) x.kids.length ci)/\W'.cell? ⟨g,o+i,K3⟩=K4 (Y1 Q4 m)/\za W' (W.heap.size+1+1) 69 Y) 99 ?_;generalize a.drew=wd at *;refine zb.t0 0 (Q0 #[Y9 t]) rfl r (λW ⟨s,d,f,A⟩=>by exact Qa Xk s rfl rfl rfl) ?_;refine zb.q0 1 (Y9 (K4 ⟨W.heap.size+1,3,K3⟩)) r ?_;refine zb.q0 2 (X1 (K4 ⟨g,o,K3⟩) x.kids.length ci) r ?_;refine zb.q0 3 (Y1 Q4 (i:Int)) r ?_;refine zb.q0 4 (Y9 (K4 ⟨g,o+i,K3⟩)) r ?_;refine zb.q0 5 (Y1 Q4 m) r ?_;simp only[Z8];refine zb.t0 6 (Q0 Y) rfl r (λW ⟨s,d,f,A⟩=>by exact Qb zm A aN rfl rfl) ?_;simp only[Z8];refine zb.n 7 ?_;refine zb.oC 50 #[.tmp 16,.tmp 21,.tmp 22] #[92,3,69] #[Q0 #[Y9 t],Y1 Q4 m,Q0 Y] (aF.mono ?_) (zb.eo func50);rintro e w3 ⟨v',⟨z,rfl⟩,h3,a3,aS,B⟩;have aW:=B.blk Q a6;have aG:=B.blk U a7;have aX:=B.blk V a8;have Z:=B.blk aH a9;have aT:=a5.pS B aS;have aL:za w3 W.heap.size 92 #[Y9 t]/\w3.cell? ⟨W.heap.size+1,3,K3⟩=some (X1 (K4 ⟨g,o,K3⟩) x.kids.length ci)/\w3.cell? ⟨g,o+i,K3⟩=K4 (Y1 Q4 m)/\za w3 (W.heap.size+1+1) 69 Y:=by
  refine⟨aW,by rw[aG.cell];exact aM,?_,aX⟩;obtain⟨g',o',I,_,a2,_⟩:=aT.oW L;rw[eA] at I;injection I with I
  injection I with d f
  subst d f;exact a2
 refine⟨_,rfl,λ_=>aL,zb.dn ?_⟩;simp only[Z8];have aJ:nH W.heap.size W wd:=F.trans (q.mono F.size);have H:ze (qi K p v) W w3:=(ze.below aJ).trans B;have a0:zz K W v v':=aS.mono aJ.size;have h4:=h3.pQ (qm w3 (W.heap.size+1+1+1) X) Z K7 (λm e=>by cases e) K5 K7;have aY:=Z.setRow X;have a4:yc (w3.setRow (W.heap.size+1+1+1) X) K p v' x Ac cc Ak ck Ai ci:=aV.box aT K5 X;have aZ:ze (qi K p v) W (w3.setRow (W.heap.size+1+1+1) X) :=
  ⟨H.os,H.tape,H.output,by simp[gM];exact H.size,λj hj L=>(ng _ _ j _ K5).trans (H.block j hj L)⟩
 clear r aL Q U V aH aF aO aI
 go_wp2_with (first
  |(refine yO rfl 69 (.tmp 5) rfl (W.heap.size+1) rfl zm aG aB ?_)
  | (refine vC zm Z aB a1 ?_))
 exact nu (yg rfl (yx (g:=W.heap.size+1+1+1) 8 rfl zm aY aB)) rfl ⟨v',rfl,a4,h4,a3,a0,aZ⟩
end
theorem vV:ZQ 66 9 1 16 (X9 nX):=⟨underlying66,by kernel_rfl,by kernel_rfl,by decide⟩
def SH (w:World)(g n i:Nat)(cs cx:Y8)(e:Ending)(w':World):Prop:=∃h c',e=Y0 (X1 (K4 ⟨h,0,K3⟩) (n+1) c')/\(h=g\/w.heap.size<=h)/\n+1<=c'/\c'<=gP/\(∃cur',za w' h 9 cur'/\cur'.size=c'/\cur'.toList.take ((n+1))=cs.take (i)++cx++cs.drop (i))/\w.grownBy w' (some g)
theorem SR {ρ:nO->Value}{w w':World}{o:Oper}{x y:nO}{u v r:Value}(a:o.op=.call {callee:=.builtin .copy,args:=#[x,y],argTypes:=#[66,66]})(h1:ρ x=u)(h2:ρ y=v)(d:(gw #[66,66] o.type #[u,v]).run Y3 w=.ok r w'):(nQ ρ o).run Y3 w=.ok (.value r) w':=by
 unfold nQ;simp only[a,resolve,invoke,builtin,gJ,ny,nc,zJ,zL,zN,h1,h2,d]
theorem wo {ρ:nO->Value}{w w':World}{o:Oper}{x y:nO}{u v r:Value}(a:o.op=.call {callee:=.builtin .append,args:=#[x,y],argTypes:=#[66,3]})(h1:ρ x=u)(h2:ρ y=v)(d:(Builtin.append_ #[66,3] o.type #[u,v]).run Y3 w=.ok r w'):(nQ ρ o).run Y3 w=.ok (.value r) w':=by
 unfold nQ;simp only[a,resolve,invoke,builtin,gJ,ny,nc,zJ,zL,zN,h1,h2,d]
section
variable {w:World}{g c n i g2:Nat}{cur:Y7}{cs cx:Y8}
theorem Nw (H:za w g 9 cur)(A:cur.size=c)(s:cs=cur.toList.take (n))(hi:i<n)(aB:n+1<=c)(aE:c<=gP)(hn:n<=100000)
  (B:za w g2 9 cx.toArray) (aH:cx.length=1) (U:∀u∈cx,u.oneCell'=true) (Q:∀u∈cs,u.oneCell'=true) (aK:g2≠g) :
  nK Y3 212 #[X1 g n c,Y1 Q4 (i:Int),X1 g2 1 1] w (SH w g n i cs cx):=by
 have aF:cs.length=n:=by rw[s,qB,zV,A];omega
 have Z:(cs.drop (i)).length=(n-i):=by rw[qF,aF]
 have E:za w.drew g 9 cur:=H;have aA:∀ty h N,(gw #[66,66] ty #[X1 (K4 ⟨g,(i+1),K3⟩) (n+1-(i+1)) h,X1 (K4 ⟨g,i,K3⟩) (n+1-i) N]).run Y3 w.drew=.ok (eH ((n-i:Nat):Int)) (w.drew.setRow g (cur.toList.take ((i+1))++cs.drop (i)++cur.toList.drop ((i+1)+(cs.drop (i)).length)).toArray):=λty h N =>
  jm vV w.drew ty g ((i+1)) (n+1-(i+1)) h ⟨g,i,K3⟩ (n+1-i) N (n-i) cur 9 (cs.drop (i)) E (by simp only[lZ];split<;>omega) Z (λj u r=>by
   rw[mP,E.cell];rw[mD,s,yI] at r;split at r
   .simpa using r
   .cases r) (by rw[Z,A];omega) (λu hu=>Q u (qV hu))
 have aL:∀lb cb,(gm 271 #[X1 g2 1 1,X1 (K4 ⟨g,(i+1),K3⟩) lb cb]).run Y3 w=.ok (.value (X3 false)) w:=λlb cb=>by
  rw[run_callFunc_extern func271 K6 K6 K6 (e:=fW #[66,66] #[4]) K6,
   Lib.run_overlaps_apart w 66 4 9 vV.oB 1 (λw=>YI vV w) ⟨g2,0,K3⟩ ⟨g,(i+1),K3⟩ 1 1 lb cb aK 9 9 cx.toArray.size cur.size (by simp[lu,show w.heap[g2]?=_ from B]) (by simp[lu,show w.heap[g]?=_ from H]) (by rw[A];omega) (by simp[lz,show w.heap[g2]?=_ from B]) (by simp[lz,show w.heap[g2]?=_ from B])]
  rfl
 obtain⟨O,G,P⟩:=TC (L:=cur.toList) (X:=cs.take (i)) (Y:=cs.drop (i)) (C:=cx) (i:=i) (n:=n) aH (by rw[s,mU];congr 1;omega) (by rw[s]) K5 (by rw[zV,A];omega);have F:za (w.drew.setRow g (cur.toList.take ((i+1))++cs.drop (i)++cur.toList.drop ((i+1)+(cs.drop (i)).length)).toArray) g 9 (cur.toList.take ((i+1))++cs.drop (i)++cur.toList.drop ((i+1)+(cs.drop (i)).length)).toArray:=E.setRow _;have M:za (w.drew.setRow g (cur.toList.take ((i+1))++cs.drop (i)++cur.toList.drop ((i+1)+(cs.drop (i)).length)).toArray) g2 9 cx.toArray:=za.pN (show za w.drew g2 9 cx.toArray from B) K5 _;generalize aC:cur.toList.take ((i+1))++cs.drop (i)++cur.toList.drop ((i+1)+(cs.drop (i)).length)=a at *;have I:w.grownBy (w.drew.setRow g a.toArray) (some g):=qe (yM w _) (vE _ _ _);obtain⟨f,V⟩:=Z9 (w.drew.setRow g a.toArray);rw[<-V] at aA F M I;have aG:∀ty h,(gw #[66,66] ty #[X1 (K4 ⟨g,i,K3⟩) (n+1-i) h,X1 g2 1 1]).run Y3 f=.ok (eH 1) (f.setRow g (a.take (i)++cx++a.drop (i+cx.length)).toArray):=λty h =>
  jm vV f ty g (i) (n+1-i) h ⟨g2,0,K3⟩ 1 1 1 a.toArray 9 cx F (by simp only[lZ];split<;>omega) K5 (λj u r=>by
   rw[mP,M.cell]
   simpa using r) (by have:=G;simp only[zR,zV] at this ⊢;omega) U
 have aJ:w.grownBy (f.setRow g (a.take (i)++cx++a.drop (i+cx.length)).toArray) (some g):=qe I (vE _ _ _);have aI:=F.setRow (a.take (i)++cx++a.drop (i+cx.length)).toArray;generalize aD:a.take (i)++cx++a.drop (i+cx.length)=L2 at *;have E3:=nI (And.intro G P);have E1:=nI O;clear O G P aC aD V s H E B F M I U Q;have d:True:=trivial;have aO:¬ ((c:Int)<(n:Int)+1):=K5
 have aM:IntKind.i64.wrap ((n:Int)+1)=(n:Int)+1:=zg _;have aN:IntKind.i64.wrap ((i:Int)+1)=(i:Int)+1:=zg _
 go_enter func212,ntmps212
 go_wp2_with (first
  |(refine zp rfl (Xc (k:=n+1) vV rfl rfl (by first|rfl|exact(by push_cast;rfl)) aB) ?_)
  |(refine zp rfl (xQ (i:=i+1) vV rfl rfl rfl K5 K5) ?_)
  |(refine zp rfl (xQ (i:=i) vV rfl rfl rfl K5 K5) ?_)
  | (simp only[aL]))
 refine zb.st (λ_=>True) 99 ?_;refine zb.q0 0 (X1 g (n+1) c) d ?_;refine zb.q0 1 (Y1 Q4 (i:Int)) d ?_;refine zb.q0 2 (Y1 Q4 1) d ?_;refine zb.q0 3 (Y1 Q4 ((i:Int)+1)) d ?_;simp only[Z8];refine zb.t0 4 (X1 (K4 ⟨g,(i+1),K3⟩) (n+1-(i+1)) (c-(i+1))) rfl d (λW q=>by exact xQ (i:=i+1) vV rfl rfl rfl K5 K5) ?_;refine zb.q0 5 (X1 g (n+1) c) d ?_;refine zb.q0 6 (Y1 Q4 (i:Int)) d ?_;simp only[Z8];refine zb.t0 7 (X1 (K4 ⟨g,i,K3⟩) (n+1-i) (c-i)) rfl d (λW q=>by exact xQ (i:=i) vV rfl rfl rfl K5 K5) ?_;simp only[Z8];refine zb.n 8 (zb.opV (w':=f) (eH ((n-i:Nat):Int)) rfl rfl (by exact SR rfl rfl rfl (aA _ _ _)) ⟨λ_=>d,zb.dn ?_⟩);simp only[Z8]
 go_wp2_with (first
  |(refine zp rfl (xQ (i:=i) vV rfl rfl rfl K5 K5) ?_)
  | (at_builtin;refine fa _ rfl _ _ 66 66 rfl _ _ rfl rfl (aG _ _) ?_))
 go_ret;exact⟨g,c,rfl,.inl rfl,aB,aE,⟨_,aI,by rw[zR,E3.out.2,zV,A],by rw[E1.out]⟩,aJ⟩
theorem Nx (E:za w g 9 cur)(V:cur.size=c)(B:cs=cur.toList.take (n))(hi:i<n)(aV:n<=c)(aW:¬ n+1<=c)(hn:n<=100000)
  (hx:za w g2 9 cx.toArray) (aH:cx.length=1) (aB:∀u∈cx,u.oneCell'=true) (aA:∀u∈cs,u.oneCell'=true) :
  nK Y3 212 #[X1 g n c,Y1 Q4 (i:Int),X1 g2 1 1] w (SH w g n i cs cx):=by
 have I:cs.length=n:=by rw[B,qB,zV,V];omega
 have aF:(cs.drop (i)).length=(n-i):=by rw[qF,I]
 have aE:(cs.take (i)).length=i:=by rw[qB,I];omega
 obtain⟨G,cur',F,aC,aO,U,aM⟩:=UN vV w g i c (n+1-i) cur E (by rw[V];omega) K5 K5 K5 K7;rw[show i+(n+1-i)=n+1 by omega] at F aC;have hX:cur'.toList.take (i)=cs.take (i):=by rw[aM,B,mU];congr 1;omega
 have aT:=E.lt;obtain⟨h,hh⟩:=Z9 w.heap.size;obtain⟨d,s⟩:=Z9 (w.drew.alloc (Q9 cur' 9));have O:za d h 9 cur':=by rw[s,hh];exact za.new w.drew 9 cur'
 have aI:za d g 9 cur:=by rw[s];exact za.alloc (show za w.drew g 9 cur from E) _
 have aN:za d g2 9 cx.toArray:=by rw[s];exact za.alloc (show za w.drew g2 9 cx.toArray from hx) _
 have aK:w.grownBy d (some g):=by rw[s];exact Yz (yM w _) _
 rw[<-s,<-hh] at F;obtain⟨Z,H,e3⟩:=Ef (L:=cur'.toList) (X:=cs.take (i)) (Y:=cs.drop (i)) (C:=cx) (i:=i) (n:=n) aH hX aE K5 K5 (by rw[zV,U];omega);have aG:∀ty,(gw #[66,66] ty #[X1 (K4 ⟨h,i,K3⟩) (n+1-i) (G-i),X1 g2 1 1]).run Y3 d=.ok (eH ((1:Nat):Int)) (d.setRow h (cur'.toList.take (i)++cx++cur'.toList.drop (i+cx.length)).toArray):=λty =>
  jm vV d ty h (i) (n+1-i) (G-i) ⟨g2,0,K3⟩ 1 1 1 cur' 9 cx O (by simp only[lZ];split<;>omega) K5 (λj u A=>by
   rw[mP,aN.cell]
   simpa using A) K5 aB
 have P:=O.setRow (cur'.toList.take (i)++cx++cur'.toList.drop (i+cx.length)).toArray;have M:=aI.pN (k:=h) K5 (cur'.toList.take (i)++cx++cur'.toList.drop (i+cx.length)).toArray;have N:=vG aK (b:=h) K5 (cur'.toList.take (i)++cx++cur'.toList.drop (i+cx.length)).toArray;generalize aP:cur'.toList.take (i)++cx++cur'.toList.drop (i+cx.length)=a at *;obtain⟨f,aD⟩:=Z9 (d.setRow h a.toArray);rw[<-aD] at aG P M N;have Q:za f.drew h 9 a.toArray:=P;have aJ:za f.drew g 9 cur:=M;have aL:w.grownBy f.drew (some g):=qe N (yM _ _);have aR:∀ty,(gw #[66,66] ty #[X1 (K4 ⟨h,(i+1),K3⟩) (n+1-(i+1)) (G-(i+1)),X1 (K4 ⟨g,i,K3⟩) (n-i) (c-i)]).run Y3 f.drew=.ok (eH ((n-i:Nat):Int)) (f.drew.setRow h (a.take ((i+1))++cs.drop (i)++a.drop ((i+1)+(cs.drop (i)).length)).toArray):=λty =>
  jm vV f.drew ty h ((i+1)) (n+1-(i+1)) (G-(i+1)) ⟨g,i,K3⟩ (n-i) (c-i) (n-i) a.toArray 9 (cs.drop (i)) Q (by simp only[lZ];split<;>omega) aF (λj u A=>by
   rw[mP,aJ.cell];rw[mD,B,yI] at A;split at A
   .simpa using A
   .cases A) (by have:=H;simp only[zR,zV] at this ⊢;omega) (λu hu=>aA u (qV hu))
 have aU:=Q.setRow (a.take ((i+1))++cs.drop (i)++a.drop ((i+1)+(cs.drop (i)).length)).toArray;have aS:=vG aL (b:=h) K5 (a.take ((i+1))++cs.drop (i)++a.drop ((i+1)+(cs.drop (i)).length)).toArray;generalize aQ:a.take ((i+1))++cs.drop (i)++a.drop ((i+1)+(cs.drop (i)).length)=L2 at *;have E3:=nI (And.intro H e3);have E1:=nI Z;have HS:=nI U;have HH:=nI hh;clear Z H e3 aP aQ s aD B E hx aI aN aK O P M N Q aJ aL aB aA hX aM U aT aF aE I V aH hh;have q:True:=trivial;have a0:(c:Int)<(n:Int)+1:=K5
 have aX:IntKind.i64.wrap ((n:Int)+1)=(n:Int)+1:=zg _;have aY:IntKind.i64.wrap ((i:Int)+1)=(i:Int)+1:=zg _;have aZ:IntKind.i64.wrap ((n:Int)+1-(i:Int))=((n+1-i:Nat):Int):=by rw[zg _];omega
 go_enter func212,ntmps212
 go_wp2_with (first
  |(refine zp rfl (Xc (k:=i) vV rfl rfl rfl K5) ?_)
  |(refine zp rfl (xQ (i:=i) vV rfl rfl rfl K5 K5) ?_)
  |(refine zp rfl (wo rfl rfl rfl (F _)) ?_)
  | (at_builtin;refine fa _ rfl _ _ 66 66 rfl _ _ rfl rfl (aG _) ?_))
 refine zb.st (λ_=>True) 99 ?_;refine zb.q0 0 (X1 h (n+1) G) q ?_;refine zb.q0 1 (Y1 Q4 (i:Int)) q ?_;refine zb.q0 2 (Y1 Q4 1) q ?_;refine zb.q0 3 (Y1 Q4 ((i:Int)+1)) q ?_;simp only[Z8];refine zb.t0 4 (X1 (K4 ⟨h,(i+1),K3⟩) (n+1-(i+1)) (G-(i+1))) rfl q (λW r=>by exact xQ (i:=i+1) vV rfl rfl rfl K5 K5) ?_;refine zb.q0 5 (X1 g n c) q ?_;refine zb.q0 6 (Y1 Q4 (i:Int)) q ?_;simp only[Z8];refine zb.t0 7 (X1 (K4 ⟨g,i,K3⟩) (n-i) (c-i)) rfl q (λW r=>by exact xQ (i:=i) vV rfl rfl rfl K5 K5) ?_;simp only[Z8];refine zb.n 8 (zb.opV (w':=f.drew.setRow h L2.toArray) (eH ((n-i:Nat):Int)) rfl rfl (by exact SR rfl rfl rfl (aR _)) ⟨λ_=>q,zb.dn ?_⟩);simp only[Z8];go_wp2;go_ret;exact⟨h,G,rfl,.inr (by rw[HH.out];exact zG _),aC,aO,⟨_,aU,by have:=E3.out;simp only[zR,zV,HS.out] at this ⊢;omega,by rw[E1.out]⟩,aS⟩
theorem AR {base:Nat}{v:Value}(d:w.ownsRow base 9 1 v n cs)(h:base<=w.heap.size)(hn:n<=100000)(r:za w g2 9 cx.toArray)(B:cx.length=1)(s:∀u∈cx,u.oneCell'=true):nK Y3 212 #[v,Y1 Q4 (n:Int),X1 g2 1 1] w λe w'=>∃v',e=Y0 v'/\w'.ownsRow base 9 1 v' (n+1) (cs++cx)/\w.grownBy w' v.ownBlock:=by
 have q:yl w w.heap.size 1 (K4 ⟨g2,0,K3⟩) 1 1 cx:=⟨zG _,by decide,(λe=>by cases e),by omega,s,λ_=>⟨g2,0,rfl,r.lt,λj u A=>by
  rw[qA,r.cell]
  simpa using A⟩⟩
 have C:(n:Int)<=(n:Int):=mo _;rcases d.2 with⟨rfl,rfl⟩|⟨g,cap,cur,rfl,hb,hg,hle2,hm,hs,ht⟩
 .go_enter func212,ntmps212
  go_wp2_with (at_builtin;refine xg rfl vV _ _ rfl base _ 0 cs rfl d _ _ 1 1 cx rfl q K7 K7 h ?_;intro v5 w5 f a)
  go_ret;exact⟨v5,rfl,f,a⟩
 .go_enter func212,ntmps212
  go_wp2_with (at_builtin;refine xg rfl vV _ _ rfl base _ n cs rfl d _ _ 1 1 cx rfl q (by unfold gP;omega) K5 h ?_;intro v5 w5 fJ a)
  all_goals (go_ret;exact⟨_,rfl,fJ,a⟩)
theorem Of {base:Nat}{v:Value}(f:w.ownsRow base 9 1 v n cs)(E:base<=w.heap.size)(hi:i<=n)(hn:n<=100000)(j:za w g2 9 cx.toArray)(a:cx.length=1)(d:∀u∈cx,u.oneCell'=true)(q:∀u∈cs,u.oneCell'=true)(H:v.ownBlock≠some g2):nK Y3 212 #[v,Y1 Q4 (i:Int),X1 g2 1 1] w λe w'=>∃v',e=Y0 v'/\w'.ownsRow base 9 1 v' (n+1) (cs.take (i)++cx++cs.drop (i))/\w.grownBy w' v.ownBlock:=by
 have F:cs.length=n:=by have:=f.1;rwa [yJ] at this
 by_cases G:i=n
 .subst G;rw[qE K5,me K5,qW];exact AR f E hn j a d
 .rcases f.2 with⟨rfl,rfl⟩|⟨g,cap,cur,rfl,hb,hg,hle2,hm,hs,ht⟩
  .omega
  .rw[yJ] at hs ht;have key:nK Y3 212 #[X1 g n cap,Y1 Q4 (i:Int),X1 g2 1 1] w (SH w g n i cs cx):=by
    by_cases r:n+1<=cap
    .exact Nw hg hs ht.symm K5 r hm hn j a d q (λe=>H (by rw[e];rfl))
    .exact Nx hg hs ht.symm K5 hle2 r hn j a d q
   refine key.mono ?_;rintro e w' ⟨h,c',rfl,hh,h1,h2,⟨s,A,I,B⟩,C⟩;exact⟨_,rfl,⟨by rw[zH,zH,qB,qF,F,a];omega,.inr ⟨h,c',s,rfl,by omega,A,h1,h2,by omega,by rw[yJ];exact B⟩⟩,C⟩
end
theorem vW:ZQ 67 3 1 8 (Y1 Q4 0):=⟨underlying67,by kernel_rfl,by kernel_rfl,by decide⟩
def SI (w:World)(g n i:Nat)(cs cx:Y8)(e:Ending)(w':World):Prop:=∃h c',e=Y0 (X1 (K4 ⟨h,0,K3⟩) (n+1) c')/\(h=g\/w.heap.size<=h)/\n+1<=c'/\c'<=gP/\(∃cur',za w' h 3 cur'/\cur'.size=c'/\cur'.toList.take ((n+1))=cs.take (i)++cx++cs.drop (i))/\w.grownBy w' (some g)
theorem SS {ρ:nO->Value}{w w':World}{o:Oper}{x y:nO}{u v r:Value}(a:o.op=.call {callee:=.builtin .copy,args:=#[x,y],argTypes:=#[67,67]})(h1:ρ x=u)(h2:ρ y=v)(d:(gw #[67,67] o.type #[u,v]).run Y3 w=.ok r w'):(nQ ρ o).run Y3 w=.ok (.value r) w':=by
 unfold nQ;simp only[a,resolve,invoke,builtin,gJ,ny,nc,zJ,zL,zN,h1,h2,d]
theorem wq {ρ:nO->Value}{w w':World}{o:Oper}{x y:nO}{u v r:Value}(a:o.op=.call {callee:=.builtin .append,args:=#[x,y],argTypes:=#[67,3]})(h1:ρ x=u)(h2:ρ y=v)(d:(Builtin.append_ #[67,3] o.type #[u,v]).run Y3 w=.ok r w'):(nQ ρ o).run Y3 w=.ok (.value r) w':=by
 unfold nQ;simp only[a,resolve,invoke,builtin,gJ,ny,nc,zJ,zL,zN,h1,h2,d]
section
variable {w:World}{g c n i g2:Nat}{cur:Y7}{cs cx:Y8}
theorem Ny (H:za w g 3 cur)(A:cur.size=c)(s:cs=cur.toList.take (n))(hi:i<n)(aB:n+1<=c)(aE:c<=gP)(hn:n<=100000)
  (B:za w g2 3 cx.toArray) (aH:cx.length=1) (U:∀u∈cx,u.oneCell'=true) (Q:∀u∈cs,u.oneCell'=true) (aK:g2≠g) :
  nK Y3 213 #[X1 g n c,Y1 Q4 (i:Int),X1 g2 1 1] w (SI w g n i cs cx):=by
 have aF:cs.length=n:=by rw[s,qB,zV,A];omega
 have Z:(cs.drop (i)).length=(n-i):=by rw[qF,aF]
 have E:za w.drew g 3 cur:=H;have aA:∀ty h N,(gw #[67,67] ty #[X1 (K4 ⟨g,(i+1),K3⟩) (n+1-(i+1)) h,X1 (K4 ⟨g,i,K3⟩) (n+1-i) N]).run Y3 w.drew=.ok (eH ((n-i:Nat):Int)) (w.drew.setRow g (cur.toList.take ((i+1))++cs.drop (i)++cur.toList.drop ((i+1)+(cs.drop (i)).length)).toArray):=λty h N =>
  jm vW w.drew ty g ((i+1)) (n+1-(i+1)) h ⟨g,i,K3⟩ (n+1-i) N (n-i) cur 3 (cs.drop (i)) E (by simp only[lZ];split<;>omega) Z (λj u r=>by
   rw[mP,E.cell];rw[mD,s,yI] at r;split at r
   .simpa using r
   .cases r) (by rw[Z,A];omega) (λu hu=>Q u (qV hu))
 have aL:∀lb cb,(gm 273 #[X1 g2 1 1,X1 (K4 ⟨g,(i+1),K3⟩) lb cb]).run Y3 w=.ok (.value (X3 false)) w:=λlb cb=>by
  rw[run_callFunc_extern func273 K6 K6 K6 (e:=fW #[67,67] #[4]) K6,
   Lib.run_overlaps_apart w 67 4 3 vW.oB 1 (λw=>YI vW w) ⟨g2,0,K3⟩ ⟨g,(i+1),K3⟩ 1 1 lb cb aK 3 3 cx.toArray.size cur.size (by simp[lu,show w.heap[g2]?=_ from B]) (by simp[lu,show w.heap[g]?=_ from H]) (by rw[A];omega) (by simp[lz,show w.heap[g2]?=_ from B]) (by simp[lz,show w.heap[g2]?=_ from B])]
  rfl
 obtain⟨O,G,P⟩:=TC (L:=cur.toList) (X:=cs.take (i)) (Y:=cs.drop (i)) (C:=cx) (i:=i) (n:=n) aH (by rw[s,mU];congr 1;omega) (by rw[s]) K5 (by rw[zV,A];omega);have F:za (w.drew.setRow g (cur.toList.take ((i+1))++cs.drop (i)++cur.toList.drop ((i+1)+(cs.drop (i)).length)).toArray) g 3 (cur.toList.take ((i+1))++cs.drop (i)++cur.toList.drop ((i+1)+(cs.drop (i)).length)).toArray:=E.setRow _;have M:za (w.drew.setRow g (cur.toList.take ((i+1))++cs.drop (i)++cur.toList.drop ((i+1)+(cs.drop (i)).length)).toArray) g2 3 cx.toArray:=za.pN (show za w.drew g2 3 cx.toArray from B) K5 _;generalize aC:cur.toList.take ((i+1))++cs.drop (i)++cur.toList.drop ((i+1)+(cs.drop (i)).length)=a at *;have I:w.grownBy (w.drew.setRow g a.toArray) (some g):=qe (yM w _) (vE _ _ _);obtain⟨f,V⟩:=Z9 (w.drew.setRow g a.toArray);rw[<-V] at aA F M I;have aG:∀ty h,(gw #[67,67] ty #[X1 (K4 ⟨g,i,K3⟩) (n+1-i) h,X1 g2 1 1]).run Y3 f=.ok (eH 1) (f.setRow g (a.take (i)++cx++a.drop (i+cx.length)).toArray):=λty h =>
  jm vW f ty g (i) (n+1-i) h ⟨g2,0,K3⟩ 1 1 1 a.toArray 3 cx F (by simp only[lZ];split<;>omega) K5 (λj u r=>by
   rw[mP,M.cell]
   simpa using r) (by have:=G;simp only[zR,zV] at this ⊢;omega) U
 have aJ:w.grownBy (f.setRow g (a.take (i)++cx++a.drop (i+cx.length)).toArray) (some g):=qe I (vE _ _ _);have aI:=F.setRow (a.take (i)++cx++a.drop (i+cx.length)).toArray;generalize aD:a.take (i)++cx++a.drop (i+cx.length)=L2 at *;have E3:=nI (And.intro G P);have E1:=nI O;clear O G P aC aD V s H E B F M I U Q;have d:True:=trivial;have aO:¬ ((c:Int)<(n:Int)+1):=K5
 have aM:IntKind.i64.wrap ((n:Int)+1)=(n:Int)+1:=zg _;have aN:IntKind.i64.wrap ((i:Int)+1)=(i:Int)+1:=zg _
 go_enter func213,ntmps213
 go_wp2_with (first
  |(refine zp rfl (Xc (k:=n+1) vW rfl rfl (by first|rfl|exact(by push_cast;rfl)) aB) ?_)
  |(refine zp rfl (xQ (i:=i+1) vW rfl rfl rfl K5 K5) ?_)
  |(refine zp rfl (xQ (i:=i) vW rfl rfl rfl K5 K5) ?_)
  | (simp only[aL]))
 refine zb.st (λ_=>True) 99 ?_;refine zb.q0 0 (X1 g (n+1) c) d ?_;refine zb.q0 1 (Y1 Q4 (i:Int)) d ?_;refine zb.q0 2 (Y1 Q4 1) d ?_;refine zb.q0 3 (Y1 Q4 ((i:Int)+1)) d ?_;simp only[Z8];refine zb.t0 4 (X1 (K4 ⟨g,(i+1),K3⟩) (n+1-(i+1)) (c-(i+1))) rfl d (λW q=>by exact xQ (i:=i+1) vW rfl rfl rfl K5 K5) ?_;refine zb.q0 5 (X1 g (n+1) c) d ?_;refine zb.q0 6 (Y1 Q4 (i:Int)) d ?_;simp only[Z8];refine zb.t0 7 (X1 (K4 ⟨g,i,K3⟩) (n+1-i) (c-i)) rfl d (λW q=>by exact xQ (i:=i) vW rfl rfl rfl K5 K5) ?_;simp only[Z8];refine zb.n 8 (zb.opV (w':=f) (eH ((n-i:Nat):Int)) rfl rfl (by exact SS rfl rfl rfl (aA _ _ _)) ⟨λ_=>d,zb.dn ?_⟩);simp only[Z8]
 go_wp2_with (first
  |(refine zp rfl (xQ (i:=i) vW rfl rfl rfl K5 K5) ?_)
  | (at_builtin;refine fa _ rfl _ _ 67 67 rfl _ _ rfl rfl (aG _ _) ?_))
 go_ret;exact⟨g,c,rfl,.inl rfl,aB,aE,⟨_,aI,by rw[zR,E3.out.2,zV,A],by rw[E1.out]⟩,aJ⟩
theorem Nz (E:za w g 3 cur)(V:cur.size=c)(B:cs=cur.toList.take (n))(hi:i<n)(aV:n<=c)(aW:¬ n+1<=c)(hn:n<=100000)
  (hx:za w g2 3 cx.toArray) (aH:cx.length=1) (aB:∀u∈cx,u.oneCell'=true) (aA:∀u∈cs,u.oneCell'=true) :
  nK Y3 213 #[X1 g n c,Y1 Q4 (i:Int),X1 g2 1 1] w (SI w g n i cs cx):=by
 have I:cs.length=n:=by rw[B,qB,zV,V];omega
 have aF:(cs.drop (i)).length=(n-i):=by rw[qF,I]
 have aE:(cs.take (i)).length=i:=by rw[qB,I];omega
 obtain⟨G,cur',F,aC,aO,U,aM⟩:=UN vW w g i c (n+1-i) cur E (by rw[V];omega) K5 K5 K5 K7;rw[show i+(n+1-i)=n+1 by omega] at F aC;have hX:cur'.toList.take (i)=cs.take (i):=by rw[aM,B,mU];congr 1;omega
 have aT:=E.lt;obtain⟨h,hh⟩:=Z9 w.heap.size;obtain⟨d,s⟩:=Z9 (w.drew.alloc (Q9 cur' 3));have O:za d h 3 cur':=by rw[s,hh];exact za.new w.drew 3 cur'
 have aI:za d g 3 cur:=by rw[s];exact za.alloc (show za w.drew g 3 cur from E) _
 have aN:za d g2 3 cx.toArray:=by rw[s];exact za.alloc (show za w.drew g2 3 cx.toArray from hx) _
 have aK:w.grownBy d (some g):=by rw[s];exact Yz (yM w _) _
 rw[<-s,<-hh] at F;obtain⟨Z,H,e3⟩:=Ef (L:=cur'.toList) (X:=cs.take (i)) (Y:=cs.drop (i)) (C:=cx) (i:=i) (n:=n) aH hX aE K5 K5 (by rw[zV,U];omega);have aG:∀ty,(gw #[67,67] ty #[X1 (K4 ⟨h,i,K3⟩) (n+1-i) (G-i),X1 g2 1 1]).run Y3 d=.ok (eH ((1:Nat):Int)) (d.setRow h (cur'.toList.take (i)++cx++cur'.toList.drop (i+cx.length)).toArray):=λty =>
  jm vW d ty h (i) (n+1-i) (G-i) ⟨g2,0,K3⟩ 1 1 1 cur' 3 cx O (by simp only[lZ];split<;>omega) K5 (λj u A=>by
   rw[mP,aN.cell]
   simpa using A) K5 aB
 have P:=O.setRow (cur'.toList.take (i)++cx++cur'.toList.drop (i+cx.length)).toArray;have M:=aI.pN (k:=h) K5 (cur'.toList.take (i)++cx++cur'.toList.drop (i+cx.length)).toArray;have N:=vG aK (b:=h) K5 (cur'.toList.take (i)++cx++cur'.toList.drop (i+cx.length)).toArray;generalize aP:cur'.toList.take (i)++cx++cur'.toList.drop (i+cx.length)=a at *;obtain⟨f,aD⟩:=Z9 (d.setRow h a.toArray);rw[<-aD] at aG P M N;have Q:za f.drew h 3 a.toArray:=P;have aJ:za f.drew g 3 cur:=M;have aL:w.grownBy f.drew (some g):=qe N (yM _ _);have aR:∀ty,(gw #[67,67] ty #[X1 (K4 ⟨h,(i+1),K3⟩) (n+1-(i+1)) (G-(i+1)),X1 (K4 ⟨g,i,K3⟩) (n-i) (c-i)]).run Y3 f.drew=.ok (eH ((n-i:Nat):Int)) (f.drew.setRow h (a.take ((i+1))++cs.drop (i)++a.drop ((i+1)+(cs.drop (i)).length)).toArray):=λty =>
  jm vW f.drew ty h ((i+1)) (n+1-(i+1)) (G-(i+1)) ⟨g,i,K3⟩ (n-i) (c-i) (n-i) a.toArray 3 (cs.drop (i)) Q (by simp only[lZ];split<;>omega) aF (λj u A=>by
   rw[mP,aJ.cell];rw[mD,B,yI] at A;split at A
   .simpa using A
   .cases A) (by have:=H;simp only[zR,zV] at this ⊢;omega) (λu hu=>aA u (qV hu))
 have aU:=Q.setRow (a.take ((i+1))++cs.drop (i)++a.drop ((i+1)+(cs.drop (i)).length)).toArray;have aS:=vG aL (b:=h) K5 (a.take ((i+1))++cs.drop (i)++a.drop ((i+1)+(cs.drop (i)).length)).toArray;generalize aQ:a.take ((i+1))++cs.drop (i)++a.drop ((i+1)+(cs.drop (i)).length)=L2 at *;have E3:=nI (And.intro H e3);have E1:=nI Z;have HS:=nI U;have HH:=nI hh;clear Z H e3 aP aQ s aD B E hx aI aN aK O P M N Q aJ aL aB aA hX aM U aT aF aE I V aH hh;have q:True:=trivial;have a0:(c:Int)<(n:Int)+1:=K5
 have aX:IntKind.i64.wrap ((n:Int)+1)=(n:Int)+1:=zg _;have aY:IntKind.i64.wrap ((i:Int)+1)=(i:Int)+1:=zg _;have aZ:IntKind.i64.wrap ((n:Int)+1-(i:Int))=((n+1-i:Nat):Int):=by rw[zg _];omega
 go_enter func213,ntmps213
 go_wp2_with (first
  |(refine zp rfl (Xc (k:=i) vW rfl rfl rfl K5) ?_)
  |(refine zp rfl (xQ (i:=i) vW rfl rfl rfl K5 K5) ?_)
  |(refine zp rfl (wq rfl rfl rfl (F _)) ?_)
  | (at_builtin;refine fa _ rfl _ _ 67 67 rfl _ _ rfl rfl (aG _) ?_))
 refine zb.st (λ_=>True) 99 ?_;refine zb.q0 0 (X1 h (n+1) G) q ?_;refine zb.q0 1 (Y1 Q4 (i:Int)) q ?_;refine zb.q0 2 (Y1 Q4 1) q ?_;refine zb.q0 3 (Y1 Q4 ((i:Int)+1)) q ?_;simp only[Z8];refine zb.t0 4 (X1 (K4 ⟨h,(i+1),K3⟩) (n+1-(i+1)) (G-(i+1))) rfl q (λW r=>by exact xQ (i:=i+1) vW rfl rfl rfl K5 K5) ?_;refine zb.q0 5 (X1 g n c) q ?_;refine zb.q0 6 (Y1 Q4 (i:Int)) q ?_;simp only[Z8];refine zb.t0 7 (X1 (K4 ⟨g,i,K3⟩) (n-i) (c-i)) rfl q (λW r=>by exact xQ (i:=i) vW rfl rfl rfl K5 K5) ?_;simp only[Z8];refine zb.n 8 (zb.opV (w':=f.drew.setRow h L2.toArray) (eH ((n-i:Nat):Int)) rfl rfl (by exact SS rfl rfl rfl (aR _)) ⟨λ_=>q,zb.dn ?_⟩);simp only[Z8];go_wp2;go_ret;exact⟨h,G,rfl,.inr (by rw[HH.out];exact zG _),aC,aO,⟨_,aU,by have:=E3.out;simp only[zR,zV,HS.out] at this ⊢;omega,by rw[E1.out]⟩,aS⟩
theorem AS {base:Nat}{v:Value}(d:w.ownsRow base 3 1 v n cs)(h:base<=w.heap.size)(hn:n<=100000)(r:za w g2 3 cx.toArray)(B:cx.length=1)(s:∀u∈cx,u.oneCell'=true):nK Y3 213 #[v,Y1 Q4 (n:Int),X1 g2 1 1] w λe w'=>∃v',e=Y0 v'/\w'.ownsRow base 3 1 v' (n+1) (cs++cx)/\w.grownBy w' v.ownBlock:=by
 have q:yl w w.heap.size 1 (K4 ⟨g2,0,K3⟩) 1 1 cx:=⟨zG _,by decide,(λe=>by cases e),by omega,s,λ_=>⟨g2,0,rfl,r.lt,λj u A=>by
  rw[qA,r.cell]
  simpa using A⟩⟩
 have C:(n:Int)<=(n:Int):=mo _;rcases d.2 with⟨rfl,rfl⟩|⟨g,cap,cur,rfl,hb,hg,hle2,hm,hs,ht⟩
 .go_enter func213,ntmps213
  go_wp2_with (at_builtin;refine xg rfl vW _ _ rfl base _ 0 cs rfl d _ _ 1 1 cx rfl q K7 K7 h ?_;intro v5 w5 f a)
  go_ret;exact⟨v5,rfl,f,a⟩
 .go_enter func213,ntmps213
  go_wp2_with (at_builtin;refine xg rfl vW _ _ rfl base _ n cs rfl d _ _ 1 1 cx rfl q (by unfold gP;omega) K5 h ?_;intro v5 w5 fJ a)
  all_goals (go_ret;exact⟨_,rfl,fJ,a⟩)
theorem Og {base:Nat}{v:Value}(f:w.ownsRow base 3 1 v n cs)(E:base<=w.heap.size)(hi:i<=n)(hn:n<=100000)(j:za w g2 3 cx.toArray)(a:cx.length=1)(d:∀u∈cx,u.oneCell'=true)(q:∀u∈cs,u.oneCell'=true)(H:v.ownBlock≠some g2):nK Y3 213 #[v,Y1 Q4 (i:Int),X1 g2 1 1] w λe w'=>∃v',e=Y0 v'/\w'.ownsRow base 3 1 v' (n+1) (cs.take (i)++cx++cs.drop (i))/\w.grownBy w' v.ownBlock:=by
 have F:cs.length=n:=by have:=f.1;rwa [yJ] at this
 by_cases G:i=n
 .subst G;rw[qE K5,me K5,qW];exact AS f E hn j a d
 .rcases f.2 with⟨rfl,rfl⟩|⟨g,cap,cur,rfl,hb,hg,hle2,hm,hs,ht⟩
  .omega
  .rw[yJ] at hs ht;have key:nK Y3 213 #[X1 g n cap,Y1 Q4 (i:Int),X1 g2 1 1] w (SI w g n i cs cx):=by
    by_cases r:n+1<=cap
    .exact Ny hg hs ht.symm K5 r hm hn j a d q (λe=>H (by rw[e];rfl))
    .exact Nz hg hs ht.symm K5 hle2 r hn j a d q
   refine key.mono ?_;rintro e w' ⟨h,c',rfl,hh,h1,h2,⟨s,A,I,B⟩,C⟩;exact⟨_,rfl,⟨by rw[zH,zH,qB,qF,F,a];omega,.inr ⟨h,c',s,rfl,by omega,A,h1,h2,by omega,by rw[yJ];exact B⟩⟩,C⟩
end
theorem Ip (l:List ByteArray)(i:Nat)(s:ByteArray):Xa (l.take i++s::l.drop i)=(Xa l).take i++[X9 s]++(Xa l).drop i:=by
 unfold Xa;rw[qX,zL,fT,fS];simp
theorem Ra (w:World)(A:Y5)(c:Nat)(l:List ByteArray)(h:yl w w.heap.size 1 A l.length c (Xa l))(hl:l.length<=100000)(i:Nat)(hi:i<=l.length)(g2:Nat)(x:ByteArray)(q:za w g2 9 #[X9 x]):nK Y3 138 #[X1 A l.length c,Y1 Q4 (i:Int),X1 g2 1 1] w λe w'=>∃r c',e=Y0 (X1 r (l.length+1) c')/\w'.ownsRow w.heap.size 9 1 (X1 r (l.length+1) c') (l.length+1) (Xa (l.take i++x::l.drop i))/\nH w.heap.size w w':=by
 have f:=kF w A c l h K5;unfold GR at f;have H:=q.lt
 go_enter func138,ntmps138
 go_wp2_with fail
 refine f.mono ?_;rintro e L ⟨C,c2,rfl,own2,a⟩;have s:=q.below a H;have I:(mN C l.length c2).ownBlock≠some g2:=λe=>by have:=zj own2 g2 e;omega
 have j:=Of (i:=i) (cx:=[X9 x]) own2 a.size hi hl s rfl (by
  intro u hu;rw[qL] at hu;subst hu
  rfl) (jd l) I
 rw[<-Ip] at j;have G:=zj own2;clear f h q s own2
 go_wp2_with fail
 refine j.mono ?_;rintro e w3 ⟨v3,rfl,B,F⟩;have E:nH w.heap.size w w3:=a.grown F a.size G;obtain⟨d,c3,rfl⟩:∃d c3,v3=X1 d (l.length+1) c3:=by
  rcases B.2 with⟨rfl,e⟩|⟨g,cap,cur,e,_⟩
  .omega
  .exact⟨_,_,e⟩
 clear j;go_wp2;go_ret;exact⟨d,c3,rfl,B,E⟩
theorem CE (l:List Int)(i:Nat)(s:Int):ZJ (l.take i++s::l.drop i)=(ZJ l).take i++[Y1 Q4 s]++(ZJ l).drop i:=by
 unfold ZJ;rw[qX,zL,fT,fS];simp
theorem Rb (w:World)(A:Y5)(c:Nat)(l:List Int)(h:yl w w.heap.size 1 A l.length c (ZJ l))(hl:l.length<=100000)(i:Nat)(hi:i<=l.length)(g2:Nat)(x:Int)(q:za w g2 3 #[Y1 Q4 x]):nK Y3 139 #[X1 A l.length c,Y1 Q4 (i:Int),X1 g2 1 1] w λe w'=>∃r c',e=Y0 (X1 r (l.length+1) c')/\w'.ownsRow w.heap.size 3 1 (X1 r (l.length+1) c') (l.length+1) (ZJ (l.take i++x::l.drop i))/\nH w.heap.size w w':=by
 have f:=Xq w A c l h K5;unfold GS at f;have H:=q.lt
 go_enter func139,ntmps139
 go_wp2_with fail
 refine f.mono ?_;rintro e L ⟨C,c2,rfl,own2,a⟩;have s:=q.below a H;have I:(mN C l.length c2).ownBlock≠some g2:=λe=>by have:=zj own2 g2 e;omega
 have j:=Og (i:=i) (cx:=[Y1 Q4 x]) own2 a.size hi hl s rfl (by
  intro u hu;rw[qL] at hu;subst hu
  rfl) (Yh l) I
 rw[<-CE] at j;have G:=zj own2;clear f h q s own2
 go_wp2_with fail
 refine j.mono ?_;rintro e w3 ⟨v3,rfl,B,F⟩;have E:nH w.heap.size w w3:=a.grown F a.size G;obtain⟨d,c3,rfl⟩:∃d c3,v3=X1 d (l.length+1) c3:=by
  rcases B.2 with⟨rfl,e⟩|⟨g,cap,cur,e,_⟩
  .omega
  .exact⟨_,_,e⟩
 clear j;go_wp2;go_ret;exact⟨d,c3,rfl,B,E⟩
section
variable {D D':Int->Option Y4}
theorem AJ {x:ym}{es:List qw}{ps s:List Int}{c:xG}{e:qw}(h:yU D 0 x es ps)(hs:zu es)(hc:xP D c e s)(hn:vn true (qh x) e.1=false):yf true (qh x) e.1<=x.cells.length/\∃p q,ps=p++q/\yU D 0 ⟨true,QH x.cells (yf true (qh x) e.1) c,[],[]⟩ (putE es e) (p++(s++q)):=by
 obtain⟨h1,h2,N,O,j⟩:=h;have I:qh x=es.map (·.1):=by unfold qh;rw[h1];exact j.keys
 unfold vn at hn;rw[I] at hn ⊢;have H:yf true (es.map (·.1)) e.1=qz e.1 (es.map (·.1)):=rfl;rw[H];have B:=YG e.1 (es.map (·.1));rw[qH] at B;obtain⟨E,A⟩:=vN hs e.1;have L:∀y∈es,y.1≠e.1:=by
  intro y M f;generalize hi:qz e.1 (es.map (·.1))=i at *;have d:y∈es.take i++es.drop i:=by rw[qK];exact M
  rcases zZ.1 d with d|d
  .rw[<-E] at d;have:=(yD.1 d).2;rw[f,xL] at this;cases this
  .have r:i<es.length:=by have:=List.length_pos_of_mem d;rw[qF] at this;omega
   have hd:zu (es.drop i):=hs.sublist (List.drop_sublist _ _);rw[qS r] at hd d A;rw[zM (by simpa using r)] at hn;simp only[mC,Bool.true_and,beq_eq_false_iff_ne] at hn;rcases qN.1 d with C|d
   .rw[C] at f;exact hn (by rw[f])
   .have a:=(List.pairwise_cons.1 hd).1 y d;have b:=A es[i] (by first|exact List.mem_cons_self|(rw[qS r];exact List.mem_cons_self));rw[f,b] at a;cases a
 obtain⟨p,q,F,g2,G⟩:=j.split (qz e.1 (es.map (·.1)));refine⟨by rw[j.length.1];exact B,p,q,F,rfl,rfl,rfl,Eh,?_⟩;rw[Ta hs e L];show yS D (x.cells.take _++c::x.cells.drop _) _ _
 exact g2.append (cs':=c::x.cells.drop _) (es':=e::es.drop _) ⟨s,q,hc,G,rfl⟩
theorem AI {x:ym}{es:List qw}{ps:List Int}{e:qw}(h:yU D 0 x es ps)(hs:zu es)(hn:vn true (qh x) e.1=true):∃(hi:yf true (qh x) e.1<x.cells.length) (j:qw) (p f q:List Int),j∈es/\ps=p++(f++q)/\xP D x.cells[yf true (qh x) e.1] j f/\j.1=e.1 /\
   ∀D' c d,(∀n∈p++q,D' n=D n)->xP D' c e d->yU D' 0 ⟨true,x.cells.take (yf true (qh x) e.1)++c::x.cells.drop (yf true (qh x) e.1+1),[],[]⟩ (putE es e) (p++(d++q)):=by
 obtain⟨h1,h2,O,P,r⟩:=h;have M:qh x=es.map (·.1):=by unfold qh;rw[h1];exact r.keys
 unfold vn at hn;rw[M] at hn ⊢;have L:yf true (es.map (·.1)) e.1=qz e.1 (es.map (·.1)):=rfl;rw[L];have a:qz e.1 (es.map (·.1))<es.length:=by
  rcases Nat.lt_or_ge (qz e.1 (es.map (·.1))) es.length with h|h
  .exact h
  .rw[List.getElem?_eq_none (by simpa using h)] at hn;simp at hn
 have B:es[qz e.1 (es.map (·.1))].1=e.1:=by rw[zM (by simpa using a)] at hn;simp only[mC,Bool.true_and,beq_iff_eq] at hn;exact JE hn
 have N:=Bg hs e a B;generalize qz e.1 (es.map (·.1))=i at *;have C:i<x.cells.length:=by rw[r.length.1];exact a
 obtain⟨p,q,F,g2,s⟩:=r.split i;rw[qS a,qS C] at s;obtain⟨f,E,G,H,I⟩:=s;refine⟨C,es[i],p,f,E,qJ _,by rw[F,I],G,B,λD' c d A hc=>⟨rfl,rfl,rfl,Eh,?_⟩⟩;rw[N];exact(g2.pR λn hn=>A n (by simp[hn])).append (cs':=c::x.cells.drop _) (es':=e::es.drop _) ⟨d,E,hc,H.pR λn hn=>A n (by simp[hn]),rfl⟩
theorem QD (a b:List YP):KR (a++b)=KR a++KR b:=by unfold KR;rw[qX,List.flatten_append]
theorem vz (a:YP)(b:List YP):KR (a::b)=a.es++KR b:=rfl
theorem QC (a b:List YP):ZD (a++b)=ZD a++ZD b:=by unfold ZD;rw[qX,List.flatten_append]
theorem jX (a:YP)(b:List YP):ZD (a::b)=a.pg::(a.ps++ZD b):=rfl
structure pH (x:ym)(es:List qw)(ks:List YP)(e:qw)(K1:List YP)(k:YP)(K2:List YP):Prop where
 eq:ks=K1++k::K2
 len:K1.length=vO e.1 x.keys
 put:putE es e=KR K1++(putE k.es e++KR K2)
 one:∀k',k'.pg=k.pg->k'.es=putE k.es e->Jd x (putE es e) (ZD (K1++k'::K2)) (K1++k'::K2)
 two:∀a b s,a.pg=k.pg->(1<=b.pg/\b.pg<=2000)->a.es++b.es=putE k.es e->(∀y∈a.es,ye y.1 s=true)->(∀y∈b.es,ye y.1 s=false)->b.es≠[]->s.size<=81 ->
  Jd ⟨false,[],x.keys.take (vO e.1 x.keys)++s::x.keys.drop (vO e.1 x.keys),x.kids.take (vO e.1 x.keys+1)++b.pg::x.kids.drop (vO e.1 x.keys+1)⟩ (putE es e) (ZD (K1++a::b::K2)) (K1++a::b::K2)
theorem CC {x:ym}{es:List qw}{ps:List Int}{ks:List YP}(hi:Jd x es ps ks)(X:∀k∈ks,k.es≠[])(e:qw):∃h k K2,pH x es ks e h k K2:=by
 have Z:x.keys.Pairwise (λa b=>ye a b=true):=hi.sep.sorted λl hl=>by obtain⟨k,U,rfl⟩:=qR.1 hl;exact X k U
 obtain⟨L1,M,L2,q⟩:=hi.sep.nE (vO e.1 x.keys) (Vw e.1 Z);obtain⟨h,K',G,r,H⟩:=List.map_eq_append_iff.1 q.eq;obtain⟨k,K2,I,A,B⟩:=List.map_eq_cons_iff.1 H;subst G I;have F:h.length=vO e.1 x.keys:=by rw[<-q.len,<-r,qH]
 have V:∀a∈KR h,ye a.1 e.1=true:=λa ha=>q.low a (by rw[<-r];exact ha)
 have Q:∀a∈KR K2,ye e.1 a.1=true:=λa ha=>q.high a (by rw[<-B];exact ha)
 have E:putE es e=KR h++(putE k.es e++KR K2):=by rw[hi.oV,QD,vz];exact Bh V Q
 refine⟨h,k,K2,rfl,F,E,λk' h1 h2 => ?_,λa b s h1 h2 C L N O P => ?_⟩
 .refine⟨hi.leaf,hi.cells,?_,?_,rfl,?_,hi.pos,hi.sz,?_⟩
  .rw[hi.kids];unfold Uu;simp[h1]
  .rw[E,QD,vz,h2]
  .rw[qX,zL,r,B,h2];exact q.one _ λy f=>by rw[<-A];exact Ha f
  .intro j d;rcases zZ.1 d with d|d
   .exact hi.pZ j (by simp[d])
   .rcases qN.1 d with rfl|d
    .rw[h1];exact hi.pZ k K9
    .exact hi.pZ j (by simp[d])
 .refine⟨rfl,rfl,?_,?_,rfl,?_,(by show 0<(_++_::_).length;simp only[zH,zK];omega),?_,?_⟩
  .show x.kids.take _++b.pg::x.kids.drop _=_
   rw[hi.kids];unfold Uu;rw[<-F];have t1:(h.map YP.pg).take (h.length+1)=h.map YP.pg:=qE K9;have t2:(h.map YP.pg).drop (h.length+1)=[]:=List.drop_eq_nil_of_le K9;simp[h1,List.take_append,List.drop_append,t1,t2]
  .rw[E,QD,vz,vz,<-qQ a.es,C]
  .show RJ (x.keys.take _++s::x.keys.drop _) _
   rw[qX,zL,zL,r,B];refine q.two _ _ _ (λy f=>⟨?_,L y f⟩) (λy f=>⟨?_,N y f⟩) O
   .rw[<-A];exact Ha (C▸yH _ f)
   .rw[<-A];exact Ha (C▸List.mem_append_right _ f)
  .intro y f;rcases zZ.1 (show y∈x.keys.take _++s::x.keys.drop _ from f) with f|f
   .exact hi.sz y (List.mem_of_mem_take f)
   .rcases qN.1 f with rfl|f
    .exact P
    .exact hi.sz y (qV f)
  .intro j d;rcases zZ.1 d with d|d
   .exact hi.pZ j (by simp[d])
   .rcases qN.1 d with rfl|d
    .rw[h1];exact hi.pZ k K9
    .rcases qN.1 d with rfl|d
     .exact h2
     .exact hi.pZ j (by simp[d])
theorem RJ.split:∀(i:Nat) {ks:List ByteArray} {ls:List (List qw)} (_:RJ ks ls) (_:ks.Pairwise (λa b=>ye a b=true)) (hi:i<ks.length),RJ (ks.take i) (ls.take (i+1))/\RJ (ks.drop (i+1)) (ls.drop (i+1))/\(∀e∈(ls.take (i+1)).flatten,ye e.1 ks[i]=true)/\∀e∈(ls.drop (i+1)).flatten,ye e.1 ks[i]=false
 | 0,k::ks,l::ls,h,_,_=>⟨trivial,h.2.2,λe d=>h.1 e (by simpa using d),h.2.1⟩
 | i+1,k::ks,l::ls,h,hp,hi=>by
  obtain⟨s,A⟩:=List.pairwise_cons.1 hp;have q:i<ks.length:=by simpa using hi
  obtain⟨h1,h2,f,j⟩:=RJ.split i h.2.2 A q;refine⟨⟨h.1,λe d=>h.2.1 e ?_,h1⟩,h2,λe d => ?_,j⟩
  .obtain⟨r,hl,d⟩:=List.mem_flatten.1 d;exact List.mem_flatten.2 ⟨r,List.mem_of_mem_take hl,d⟩
  .simp only[zC];rw[iA,yE] at d;rcases zZ.1 d with d|d
   .exact kg (h.1 e d) (s _ (qJ _))
   .exact f e d
 | _,[],_,_,_,hi=>absurd hi K9
 | _,_::_,[],h,_,_=>h.elim
theorem yU.split {d:Nat}{x:ym}{es:List qw}{ps:List Int}(h:yU D d x es ps)(hs:zu es){k:Nat}(h0:0<k)(r:k<=xj x)(M:vU x<=xK x):∃G H pa pb,es=G++H/\ps=pa++pb/\yU D d (xF x k) G pa/\yU D d (yT x k) H pb/\(∀y∈G,ye y.1 (yq x k)=true)/\(∀y∈H,ye y.1 (yq x k)=false)/\(yq x k).size<=81:=by
 have hR:=h.right hs;have A:k<xK x:=by unfold xj vU xK at *;cases hx:x.leaf<;>simp[hx] at r M ⊢<;>omega
 have L:k<(qh x).length:=by rw[Jv];exact A
 have P:(yq x k).size<=81:=by have:=hR.short (yq x k) (by rw[XR L];exact qJ _);unfold yr at this;simpa using this
 cases d with
 | zero =>
  obtain⟨h1,h2,h3,h4,I⟩:=h;have aA:k<x.cells.length:=by unfold xK at A;rwa [h1,if_pos rfl] at A
  have O:k<es.length:=by rw[<-I.length.1];exact aA
  obtain⟨p,q,Z,g2,g3⟩:=I.split k;have B:yq x k=es[k].1:=by
   rw[XR L];have:qh x=es.map (·.1):=by unfold qh;rw[h1];exact I.keys
   simp only[this,mC]
  have E:xF x k=⟨true,x.cells.take k,[],[]⟩:=by unfold xF;rw[h1];rfl
  have F:yT x k=⟨true,x.cells.drop k,[],[]⟩:=by unfold yT;rw[h1];rfl
  have C:=List.pairwise_iff_getElem.1 hs;refine⟨es.take k,es.drop k,p,q,(qK _ _).symm,Z,(by rw[E];refine⟨rfl,rfl,rfl,λe => ?_,g2⟩;have:=congrArg List.length e;rw[qB,zY] at this;omega),(by rw[F];refine⟨rfl,rfl,rfl,λe => ?_,g3⟩;have:=congrArg List.length e;rw[qF,zY] at this;omega),λy N => ?_,λy N => ?_,P⟩
  .rw[B];obtain⟨j,f,rfl⟩:=List.mem_iff_getElem.1 N;rw[List.getElem_take];simp at f;exact C j k K5 O K5
  .rw[B];obtain⟨j,f,rfl⟩:=List.mem_iff_getElem.1 N;rw[List.getElem_drop];simp at f
   by_cases e:j=0
   .subst e;exact xL _
   .exact vF (C k (k+j) O K5 K5)
 | succ d =>
  obtain⟨ks,hi,h⟩:=h;have C:x.keys.Pairwise (λa b=>ye a b=true):=hi.sep.sorted λl hl=>by obtain⟨k,r,rfl⟩:=qR.1 hl;exact(h k r).1.ne
  have aB:k<x.keys.length:=by unfold xK at A;rwa [hi.leaf,if_neg K9] at A
  have aC:k<=x.keys.length-2:=by unfold xj at r;rwa [hi.leaf,if_neg K9] at r
  have aD:3<=x.keys.length:=by unfold vU xK at M;rwa [hi.leaf,if_neg K9,if_neg K9] at M
  have B:yq x k=x.keys[k]:=by
   rw[XR L];have:qh x=x.keys:=by unfold qh;rw[hi.leaf];rfl
   simp only[this]
  obtain⟨Q,U,V,X⟩:=RJ.split k hi.sep C aB;have E:xF x k=⟨false,[],x.keys.take k,x.kids.take (k+1)⟩:=by unfold xF;rw[hi.leaf];rfl
  have F:yT x k=⟨false,[],x.keys.drop (k+1),x.kids.drop (k+1)⟩:=by unfold yT;rw[hi.leaf];rfl
  rw[<-fT] at Q V;rw[<-fS] at U X;refine⟨KR (ks.take (k+1)),KR (ks.drop (k+1)),ZD (ks.take (k+1)),ZD (ks.drop (k+1)),by rw[<-QD,qK];exact hi.oV,by rw[<-QC,qK];exact hi.dE,?_,?_,by rw[B];exact V,by rw[B];exact X,P⟩
  .rw[E];refine⟨ks.take (k+1),⟨rfl,rfl,by simp[hi.kids,Uu],rfl,rfl,Q,?_,λs hs=>hi.sz s (List.mem_of_mem_take hs),λj f=>hi.pZ j (List.mem_of_mem_take f)⟩,λj f=>h j (List.mem_of_mem_take f)⟩;show 0<(x.keys.take k).length
   rw[qB];omega
  .rw[F];refine⟨ks.drop (k+1),⟨rfl,rfl,by simp[hi.kids,Uu],rfl,rfl,U,?_,λs hs=>hi.sz s (qV hs),λj f=>hi.pZ j (qV f)⟩,λj f=>h j (qV f)⟩;show 0<(x.keys.drop (k+1)).length
   rw[qF];omega
end
theorem Qs (cells:List xG)(h:cells.length<128):(qg ⟨true,cells,[],[]⟩).length=2+(cells.map jQ).flatten.length:=by
 unfold qg;rw[Jz];simp only[if_true,qW,zH,zK,qH];rw[GK h]
theorem KA (keys:List ByteArray)(k0:Int)(rest:List Int)(a:rest.length=keys.length)(h:keys.length<128):(qg ⟨false,[],keys,k0::rest⟩).length=2+(jU k0.toNat).length+((keys.zip rest).map λp=>Uv p.1 p.2).flatten.length:=by
 unfold qg;rw[Hq _ _ _ a];have d:(keys.zip rest).length=keys.length:=by simp[a]
 simp only[nV,if_false,zH,zK,qH,List.getD_cons_zero];rw[GK K5]
theorem Ob (cells:List xG)(i:Nat)(c:xG)(hi:i<=cells.length)(hl:cells.length<=100)(hc:(jQ c).length<=144):(qg ⟨true,QH cells i c,[],[]⟩).length<=(qg ⟨true,cells,[],[]⟩).length+144:=by
 have e:=Xm cells i c hi;rw[Qs _ K5,Qs _ K5];unfold QH
 conv=>rhs;rw[<-qK i cells]
 simp only[qX,zL,List.flatten_append,yE,zH];omega
theorem Oa (cells:List xG)(i:Nat)(c:xG)(hi:i<cells.length)(hl:cells.length<=100)(hc:(jQ c).length<=144):(qg ⟨true,cells.take i++c::cells.drop (i+1),[],[]⟩).length<=(qg ⟨true,cells,[],[]⟩).length+144:=by
 rw[Qs _ (by simp;omega),Qs _ K5]
 conv=>rhs;rw[<-qK i cells,qS hi]
 simp only[qX,zL,List.flatten_append,yE,zH];omega
theorem Hs (keys:List ByteArray)(kids:List Int)(i:Nat)(s:ByteArray)(pg:Int)(f:kids.length=keys.length+1)(hi:i<=keys.length)(hl:keys.length<=100)(hs:s.size<=81)(q:pg<=16000):(qg ⟨false,[],keys.take i++s::keys.drop i,kids.take (i+1)++pg::kids.drop (i+1)⟩).length<=(qg ⟨false,[],keys,kids⟩).length+84:=by
 cases kids with
 | nil=>simp at f
 | cons k0 rest =>
  have d:rest.length=keys.length:=by simpa using f
  rw[iA,List.drop_succ_cons,zW,KA _ _ _ (by simp[d]) (by simp;omega),KA _ _ _ d K5];have e:(keys.take i++s::keys.drop i).zip (rest.take i++pg::rest.drop i)=(keys.take i).zip (rest.take i)++(s,pg)::(keys.drop i).zip (rest.drop i):=by rw[List.zip_append (by simp[d])];rfl
  have h:keys.zip rest=(keys.take i).zip (rest.take i)++(keys.drop i).zip (rest.drop i):=by rw[<-List.zip_append (by simp[d]),qK,qK]
  have a:=KK (s:=s) K5;have b:=GJ (n:=pg.toNat) K5;rw[e,h];have j:(Uv s pg).length<=84:=by unfold Uv;rw[zH];omega
  simp only[qX,zL,List.flatten_append,yE,zH];omega
theorem Xp {x:ym}(a:yh x)(h:512<(qg x).length):vU x<=xK x:=by
 have h1:=jq x;have f:=Qr a;cases d:x.leaf with
 | true =>
  have h2:=ji (qo x) 200 (JG a);unfold vU;rw[d,if_pos rfl];rw[f] at h2;omega
 | false =>
  have h2:=ji (qo x) 101 (PK a d);unfold vU;rw[d,if_neg K9];rw[f] at h2;omega
theorem yU.oQ {D:Int->Option Y4}{d:Nat}{x:ym}{es:List qw}{ps:List Int}(h:yU D d x es ps)(hs:zu es){k:Nat}(hh:kz (qo x) (xj x) k)(r:512<(qg x).length)(q:(qg x).length<=656):(qg (xF x k)).length<=512/\(qg (yT x k)).length<=512/\0<k/\k<=xj x:=by
 have a:=h.right hs;have f:=Xp a r;have s:0<xj x:=by unfold xj vU xK at *;cases A:x.leaf<;>simp[A] at f ⊢<;>omega
 obtain⟨h1,h2⟩:=CJ a hh f q λhl c hc=>by
  rw[Qs _ K9];cases d with
  | zero =>
   obtain⟨e,p,_,j⟩:=h.2.2.2.2.each c hc;have:=j.laid;simp;omega
  | succ d =>
   obtain⟨ks,hi,_⟩:=h;rw[hi.leaf] at hl;cases hl
 exact⟨h1,h2,hh.pos s,hh.le⟩
theorem RA (w:World)(x:ym)(Ac:Y5)(cc:Nat)(Ak:Y5)(ck:Nat)(Ai:Y5)(ci:Nat)(h:XX w w.heap.size x Ac cc Ak ck Ai ci)(hl:x.cells.length<=1000)(q:x.keys.length<=1000)(r:x.kids.length<=1001)(j:yh x)(s:512<(qg x).length):nK Y3 84 #[Q0 (zx x Ac cc Ak ck Ai ci)] w λe w'=>e=Y0 (X3 false)/\nH w.heap.size w w':=by
 have d:=za.new w 69 (zx x Ac cc Ak ck Ai ci);have hB:nH w.heap.size w (w.alloc (Q9 (zx x Ac cc Ak ck Ai ci) 69)):=(nF _ w).alloc (zG _) _;have a:=Pq _ x Ac cc Ak ck Ai ci (h.grow hB) hl q r j;generalize qg x=lb at *;unfold zx at *
 go_enter func84,ntmps84
 go_wp2_with (first
  |(refine yp zm d ?_)
  | (go_at_call 136;refine a.mono ?_;rintro e A ⟨rfl,f⟩))
 go_ret;refine⟨?_,hB.trans (f.mono hB.size)⟩;have e:decide ((lb.length:Int)<=512)=false:=decide_eq_false K5;show eJ (X3 (decide ((lb.length:Int)<=512)))=_
 rw[e]
section
variable {W0 W W':World}{K:xB}{p t:Nat}{k:Int}{v v':yj}{st last st' last':qj}{mk mk':Value}{ms:List xo}{x y:ym}{Ac Ak Ai Bc Bk Bi:Y5}{cc ck ci bc bk bi:Nat}{used free:List Int}
theorem Su (w:World)(x:ym)(Ac:Y5)(cc:Nat)(Ak:Y5)(ck:Nat)(Ai:Y5)(ci:Nat)(h:XX w w.heap.size x Ac cc Ak ck Ai ci)(hl:x.cells.length<=1000)(f:x.keys.length<=1000)(j:x.kids.length<=1001)(d:yh x)(hs:512<(qg x).length):nK Y3 137 #[Q0 (zx x Ac cc Ak ck Ai ci)] w (Yp w x):=by
 have a:=Xp d hs;cases hf:x.leaf with
 | true=>exact Lj w x Ac cc Ak ck Ai ci h hl f j d hf hs (by unfold vU at a;rwa [hf,if_pos rfl] at a)
 | false=>exact Sv w x Ac cc Ak ck Ai ci h hl f j d hf hs (by unfold vU at a;rwa [hf,if_neg K9] at a)
def jg (x:ym)(i:Nat)(s:ByteArray)(q:Int):ym:=⟨false,[],x.keys.take i++s::x.keys.drop i,x.kids.take (i+1)++q::x.kids.drop (i+1)⟩
structure rS (K:xB)(v v':yj)(st':qj)(used free':List Int)(m q:Int)(y:ym)(j:Nat):Prop where
 half:kz (qo y) (xj y) j
 nq:q∉used
 pl:xd K v'.D st' (q::used) free'
 nn:v'.N<=v.N+6
 dd:v'.D=λa=>if a=q then some (xx (yT y j)) else if a=m then some (xx (xF y j)) else v.D a
theorem JS (h:zy W0 K p t k v st last true mk ms W)(hK:K.Ok)(G:v.N<=690000)(hp:xd K v.D st used free)(hr:(used.length:Int)+1<K.pg)(hx:yc W K p v x Ac cc Ak ck Ai ci)(hy:yc W K p v y Bc bc Bk bk Bi bi)(i:Nat)(m:Int)(hm:x.kids[i]?=some m)(hu:m∈used)
  (g0:x.keys.length<=1000) (g1:x.kids.length<=1001) (hi:i<=x.keys.length) (hl:y.cells.length<=1000) (aN:y.keys.length<=1000) (c8:y.kids.length<=1001) (hR:yh y) (hs:512<(qg y).length)
  (e5:∀j,kz (qo y) (xj y) j->(qg (xF y j)).length<=512/\(qg (yT y j)).length<=512/\0<j/\j<=xj y) :
  nK Y3 85 #[Q0 #[Y9 t],Q0 (zx x Ac cc Ak ck Ai ci),Y1 Q4 (i:Int),Q0 (zx y Bc bc Bk bk Bi bi)] W λe w'=>∃j q v' st' bU Ck nk Ci ni,rS K v v' st' used bU m q y j/\st'.roots=st.roots /\
   e=Y0 (Q0 (zx (jg x i (yq y j) q) none 0 Ck nk Ci ni))/\yc w' K p v' (jg x i (yq y j) q) none 0 Ck nk Ci ni/\zy W0 K p t k v' st' last true mk ms w'/\zz K W v v'/\ze (qi K p v) W w'/\YN W.heap.size (jg x i (yq y j) q) none Ck Ci:=by
 have gZ:=h.up;have f8:=hK.hP;obtain⟨W1,bZ,aJ,b4,b5,b7,b8,gD⟩:=wL W #[Y9 t] (zx x Ac cc Ak ck Ai ci) (zx y Bc bc Bk bk Bi bi) #[X3 false,X1 none 0 0,X1 none 0 0,X1 none 0 0];have h1:=h.grow aJ;have cA:=hx.grow aJ;have cE:=hy.grow aJ;have HF:=RA W1 y Bc bc Bk bk Bi bi cE.is hl aN c8 hR hs;have bA:∀w2,nH W1.heap.size W1 w2->_:=λw2 aA=>Su w2 y Bc bc Bk bk Bi bi (cE.grow aA).is hl aN c8 hR hs
 have f0:=h1.pP b4 K7;have f6:=h1.pP b5 K7;have f7:=h1.pP b8 K7;obtain⟨g,o,eA,hg,hc,gB⟩:=cA.oW hm;have f9:(i:Int)<(x.kids.length:Int):=K5
 have gA:(0:Int)<=(i:Int):=K5
 obtain⟨X,a0⟩:=Z9 (zx x Ac cc Ak ck Ai ci);obtain⟨Y,b1⟩:=Z9 (zx y Bc bc Bk bk Bi bi);have c2:Y.size=4:=by rw[b1];rfl
 have c1:X[2]?=some (X1 Ak x.keys.length ck):=by rw[a0];rfl
 have aZ:X[3]?=some (X1 Ai x.kids.length ci):=by rw[a0];rfl
 simp only[<-a0,<-b1] at HF bA b5 b7 bZ ⊢;have d4:=nI bZ.symm;clear bZ hx hy a0 b1
 go_enter func85,ntmps85
 go_wp2_with (first
  | (rw[d4.out];refine yO rfl 69 (.tmp 7) rfl (W.heap.size+1+1) rfl zm b7 c2 ?_))
 refine HF.mono ?_;rintro e w2 ⟨rfl,aA⟩;have cP:=b7.below aA b7.lt;have h2:=h1.grow aA;have a9:=bA w2 aA;unfold Yp at a9;clear HF bA b7
 go_wp2_with (first
  | (refine yO rfl 69 (.tmp 7) rfl (W.heap.size+1+1) rfl zm cP c2 ?_))
 refine a9.mono ?_;rintro e E ⟨j,Lc,lc,Lk,lk,Li,li,Rc,rc,Rk,rk,Ri,ri,bW,dA,rfl,nL,nR,bV,fL,fR⟩;obtain⟨d9,eC,e6,c6⟩:=e5 j bW;have NL:=yc.new h2 nL fL;have NR:=yc.new h2 nR fR
 have eT:yh (xF y j):=OV hR e6 (by
  have:=Qr hR;unfold xj vU xK at *
  cases hx:y.leaf<;>simp[hx] at dA c6 ⊢<;>omega)
 have eW:yh (yT y j):=TQ hR c6 dA;obtain⟨l1,l2,l3⟩:(xF y j).cells.length<=1000/\(xF y j).keys.length<=1000/\(xF y j).kids.length<=1001:=by unfold xF;split<;>simp<;>omega
 obtain⟨r1,r2,r3⟩:(yT y j).cells.length<=1000/\(yT y j).keys.length<=1000/\(yT y j).kids.length<=1001:=by unfold yT;split<;>simp<;>omega
 obtain⟨L,aX⟩:=Z9 (zx (xF y j) Lc lc Lk lk Li li);obtain⟨R,aY⟩:=Z9 (zx (yT y j) Rc rc Rk rk Ri ri);have cW:L.size=4:=by rw[aX];rfl
 have cY:R.size=4:=by rw[aY];rfl
 have eL:∀u∈L.toList,u.oneCell'=true:=by rw[aX];exact zw rfl rfl rfl rfl
 have eS:∀u∈R.toList,u.oneCell'=true:=by rw[aY];exact zw rfl rfl rfl rfl
 obtain⟨W4,c0,cV,bS,bP⟩:=Bz E 69 #[X3 false,X1 none 0 0,X1 none 0 0,X1 none 0 0] 69 #[X3 false,X1 none 0 0,X1 none 0 0,X1 none 0 0];have cS:=bS.setRow L;have cR:=bP.pN (k:=E.heap.size) K5 L;have aV:=cS.pN (k:=E.heap.size+1) K5 R;have aU:=cR.setRow R;have aK:nH E.heap.size E ((W4.setRow E.heap.size L).setRow (E.heap.size+1) R):=zf (zf cV (zG _) L) (Nat.le_succ _) R;obtain⟨W5,b0⟩:=Z9 ((W4.setRow E.heap.size L).setRow (E.heap.size+1) R);rw[<-b0] at aV aU aK;have eE:=bV.trans (aK.mono bV.size);have aC:=aA.trans (eE.mono aA.size);have h5:=h1.grow aC;have cH:=NL.grow aK;have cJ:=NR.grow aK;have dM:=cA.grow aC;have bE:=b4.below aC b4.lt;have cO:=b5.below aC b5.lt;have cQ:=b8.below aC b8.lt;have d2:=h5.pP aV K7;have d1:=h5.pP aU K7;have HM:=Yb h5 hK K5 hp hr;have d7:=bE.boxed;have s3:=aA.size;have s4:=bV.size;have cF:=nI aX;have cG:=nI aY;have d5:=nI c0.symm;have d6:=nI b0.symm;clear c0 b0 aX aY a9 cV cS cR NL NR nL nR fL fR cP h2 cA cE b4 b5 b8 h hc;simp only[<-cF.out,<-cG.out]
 go_wp2_with (first
  |(rw[d5.out];refine vC zm bS cW eL ?_)
  |(refine vC (g:=(E.heap.size+1)) zm (bP.pN (k:=E.heap.size) K5 L) cY eS ?_;rw[d6.out])
  |(go_at_call 51;refine(kA _).mono ?_;rintro e g4 ⟨⟨_,rfl⟩,rfl⟩)
  | (go_at_call 49;refine HM.mono ?_;rintro e w6 ⟨q,v6,a7,free6,rfl,h6,aL,aI,e7,e8,aO,M⟩))
 have eX:=aI.loose hK;have c9:=aI.pZ m (by simp[hu]);have dC:=aI.pZ q K9;have g3:=aI.sz;have bF:=M.blk bE f0;have bG:=M.blk cO f6;have bJ:=M.blk cQ f7;have bT:=M.blk aV d2;have bQ:=M.blk aU d1;have cI:=cH.pS M aO;have cK:=cJ.pS M aO;have cB:=dM.pS M aO;have F:nH w6.heap.size w6 w6.drew:=(nF _ _).drew;have aB:=h6.grow F;have bB:=jG aB hK (by have:=aL.nn;omega) m ⟨c9.1,c9.2⟩ K5 eX (xF y j) Lc lc Lk lk Li li (cI.grow F).is l1 l2 l3 eT d9;have c5:w6.drew.cell? ⟨g,o+i,K3⟩=K4 (Y1 Q4 m):=by
  obtain⟨g',o',V,_,b2,_⟩:=(cB.grow F).oW hm;rw[eA] at V;injection V with V
  injection V with d P
  subst d P;exact b2
 have aQ:=bF.below F bF.lt;have aS:=bG.below F bG.lt;have bK:=bJ.below F bJ.lt;have aW:=bT.below F bT.lt;have bR:=bQ.below F bQ.lt;have cL:=cK.grow F;have dP:=cB.grow F;have n4:=aB.pP aQ K7;have n5:=aB.pP aS K7;have n8:=aB.pP bK K7;have n9:=aB.pP aW K7;have d0:=aB.pP bR K7;have r:za w6.drew W.heap.size 92 #[Y9 t]/\w6.drew.cell? ⟨W.heap.size+1,3,K3⟩=some (X1 (K4 ⟨g,o,K3⟩) x.kids.length ci)/\w6.drew.cell? ⟨g,o+i,K3⟩=K4 (Y1 Q4 m)/\za w6.drew E.heap.size 69 L:=⟨aQ,by rw[aS.cell,<-eA];exact aZ,c5,aW⟩;have gR:=M.size;have gE:=aK.size;have d3:=nI bW;simp only[<-cF.out] at bB;clear HM bE cO cQ bS bP aV aU cH cJ dM cI cK cB bF bG bJ bT bQ h6 d7 d2 d1 c5 bW
 go_wp2_with fail
 refine zb.st (λW':World=>za W' W.heap.size 92 #[Y9 t]/\W'.cell? ⟨W.heap.size+1,3,K3⟩=some (X1 (K4 ⟨g,o,K3⟩) x.kids.length ci)/\W'.cell? ⟨g,o+i,K3⟩=K4 (Y1 Q4 m)/\za W' E.heap.size 69 L) 99 ?_;generalize e9:w6.drew=wd at *;refine zb.t0 0 (Q0 #[Y9 t]) rfl r (λW ⟨f,d,P,Z⟩=>by exact Qa Xk f rfl rfl rfl) ?_;refine zb.q0 1 (Y9 (K4 ⟨W.heap.size+1,3,K3⟩)) r ?_;refine zb.q0 2 (X1 (K4 ⟨g,o,K3⟩) x.kids.length ci) r ?_;refine zb.q0 3 (Y1 Q4 (i:Int)) r ?_;refine zb.q0 4 (Y9 (K4 ⟨g,o+i,K3⟩)) r ?_;refine zb.q0 5 (Y1 Q4 m) r ?_;simp only[Z8];refine zb.t0 6 (Q0 L) rfl r (λW ⟨f,d,P,Z⟩=>by exact Qb zm Z cW rfl rfl) ?_;simp only[Z8];refine zb.n 7 ?_;refine zb.oC 50 #[.tmp 36,.tmp 41,.tmp 42] #[92,3,69] #[Q0 #[Y9 t],Y1 Q4 m,Q0 L] (bB.mono ?_) (zb.eo func50);rintro e w7 ⟨v7,⟨z,rfl⟩,h7,aM,a6,Q⟩;have aR:=Q.blk aQ n4;have aT:=Q.blk aS n5;have bL:=Q.blk bK n8;have cU:=Q.blk aW n9;have cT:=Q.blk bR d0;have cC:=dP.pS Q a6;have cM:=cL.pS Q a6;have cZ:za w7 W.heap.size 92 #[Y9 t]/\w7.cell? ⟨W.heap.size+1,3,K3⟩=some (X1 (K4 ⟨g,o,K3⟩) x.kids.length ci)/\w7.cell? ⟨g,o+i,K3⟩=K4 (Y1 Q4 m)/\za w7 E.heap.size 69 L:=by
  refine⟨aR,by rw[aT.cell,<-eA];exact aZ,?_,cU⟩;obtain⟨g',o',V,_,b2,_⟩:=cC.oW hm;rw[eA] at V;injection V with V
  injection V with d P
  subst d P;exact b2
 refine⟨_,rfl,λ_=>cZ,zb.dn ?_⟩;simp only[Z8];have b6:xd K v7.D a7 (q::used) free6:=by rw[aM.dd];exact aI.put (by simp[hu]) _
 have eZ:=b6.loose hK;have bC:=jG h7 hK (by have:=aL.nn;have:=aM.nn;omega) q ⟨dC.1,dC.2⟩ K5 eZ (yT y j) Rc rc Rk rk Ri ri cM.is r1 r2 r3 eW eC;have m4:=h7.pP aR K7;have m5:=h7.pP aT K7;have m8:=h7.pP bL K7;have d8:=aR.boxed;simp only[<-cG.out] at bC;clear bB r cZ aQ aS bK aW bR cL dP n4 n5 n8 n9 d0 cU
 go_wp2_with (first
  |(refine yO rfl 69 (.tmp 10) rfl (E.heap.size+1) rfl zm cT cY ?_)
  | (go_at_call 50;refine bC.mono ?_;rintro e w8 ⟨v8,⟨z,rfl⟩,h8,a5,b3,aH⟩))
 have bH:=aH.blk aT m5;have bM:=aH.blk bL m8;have dQ:=cC.pS aH b3;have dB:xd K v8.D a7 (q::used) free6:=by rw[a5.dd];exact b6.put K9 _
 have gY:=F.size;have gV:=Q.size;have gW:=aH.size;have aF:nH W.heap.size W W5:=aJ.trans (aC.mono aJ.size);have bX:zz K W v v6:=aO.mono aF.size;have bY:zz K W v v7:=bX.trans a6 (by have:=aF.size;omega);have cX:zz K W v v8:=bY.trans b3 (by have:=aF.size;omega);have g6:ze (qi K p v) W wd:=((ze.below aF).trans M).trans (ze.below F);have g7:ze (qi K p v) W w7:=Q.fresh g6 bX (by have:=aF.size;omega);have g8:ze (qi K p v) W w8:=aH.fresh g7 bY (by have:=aF.size;omega);have aG:nH w8.heap.size w8 w8.drew:=(nF _ _).drew;have g9:ze (qi K p v) W w8.drew:=g8.trans (ze.below aG);have h9:=h8.grow aG;have cD:=dQ.grow aG;have bI:=bH.below aG bH.lt;have bN:=bM.below aG bM.lt;have gX:W.heap.size+1+1+1+1<=w8.drew.heap.size:=by show _<=w8.heap.size;have:=aC.size;omega
 have cN:rS K v v8 a7 used free6 m q y j:=⟨d3.out,e7,dB,by have:=aL.nn;have:=aM.nn;have:=a5.nn;omega,by
  rw[a5.dd,aM.dd,aL.dd]
  funext a
  by_cases e:a=q
  .simp[e]
  .simp[e]⟩
 have gC:IntKind.i64.wrap ((i:Int)+1)=(i:Int)+1:=xX _;generalize dE:w8.drew=wf at *;have C:∀w',nH wf.heap.size wf w'->w'.cell? ⟨W.heap.size+1,2,K3⟩=some (X1 Ak x.keys.length ck)/\w'.cell? ⟨W.heap.size+1,3,K3⟩=some (X1 Ai x.kids.length ci):=λw' hB=>by have:=bI.below hB bI.lt;exact⟨by rw[this.cell];exact c1,by rw[this.cell];exact aZ⟩
 have bD:∀w' g2,nH wf.heap.size wf w'->za w' g2 9 #[.string (yq y j)]->_:=λw' g2 hB hb=>Ra w' Ak ck x.keys (cD.grow hB).is.k K5 i hi g2 (yq y j) hb
 have aP:∀w' g2,nH wf.heap.size wf w'->za w' g2 3 #[Y1 Q4 q]->_:=λw' g2 hB hb=>Rb w' Ai ci x.kids (cD.grow hB).is.i K5 (i+1) K5 g2 q hb
 have ei:((i+1:Nat):Int)=(i:Int)+1:=K5
 rw[ei] at aP;have a8:∀U A3 c3 A4 c4,nH wf.heap.size wf U->U.ownsRow wf.heap.size 9 1 (X1 A3 (x.keys.length+1) c3) (x.keys.length+1) (Xa (x.keys.take i++yq y j::x.keys.drop i))->U.ownsRow wf.heap.size 3 1 (X1 A4 (x.kids.length+1) c4) (x.kids.length+1) (ZJ (x.kids.take (i+1)++q::x.kids.drop (i+1)))->∀N,N=#[X3 false,X1 none 0 0,X1 A3 (x.keys.length+1) c3,X1 A4 (x.kids.length+1) c4] ->
   za U (W.heap.size+1+1+1) 69 #[X3 false,X1 none 0 0,X1 none 0 0,X1 none 0 0]/\za (U.setRow (W.heap.size+1+1+1) N) (W.heap.size+1+1+1) 69 N/\N.size=4/\(∀u∈N.toList,u.oneCell'=true) /\
   ∃j q v' st' bU Ck nk Ci ni,rS K v v' st' used bU m q y j/\st'.roots=st.roots/\eJ (Q0 N)=.returned (Q0 (zx (jg x i (yq y j) q) none 0 Ck nk Ci ni))/\yc (U.setRow (W.heap.size+1+1+1) N) K p v' (jg x i (yq y j) q) none 0 Ck nk Ci ni/\zy W0 K p t k v' st' last true mk ms (U.setRow (W.heap.size+1+1+1) N)/\zz K W v v'/\ze (qi K p v) W (U.setRow (W.heap.size+1+1+1) N)/\YN W.heap.size (jg x i (yq y j) q) none Ck Ci:=by
  intro U A3 c3 A4 c4 hB ok A N G;have bO:=bN.below hB bN.lt;have c7:(jg x i (yq y j) q).keys.length=x.keys.length+1:=by unfold jg;simp;omega
  have aN:(jg x i (yq y j) q).kids.length=x.kids.length+1:=by unfold jg;simp;omega
  have eN:N=zx (jg x i (yq y j) q) none 0 A3 c3 A4 c4:=by rw[G];unfold zx;rw[c7,aN];rfl
  obtain⟨_,_,Z,ik⟩:=qq ok (jd _);obtain⟨_,_,e4,ii⟩:=qq A (Yh _);injection Z with e31 _ e33
  injection e4 with e41 _ e43
  subst e31 e33 e41 e43;have gb:=qm U (W.heap.size+1+1+1) N;have nk:QE (λk=>k=W.heap.size+1+1+1) (x.keys.length+1) A3:=λ_ g o e hm=>by have:=zj ok g (by rw[e];rfl);omega
  have ni:QE (λk=>k=W.heap.size+1+1+1) (x.kids.length+1) A4:=λ_ g o e hm=>by have:=zj A g (by rw[e];rfl);omega
  have hD:=h9.grow hB;refine⟨bO,bO.setRow N,by rw[G];rfl,by rw[G];exact zw rfl rfl rfl rfl,j,q,v8,a7,free6,A3,c3,A4,c4,cN,e8,by rw[eN],yc.new h9 ⟨?_,?_,?_⟩ ?_,hD.pQ gb bO K7 (λm e=>by cases e) K5 K7,cX,?_,?_⟩
  .exact yl.mt _ _ _
  .rw[c7];exact ik.pT nk gb
  .rw[aN];exact ii.pT ni gb
  .rintro g o (e|e|e)
   .cases e
   .exact zj ok g (by rw[e];rfl)
   .exact zj A g (by rw[e];rfl)
  .have gd:=g9.trans (ze.below hB);exact⟨gd.os,gd.tape,gd.output,by simp[gM];exact gd.size,λa ha hm=>(ng _ _ a _ K5).trans (gd.block a ha hm)⟩
  .rintro g o (e|e|e)
   .cases e.2
   .have:=zj ok g (by rw[e.2];rfl);omega
   .have:=zj A g (by rw[e.2];rfl);omega
 have r:=C wf (nF _ _);clear bC c1 aZ h8 dQ bH bM dB b6 aI h9 cD bI bN h7 cC aR aT bL cM a5 aM aL b3 a6 aO aH Q M cN g6 g7 g8 g9 bX bY cX d8 cT aB h5 F aG e9
 go_wp2_with fail
 refine zb.st (λW':World=>W'.cell? ⟨W.heap.size+1,2,K3⟩=some (X1 Ak x.keys.length ck)/\W'.cell? ⟨W.heap.size+1,3,K3⟩=some (X1 Ai x.kids.length ci)) 99 ?_;rw[dE];clear dE;refine zb.q0 0 (Y9 (K4 ⟨W.heap.size+1,2,K3⟩)) r ?_;refine zb.q0 1 (X1 Ak x.keys.length ck) r ?_;refine zb.q0 2 (Y1 Q4 (i:Int)) r ?_;refine zb.q0 3 (.string (yq y j)) r ?_;refine zb.q0 6 (Y9 (K4 ⟨W.heap.size+1,3,K3⟩)) r ?_;refine zb.q0 7 (X1 Ai x.kids.length ci) r ?_;refine zb.q0 8 (Y1 Q4 (i:Int)) r ?_;refine zb.q0 9 (Y1 Q4 ((i:Int)+1)) r ?_;refine zb.q0 10 (Y1 Q4 q) r ?_;simp only[Z8];have B0:nH wf.heap.size wf wf:=nF _ _;refine zb.two 4 11 K6 ?_ ?_
 .obtain⟨u1,aD⟩:∃u,u=wf.alloc (Q9 #[.string (yq y j)] 9):=⟨_,rfl⟩;have q1:za u1 wf.heap.size 9 #[.string (yq y j)]:=by rw[aD];exact za.new wf _ _
  have a1:nH wf.heap.size wf u1:=by rw[aD];exact vo _ _
  have H:nH wf.heap.size wf u1:=B0.trans (a1.mono B0.size);refine zb.opV (w':=u1) (X1 wf.heap.size 1 1) rfl rfl (by rw[aD];go_simp) ⟨λ_=>C _ H,?_⟩;simp only[Z8];refine zb.two 5 11 K6 ?_ ?_
  .refine zb.oC 138 #[.tmp 49,.tmp 50,.tmp 52] #[66,3,66] #[X1 Ak x.keys.length ck,Y1 Q4 (i:Int),X1 wf.heap.size 1 1] ((bD u1 wf.heap.size H q1).mono ?_) (zb.eo func138);rintro e u2 ⟨A3,c3,rfl,ok,a2⟩;have B:=H.trans (a2.mono H.size);have ok:=yR ok H.size;refine⟨_,rfl,λ_=>C _ B,?_⟩;simp only[Z8];refine zb.n 11 ?_;obtain⟨u3,b9⟩:∃u,u=u2.alloc (Q9 #[Y1 Q4 q] 3):=⟨_,rfl⟩;have q3:za u3 u2.heap.size 3 #[Y1 Q4 q]:=by rw[b9];exact za.new u2 _ _
   have a3:nH u2.heap.size u2 u3:=by rw[b9];exact vo _ _
   have s:nH wf.heap.size wf u3:=B.trans (a3.mono B.size);refine zb.opV (w':=u3) (X1 u2.heap.size 1 1) rfl rfl (by rw[b9];go_simp) ⟨λ_=>C _ s,?_⟩;simp only[Z8];have ok:=qn ok a3;refine zb.n 12 ?_;refine zb.oC 139 #[.tmp 55,.tmp 57,.tmp 59] #[67,3,67] #[X1 Ai x.kids.length ci,Y1 Q4 ((i:Int)+1),X1 u2.heap.size 1 1] ((aP u3 u2.heap.size s q3).mono ?_) (zb.eo func139);rintro e u4 ⟨A4,c4,rfl,A,a4⟩;have I:=s.trans (a4.mono s.size);have A:=yR A s.size;have ok:=qn ok a4;refine⟨_,rfl,λ_=>C _ I,?_⟩;simp only[Z8];obtain⟨N,G⟩:=Z9 ((#[X3 false,X1 none 0 0,X1 A3 (x.keys.length+1) c3,X1 A4 (x.kids.length+1) c4]:Y7));obtain⟨f1,f2,f3,f4,f5⟩:=a8 u4 A3 c3 A4 c4 I ok A N G;have O:=C u4 I;refine zb.t0 13 (Q0 N) rfl O (λW ⟨f,d⟩=>by (rw[G];go_simp)) ?_;simp only[Z8];refine zb.n 14 ?_;refine zb.opS rfl rfl (vu 69 (.tmp 8) (.tmp 61) rfl (W.heap.size+1+1+1) rfl rfl zm f1 rfl f3 f4) ⟨λ_ => ?_,zb.dn ?_⟩
   .exact⟨(nW (w:=u4) (ng _ _ _ _ (by show W.heap.size+1≠_;omega))).trans O.1,(nW (w:=u4) (ng _ _ _ _ (by show W.heap.size+1≠_;omega))).trans O.2⟩
   simp only[zD,zC,zB,nJ];go_wp2;exact nu (yg rfl (yx (g:=W.heap.size+1+1+1) 8 rfl zm f2 f3)) rfl f5
  .obtain⟨u2,aE⟩:∃u,u=u1.alloc (Q9 #[Y1 Q4 q] 3):=⟨_,rfl⟩;have q2:za u2 u1.heap.size 3 #[Y1 Q4 q]:=by rw[aE];exact za.new u1 _ _
   have a2:nH u1.heap.size u1 u2:=by rw[aE];exact vo _ _
   have B:nH wf.heap.size wf u2:=H.trans (a2.mono H.size);refine zb.opV (w':=u2) (X1 u1.heap.size 1 1) rfl rfl (by rw[aE];go_simp) ⟨λ_=>C _ B,?_⟩;simp only[Z8];have q1:=q1.below a2 q1.lt;refine zb.n 5 ?_;refine zb.oC 138 #[.tmp 49,.tmp 50,.tmp 52] #[66,3,66] #[X1 Ak x.keys.length ck,Y1 Q4 (i:Int),X1 wf.heap.size 1 1] ((bD u2 wf.heap.size B q1).mono ?_) (zb.eo func138);rintro e u3 ⟨A3,c3,rfl,ok,a3⟩;have s:=B.trans (a3.mono B.size);have ok:=yR ok B.size;refine⟨_,rfl,λ_=>C _ s,?_⟩;simp only[Z8];have q2:=q2.below a3 q2.lt;refine zb.n 12 ?_;refine zb.oC 139 #[.tmp 55,.tmp 57,.tmp 59] #[67,3,67] #[X1 Ai x.kids.length ci,Y1 Q4 ((i:Int)+1),X1 u1.heap.size 1 1] ((aP u3 u1.heap.size s q2).mono ?_) (zb.eo func139);rintro e u4 ⟨A4,c4,rfl,A,a4⟩;have I:=s.trans (a4.mono s.size);have A:=yR A s.size;have ok:=qn ok a4;refine⟨_,rfl,λ_=>C _ I,?_⟩;simp only[Z8];obtain⟨N,G⟩:=Z9 ((#[X3 false,X1 none 0 0,X1 A3 (x.keys.length+1) c3,X1 A4 (x.kids.length+1) c4]:Y7));obtain⟨f1,f2,f3,f4,f5⟩:=a8 u4 A3 c3 A4 c4 I ok A N G;have O:=C u4 I;refine zb.t0 13 (Q0 N) rfl O (λW ⟨f,d⟩=>by (rw[G];go_simp)) ?_;simp only[Z8];refine zb.n 14 ?_;refine zb.opS rfl rfl (vu 69 (.tmp 8) (.tmp 61) rfl (W.heap.size+1+1+1) rfl rfl zm f1 rfl f3 f4) ⟨λ_ => ?_,zb.dn ?_⟩
   .exact⟨(nW (w:=u4) (ng _ _ _ _ (by show W.heap.size+1≠_;omega))).trans O.1,(nW (w:=u4) (ng _ _ _ _ (by show W.heap.size+1≠_;omega))).trans O.2⟩
   simp only[zD,zC,zB,nJ];go_wp2;exact nu (yg rfl (yx (g:=W.heap.size+1+1+1) 8 rfl zm f2 f3)) rfl f5
 .obtain⟨u1,aD⟩:∃u,u=wf.alloc (Q9 #[Y1 Q4 q] 3):=⟨_,rfl⟩;have q1:za u1 wf.heap.size 3 #[Y1 Q4 q]:=by rw[aD];exact za.new wf _ _
  have a1:nH wf.heap.size wf u1:=by rw[aD];exact vo _ _
  have H:nH wf.heap.size wf u1:=B0.trans (a1.mono B0.size);refine zb.opV (w':=u1) (X1 wf.heap.size 1 1) rfl rfl (by rw[aD];go_simp) ⟨λ_=>C _ H,?_⟩;simp only[Z8];refine zb.n 4 ?_;obtain⟨u2,aE⟩:∃u,u=u1.alloc (Q9 #[.string (yq y j)] 9):=⟨_,rfl⟩;have q2:za u2 u1.heap.size 9 #[.string (yq y j)]:=by rw[aE];exact za.new u1 _ _
  have a2:nH u1.heap.size u1 u2:=by rw[aE];exact vo _ _
  have B:nH wf.heap.size wf u2:=H.trans (a2.mono H.size);refine zb.opV (w':=u2) (X1 u1.heap.size 1 1) rfl rfl (by rw[aE];go_simp) ⟨λ_=>C _ B,?_⟩;simp only[Z8];have q1:=q1.below a2 q1.lt;refine zb.n 5 ?_;refine zb.oC 138 #[.tmp 49,.tmp 50,.tmp 52] #[66,3,66] #[X1 Ak x.keys.length ck,Y1 Q4 (i:Int),X1 u1.heap.size 1 1] ((bD u2 u1.heap.size B q2).mono ?_) (zb.eo func138);rintro e u3 ⟨A3,c3,rfl,ok,a3⟩;have s:=B.trans (a3.mono B.size);have ok:=yR ok B.size;refine⟨_,rfl,λ_=>C _ s,?_⟩;simp only[Z8];have q1:=q1.below a3 q1.lt;refine zb.n 12 ?_;refine zb.oC 139 #[.tmp 55,.tmp 57,.tmp 59] #[67,3,67] #[X1 Ai x.kids.length ci,Y1 Q4 ((i:Int)+1),X1 wf.heap.size 1 1] ((aP u3 wf.heap.size s q1).mono ?_) (zb.eo func139);rintro e u4 ⟨A4,c4,rfl,A,a4⟩;have I:=s.trans (a4.mono s.size);have A:=yR A s.size;have ok:=qn ok a4;refine⟨_,rfl,λ_=>C _ I,?_⟩;simp only[Z8];obtain⟨N,G⟩:=Z9 ((#[X3 false,X1 none 0 0,X1 A3 (x.keys.length+1) c3,X1 A4 (x.kids.length+1) c4]:Y7));obtain⟨f1,f2,f3,f4,f5⟩:=a8 u4 A3 c3 A4 c4 I ok A N G;have O:=C u4 I;refine zb.t0 13 (Q0 N) rfl O (λW ⟨f,d⟩=>by (rw[G];go_simp)) ?_;simp only[Z8];refine zb.n 14 ?_;refine zb.opS rfl rfl (vu 69 (.tmp 8) (.tmp 61) rfl (W.heap.size+1+1+1) rfl rfl zm f1 rfl f3 f4) ⟨λ_ => ?_,zb.dn ?_⟩
  .exact⟨(nW (w:=u4) (ng _ _ _ _ (by show W.heap.size+1≠_;omega))).trans O.1,(nW (w:=u4) (ng _ _ _ _ (by show W.heap.size+1≠_;omega))).trans O.2⟩
  simp only[zD,zC,zB,nJ];go_wp2;exact nu (yg rfl (yx (g:=W.heap.size+1+1+1) 8 rfl zm f2 f3)) rfl f5
end
theorem Mc {s:ByteArray}{m q:Int}(hs:s.size<=81)(f:1<=m/\m<=2000)(hq:1<=q/\q<=2000):yh ⟨false,[],[s],[m,q]⟩/\(qg ⟨false,[],[s],[m,q]⟩).length<=512:=by
 refine⟨⟨λj a => ?_,λj a => ?_,λx h => ?_,(λe=>by cases e),λ_=>⟨rfl,Nat.one_pos,rfl,λi hi => ?_⟩⟩,?_⟩
 .simp[qh] at a
 .simp[qh] at a
 .have:x=s:=by simpa[qh] using h
  rw[this];unfold yr;simp[hs]
 .unfold xY;rcases qN.1 hi with rfl|hi
  .simp[f]
  .obtain rfl:i=q:=by simpa using hi
   simp[hq]
 .have h1:=Hs [] [m] 0 s q rfl (zG _) K9 hs K5;have e:(qg ⟨false,[],[],[m]⟩).length=2+(jU m.toNat).length+0:=KA [] m [] rfl K9;have:=GJ (n:=m.toNat) K5;have d:(⟨false,[],([]:List ByteArray).take 0++s::([]:List ByteArray).drop 0,[m].take (0+1)++q::[m].drop (0+1)⟩:ym)=⟨false,[],[s],[m,q]⟩:=rfl;rw[d] at h1;omega
section
variable {W0 W W':World}{K:xB}{p t:Nat}{v v':yj}{st last st' last':qj}{mk mk':Value}{ms:List xo}{y:ym}{Bc Bk Bi:Y5}{bc bk bi:Nat}{used free:List Int}
structure pM (K:xB)(v v':yj)(st st':qj)(used free':List Int)(m q ab:Int)(y:ym)(j:Nat):Prop where
 half:kz (qo y) (xj y) j
 nq:q∉used
 na:ab∉q::used
 pl:xd K v'.D st' (ab::q::used) free'
 nn:v'.N<=v.N+10
 dd:v'.D=λa=>if a=ab then some (xx ⟨false,[],[yq y j],[m,q]⟩) else if a=q then some (xx (yT y j)) else if a=m then some (xx (xF y j)) else v.D a
 rt:st'.roots=st.roots.set 0 ab
theorem xd.roots (h:xd K v.D st used free)(l:List Int):xd K v.D {st with roots:=l} used free:=⟨h.nd,h.pZ,h.oT,h.sup,h.at_,h.ch,h.mn,h.sz⟩
theorem Rm (h:zy W0 K p t 0 v st last true mk ms W)(F:K.Ok)(hN:v.N<=680000)(hp:xd K v.D st used free)(hr:(used.length:Int)+2<K.pg)(hy:yc W K p v y Bc bc Bk bk Bi bi)(m:Int)(hu:m∈used)
  (hl:y.cells.length<=1000) (a8:y.keys.length<=1000) (a9:y.kids.length<=1001) (hR:yh y) (hs:512<(qg y).length) (bY:∀j,(yq y j).size<=81)
  (bP:∀j,kz (qo y) (xj y) j->(qg (xF y j)).length<=512/\(qg (yT y j)).length<=512/\0<j/\j<=xj y) :
  nK Y3 47 #[Q0 #[Y9 t],Y1 Q4 m,Q0 (zx y Bc bc Bk bk Bi bi)] W λe w'=>∃j q ab v' st' bN,(∃z,e=Y0 z)/\pM K v v' st st' used bN m q ab y j/\zy W0 K p t 0 v' st' last true mk ms w'/\zz K W v v'/\ze (qi K p v) W w':=by
 have b1:=F.hP;have b2:=F.P2;have b6:=hp.sz;have bT:=hp.pZ m (yH _ hu);obtain⟨Y,aE⟩:=Z9 (zx y Bc bc Bk bk Bi bi);have a6:Y.size=4:=by rw[aE];rfl
 obtain⟨W1,a2,aA,b3,b5⟩:=Bz W 92 #[Y9 t] 69 Y;have h1:=h.grow aA;have aV:=hy.grow aA;have HF:=RA W1 y Bc bc Bk bk Bi bi aV.is hl a8 a9 hR hs;rw[<-aE] at HF ⊢;have bF:=nI a2.symm;have bJ:=nI aE;clear a2 h hy aE
 go_enter func47,ntmps47
 go_wp2_with (first
  | (rw[bF.out];refine yO rfl 69 (.tmp 5) rfl (W.heap.size+1) rfl zm b5 a6 ?_))
 refine HF.mono ?_;rintro e Q ⟨rfl,I⟩;obtain⟨W3,a3,aZ,aJ⟩:=Qp Q 3 #[Y1 Q4 m];have aB:=I.trans (aZ.mono I.size);have h2:=h1.grow I;have h3:=h1.grow aB
 have nx:yc W3 K p v ⟨false,[],[],[m]⟩ none 0 none 0 (K4 ⟨Q.heap.size,0,K3⟩) 1:=yc.new h2 ⟨yl.mt _ _ _,yl.mt _ _ _,⟨zG _,by decide,(λe=>by cases e),rfl,(by intro u hu;rw[show ZJ [m]=[Y1 Q4 m] from rfl,qL] at hu;subst hu;rfl),λ_=>⟨Q.heap.size,0,rfl,aJ.lt,λj u hj=>by rw[qA,aJ.cell];simpa[ZJ] using hj⟩⟩⟩ (by
  rintro g o (e|e|e)
  .cases e
  .cases e
  .injection e with e
   injection e with e
   omega)
 have U:=JS h3 F K5 hp K5 nx (aV.grow aB) 0 m rfl hu K9 K9 (zG _) hl a8 a9 hR hs bP;rw[<-bJ.out,show ((0:Nat):Int)=0 from rfl] at U;rw[show zx ⟨false,[],[],[m]⟩ none 0 none 0 (K4 ⟨Q.heap.size,0,K3⟩) 1=#[X3 false,X1 none 0 0,X1 none 0 0,X1 Q.heap.size 1 1] from rfl] at U;have aL:=b3.below aB b3.lt;have aN:=b5.below I b5.lt;have bK:=(b3.below I b3.lt).boxed;have bZ:=h3.pP aL K7;have bW:=aA.size;have M:nH W.heap.size W W3:=aA.trans (aB.mono bW);have bG:=nI a3.symm;clear a3 HF h1 h2 aV nx
 go_wp2_with (first
  | (rw[bG.out];refine yO rfl 69 (.tmp 5) rfl (W.heap.size+1) rfl zm (aN.below aZ aN.lt) a6 ?_))
 refine U.mono ?_;rintro e H ⟨j,q,v4,b8,b0,Ck,nk,Ci,ni,A,bU,rfl,a7,h4,bA,aC,_⟩;obtain⟨T,P⟩:=Z9 (zx (jg ⟨false,[],[],[m]⟩ 0 (yq y j) q) none 0 Ck nk Ci ni);have a1:T.size=4:=by rw[P];rfl
 have bO:∀u∈T.toList,u.oneCell'=true:=by rw[P];exact zw rfl rfl rfl rfl
 rw[<-P];have aK:=aC.blk aL bZ;obtain⟨W5,a4,a0,aO⟩:=Qp H 69 #[X3 false,X1 none 0 0,X1 none 0 0,X1 none 0 0];have L:nH H.heap.size H (W5.setRow H.heap.size T):=zf a0 (zG _) _;have aP:=aO.setRow T;generalize a5:W5.setRow H.heap.size T=w6 at *;have h6:=h4.grow L;have Z6:=a7.grow L;have V:=aK.below L aK.lt;have bL:=V.boxed;have HM:=Yb h6 F (by have:=A.nn;omega) A.pl (by simp;omega);have b4:=aC.size;have bX:=L.size;have N4:zz K W v v4:=bA.mono M.size;have g4:ze (qi K p v) W w6:=((ze.below M).trans aC).trans (ze.below L);have bH:=nI a4.symm;have bI:=nI a5;have bE:=nI P;have n3:=h6.pP V K7;have n6:=h6.pP aP K7;clear a4 a5 P U h4 a7 aK aJ aL aC bA a0 h3 aN bK b3 b5
 go_wp2_with (first
  | (rw[bH.out];refine vC zm aO a1 bO ?_;rw[bI.out]))
 refine HM.mono ?_;rintro e w7 ⟨ab,v7,aH,free7,rfl,h7,aF,G,bQ,bV,aU,O⟩;have X:=O.blk V n3;have aY:=O.blk aP n6;have Z7:=Z6.pS O aU;have bM:=X.boxed;have bS:=G.pZ q K9;have aT:=G.pZ ab K9;have b7:=G.sz;obtain⟨TR,TL⟩:=Mc (bY j) ⟨bT.1,by omega⟩ (q:=q) ⟨bS.1,by omega⟩;have C:jg ⟨false,[],[],[m]⟩ 0 (yq y j) q=⟨false,[],[yq y j],[m,q]⟩:=rfl;have aI:=jG h7 F (by have:=A.nn;have:=aF.nn;omega) ab ⟨aT.1,aT.2⟩ K5 (G.loose F) _ _ _ _ _ _ _ Z7.is (by simp[C]) (by simp[C]) (by simp[C]) (by rw[C];exact TR) (by rw[C];exact TL);rw[<-bE.out] at aI;have N7:zz K W v v7:=N4.trans (aU.mono bX) (by have:=M.size;omega);have g7:ze (qi K p v) W w7:=O.fresh g4 N4 (by have:=M.size;omega);clear HM aO aP V bL h6 Z6 O n3 n6
 go_wp2_with (first
  | (refine yO rfl 69 (.tmp 6) rfl H.heap.size rfl zm aY a1 ?_))
 refine aI.mono ?_;rintro e B ⟨v8,⟨u8,rfl⟩,h8,aG,bB,aR⟩;have aM:=aR.blk X (h7.pP X K7);have bC:xd K v8.D aH (ab::q::used) free7:=by rw[aG.dd];exact G.put K9 _
 have aQ:nH B.heap.size B B.drew:=(nF _ _).drew;have E:=h8.grow aQ;have aW:=Za E.pa ab ⟨by omega,aT.2⟩;have Z:=aM.below aQ aM.lt;have d:B.drew.cell? W.heap.size=K4 (Y9 t)/\B.drew.cell? t=K4 (Y9 p)/\B.drew.cell? ⟨t,1,K3⟩=K4 (Y1 Q4 0):=⟨Z.boxed,E.tp,E.tk⟩;have bR:=E.pP Z K7;have N8:zz K W v v8:=N7.trans bB (by have:=M.size;have:=g7.size;omega);have g8:ze (qi K p v) W B.drew:=(aR.fresh g7 N7 (by have:=g7.size;omega)).trans (ze.below aQ)
 have CK:pM K v v8 st {aH with roots:=aH.roots.set 0 ab} used free7 m q ab y j:=⟨A.half,A.nq,bQ,bC.roots _,by have:=A.nn;have:=aF.nn;have:=aG.nn;omega,by
  rw[aG.dd,aF.dd,A.dd,C]
  funext a
  by_cases e:a=ab
  .simp[e]
  .simp[e],by show aH.roots.set 0 ab=_;rw[bV,bU]⟩
 clear aI h7 h8 X aM aY Z7 bM aR bB aG aF aU G bC A
 go_wp2_with fail
 refine zb.st (λW':World=>W'.cell? W.heap.size=K4 (Y9 t)/\W'.cell? t=K4 (Y9 p)/\W'.cell? ⟨t,1,K3⟩=K4 (Y1 Q4 0)) 99 ?_;generalize B.drew=wd at *;refine zb.q0 0 (Y9 W.heap.size) d ?_;refine zb.q0 1 (Y9 t) d ?_;refine zb.q0 2 (Y9 t) d ?_;refine zb.q0 3 (Y9 t) d ?_;refine zb.q0 4 (Y9 p) d ?_;refine zb.q0 5 (Y9 W.heap.size) d ?_;refine zb.q0 6 (Y9 t) d ?_;refine zb.q0 7 (Y9 t) d ?_;refine zb.q0 8 (Y9 (K4 ⟨t,1,K3⟩)) d ?_;refine zb.q0 9 (Y1 Q4 0) d ?_;refine zb.q0 10 (Y1 Q4 (ab)) d ?_;simp only[Z8];refine zb.n 11 ?_;refine zb.oC 52 #[.tmp 30,.tmp 35,.tmp 36] #[45,3,3] #[Y9 p,Y1 Q4 0,Y1 Q4 (ab)] (aW.mono ?_) (zb.eo func52);rintro e w9 ⟨rfl,bD,aD⟩;have h9:=E.pS bD (Mx aD) (λk hk => .inl hk);have aX:=aD.blk Z (λe=>bR (.inl e));have aS:w9.cell? W.heap.size=K4 (Y9 t)/\w9.cell? t=K4 (Y9 p)/\w9.cell? ⟨t,1,K3⟩=K4 (Y1 Q4 0):=⟨aX.boxed,h9.tp,h9.tk⟩;refine⟨_,rfl,λ_=>aS,?_⟩;simp only[Z8];refine zb.n 12 ?_;refine zb.oC 51 #[.tmp 37] #[27] #[Y1 Q4 0] ((kA _).mono ?_) (zb.eo func51);rintro e wm ⟨⟨um,rfl⟩,rfl⟩;refine⟨_,rfl,λ_=>aS,zb.dn ?_⟩;simp only[Z8];have g9:ze (qi K p v) W w9:=(Mx aD:ze (qi K p v8) wd w9).fresh g8 N8 (by have:=g8.size;omega);have R9:=CK;clear aS d aX Z CK aW E bD aD;go_wp2;go_end0;exact⟨j,q,ab,v8,_,free7,⟨_,rfl⟩,R9,h9,N8,g9⟩
end
section
variable {W0 W W':World}{K:xB}{p t:Nat}{k:Int}{v v':yj}{st last st' last':qj}{mk mk':Value}{ms:List xo}
theorem Ie (h:zy W0 K p t k v st last true mk ms W)(hK:K.Ok)(hN:v.N<=800000)(n:Int)(hn:1<=n/\n<st.size)(hP:n<(K.P:Int))(hT:¬ jD K v.D)(x:ym)(hx:YM K v n x)(aA:x.leaf=true)(c:xG)(i:Nat)(bH:yf true (qh x) c.key=i)(bI:vn true (qh x) c.key=false)(hi:i<=x.cells.length)(bS:x.cells.length<=1000):nK Y3 48 #[Q0 #[Y9 t],Y1 Q4 n,Q0 (zl c).toArray] W λe w'=>∃v' Ac cc Ak ck Ai ci,e=Y0 (Q0 (zx ⟨true,QH x.cells i c,[],[]⟩ Ac cc Ak ck Ai ci))/\yc w' K p v' ⟨true,QH x.cells i c,[],[]⟩ Ac cc Ak ck Ai ci/\zy W0 K p t k v' st last true mk ms w'/\XY K v v'/\zz K W v v'/\ze (qi K p v) W w'/\YN W.heap.size ⟨true,QH x.cells i c,[],[]⟩ Ac Ak Ai:=by
 have bY:=h.up;obtain⟨aL,aZ,_⟩:=hx.fits.1.leaf aA;obtain⟨W1,q⟩:=Z9 (((W.alloc (Q9 #[Y9 t] 92)).alloc (Q9 (zl c).toArray 94)).alloc (Q9 #[X3 false,X1 none 0 0,X1 none 0 0,X1 none 0 0] 69));have aH:nH W.heap.size W W1:=by rw[q];exact YK _ _ _ _
 have b3:za W1 W.heap.size 92 #[Y9 t]:=by rw[q];exact((za.new W _ _).alloc _).alloc _
 have b5:za W1 (W.heap.size+1) 94 (zl c).toArray:=by have:=(za.new (W.alloc (Q9 #[Y9 t] 92)) 94 (zl c).toArray).alloc (Q9 #[X3 false,X1 none 0 0,X1 none 0 0,X1 none 0 0] 69);rw[nG] at this;rw[q];exact this
 have b6:za W1 (W.heap.size+1+1) 69 #[X3 false,X1 none 0 0,X1 none 0 0,X1 none 0 0]:=by have:=za.new ((W.alloc (Q9 #[Y9 t] 92)).alloc (Q9 (zl c).toArray 94)) 69 #[X3 false,X1 none 0 0,X1 none 0 0,X1 none 0 0];rw[nG,nG] at this;rw[q];exact this
 have bU:W1.heap.size=W.heap.size+1+1+1:=by rw[q,nG,nG,nG]
 have h1:=h.grow aH;have aM:=UE h1 hK hN n hn hP hT x hx;have aT:=b3.boxed;rw[q] at aT;have a6:=nI q.symm;have bM:=h1.pP b5 K7;have bN:=h1.pP b6 K7;clear q h
 go_enter func48,ntmps48
 go_wp2_with fail
 rw[a6.out];refine aM.mono ?_;rintro e a ⟨v',Ac,cc,Ak,ck,Ai,ci,rfl,n2,h2,bJ,a0,M⟩;obtain⟨N,F⟩:=Z9 (zx x Ac cc Ak ck Ai ci);have aJ:N.size=4:=by rw[F];rfl
 have bE:∀u∈N.toList,u.oneCell'=true:=by rw[F];exact zw rfl rfl rfl rfl
 rw[<-F];have aC:=M.blk b5 bM;have aD:=M.blk b6 bN;have bV:W.heap.size+3<=a.heap.size:=by have:=M.size;omega
 obtain⟨W3,aW,aV,aR⟩:=Qp a 69 #[X3 false,X1 none 0 0,X1 none 0 0,X1 none 0 0];have C:nH a.heap.size a (W3.setRow a.heap.size N):=zf aV (zG _) _;have U:=aR.setRow N;generalize aX:W3.setRow a.heap.size N=W4 at *;have h4:=h2.grow C;have n4:=n2.grow C;have Q:=aC.below C aC.lt;have aE:=aD.below C aD.lt;have H:=YH W4 x Ac cc Ak ck Ai ci n4 K5 (by rw[aL];decide) c.key;unfold ZA at H;rw[aA,bH,bI] at H;have bC:W4.cell? (W.heap.size+1:Nat)=some (X9 c.key):=by rw[Q.cell];rfl
 rw[<-F] at H;have I:=nI F;have a7:=nI aW.symm;have a8:=nI aX;have a4:=h2.oE;clear F aW aX h1 h2 n2 b3 b5 b6 aT aC aD hn aM aV
 go_wp2_with (first
  |(rw[a7.out];refine vC zm aR aJ bE ?_;rw[a8.out])
  | (refine yO rfl 69 (.tmp 7) rfl a.heap.size rfl zm U aJ ?_))
 refine H.mono ?_;rintro e w5 ⟨rfl,s⟩;have h5:=h4.grow s;have G:=n4.grow s;have aP:=Q.below s Q.lt;have aF:=aE.below s aE.lt;have A:=U.below s U.lt;have d0:w5.cell? a.heap.size=some (X3 true):=by rw[A.cell,I.out];simp[zx,aA]
 have d1:w5.cell? ⟨a.heap.size,1,K3⟩=some (X1 Ac x.cells.length cc):=by rw[A.cell,I.out];rfl
 obtain⟨W6,aY,L,aS⟩:=Qp w5 94 (zl c).toArray;have aO:=Sj W6 Ac cc x.cells ((G.grow L).c) K5 i hi w5.heap.size c aS;have aN:=nI aY.symm;clear aY H bC
 go_wp2_with (first
  |(refine yp ql aP ?_)
  | (refine zp rfl (Vx c rfl rfl) ?_))
 rw[aN.out];refine aO.mono ?_;rintro e w7 ⟨f,c3,rfl,aB,aI⟩;obtain⟨bO,bP,e3,a2⟩:=qq aB (Ym _);injection e3 with e31 _ e33
 subst e31 e33;have E:nH w5.heap.size w5 w7:=L.trans (aI.mono L.size);have h7:=h5.grow E;have aQ:=aF.below E aF.lt;have V:=A.below E A.lt;have bW:=L.size;have bT:=A.lt;have bX:=aI.size;have Z:=zj aB;have bQ:w7.cell? ⟨a.heap.size,1,K3⟩=some (X1 Ac x.cells.length cc):=by rw[V.cell,I.out];rfl
 have bR:=V.free 1;obtain⟨W8,X⟩:=Z9 (w7.setCell ⟨a.heap.size,1,K3⟩ (X1 f (x.cells.length+1) c3));obtain⟨N8,O⟩:=Z9 (zx ⟨true,QH x.cells i c,[],[]⟩ f c3 Ak ck Ai ci);have aU:N.setIfInBounds 1 (X1 f (x.cells.length+1) c3)=N8:=by rw[O,I.out];unfold zx;simp[aA,aL,aZ,Xm _ _ _ hi]
 have bB:za W8 a.heap.size 69 N8:=by rw[X,<-aU];exact V.set 1 _
 have d:ze (λj=>j=a.heap.size) w7 W8:=by rw[X];exact ze.setCell _ _ _ rfl
 have aG:=d.blk aQ K5;have h8:=h7.pQ d V (by rw[aJ];decide) (λm e=>by rw[I.out] at e;cases e) K5 K7;have bK:=d.size;have h9:=h8.pQ (qm W8 (W.heap.size+1+1) N8) aG K7 (λm e=>by cases e) K5 K7;have bA:=aG.setRow N8;have aK:N8.size=4:=by rw[O];rfl
 have bG:∀u∈N8.toList,u.oneCell'=true:=by rw[O];exact zw rfl rfl rfl rfl
 have G:=G.grow E;have a1:=Xm x.cells i c hi;have n9:XX (W8.setRow (W.heap.size+1+1) N8) (W8.setRow (W.heap.size+1+1) N8).heap.size ⟨true,QH x.cells i c,[],[]⟩ f c3 Ak ck Ai ci:=by
  have bL:w7.heap.size<=(W8.setRow (W.heap.size+1+1) N8).heap.size:=by simp[gM];exact bK
  refine⟨?_,?_,?_⟩
  .show yl _ _ 4 f (QH x.cells i c).length c3 (vY (QH x.cells i c))
   rw[a1];refine a2.pW bL (λg o e => ?_);have hg:=Z g (by rw[e];rfl);exact(ng W8 _ g N8 K5).trans (d.block g (by have:=kM aB g (by rw[e];rfl);exact this) K5)
  .have:=G.k;rw[aL] at this;exact⟨this.le,this.max,this.nil,rfl,(λu hu=>by cases hu),λr=>absurd r (lC 0)⟩
  .have:=G.i;rw[aZ] at this;exact⟨this.le,this.max,this.nil,rfl,(λu hu=>by cases hu),λr=>absurd r (lC 0)⟩
 have N9:yc (W8.setRow (W.heap.size+1+1) N8) K p v' ⟨true,QH x.cells i c,[],[]⟩ f c3 Ak ck Ai ci:=⟨n9,λ_ g o e hm=>by have:=a4 g hm;have:=Z g (by rw[e];rfl);omega,λr=>absurd r (lC 0),λr=>absurd r (lC 0)⟩;have a3:YN W.heap.size ⟨true,QH x.cells i c,[],[]⟩ f Ak Ai:=by
  rintro g o (e|e|e)
  .have:=Z g (by rw[e.2];rfl);omega
  .exact absurd e.1 (lC 0)
  .exact absurd e.1 (lC 0)
 have bD:ze (qi K p v) W (W8.setRow (W.heap.size+1+1) N8):=by have B:ze (qi K p v) W w7:=((((ze.below aH).trans M).trans (ze.below C)).trans (ze.below s)).trans (ze.below E);exact⟨d.os.trans B.os,d.tape.trans B.tape,d.output.trans B.output,by simp[gM];exact zT B.size d.size,λj hj hm=>((ng _ _ j _ K5).trans (d.block j (by have:=B.size;omega) K5)).trans (B.block j hj hm)⟩
 have bF:zz K W v v':=a0.mono aH.size;have a5:=nI O;have a9:=nI X.symm;clear O X aU d h7 h8 h5 h4 n4 G a2 aB Z aQ aF aE Q aP A U d0 d1 aS aO E aI L s C M a0 aN a1
 go_wp2_with (first
  |(rw[a9.out];refine yO rfl 69 (.tmp 7) rfl a.heap.size rfl zm bB aK ?_)
  | (refine vC zm aG aK bG ?_))
 exact nu (yg rfl (yx (g:=W.heap.size+1+1) 6 rfl zm bA aK)) rfl ⟨v',f,c3,Ak,ck,Ai,ci,by rw[a5.out],N9,h9,bJ,bF,bD,a3⟩
end
section
variable {W0 W W':World}{K:xB}{p t:Nat}{k:Int}{v v':yj}{st last st' last':qj}{mk mk':Value}{ms:List xo}
def XE (W0:World)(K:xB)(p t:Nat)(k:Int)(last:qj)(mk:Value)(ms:List xo)(b:Nat)(v:yj)(W:World)(Q:ym->yj->qj->Prop)(e:Ending)(w':World):Prop :=
 ∃z v' st' Ac cc Ak ck Ai ci,e=Y0 (Q0 (zx z Ac cc Ak ck Ai ci))/\Q z v' st'/\yc w' K p v' z Ac cc Ak ck Ai ci/\YN b z Ac Ak Ai/\zy W0 K p t k v' st' last true mk ms w'/\zz K W v v'/\ze (qi K p v) W w'
theorem LX (h:zy W0 K p t k v st last true mk ms W)(hK:K.Ok)(hN:v.N<=800000)(n:Int)(hn:1<=n/\n<st.size)(hP:n<(K.P:Int))(hT:¬ jD K v.D)(x:ym)(hx:YM K v n x)(bK:x.leaf=false)(c:xG)(i:Nat)(bZ:yf false (qh x) c.key=i)(m:Int)(hm:x.kids[i]?=some m)(b7:x.cells.length<=1000)(cB:x.keys.length<=1000)
  (R Q:ym->yj->qj->Prop)
  (a6:∀W1 v1,zy W0 K p t k v1 st last true mk ms W1->XY K v v1->nK Y3 48 #[Q0 #[Y9 t],Y1 Q4 m,Q0 (zl c).toArray] W1 (XE W0 K p t k last mk ms W1.heap.size v1 W1 R))
  (a7:∀W1 v1 bQ y b Ac cc Ak ck Ai ci Bc bc Bk bk Bi bi,R y v1 bQ->zy W0 K p t k v1 bQ last true mk ms W1->yc W1 K p v1 x Ac cc Ak ck Ai ci->YN b x Ac Ak Ai->b<=W1.heap.size->yc W1 K p v1 y Bc bc Bk bk Bi bi->nK Y3 85 #[Q0 #[Y9 t],Q0 (zx x Ac cc Ak ck Ai ci),Y1 Q4 (i:Int),Q0 (zx y Bc bc Bk bk Bi bi)] W1 (XE W0 K p t k last mk ms b v1 W1 Q)) :
  nK Y3 48 #[Q0 #[Y9 t],Y1 Q4 n,Q0 (zl c).toArray] W (XE W0 K p t k last mk ms W.heap.size v W Q):=by
 have cG:=h.up;obtain⟨W1,E⟩:=Z9 (((W.alloc (Q9 #[Y9 t] 92)).alloc (Q9 (zl c).toArray 94)).alloc (Q9 #[X3 false,X1 none 0 0,X1 none 0 0,X1 none 0 0] 69));have aV:nH W.heap.size W W1:=by rw[E];exact YK _ _ _ _
 have b3:za W1 W.heap.size 92 #[Y9 t]:=by rw[E];exact((za.new W _ _).alloc _).alloc _
 have b5:za W1 (W.heap.size+1) 94 (zl c).toArray:=by have:=(za.new (W.alloc (Q9 #[Y9 t] 92)) 94 (zl c).toArray).alloc (Q9 #[X3 false,X1 none 0 0,X1 none 0 0,X1 none 0 0] 69);rw[nG] at this;rw[E];exact this
 have b6:za W1 (W.heap.size+1+1) 69 #[X3 false,X1 none 0 0,X1 none 0 0,X1 none 0 0]:=by have:=za.new ((W.alloc (Q9 #[Y9 t] 92)).alloc (Q9 (zl c).toArray 94)) 69 #[X3 false,X1 none 0 0,X1 none 0 0,X1 none 0 0];rw[nG,nG] at this;rw[E];exact this
 have cC:W1.heap.size=W.heap.size+1+1+1:=by rw[E,nG,nG,nG]
 have h1:=h.grow aV;have a5:=Qd h1 hK hN n hn hP hT x hx;have bB:=b3.boxed;rw[E] at bB;have bR:=nI E.symm;have bN:=h1.pP b3 K7;have bO:=h1.pP b5 K7;have bP:=h1.pP b6 K7;clear E h
 go_enter func48,ntmps48
 go_wp2_with fail
 rw[bR.out];refine a5.mono ?_;rintro e d ⟨v',Ac,cc,Ak,ck,Ai,ci,rfl,n2,h2,bJ,bL,U,wx,bM,bW,b1,aZ⟩;have X2:yc d K p v' x Ac cc Ak ck Ai ci:=yc.own bM n2 aZ;have XG:YN W1.heap.size x Ac Ak Ai:=(VK.ge (show VK wx.heap.size Ac Ak Ai from aZ.rows)).less b1;obtain⟨N,V⟩:=Z9 (zx x Ac cc Ak ck Ai ci);have aY:N.size=4:=by rw[V];rfl
 have bX:∀u∈N.toList,u.oneCell'=true:=by rw[V];exact zw rfl rfl rfl rfl
 rw[<-V];have aO:=U.blk b3 bN;have aB:=U.blk b5 bO;have aP:=U.blk b6 bP;have cD:W.heap.size+3<=d.heap.size:=by have:=U.size;omega
 obtain⟨W3,bG,bC,aT⟩:=Qp d 69 #[X3 false,X1 none 0 0,X1 none 0 0,X1 none 0 0];have O:nH d.heap.size d (W3.setRow d.heap.size N):=zf bC (zG _) _;have aK:=aT.setRow N;generalize bH:W3.setRow d.heap.size N=W4 at *;have X:=YH W4 x Ac cc Ak ck Ai ci (X2.grow O).is K5 K5 c.key;unfold ZA at X;rw[bK,bZ] at X;have a9:=aB.below O aB.lt;have bV:W4.cell? (W.heap.size+1:Nat)=some (X9 c.key):=by rw[a9.cell];rfl
 rw[<-V] at X;have aN:=nI V;have bS:=nI bG.symm;have bT:=nI bH;clear V bG bH n2 b3 b5 b6 bB hn a5 bC
 go_wp2_with (first
  |(rw[bS.out];refine vC zm aT aY bX ?_;rw[bT.out])
  | (refine yO rfl 69 (.tmp 7) rfl d.heap.size rfl zm aK aY ?_))
 refine X.mono ?_;rintro e w5 ⟨rfl,aM⟩;have aW:nH w5.heap.size w5 w5.drew:=(nF _ _).drew;have G:nH d.heap.size d w5.drew:=(O.trans (aM.mono O.size)).trans (aW.mono (by have:=aM.size;have:=O.size;omega));have L:=h2.grow G;have X5:=X2.grow G;have aG:=aO.below G aO.lt;have aI:=aB.below G aB.lt;have aQ:=aP.below G aP.lt;have aL:=aK.below aM aK.lt;have aC:=aL.below aW aL.lt;have d0:w5.cell? d.heap.size=some (X3 false):=by rw[aL.cell,aN.out];simp[zx,bK]
 obtain⟨g,o,eA,hg,hc,hi⟩:=X5.oW hm;have aX:N[3]?=some (X1 (K4 ⟨g,o,K3⟩) x.kids.length ci):=by rw[aN.out,eA];rfl
 have b9:(i:Int)<(x.kids.length:Int):=K5
 have cA:(0:Int)<=(i:Int):=K5
 have r:za w5.drew W.heap.size 92 #[Y9 t]/\za w5.drew d.heap.size 69 N/\w5.drew.cell? ⟨d.heap.size,3,K3⟩=some (X1 (K4 ⟨g,o,K3⟩) x.kids.length ci)/\w5.drew.cell? ⟨g,o+i,K3⟩=K4 (Y1 Q4 m)/\za w5.drew (W.heap.size+1) 94 (zl c).toArray:=⟨aG,aC,by rw[aC.cell];exact aX,hc,aI⟩;have a0:=a6 w5.drew v' L bJ;unfold XE at a0;have p3:=L.pP aG K7;have p5:=L.pP aI K7;have p6:=L.pP aQ K7;have p7:=L.pP aC K7;have cE:=G.size;have g5:ze (qi K p v) W w5.drew:=((ze.below aV).trans U).trans (ze.below G);have N5:zz K W v v':=bL.mono aV.size;have b0:(zl c).toArray.size=4:=rfl;clear aM aW X aO aB aP a9 aT aK aL hc bV h2 bM bW aZ X2 a6 h1 U bL bJ bN bO bP O
 go_wp2_with fail
 refine zb.st (λW':World=>za W' W.heap.size 92 #[Y9 t]/\za W' d.heap.size 69 N/\W'.cell? ⟨d.heap.size,3,K3⟩=some (X1 (K4 ⟨g,o,K3⟩) x.kids.length ci)/\W'.cell? ⟨g,o+i,K3⟩=K4 (Y1 Q4 m)/\za W' (W.heap.size+1) 94 (zl c).toArray) 99 ?_;generalize w5.drew=wd at *;refine zb.t0 0 (Q0 #[Y9 t]) rfl r (λW ⟨q,f,j,B,s⟩=>by exact Qa Xk q rfl rfl rfl) ?_;simp only[zD,zB,nJ,zA,zF,zE];refine zb.t0 1 (Q0 N) rfl r (λW ⟨q,f,j,B,s⟩=>by exact Qb zm f aY rfl rfl) ?_;refine zb.q0 2 (Y1 Q4 (i:Int)) r ?_;simp only[Z8];refine zb.t0 3 (Q0 #[Y9 t]) rfl r (λW ⟨q,f,j,B,s⟩=>by exact Qa Xk q rfl rfl rfl) ?_;refine zb.q0 4 (Y9 (K4 ⟨d.heap.size,3,K3⟩)) r ?_;refine zb.q0 5 (X1 (K4 ⟨g,o,K3⟩) x.kids.length ci) r ?_;refine zb.q0 6 (Y1 Q4 (i:Int)) r ?_;refine zb.q0 7 (Y9 (K4 ⟨g,o+i,K3⟩)) r ?_;refine zb.q0 8 (Y1 Q4 m) r ?_;simp only[Z8];refine zb.t0 9 (Q0 (zl c).toArray) rfl r (λW ⟨q,f,j,B,s⟩=>by exact Qb ql s b0 rfl rfl) ?_;simp only[Z8];refine zb.n 10 ?_;refine zb.oC 48 #[.tmp 26,.tmp 31,.tmp 32] #[92,3,94] #[Q0 #[Y9 t],Y1 Q4 m,Q0 (zl c).toArray] (a0.mono ?_) (zb.eo func48);rintro e w6 ⟨y,v6,b2,Bc,bc,Bk,bk,Bi,bi,rfl,bE,Y6,_,M,a3,C⟩;have aH:=C.blk aG p3;have aJ:=C.blk aI p5;have aR:=C.blk aQ p6;have aD:=C.blk aC p7;have X6:=X5.pS C a3;have cF:=C.size;have bF:za w6 W.heap.size 92 #[Y9 t]/\za w6 d.heap.size 69 N/\w6.cell? ⟨d.heap.size,3,K3⟩=some (X1 (K4 ⟨g,o,K3⟩) x.kids.length ci)/\w6.cell? ⟨g,o+i,K3⟩=K4 (Y1 Q4 m)/\za w6 (W.heap.size+1) 94 (zl c).toArray:=by
  refine⟨aH,aD,by rw[aD.cell];exact aX,?_,aJ⟩;obtain⟨g',o',A,_,a2,_⟩:=X6.oW hm;rw[eA] at A;injection A with A
  injection A with f j
  subst f j;exact a2
 have aF:=a7 w6 v6 b2 y W1.heap.size Ac cc Ak ck Ai ci Bc bc Bk bk Bi bi bE M X6 XG K5 Y6;unfold XE at aF;rw[<-aN.out] at aF;refine⟨_,rfl,λ_=>bF,?_⟩;simp only[Z8];refine zb.n 11 ?_;refine zb.oC 85 #[.tmp 23,.tmp 24,.tmp 25,.tmp 33] #[92,69,3,69] #[Q0 #[Y9 t],Q0 N,Y1 Q4 (i:Int),Q0 (zx y Bc bc Bk bk Bi bi)] (aF.mono ?_) (zb.eo func85);rintro e w7 ⟨z,v7,b4,Zc,zc,Zk,zk,Zi,zi,rfl,bD,Z7,ZG,h7,a4,H⟩;have a8:=H.blk aH (M.pP aH K7);have bA:=H.blk aJ (M.pP aJ K7);have aS:=H.blk aR (M.pP aR K7);have aU:=H.blk aD (M.pP aD K7);have X7:=X6.pS H a4;have a1:za w7 W.heap.size 92 #[Y9 t]/\za w7 d.heap.size 69 N/\w7.cell? ⟨d.heap.size,3,K3⟩=some (X1 (K4 ⟨g,o,K3⟩) x.kids.length ci)/\w7.cell? ⟨g,o+i,K3⟩=K4 (Y1 Q4 m)/\za w7 (W.heap.size+1) 94 (zl c).toArray:=by
  refine⟨a8,aU,by rw[aU.cell];exact aX,?_,bA⟩;obtain⟨g',o',A,_,a2,_⟩:=X7.oW hm;rw[eA] at A;injection A with A
  injection A with f j
  subst f j;exact a2
 refine⟨_,rfl,λ_=>a1,?_⟩;simp only[Z8];obtain⟨Z,aE⟩:=Z9 (zx z Zc zc Zk zk Zi zi);have bI:Z.size=4:=by rw[aE];rfl
 have bY:∀u∈Z.toList,u.oneCell'=true:=by rw[aE];exact zw rfl rfl rfl rfl
 have N6:zz K W v v6:=N5.trans a3 K5;have N7:zz K W v v7:=N6.trans a4 K5;have g6:ze (qi K p v) W w6:=C.fresh g5 N5 K5;have I:ze (qi K p v) W w7:=H.fresh g6 N6 K5;have F:XE W0 K p t k last mk ms W.heap.size v W Q (.returned (Q0 Z)) (w7.setRow (W.heap.size+1+1) Z) :=
  ⟨z,v7,b4,Zc,zc,Zk,zk,Zi,zi,by rw[aE],bD,Z7.dZ ZG K5 Z,ZG.less K5,h7.pQ (qm w7 (W.heap.size+1+1) Z) aS K7 (λm e=>by cases e) K5 K7,N7,⟨I.os,I.tape,I.output,by simp[gM];exact I.size,λa ha hm=>(ng _ _ a _ K5).trans (I.block a ha hm)⟩⟩
 have bU:=aS.setRow Z;rw[<-aE];have aA:=a1;have b8:=XG g o (.inr (.inr ⟨by omega,eA⟩));clear r bF a1 aF a0 a7 X5 X6 X7 L M h7 aG aI aQ aC aH aJ aR aD a8 bA aU Z7 ZG XG Y6 g5 g6 I N5 N6 N7 C H a3 a4 aE bD bE;refine zb.n 12 ?_;refine zb.opS rfl rfl (vu 69 (.tmp 6) (.tmp 34) rfl (W.heap.size+1+1) rfl rfl zm aS rfl bI bY) ⟨λ_ => ?_,zb.dn ?_⟩
 .exact⟨aA.1.pN K5 Z,aA.2.1.pN K5 Z,(nW (w:=w7) (ng _ _ _ _ (by show d.heap.size≠_;omega))).trans aA.2.2.1,(nW (w:=w7) (ng _ _ _ _ (by show g≠_;omega))).trans aA.2.2.2.1,aA.2.2.2.2.pN K5 Z⟩
 simp only[zD,zC,zB,nJ];go_wp2;exact nu (yg rfl (yx (g:=W.heap.size+1+1) 6 rfl zm bU bI)) rfl F
end
end Go.Proofs.YtohmkffoojdahaaGreat
