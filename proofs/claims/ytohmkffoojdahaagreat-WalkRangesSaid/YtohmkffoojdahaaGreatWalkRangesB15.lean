/- Proved: for every input the law WalkRanges returns true and leaves its arguments as they were. Conditions: none. -/
import Derived.Test.YtohmkffoojdahaaGreatRows
import Derived.WalkKit
import Derived.ProofKit
import Derived.OpenShut
import Derived.ShutString
import Derived.ChangeOld
import Derived.Below
import Derived.Test.YtohmkffoojdahaaGreatWalkRangesB14
set_option linter.unusedVariables false
set_option linter.unusedSimpArgs false
set_option maxRecDepth 100000
set_option maxHeartbeats 8000000
namespace Go.Proofs.YtohmkffoojdahaaGreat.walkRanges
open Go xq Go.ChangeShapes Go.WideShapes Go.ChangeAt Go.RowKit
open Go.ChangeMaps (open_string shut_string)
set_option linter.unusedVariables false
theorem own:ownKnob Tryz.prog.godebug=none:=by kernel_rfl
theorem laidOut:laidOutB Tryz.prog=true:=by kernel_rfl
theorem walk (d:Option Addr)(f:Nat)(a:List qw)(z0 g:ByteArray)(c:Int)(w:World)(h:yl w w.heap.size 2 d a.length f (yP a))(i:(Lit.int .i64 c).wf=true) :
  Calls Tryz.prog 4 #[.slice d a.length f,.agg #[.string z0,.string g],.int .i64 c] w λe w'=>e = .returned (.bool true)/\Below w.heap.size w w':=by
 exact PH w a d f h z0 g c
theorem lifted (os:Os)(N:os.Started)(H:Type)(enc:TypeId×Value->H) :
  ReturnsInHanded {} Tryz.checked os 4 .any (Rows.walkRangesSpec.pre6 enc Tryz.prog Tryz.f4 Rows.walkRangesRow.domain false) (Rows.walkRangesSpec.post enc Tryz.prog Tryz.f4 false true false false):=by
 refine returnsInHanded_of_change (C:=Tryz.checked) own N (by kernel_rfl) Tryz.func4
  (ChangeSpec.witness6 (enc:=enc) (C:=Tryz.checked) false ⟨#[],#[.slice none 0 0,.agg #[.string ByteArray.empty,.string ByteArray.empty],.int .i64 0],[]⟩ 8 (by kernel_rfl) (by kernel_rfl) (by kernel_rfl) (by kernel_rfl)) ?_
 intro W base args w gs U o k aD _;have a:∀(j:Nat) t v,Tryz.f4.params[j]? = some t->args[j]? = some v->Value.okWide Tryz.prog W .any base t v:=o;have A:=k;obtain⟨p,q,i,z,rfl,aE,aF⟩:=k;have g:DataW.TrodAll enc Tryz.prog W 0 (λ_=>true) true Tryz.f4.params.toList args.toList w p:=i;rw[Tryz.params4] at g a;obtain⟨v0,aG,d0,Z,G,q0,aC,rfl,rfl,f,K⟩:=trodAll_cons g;obtain⟨v1,aH,V,aA,I,q1,rfl,rfl,rfl,h1,L⟩:=trodAll_cons K;obtain⟨r,aI,X,aB,p2,q2,rfl,rfl,rfl,h2,M⟩:=trodAll_cons L;obtain⟨rfl,rfl,rfl⟩:=trodAll_nil M;obtain rfl:args=#[v0,v1,r]:=by cases args;simp_all
 obtain⟨rfl,rfl⟩:=trodVars_none z;have k0:=f;have E:∀x∈G,x.block<W.heap.size:=by obtain⟨m,d⟩:=k0;exact DataW.trod_lt m _ _ _ d
 obtain⟨O,Q,S,rfl,P⟩:=Nf (a 0 22 v0 rfl rfl) f;have k1:=h1;have F:∀x∈I,x.block<W.heap.size:=by obtain⟨m,d⟩:=k1;exact DataW.trod_lt m _ _ _ d
 obtain⟨z0,T,rfl⟩:=MI (a 1 39 v1 rfl rfl) h1;obtain⟨u,rfl,rfl,rfl,s⟩:=open_int Tryz.underlying3 (a 2 3 r rfl rfl) h2;clear i o;refine(walk O Q S z0 T u W P  s).mono λe W' ⟨B,c⟩ => ?_
 subst B;exact⟨_,rfl,_,_,_,[],_,[],A,trodAll_mk1 (shut_bool Tryz.underlying4 _),(trodAll_cons_mk (Below.trod laidOut (by kernel_rfl) (of_decide_eq_true (by kernel_rfl)) k0 c E) (trodAll_cons_mk (Below.trod laidOut (by kernel_rfl) (of_decide_eq_true (by kernel_rfl)) k1 c F) (trodAll_cons_mk (shut_int Tryz.underlying3 s) trodAll_mk0))),rfl,c.frame _,λh=>by cases h⟩
theorem and_split {a b:Bool}(h1:a=true)(h2:b=true):(a && b)=true:=by rw[h1,h2];rfl
theorem facts:joinedFacts Tryz.prog 4 Tryz.f4 Rows.walkRangesSpec Rows.walkRangesRow=true:=by
 unfold joinedFacts;refine and_split (and_split (and_split (and_split (and_split (and_split (and_split (and_split (and_split (and_split (and_split (and_split (and_split (and_split (and_split (and_split (and_split (and_split (and_split (and_split (and_split (and_split (and_split (and_split (and_split (and_split (and_split (and_split (and_split (and_split (and_split ?k1 ?k2) ?k3) ?k4) ?k5) ?k6) ?k7) ?k8) ?k9) ?k10) ?k11) ?k12) ?k13) ?k14) ?k15) ?k16) ?k17) ?k18) ?k19) ?k20) ?k21) ?k22) ?k23) ?k24) ?k25) ?k26) ?k27) ?k28) ?k29) ?k30) ?k31) ?k32
 case k1=>as_aux_lemma=>kernel_rfl
 case k2=>as_aux_lemma=>kernel_rfl
 case k3=>as_aux_lemma=>kernel_rfl
 case k4=>as_aux_lemma=>kernel_rfl
 case k5=>as_aux_lemma=>kernel_rfl
 case k6=>as_aux_lemma=>kernel_rfl
 case k7=>as_aux_lemma=>kernel_rfl
 case k8=>as_aux_lemma=>kernel_rfl
 case k9=>as_aux_lemma=>kernel_rfl
 case k10=>as_aux_lemma=>kernel_rfl
 case k11=>as_aux_lemma=>kernel_rfl
 case k12=>as_aux_lemma=>kernel_rfl
 case k13=>as_aux_lemma=>kernel_rfl
 case k14=>as_aux_lemma=>kernel_rfl
 case k15=>as_aux_lemma=>kernel_rfl
 case k16=>as_aux_lemma=>kernel_rfl
 case k17=>as_aux_lemma=>kernel_rfl
 case k18=>as_aux_lemma=>kernel_rfl
 case k19=>as_aux_lemma=>kernel_rfl
 case k20=>as_aux_lemma=>kernel_rfl
 case k21=>as_aux_lemma=>kernel_rfl
 case k22=>as_aux_lemma=>kernel_rfl
 case k23=>as_aux_lemma=>kernel_rfl
 case k24=>as_aux_lemma=>kernel_rfl
 case k25=>as_aux_lemma=>kernel_rfl
 case k26=>as_aux_lemma=>kernel_rfl
 case k27=>as_aux_lemma=>kernel_rfl
 case k28=>as_aux_lemma=>kernel_rfl
 case k29=>as_aux_lemma=>kernel_rfl
 case k30=>as_aux_lemma=>kernel_rfl
 case k31=>as_aux_lemma=>kernel_rfl
 case k32=>as_aux_lemma=>kernel_rfl
theorem over:Rows.walkRangesRow.holds Tryz.pinned (OpenSpec.ofChange Rows.walkRangesSpec) :=
 OpenClaim.holds_of_wide 4 Tryz.f4 rfl rfl rfl rfl rfl rfl rfl ⟨rfl,rfl,rfl,rfl,rfl⟩ rfl rfl rfl rfl rfl (by as_aux_lemma=>kernel_rfl) Tryz.func4 facts
  (by as_aux_lemma=>exact of_decide_eq_true (by kernel_rfl)) (by unfold Func.isWrapper;first|(rw[if_pos (by decide +kernel)];kernel_rfl)|(rw[if_neg (by decide +kernel)];exact⟨rfl,rfl⟩))
  (λos a H enc _=>lifted os a H enc)
theorem proved:Rows.WalkRangesSaid:=over
#print axioms proved
end Go.Proofs.YtohmkffoojdahaaGreat.walkRanges
