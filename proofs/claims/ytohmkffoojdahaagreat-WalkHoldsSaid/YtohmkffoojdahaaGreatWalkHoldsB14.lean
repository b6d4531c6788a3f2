/- Proved: for every input the law WalkHolds returns true and leaves its arguments as they were. Conditions: none. -/
import Derived.Test.YtohmkffoojdahaaGreatRows
import Derived.WalkKit
import Derived.ProofKit
import Derived.OpenShut
import Derived.ShutString
import Derived.ChangeOld
import Derived.Below
import Derived.Test.YtohmkffoojdahaaGreatWalkHoldsB13
set_option linter.unusedVariables false
set_option linter.unusedSimpArgs false
set_option maxRecDepth 100000
set_option maxHeartbeats 8000000
namespace Go.Proofs.YtohmkffoojdahaaGreat.walkHolds
open Go vA Go.ChangeShapes Go.WideShapes Go.ChangeAt Go.RowKit
open Go.ChangeMaps (open_string shut_string)
set_option linter.unusedVariables false
theorem own:ownKnob Tryz.prog.godebug=none:=by kernel_rfl
theorem laidOut:laidOutB Tryz.prog=true:=by kernel_rfl
theorem walk (c:Option Addr)(d:Nat)(a:List yN)(w:World)(f:yp w w.heap.size 2 c a.length d (yc a)) :
  Calls Tryz.prog 3 #[.slice c a.length d] w λe w'=>e = .returned (.bool true)/\Below w.heap.size w w':=by
 exact LX w a c d f
theorem lifted (os:Os)(E:os.Started)(H:Type)(enc:TypeId×Value->H) :
  ReturnsInHanded {} Tryz.checked os 3 .any (Rows.walkHoldsSpec.pre6 enc Tryz.prog Tryz.f3 Rows.walkHoldsRow.domain false) (Rows.walkHoldsSpec.post enc Tryz.prog Tryz.f3 false true false false):=by
 refine returnsInHanded_of_change (C:=Tryz.checked) own E (by kernel_rfl) Tryz.func3
  (ChangeSpec.witness6 (enc:=enc) (C:=Tryz.checked) false ⟨#[],#[.slice none 0 0],[]⟩ 8 (by kernel_rfl) (by kernel_rfl) (by kernel_rfl) (by kernel_rfl)) ?_
 intro W base args o O L k g Q _;have i:∀(j:Nat) t v,Tryz.f3.params[j]? = some t->args[j]? = some v->Value.okWide Tryz.prog W .any base t v:=k;have s:=g;obtain⟨p,q,f,r,rfl,S,T⟩:=g;have d:DataW.TrodAll enc Tryz.prog W 0 (λ_=>true) true Tryz.f3.params.toList args.toList o p:=f;rw[Tryz.params3] at d i;obtain⟨v0,V,M,N,A,U,P,rfl,rfl,c,B⟩:=trodAll_cons d;obtain⟨rfl,rfl,rfl⟩:=trodAll_nil B;obtain rfl:args=#[v0]:=by cases args;simp_all
 obtain⟨rfl,rfl⟩:=trodVars_none r;have k0:=c;have z:∀x∈A,x.block<W.heap.size:=by obtain⟨m,w⟩:=k0;exact DataW.trod_lt m _ _ _ w
 obtain⟨F,I,K,rfl,G⟩:=IU (i 0 22 v0 rfl rfl) c;clear f k;refine(walk F I K W G).mono λe W' ⟨u,a⟩ => ?_
 subst u;exact⟨_,rfl,_,_,_,[],_,[],s,trodAll_mk1 (shut_bool Tryz.underlying4 _),(trodAll_cons_mk (Below.trod laidOut (by kernel_rfl) (of_decide_eq_true (by kernel_rfl)) k0 a z) trodAll_mk0),rfl,a.frame _,λh=>by cases h⟩
theorem and_split {a b:Bool}(h1:a=true)(h2:b=true):(a && b)=true:=by rw[h1,h2];rfl
theorem facts:joinedFacts Tryz.prog 3 Tryz.f3 Rows.walkHoldsSpec Rows.walkHoldsRow=true:=by
 unfold joinedFacts;refine and_split (and_split (and_split (and_split (and_split (and_split (and_split (and_split (and_split (and_split (and_split (and_split (and_split (and_split (and_split (and_split (and_split (and_split (and_split (and_split (and_split (and_split (and_split (and_split (and_split (and_split (and_split (and_split (and_split (and_split (and_split ?k1 ?k2) ?k3) ?k4) ?k5) ?k6) ?k7) ?k8) ?k9) ?k10) ?k11) ?k12) ?k13) ?k14) ?k15) ?k16) ?k17) ?k18) ?k19) ?k20) ?k21) ?k22) ?k23) ?k24) ?k25) ?k26) ?k27) ?k28) ?k29) ?k30) ?k31) ?k32
 case k1=>as_aux_lemma=>kernel_rfl
 case k2=>as_aux_lemma=>kernel_rfl
 case k3=>as_aux_lemma=>kernel_rfl
 case k4=>as_aux_lemma=>kernel_rfl
 case k5=>as_aux_lemma=>kernel_rfl
 case k6=>as_aux_lemma=>kernel_rfl
 case k7=>as_aux_lemma=>kernel_rfl
 case k8=>as_aux_lemma=>kernel_rfl
 case k9=>as_aux_lemma=>kernel_rfl
 case k10=>as_aux_lemma=>kernel_rfl
 case k11=>as_aux_lemma=>kernel_rfl
 case k12=>as_aux_lemma=>kernel_rfl
 case k13=>as_aux_lemma=>kernel_rfl
 case k14=>as_aux_lemma=>kernel_rfl
 case k15=>as_aux_lemma=>kernel_rfl
 case k16=>as_aux_lemma=>kernel_rfl
 case k17=>as_aux_lemma=>kernel_rfl
 case k18=>as_aux_lemma=>kernel_rfl
 case k19=>as_aux_lemma=>kernel_rfl
 case k20=>as_aux_lemma=>kernel_rfl
 case k21=>as_aux_lemma=>kernel_rfl
 case k22=>as_aux_lemma=>kernel_rfl
 case k23=>as_aux_lemma=>kernel_rfl
 case k24=>as_aux_lemma=>kernel_rfl
 case k25=>as_aux_lemma=>kernel_rfl
 case k26=>as_aux_lemma=>kernel_rfl
 case k27=>as_aux_lemma=>kernel_rfl
 case k28=>as_aux_lemma=>kernel_rfl
 case k29=>as_aux_lemma=>kernel_rfl
 case k30=>as_aux_lemma=>kernel_rfl
 case k31=>as_aux_lemma=>kernel_rfl
 case k32=>as_aux_lemma=>kernel_rfl
theorem over:Rows.walkHoldsRow.holds Tryz.pinned (OpenSpec.ofChange Rows.walkHoldsSpec) :=
 OpenClaim.holds_of_wide 3 Tryz.f3 rfl rfl rfl rfl rfl rfl rfl ⟨rfl,rfl,rfl,rfl,rfl⟩ rfl rfl rfl rfl rfl (by as_aux_lemma=>kernel_rfl) Tryz.func3 facts
  (by as_aux_lemma=>exact of_decide_eq_true (by kernel_rfl)) (by unfold Func.isWrapper;first|(rw[if_pos (by decide +kernel)];kernel_rfl)|(rw[if_neg (by decide +kernel)];exact⟨rfl,rfl⟩))
  (λos a H enc _=>lifted os a H enc)
theorem proved:Rows.WalkHoldsSaid:=over
#print axioms proved
end Go.Proofs.YtohmkffoojdahaaGreat.walkHolds
