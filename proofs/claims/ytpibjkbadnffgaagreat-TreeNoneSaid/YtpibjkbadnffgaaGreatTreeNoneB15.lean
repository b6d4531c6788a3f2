/- Proved: for every input the law TreeNone returns true and leaves its arguments as they were. Conditions: none. -/
import Derived.Test.YtpibjkbadnffgaaGreatRows
import Derived.WalkKit
import Derived.ProofKit
import Derived.OpenShut
import Derived.ShutString
import Derived.ChangeOld
import Derived.Below
import Derived.Test.YtpibjkbadnffgaaGreatTreeNoneB14
set_option linter.unusedVariables false
set_option maxRecDepth 100000
set_option maxHeartbeats 8000000
namespace Go.Proofs.YtpibjkbadnffgaaGreat.treeNone
open Go Lou Go.ChangeShapes Go.WideShapes Go.ChangeAt Go.RowKit
open Go.ChangeMaps (open_string shut_string)
set_option linter.unusedVariables false
theorem own:ownKnob Tryz.prog.godebug=none:=by kernel_rfl
theorem laidOut:laidOutB Tryz.prog=true:=by kernel_rfl
theorem walk (a0:Int)(c:ByteArray)(a:ByteArray)(w:World)(d:(Lit.int .i64 a0).wf=true)(g:c.size<=maxLen)(f:a.size<=maxLen) :
  Calls Tryz.prog 3 #[.int .i64 a0,.string c,.string a] w λe w'=>e = .returned (.bool true)/\Below w.heap.size w w':=by
 exact lawTN_walk w a0 c a
theorem lifted (os:Os)(E:os.Started)(H:Type)(enc:TypeId×Value->H) :
  ReturnsInHanded {} Tryz.checked os 3 .any (Rows.treeNoneSpec.pre6 enc Tryz.prog Tryz.f3 Rows.treeNoneRow.domain false) (Rows.treeNoneSpec.post enc Tryz.prog Tryz.f3 false true false false):=by
 refine returnsInHanded_of_change (C:=Tryz.checked) own E (by kernel_rfl) Tryz.func3
  (ChangeSpec.witness6 (enc:=enc) (C:=Tryz.checked) false ⟨#[],#[.int .i64 0,.string ByteArray.empty,.string ByteArray.empty],[]⟩ 8 (by kernel_rfl) (by kernel_rfl) (by kernel_rfl) (by kernel_rfl)) ?_
 intro W base args B I O k m N _
 have a:∀(j:Nat) t v,Tryz.f3.params[j]? = some t->args[j]? = some v->Value.okWide Tryz.prog W .any base t v:=k
 have G:=m
 obtain⟨p,q,f,A,rfl,M,U⟩:=m
 have n:DataW.TrodAll enc Tryz.prog W 0 (λ_=>true) true Tryz.f3.params.toList args.toList B p:=f
 rw[Tryz.params3] at n a
 obtain⟨v0,X,P,V,Q,Z,aB,rfl,rfl,F,u⟩:=trodAll_cons n
 obtain⟨v1,S,d1,aA,K,q1,rfl,rfl,rfl,h1,r⟩:=trodAll_cons u
 obtain⟨d,T,d2,L,p2,q2,rfl,rfl,rfl,h2,w⟩:=trodAll_cons r
 obtain⟨rfl,rfl,rfl⟩:=trodAll_nil w
 obtain rfl:args=#[v0,v1,d]:=by cases args;simp_all
 obtain⟨rfl,rfl⟩:=trodVars_none A
 obtain⟨a0,rfl,rfl,rfl,c⟩:=open_int Tryz.underlying3 (a 0 3 v0 rfl rfl) F
 obtain⟨z,rfl,rfl,rfl,i⟩:=open_string Tryz.underlying9 (a 1 9 v1 rfl rfl) h1
 obtain⟨x,rfl,rfl,rfl,g⟩:=open_string Tryz.underlying9 (a 2 9 d rfl rfl) h2
 clear f k
 refine(walk a0 z x W c i g).mono λe W' ⟨s,o⟩ => ?_
 subst s
 exact⟨_,rfl,_,_,_,[],_,[],G,trodAll_mk1 (shut_bool Tryz.underlying4 _),(trodAll_cons_mk (shut_int Tryz.underlying3 c) (trodAll_cons_mk (shut_string Tryz.underlying9 i) (trodAll_cons_mk (shut_string Tryz.underlying9 g) trodAll_mk0))),rfl,o.frame _,λh=>by cases h⟩
theorem and_split {a b:Bool}(h1:a=true)(h2:b=true):(a && b)=true:=by rw[h1,h2];rfl
theorem facts:joinedFacts Tryz.prog 3 Tryz.f3 Rows.treeNoneSpec Rows.treeNoneRow=true:=by
 unfold joinedFacts
 refine and_split (and_split (and_split (and_split (and_split (and_split (and_split (and_split (and_split (and_split (and_split (and_split (and_split (and_split (and_split (and_split (and_split (and_split (and_split (and_split (and_split (and_split (and_split (and_split (and_split (and_split (and_split (and_split (and_split (and_split (and_split ?k1 ?k2) ?k3) ?k4) ?k5) ?k6) ?k7) ?k8) ?k9) ?k10) ?k11) ?k12) ?k13) ?k14) ?k15) ?k16) ?k17) ?k18) ?k19) ?k20) ?k21) ?k22) ?k23) ?k24) ?k25) ?k26) ?k27) ?k28) ?k29) ?k30) ?k31) ?k32
 case k1=>as_aux_lemma=>kernel_rfl
 case k2=>as_aux_lemma=>kernel_rfl
 case k3=>as_aux_lemma=>kernel_rfl
 case k4=>as_aux_lemma=>kernel_rfl
 case k5=>as_aux_lemma=>kernel_rfl
 case k6=>as_aux_lemma=>kernel_rfl
 case k7=>as_aux_lemma=>kernel_rfl
 case k8=>as_aux_lemma=>kernel_rfl
 case k9=>as_aux_lemma=>kernel_rfl
 case k10=>as_aux_lemma=>kernel_rfl
 case k11=>as_aux_lemma=>kernel_rfl
 case k12=>as_aux_lemma=>kernel_rfl
 case k13=>as_aux_lemma=>kernel_rfl
 case k14=>as_aux_lemma=>kernel_rfl
 case k15=>as_aux_lemma=>kernel_rfl
 case k16=>as_aux_lemma=>kernel_rfl
 case k17=>as_aux_lemma=>kernel_rfl
 case k18=>as_aux_lemma=>kernel_rfl
 case k19=>as_aux_lemma=>kernel_rfl
 case k20=>as_aux_lemma=>kernel_rfl
 case k21=>as_aux_lemma=>kernel_rfl
 case k22=>as_aux_lemma=>kernel_rfl
 case k23=>as_aux_lemma=>kernel_rfl
 case k24=>as_aux_lemma=>kernel_rfl
 case k25=>as_aux_lemma=>kernel_rfl
 case k26=>as_aux_lemma=>kernel_rfl
 case k27=>as_aux_lemma=>kernel_rfl
 case k28=>as_aux_lemma=>kernel_rfl
 case k29=>as_aux_lemma=>kernel_rfl
 case k30=>as_aux_lemma=>kernel_rfl
 case k31=>as_aux_lemma=>kernel_rfl
 case k32=>as_aux_lemma=>kernel_rfl
theorem over:Rows.treeNoneRow.holds Tryz.pinned (OpenSpec.ofChange Rows.treeNoneSpec) :=
 OpenClaim.holds_of_wide 3 Tryz.f3 rfl rfl rfl rfl rfl rfl rfl ⟨rfl,rfl,rfl,rfl,rfl⟩ rfl rfl rfl rfl rfl (by as_aux_lemma=>kernel_rfl) Tryz.func3 facts
  (by as_aux_lemma=>exact of_decide_eq_true (by kernel_rfl)) (by unfold Func.isWrapper;first|(rw[if_pos (by decide +kernel)];kernel_rfl)|(rw[if_neg (by decide +kernel)];exact⟨rfl,rfl⟩))
  (λos a H enc _=>lifted os a H enc)
theorem proved:Rows.TreeNoneSaid:=over
#print axioms proved
end Go.Proofs.YtpibjkbadnffgaaGreat.treeNone
