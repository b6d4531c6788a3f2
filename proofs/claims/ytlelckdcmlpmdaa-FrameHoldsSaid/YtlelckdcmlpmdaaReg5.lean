/- Regions with chains: the theorem, and the rules for an operation. -/
import Derived.Test.YtlelckdcmlpmdaaReg4
namespace Go.Proofs.Ytlelckdcmlpmdaa
open Go Go.RowKit Lou
namespace Reg
variable {P : Program} {ops : Array Oper}

structure J4 (ops : Array Oper) (FS : Ghost → Tmp → Value → World → Prop) (a0 : Act) (D : List Nat) (B : Nat) (w00 : World) (cs : List (List Stage)) (g : Ghost) (listed : Array Bool) (a : Act) (w : World) : Prop where
  size : a.tmps.size = a0.tmps.size
  defers : a.defers = a0.defers
  facts : ∀ t, Known ops listed t → FS g t (a.eval (.tmp t)) w
  wc : WC B w00 cs g listed a w
  rest : ∀ t, D.contains t = false → a.eval (.tmp t) = a0.eval (.tmp t)
  old : ∀ t, (∀ (j : Nat) (p : Oper), ops[j]? = some p → p.dst = some t → listed.getD j true = false) → a.eval (.tmp t) = a0.eval (.tmp t)
  closed : Closed ops listed

def Op4 (P : Program) (ops : Array Oper) (a0 : Act) (FS : Ghost → Tmp → Value → World → Prop) (B : Nat) (w00 : World) (cs : List (List Stage)) (i : Nat) (o : Oper) : Prop :=
  ∀ (g : Ghost) (listed : Array Bool) (a : Act) (w : World) (K : Act → World → Prop) (Q : Exit → Act → World → Prop), ops[i]? = some o → listed.size = ops.size → listed.getD i true = false → (∀ e ∈ o.after.toList, Region.binds .any e = true → listed.getD e.on false = true) → Closed ops listed →
    WC B w00 cs g listed a w → (∀ t, (o.looksAt ops).contains t = true → ahead ops o t = true → FS g t (a.eval (.tmp t)) w) → (∀ t, waits ops i t = true → a.eval (.tmp t) = a0.eval (.tmp t)) → (∀ d, o.dst = some d → d < a.tmps.size) →
    (∀ g' v w', (∀ t u, FS g t u w → FS g' t u w') → FSd (FS g') o.dst v w' → WC B w00 cs g' (listed.setIfInBounds i true) (a.put o.dst v) w' → K (a.put o.dst v) w') →
    (if Region.wanted o (yielded ops a.tmps) then o.wp P a w K Q ∨ (o.asks P a w ∧ LetsOut Q) else K (a.put o.dst undef) w)
def AllOp4 (P : Program) (ops : Array Oper) (a0 : Act) (FS : Ghost → Tmp → Value → World → Prop) (B : Nat) (w00 : World) (cs : List (List Stage)) : Nat → List Oper → Prop
  | _, [] => True
  | k, o :: r => Op4 P ops a0 FS B w00 cs k o ∧ AllOp4 P ops a0 FS B w00 cs (k + 1) r
theorem AllOp4.get {a0 : Act} {FS : Ghost → Tmp → Value → World → Prop} {B : Nat} {w00 : World} {cs : List (List Stage)} : ∀ {l : List Oper} {k : Nat}, AllOp4 P ops a0 FS B w00 cs k l → ∀ i o, l[i]? = some o → Op4 P ops a0 FS B w00 cs (k + i) o
  | [], _, _, i, o, h => by simp at h
  | x :: r, k, h, 0, o, ho => by
    simp at ho
    subst ho
    exact h.1
  | x :: r, k, h, i + 1, o, ho => by
    have := AllOp4.get h.2 i o (by simpa using ho)
    rw [show k + (i + 1) = k + 1 + i from by omega]
    exact this

theorem region4 (hm : P.follows .mixedOrders = true) (hcov : backs ops = true) {id : Nat} {a0 : Act} {w0 : World} {Q : Exit → Act → World → Prop} (n : Nat) (hn : a0.tmps.size = n) (hdst : dstsIn ops n = true) (D : List Nat) (hD : dstsAre ops D = true)
    (FS : Ghost → Tmp → Value → World → Prop) (B : Nat) (w00 : World) (cs : List (List Stage)) (g0 : Ghost) (hstart : ∀ t, (∀ o ∈ ops.toList, o.dst ≠ some t) → FS g0 t (a0.eval (.tmp t)) w0.drew) (h0 : WC B w00 cs g0 (Array.replicate ops.size false) a0 w0.drew)
    (hok : AllOp4 P ops a0 FS B w00 cs 0 ops.toList)
    (hend : ∀ g listed a w, listed.size = ops.size → (∀ i, i < ops.size → listed.getD i true = true) → J4 ops FS a0 D B w00 cs g listed a w → (∀ t, FS g t (a.eval (.tmp t)) w) → Q .normal a w) :
    (Code.region id ops true).wp P Q a0 w0 := by
  have hD' : ∀ o ∈ ops.toList, ∀ d, o.dst = some d → D.contains d = true := by
    intro o ho d hd
    unfold dstsAre at hD
    rw [List.all_eq_true] at hD
    have := hD o ho
    simpa [hd] using this
  have hdst' : ∀ o ∈ ops.toList, ∀ d, o.dst = some d → d < n := by
    intro o ho d hd
    unfold dstsIn at hdst
    rw [List.all_eq_true] at hdst
    have := hdst o ho
    simpa [hd] using this
  refine region_inv hm hcov (fun listed a w => ∃ g, J4 ops FS a0 D B w00 cs g listed a w) ⟨g0, rfl, rfl, ?_, h0, fun _ _ => rfl, fun _ _ => rfl, fun j p hp h => by
    have hj := (Array.getElem?_eq_some_iff.1 hp).1
    simp [Array.getD, hj] at h⟩ ?_ ?_
  · intro t ht
    refine hstart t ?_
    intro o ho hd
    obtain ⟨i, hi, rfl⟩ := List.getElem_of_mem ho
    have hi' : i < ops.size := by simpa using hi
    have := ht i ops[i] (Array.getElem?_eq_getElem hi') (by simpa using hd)
    simp [Array.getD, hi'] at this
  · rintro i o ho listed a w K Q' hs hl hedges ⟨g, hJ⟩ hK
    have hom : o ∈ ops.toList := by
      obtain ⟨h1, h2⟩ := Array.getElem?_eq_some_iff.1 ho
      subst h2
      simp
    have hisz : i < listed.size := by rw [hs]; exact (Array.getElem?_eq_some_iff.1 ho).1
    have hold : ∀ t, waits ops i t = true → a.eval (.tmp t) = a0.eval (.tmp t) := by
      intro t ht
      refine hJ.old t ?_
      intro j p hp hd
      obtain ⟨e, he, hb, rfl⟩ := waits_spec ht hp hd
      cases hl2 : listed.getD j true with
      | false => rfl
      | true =>
        have := hJ.closed j p hp hl2 e he hb
        simp only [Array.getD, hisz, dif_pos] at this hl
        rw [hl] at this
        cases this
    have hlook : ∀ t, (o.looksAt ops).contains t = true → ahead ops o t = true → FS g t (a.eval (.tmp t)) w := by
      intro t _ ht
      refine hJ.facts t ?_
      intro j p hp hd
      obtain ⟨e, he, hb, rfl⟩ := ahead_spec ht hp hd
      have := hedges e he hb
      have hlt : e.on < listed.size := by rw [hs]; exact (Array.getElem?_eq_some_iff.1 hp).1
      simp only [Array.getD, hlt, dif_pos] at this ⊢
      exact this
    have hop := hok.get i o (by simpa using ho)
    rw [Nat.zero_add] at hop
    refine hop g listed a w K Q' ho hs hl hedges hJ.closed hJ.wc hlook hold (fun d hd => by rw [hJ.size, hn]; exact hdst' o hom d hd) ?_
    intro g' v w' hst hv hwi
    refine hK v w' ⟨g', ?_, ?_, ?_, hwi, ?_, ?_, ?_⟩
    · cases hd : o.dst with
      | none => simpa [Act.put] using hJ.size
      | some d => simpa [Act.put] using hJ.size
    · cases hd : o.dst with
      | none => simpa [Act.put] using hJ.defers
      | some d => simpa [Act.put] using hJ.defers
    · intro t ht
      by_cases hdt : o.dst = some t
      · rw [hdt] at hv ⊢
        rw [eval_put_same (by rw [hJ.size, hn]; exact hdst' o hom t hdt)]
        exact hv
      · have hk : Known ops listed t := by
          intro j p hp hd
          have := ht j p hp hd
          by_cases e : i = j
          · subst e
            rw [ho] at hp
            injection hp with hp
            subst hp
            exact absurd hd hdt
          · simpa [Array.getD_eq_getD_getElem?, Array.getElem?_setIfInBounds, e] using this
        have := hst t _ (hJ.facts t hk)
        cases hd : o.dst with
        | none => simpa [Act.put] using this
        | some d =>
          rw [eval_put_other (by intro e; subst e; exact hdt hd)]
          exact this
    · intro t ht
      cases hd : o.dst with
      | none => simpa [Act.put] using hJ.rest t ht
      | some d =>
        rw [eval_put_other (by intro e; subst e; rw [hD' o hom t hd] at ht; cases ht)]
        exact hJ.rest t ht
    · intro t ht
      have hdt : o.dst ≠ some t := by
        intro hd
        have := ht i o ho hd
        simp [Array.getD_eq_getD_getElem?, Array.getElem?_setIfInBounds, hisz] at this
      have := hJ.old t (fun j p hp hd => by
        have h2 := ht j p hp hd
        have hij : i ≠ j := by
          intro e
          subst e
          rw [ho] at hp
          injection hp with hp
          subst hp
          exact hdt hd
        simpa [Array.getD_eq_getD_getElem?, Array.getElem?_setIfInBounds, hij] using h2)
      cases hd : o.dst with
      | none => simpa [Act.put] using this
      | some d =>
        rw [eval_put_other (by intro e; subst e; exact hdt hd)]
        exact this
    · intro j p hp hlj e he hb
      have hup : ∀ k, listed.getD k false = true → (listed.setIfInBounds i true).getD k false = true := by
        intro k hk
        by_cases e : i = k
        · subst e
          simp [Array.getD_eq_getD_getElem?, Array.getElem?_setIfInBounds, hisz]
        · simpa [Array.getD_eq_getD_getElem?, Array.getElem?_setIfInBounds, e] using hk
      by_cases e2 : i = j
      · subst e2
        rw [ho] at hp
        injection hp with hp
        subst hp
        exact hup _ (hedges e he hb)
      · refine hup _ (hJ.closed j p hp ?_ e he hb)
        simpa [Array.getD_eq_getD_getElem?, Array.getElem?_setIfInBounds, e2] using hlj
  · rintro listed a w hs hall ⟨g, hJ⟩
    refine hend g listed a w hs hall hJ (fun t => hJ.facts t ?_)
    intro j p hp _
    exact hall j (Array.getElem?_eq_some_iff.1 hp).1

section rules
variable {a0 : Act} {FS : Ghost → Tmp → Value → World → Prop} {B : Nat} {w00 : World} {cs : List (List Stage)} {i : Nat} {o : Oper}
/-- An operation that leaves what lay as it was. -/
theorem WC.plain (hok : chainsOk ops cs = true) (hi : (idx cs).contains i = false) {g : Ghost} {listed : Array Bool} {a : Act} {w w' : World} (h : WC B w00 cs g listed a w) (ho : ops[i]? = some o) (hs : listed.size = ops.size) (hl : listed.getD i true = false) (hcl : Closed ops listed) (hg : Grow w w') (v : Value) :
    WC B w00 cs g (listed.setIfInBounds i true) (a.put o.dst v) w' := by
  have hso : slotsOk ops cs = true := by
    unfold chainsOk at hok
    simp only [Bool.and_eq_true] at hok
    exact hok.2
  have hni : ∀ (k : Nat) (c : List Stage), cs[k]? = some c → ∀ x ∈ c, x.i ≠ some i := by
    intro k c hc x hx e
    have := idx_mem hc hx e
    simp at hi
    exact hi this
  refine ⟨h.below.trans (hg.mono h.base), Nat.le_trans h.base hg.size, ?_, h.out, h.apart, h.ge⟩
  intro k c hc
  rw [current_set (hni k c hc)]
  have := h.at_ k c hc
  cases hx : current listed c with
  | none => rw [hx] at this; exact this
  | some x =>
    rw [hx] at this
    obtain ⟨hxm, hxd⟩ := current_mem hx
    have e := src_put hso hcl ho hs hl hc hxm hxd a v
    obtain ⟨h1, h2⟩ := this
    refine ⟨?_, ?_⟩
    · rw [e]
      exact x.st _ _ _ h1 fun b hb => hg.block b (x.lt _ _ _ h1 hb)
    · rw [e]
      exact h2
theorem op4_of (hok : chainsOk ops cs = true) (hi : (idx cs).contains i = false) (hst : ∀ g t v w w', FS g t v w → Grow w w' → FS g t v w') (h : ∀ g w0, Lt g w0 → OpOk P ops (FS g) w0 o) (hah : ((o.looksAt ops).all (ahead ops o)) = true) : Op4 P ops a0 FS B w00 cs i o := by
  intro g listed a w K Q ho hs hl he hcl hw hlook _ _ hK
  exact h g w hw.lt a w K Q (Grow.refl w) (fun t ht => hlook t ht (by
    rw [List.all_eq_true] at hah
    exact hah t (by simpa using ht))) (fun v w' hg hf => hK g v w' (fun t u hu => hst g t u w w' hu hg) hf (hw.plain hok hi ho hs hl hcl hg v))
/-- The move of a slot that the region writes later. -/
theorem op4_mv_old (hok : chainsOk ops cs = true) (hi : (idx cs).contains i = false) (t : Tmp) (hg : o.guard = none) (hop : o.op = .move (.tmp t) ∨ o.op = .assign (.tmp t)) (hw : waits ops i t = true) (hd : ∀ g w, FSd (FS g) o.dst (a0.eval (.tmp t)) w) : Op4 P ops a0 FS B w00 cs i o := by
  intro g listed a w K Q ho hs hl he hcl hwc _ hold _ hK
  have e := hold t hw
  rw [if_pos (by simp [Region.wanted, hg])]
  left
  unfold Oper.wp execOp
  rcases hop with hop | hop <;> simp only [hop, Sem.run_pure, Oper.upon_value, e] <;> exact hK g _ w (fun _ _ h => h) (hd g w) (hwc.plain hok hi ho hs hl hcl (Grow.refl w) _)
theorem chained_at : ∀ (later r : List Stage), chained ops (later ++ r) = true → chained ops r = true
  | [], _, h => h
  | z :: q, r, h => by
    simp only [List.cons_append, chained, Bool.and_eq_true] at h
    exact chained_at q r h.2
/-- An operation that leads from a stage of chain k to the next one. -/
theorem op4_stage (hok : chainsOk ops cs = true) (k : Nat) (later : List Stage) (x : Stage) (pre : List Stage) (hc : cs[k]? = some (later ++ x :: pre)) (hxi : x.i = some i) (hu1 : later.all (fun y => y.i != some i) = true) (hu2 : (cs.zipIdx.all fun (c, j) => j == k || c.all fun y => y.i != some i) = true) (hg : o.guard = none)
    (hst : ∀ g k gb t u w w', Lt g w → w.grownBy w' (g k) → (gb = g k ∨ ∀ b, gb = some b → w.heap.size ≤ b) → FS g t u w → FS (upd g k gb) t u w')
    (hrun : ∀ (g : Ghost) (a : Act) (w : World) (K : Act → World → Prop) (Q : Exit → Act → World → Prop), Lt g w → B ≤ w.heap.size → Below B w00 w → (∀ t, (o.looksAt ops).contains t = true → ahead ops o t = true → FS g t (a.eval (.tmp t)) w) → StageAt (g k) a w pre.head? → (∀ d, o.dst = some d → d < a.tmps.size) →
      (∀ v w' gb, w.grownBy w' (g k) → (gb = g k ∨ ∀ b, gb = some b → w.heap.size ≤ b) → x.p (x.s.get (a.put o.dst v)) w' → gb = x.b (x.s.get (a.put o.dst v)) → FSd (FS (upd g k gb)) o.dst v w' → K (a.put o.dst v) w') → o.wp P a w K Q) : Op4 P ops a0 FS B w00 cs i o := by
  intro g listed a w K Q ho hs hl he hcl hw hlook _ hdl hK
  rw [if_pos (by simp [Region.wanted, hg])]
  left
  have hok' := hok
  unfold chainsOk at hok'
  simp only [Bool.and_eq_true, List.all_eq_true] at hok'
  obtain ⟨hch, hso⟩ := hok'
  have hchk := hch _ (List.mem_of_getElem? hc)
  have hisz : i < listed.size := by rw [hs]; exact (Array.getElem?_eq_some_iff.1 ho).1
  have hlf : listed.getD i false = false := by simpa [Array.getD, hisz] using hl
  have hxd : x.done listed = false := by simpa [Stage.done, hxi] using hlf
  have hlat := chain_none hcl later x pre hchk hxd
  have hcur : current listed (later ++ x :: pre) = pre.head? := by
    rw [current_skip later _ hlat]
    simp only [current, hxd]
    cases hp : pre with
    | nil => rfl
    | cons y r =>
      have hyd : y.done listed = true := by
        have h2 : chained ops (x :: y :: r) = true := by
          rw [hp] at hchk
          exact chained_at _ _ hchk
        simp only [chained, Bool.and_eq_true, hxi] at h2
        have h3 := h2.1
        unfold Stage.done
        cases hyi : y.i with
        | none => rfl
        | some j =>
          rw [hyi] at h3
          simp only [edge, ho, List.any_eq_true, Bool.and_eq_true, beq_iff_eq] at h3
          obtain ⟨e, hm, hb, rfl⟩ := h3
          exact he e hm hb
      simp [current, hyd]
  have hpre := hw.at_ k _ hc
  rw [hcur] at hpre
  refine hrun g a w K Q hw.lt hw.base hw.below hlook hpre hdl ?_
  intro v w' gb hgr hgb hxp hxb hfd
  have hlater : ∀ y ∈ later, y.i ≠ some i := by
    intro y hy
    rw [List.all_eq_true] at hu1
    simpa using hu1 y hy
  have hother : ∀ (j : Nat) (c : List Stage), cs[j]? = some c → j ≠ k → ∀ y ∈ c, y.i ≠ some i := by
    intro j c hjc hjk y hy
    rw [List.all_eq_true] at hu2
    have := hu2 (c, j) (by rw [List.mem_zipIdx_iff_getElem?]; exact hjc)
    simp only [Bool.or_eq_true, beq_iff_eq, List.all_eq_true] at this
    rcases this with h | h
    · exact absurd h hjk
    · simpa using h y hy
  have hlt := hw.lt
  refine hK (upd g k gb) v w' (fun t u hu => hst g k gb t u w w' hlt hgr hgb hu) hfd ⟨hw.below.trans (grown_below hgr hw.base (fun r hr => hw.ge k r hr)), Nat.le_trans hw.base hgr.size, ?_, ?_, ?_, ?_⟩
  · intro j c hjc
    by_cases hjk : j = k
    · subst hjk
      rw [hc] at hjc
      injection hjc with hjc
      subst hjc
      have e : current (listed.setIfInBounds i true) (later ++ x :: pre) = some x := by
        rw [current_skip later _ (fun y hy => by rw [done_set (hlater y hy)]; exact hlat y hy)]
        have : x.done (listed.setIfInBounds i true) = true := by
          simp [Stage.done, hxi, Array.getD_eq_getD_getElem?, Array.getElem?_setIfInBounds, hisz]
        simp [current, this]
      rw [e]
      simp only [upd, if_true]
      exact ⟨hxp, hxb⟩
    · rw [current_set (hother j c hjc hjk)]
      have h1 := hw.at_ j c hjc
      simp only [upd, if_neg hjk]
      cases hy : current listed c with
      | none => rw [hy] at h1; exact h1
      | some y =>
        rw [hy] at h1
        obtain ⟨hym, hyd⟩ := current_mem hy
        have e := src_put hso hcl ho hs hl hjc hym hyd a v
        obtain ⟨h2, h3⟩ := h1
        refine ⟨?_, by rw [e]; exact h3⟩
        rw [e]
        refine y.st _ _ _ h2 fun b hb => hgr.block b (y.lt _ _ _ h2 hb) ?_
        intro e2
        exact hw.apart j k b hjk (by rw [h3]; exact hb) e2.symm
  · intro j hj
    have hjk : j ≠ k := by
      intro e
      subst e
      rw [hc] at hj
      cases hj
    simp only [upd, if_neg hjk]
    exact hw.out j hj
  · intro j1 j2 b h12 h1
    by_cases e1 : j1 = k
    · subst e1
      have e2 : ¬ j2 = j1 := fun e => h12 e.symm
      simp only [upd, if_true] at h1
      simp only [upd, if_neg e2]
      intro h2
      rcases hgb with hgb | hgb
      · rw [hgb] at h1
        exact hw.apart j1 j2 b h12 h1 h2
      · have h3 := hgb b h1
        have := hlt j2 b h2
        omega
    · simp only [upd, if_neg e1] at h1
      by_cases e2 : j2 = k
      · subst e2
        simp only [upd, if_true]
        intro h2
        rcases hgb with hgb | hgb
        · rw [hgb] at h2
          exact hw.apart j1 j2 b h12 h1 h2
        · have h3 := hgb b h2
          have := hlt j1 b h1
          omega
      · simp only [upd, if_neg e2]
        exact hw.apart j1 j2 b h12 h1
  · intro j b hj
    by_cases e1 : j = k
    · subst e1
      simp only [upd, if_true] at hj
      rcases hgb with hgb | hgb
      · rw [hgb] at hj
        exact hw.ge j b hj
      · have h3 := hgb b hj
        have := hw.base
        omega
    · simp only [upd, if_neg e1] at hj
      exact hw.ge j b hj
/-- Operation i waits for the stage's. -/
def behind (ops : Array Oper) (i : Nat) : Option Nat → Bool
  | none => true
  | some j => edge ops i j
/-- An operation that reads what a chain holds. -/
theorem op4_read (hok : chainsOk ops cs = true) (hi : (idx cs).contains i = false) (k : Nat) (later : List Stage) (y : Stage) (pre : List Stage) (hc : cs[k]? = some (later ++ y :: pre)) (hyi : behind ops i y.i = true)
    (hlat : ∀ listed, Closed ops listed → listed.getD i false = false → ∀ z ∈ later, z.done listed = false) (hg : o.guard = none) (hst : ∀ g t v w w', FS g t v w → Grow w w' → FS g t v w')
    (h : ∀ (g : Ghost) (a : Act) (w : World) (K : Act → World → Prop) (Q : Exit → Act → World → Prop), Lt g w → B ≤ w.heap.size → Below B w00 w → (∀ t, (o.looksAt ops).contains t = true → ahead ops o t = true → FS g t (a.eval (.tmp t)) w) → y.p (y.s.get a) w → g k = y.b (y.s.get a) →
      (∀ v w', Grow w w' → FSd (FS g) o.dst v w' → K (a.put o.dst v) w') → o.wp P a w K Q) : Op4 P ops a0 FS B w00 cs i o := by
  intro g listed a w K Q ho hs hl he hcl hw hlook _ _ hK
  rw [if_pos (by simp [Region.wanted, hg])]
  left
  have hisz : i < listed.size := by rw [hs]; exact (Array.getElem?_eq_some_iff.1 ho).1
  have hlf : listed.getD i false = false := by simpa [Array.getD, hisz] using hl
  have hyd : y.done listed = true := by
    unfold Stage.done
    cases hy : y.i with
    | none => rfl
    | some j =>
      rw [hy] at hyi
      simp only [behind, edge, ho, List.any_eq_true, Bool.and_eq_true, beq_iff_eq] at hyi
      obtain ⟨e, hm, hb, rfl⟩ := hyi
      exact he e hm hb
  have hcur : current listed (later ++ y :: pre) = some y := by
    rw [current_skip later _ (hlat listed hcl hlf)]
    simp [current, hyd]
  have hat := hw.at_ k _ hc
  rw [hcur] at hat
  exact h g a w K Q hw.lt hw.base hw.below hlook hat.1 hat.2 fun v w' hgr hf => hK g v w' (fun t u hu => hst g t u w w' hu hgr) hf (hw.plain hok hi ho hs hl hcl hgr v)
theorem later_nil (i : Nat) : ∀ listed, Closed ops listed → listed.getD i false = false → ∀ z ∈ ([] : List Stage), z.done listed = false := fun _ _ _ z hz => by cases hz
/-- What every stage of a region's end holds. -/
theorem J4.end_ {D : List Nat} {g : Ghost} {listed : Array Bool} {a : Act} {w : World} (h : J4 ops FS a0 D B w00 cs g listed a w) (hall : ∀ i, i < ops.size → listed.getD i true = true) (hs : listed.size = ops.size) (k : Nat) (x : Stage) (r : List Stage) (hc : cs[k]? = some (x :: r)) (hx : ∀ i, x.i = some i → i < ops.size) : x.p (x.s.get a) w ∧ g k = x.b (x.s.get a) := by
  have h1 := h.wc.at_ k _ hc
  have hd : x.done listed = true := by
    unfold Stage.done
    cases hi : x.i with
    | none => rfl
    | some i =>
      have hlt : i < ops.size := hx i hi
      have := hall i hlt
      have hl : i < listed.size := by omega
      simpa [Array.getD, hl] using this
  simp only [current, hd, if_true] at h1
  exact h1
end rules
end Reg
end Go.Proofs.Ytlelckdcmlpmdaa
