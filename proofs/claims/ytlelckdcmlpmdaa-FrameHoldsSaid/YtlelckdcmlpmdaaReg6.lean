/- Regions with chains: facts on slots, stages and rules for rows of bytes and for variables. -/
import Derived.Test.YtlelckdcmlpmdaaReg5
import Derived.Test.YtlelckdcmlpmdaaActs2
import Derived.Test.YtlelckdcmlpmdaaLists
namespace Go.Proofs.Ytlelckdcmlpmdaa
open Go Go.RowKit Lou
namespace Reg

inductive GFact where
  | val (v : Value)
  | any
  | gp (p : Ghost → Value → World → Prop) (h1 : ∀ g v w w', p g v w → Grow w w' → p g v w') (h2 : ∀ g k gb v w w', Lt g w → w.grownBy w' (g k) → (gb = g k ∨ ∀ b, gb = some b → w.heap.size ≤ b) → p g v w → p (upd g k gb) v w')
def GFact.toFact (g : Ghost) : GFact → Fact
  | .val v => .val v
  | .any => .any
  | .gp p h1 _ => .pred (p g) (h1 g)
def factsG (L : List (Nat × GFact)) (g : Ghost) : List (Nat × Fact) := L.map fun x => (x.1, x.2.toFact g)
theorem factsG_stage (L : List (Nat × GFact)) (g : Ghost) (k : Nat) (gb : Option Nat) (t : Tmp) (u : Value) (w w' : World) (hl : Lt g w) (hg : w.grownBy w' (g k)) (hb : gb = g k ∨ ∀ b, gb = some b → w.heap.size ≤ b) (h : FSof (factsG L g) t u w) : FSof (factsG L (upd g k gb)) t u w' := by
  unfold FSof at *
  induction L with
  | nil => trivial
  | cons x r ih =>
    obtain ⟨n, f⟩ := x
    simp only [factsG, List.map_cons, factOf] at h ⊢
    split
    · rename_i e
      rw [if_pos e] at h
      cases f with
      | val v => exact h
      | any => trivial
      | gp p h1 h2 => exact h2 g k gb u w w' hl hg hb h
    · rename_i e
      rw [if_neg e] at h
      exact ih h
theorem factsG_grow (L : List (Nat × GFact)) (g : Ghost) (t : Tmp) (v : Value) (w w' : World) (h : FSof (factsG L g) t v w) (hg : Grow w w') : FSof (factsG L g) t v w' := FSof.stable _ _ _ _ _ h hg

/-- Bytes that lie in no block that still changes. -/
def resX (l : List UInt8) (g : Ghost) (v : Value) (w : World) : Prop := ∃ A c, v = .slice A l.length c ∧ InB w w.heap.size A c l ∧ ∀ ad, A = some ad → ad.block < w.heap.size ∧ ∀ k, g k ≠ some ad.block
theorem resX_grow (l : List UInt8) : ∀ g v w w', resX l g v w → Grow w w' → resX l g v w' := by
  rintro g v w w' ⟨A, c, rfl, h, ha⟩ hg
  exact ⟨A, c, rfl, (h.below hg).more hg.size, fun ad e => ⟨Nat.lt_of_lt_of_le (ha ad e).1 hg.size, (ha ad e).2⟩⟩
theorem resX_stage (l : List UInt8) : ∀ g k gb v w w', Lt g w → w.grownBy w' (g k) → (gb = g k ∨ ∀ b, gb = some b → w.heap.size ≤ b) → resX l g v w → resX l (upd g k gb) v w' := by
  rintro g k gb v w w' hlt hg hb ⟨A, c, rfl, h, ha⟩
  refine ⟨A, c, rfl, ⟨h.le, h.max, h.nil, fun h0 => ?_⟩, fun ad e => ⟨Nat.lt_of_lt_of_le (ha ad e).1 hg.size, fun j => ?_⟩⟩
  · obtain ⟨b, o, hA, hb', hc⟩ := h.lies h0
    refine ⟨b, o, hA, Nat.lt_of_lt_of_le hb' hg.size, fun j hj => ?_⟩
    rw [← hc j hj]
    exact World.cell?_of_block (hg.block b hb' (fun e => (ha _ hA).2 k e.symm))
  · unfold upd
    split
    · rcases hb with rfl | hb
      · exact (ha ad e).2 k
      · intro e2
        have h3 := hb _ e2
        have := (ha ad e).1
        omega
    · exact (ha ad e).2 j
abbrev GFact.res (l : List UInt8) : GFact := .gp (resX l) (resX_grow l) (resX_stage l)
theorem gives_resX {P : Program} {w : World} {f : FuncId} {args : Array Value} {l : List UInt8} {g : Ghost} (hlt : Lt g w) (h : Calls P f args w (GivesB w l)) : Calls P f args w fun e w' => ∃ v, e = .returned v ∧ Grow w w' ∧ (GFact.toFact g (.res l)).holds v w' :=
  h.mono fun e w' ⟨v, he, hown, hB⟩ => ⟨v, he, hB, by
    obtain ⟨A, c, rfl, hin⟩ := hown.inB
    refine ⟨A, c, rfl, hin, fun ad e => ?_⟩
    subst e
    rcases hown.form with ⟨h1, _⟩ | ⟨b, cap, h1, hb, hbl, _⟩
    · cases h1
    · injection h1 with h1 _ _
      injection h1 with h1
      subst h1
      exact ⟨hbl, fun k e2 => by have h5 := hlt k _ e2; simp only at h5 hb; omega⟩⟩
theorem Lt.grow {g : Ghost} {w w' : World} (h : Lt g w) (hg : Grow w w') : Lt g w' := fun k b hb => Nat.lt_of_lt_of_le (h k b hb) hg.size

/-- A row of bytes, as a stage. -/
def rowSt (i : Option Nat) (s : Src) (B : Nat) (l : List UInt8) : Stage :=
  ⟨i, s, fun v w => OwnB w B v l, Value.ownBlock, fun v w w' h hb => by
    refine ⟨h.1, ?_⟩
    rcases h.2 with h | ⟨g, cap, cur, h1, h2, h3, h4⟩
    · exact .inl h
    · exact .inr ⟨g, cap, cur, h1, h2, (hb g (by rw [h1]; rfl)).trans h3, h4⟩, fun v w k h hk => (World.ownsRow.lt h k hk).2⟩
/-- A variable's block. -/
def ptrBlock : Value → Option Nat
  | .pointer (some a) => some a.block
  | _ => none
def varSt (i : Option Nat) (s : Src) (T : TypeId) (cs : Array Value) : Stage :=
  ⟨i, s, fun v w => ∃ b, v = .pointer (some ⟨b, 0, none⟩) ∧ BlkIs w b T cs, ptrBlock, fun v w w' h hb => by
    obtain ⟨b, rfl, h⟩ := h
    exact ⟨b, rfl, (hb b rfl).trans h⟩, fun v w k h hk => by
    obtain ⟨b, rfl, h⟩ := h
    injection hk with hk
    subst hk
    exact h.lt⟩
section rules
variable {ops : Array Oper} {a0 : Act} {GL : List (Nat × GFact)} {B : Nat} {w00 : World} {cs : List (List Stage)} {i : Nat} {o : Oper} {P : Program}
abbrev FSG (GL : List (Nat × GFact)) : Ghost → Tmp → Value → World → Prop := fun g => FSof (factsG GL g)
theorem fsdG {g : Ghost} {d : Tmp} {v : Value} {w : World} (hd : o.dst = some d) (hf : factOf (factsG GL g) d = .any) : FSd (FSG GL g) o.dst v w := by
  rw [hd]
  show (factOf (factsG GL g) d).holds v w
  rw [hf]
  trivial
/-- append of bytes to a row. -/
theorem s_append (hok : chainsOk ops cs = true) (k : Nat) (later : List Stage) (j : Option Nat) (sp : Src) (pre : List Stage) (l1 l2 : List UInt8) (d : Tmp) (s x : Operand) (hc : cs[k]? = some (later ++ rowSt (some i) (.slot d) B (l1 ++ l2) :: rowSt j sp B l1 :: pre))
    (hu1 : later.all (fun y => y.i != some i) = true) (hu2 : (cs.zipIdx.all fun (c, j) => j == k || c.all fun y => y.i != some i) = true) (hg : o.guard = none)
    (ho : o.op = .call { callee := .builtin .append, args := #[s, x], argTypes := #[30, 30] }) (hd : o.dst = some d) (hf : ∀ g, factOf (factsG GL g) d = .any)
    (hs : ∀ a : Act, sp.get a = a.eval s) (hx : ∀ (g : Ghost) (a : Act) (w : World), (∀ t, (o.looksAt ops).contains t = true → ahead ops o t = true → FSG GL g t (a.eval (.tmp t)) w) → Below B w00 w → ∃ A c, a.eval x = .slice A l2.length c ∧ InB w w.heap.size A c l2)
    (hlen : l1.length + l2.length ≤ 140737488355328) : Op4 Try.prog ops a0 (FSG GL) B w00 cs i o := by
  refine op4_stage hok k later _ _ hc rfl hu1 hu2 hg (factsG_stage GL) ?_
  intro g a w K Q hlt hB hBel hlook hpre hdl hK
  obtain ⟨h1, h2⟩ : OwnB w B (sp.get a) l1 ∧ g k = (sp.get a).ownBlock := hpre
  obtain ⟨A, c, e2, hin⟩ := hx g a w hlook hBel
  refine oper_appB s x ho B (sp.get a) l1 (hs a).symm h1 _ A c l2 e2 hin hlen hB ?_
  intro v' w' hown hgr hob
  have ev : (Src.slot d).get (a.put o.dst v') = v' := by rw [hd]; exact eval_put_same (hdl d hd)
  refine hK v' w' v'.ownBlock (by rw [h2]; exact hgr) (by rcases hob with h | h; exact .inl (by rw [h2]; exact h); exact .inr (fun b hb => by rw [h] at hb; injection hb with hb; omega)) ?_ ?_ (fsdG hd (hf _))
  · show OwnB w' B ((Src.slot d).get (a.put o.dst v')) (l1 ++ l2)
    rw [ev]
    exact hown
  · show v'.ownBlock = ((Src.slot d).get (a.put o.dst v')).ownBlock
    rw [ev]
/-- []byte{}. -/
theorem s_lit0 (hok : chainsOk ops cs = true) (k : Nat) (later : List Stage) (d : Tmp) (hc : cs[k]? = some (later ++ [rowSt (some i) (.slot d) B []]))
    (hu1 : later.all (fun y => y.i != some i) = true) (hu2 : (cs.zipIdx.all fun (c, j) => j == k || c.all fun y => y.i != some i) = true) (hg : o.guard = none)
    (ho : o.op = .buildSlice 30 0 #[]) (hd : o.dst = some d) (hf : ∀ g, factOf (factsG GL g) d = .any) : Op4 Try.prog ops a0 (FSG GL) B w00 cs i o := by
  refine op4_stage hok k later _ [] hc rfl hu1 hu2 hg (factsG_stage GL) ?_
  intro g a w K Q hlt hB hBel hlook hpre hdl hK
  have hgk : g k = none := hpre
  have hr : (execOp a.eval o).run Try.prog w = .ok (.value (.slice (some ⟨w.heap.size, 0, none⟩) 0 0)) (w.alloc (.cells #[] 5)) := by
    simp [execOp, ho, go_sem, Result.andThen]
  unfold Oper.wp
  rw [hr]
  have ev : (Src.slot d).get (a.put o.dst (.slice (some ⟨w.heap.size, 0, none⟩) 0 0)) = .slice (some ⟨w.heap.size, 0, none⟩) 0 0 := by rw [hd]; exact eval_put_same (hdl d hd)
  refine hK _ _ (some w.heap.size) ⟨rfl, rfl, rfl, by simp, fun j hj _ => Below.heap_alloc w _ j hj⟩ (.inr (fun b hb => by injection hb with hb; omega)) ?_ ?_ (fsdG hd (hf _))
  · show OwnB _ B ((Src.slot d).get (a.put o.dst _)) []
    rw [ev]
    exact World.ownsRow_lit w #[] 0 hB (by unfold maxLen; omega) rfl
  · show some w.heap.size = ((Src.slot d).get (a.put o.dst _)).ownBlock
    rw [ev]
    rfl
/-- A call that gives bytes of its own. -/
theorem s_call (hok : chainsOk ops cs = true) (k : Nat) (later : List Stage) (l : List UInt8) (d : Tmp) (f : FuncId) (xs : Array Operand) (ts : Array TypeId) (hc : cs[k]? = some (later ++ [rowSt (some i) (.slot d) B l]))
    (hu1 : later.all (fun y => y.i != some i) = true) (hu2 : (cs.zipIdx.all fun (c, j) => j == k || c.all fun y => y.i != some i) = true) (hg : o.guard = none)
    (ho : o.op = .call { callee := .value (.func f), args := xs, argTypes := ts }) (hent : ∀ args w, (callFunc f args).run P w = .ok (.enter f args) w) (hd : o.dst = some d) (hf : ∀ g, factOf (factsG GL g) d = .any)
    (args : Array Value) (hargs : ∀ (g : Ghost) (a : Act) (w : World), (∀ t, (o.looksAt ops).contains t = true → ahead ops o t = true → FSG GL g t (a.eval (.tmp t)) w) → xs.map a.eval = args)
    (hC : ∀ w, Below B w00 w → Calls P f args w (GivesB w l)) : Op4 P ops a0 (FSG GL) B w00 cs i o := by
  refine op4_stage hok k later _ [] hc rfl hu1 hu2 hg (factsG_stage GL) ?_
  intro g a w K Q hlt hB hBel hlook hpre hdl hK
  have hgk : g k = none := hpre
  have hr : (execOp a.eval o).run P w = .ok (.enter f args) w := by
    have ef : a.eval (.func f) = .func (.func f) #[] #[] := rfl
    have h := hent args w
    have ha := hargs g a w hlook
    simp [execOp, ho, resolve, ha, ef, Deferred.ofValue, invoke, Result.andThen, h]
  unfold Oper.wp
  rw [hr, Oper.upon_enter]
  refine (hC w hBel).mono ?_
  rintro e w' ⟨v, rfl, hown, hBw⟩
  have ev : (Src.slot d).get (a.put o.dst v) = v := by rw [hd]; exact eval_put_same (hdl d hd)
  refine hK v w' v.ownBlock ⟨hBw.os, hBw.tape, hBw.output, hBw.size, fun j hj _ => hBw.block j hj⟩ (.inr (hown.ownGe)) ?_ ?_ (fsdG hd (hf _))
  · show OwnB w' B ((Src.slot d).get (a.put o.dst v)) l
    rw [ev]
    exact hown.base hB
  · show v.ownBlock = ((Src.slot d).get (a.put o.dst v)).ownBlock
    rw [ev]
/-- A variable is laid. -/
theorem s_alloc (hok : chainsOk ops cs = true) (k : Nat) (later : List Stage) (T : TypeId) (z : Array Value) (d : Tmp) (hc : cs[k]? = some (later ++ [varSt (some i) (.slot d) T z]))
    (hu1 : later.all (fun y => y.i != some i) = true) (hu2 : (cs.zipIdx.all fun (c, j) => j == k || c.all fun y => y.i != some i) = true) (hg : o.guard = none)
    (ho : o.op = .alloc T) (hd : o.dst = some d) (hf : ∀ g, factOf (factsG GL g) d = .any) (hrun : ∀ (ρ : Operand → Value) (w : World), (execOp ρ o).run P w = .ok (.value (.pointer (some ⟨w.heap.size, 0, none⟩))) (w.alloc (.cells z T))) : Op4 P ops a0 (FSG GL) B w00 cs i o := by
  refine op4_stage hok k later _ [] hc rfl hu1 hu2 hg (factsG_stage GL) ?_
  intro g a w K Q hlt hB hBel hlook hpre hdl hK
  have hgk : g k = none := hpre
  unfold Oper.wp
  rw [hrun]
  have ev : (Src.slot d).get (a.put o.dst (.pointer (some ⟨w.heap.size, 0, none⟩))) = .pointer (some ⟨w.heap.size, 0, none⟩) := by rw [hd]; exact eval_put_same (hdl d hd)
  refine hK _ _ (some w.heap.size) ⟨rfl, rfl, rfl, by simp, fun j hj _ => Below.heap_alloc w _ j hj⟩ (.inr (fun b hb => by injection hb with hb; omega)) ?_ ?_ (fsdG hd (hf _))
  · show ∃ b, (Src.slot d).get (a.put o.dst _) = .pointer (some ⟨b, 0, none⟩) ∧ BlkIs _ b T z
    rw [ev]
    exact ⟨_, rfl, BlkIs.new w T z⟩
  · show some w.heap.size = ptrBlock ((Src.slot d).get (a.put o.dst _))
    rw [ev]
    rfl
/-- A struct or an array is stored into a variable. -/
theorem s_store (hok : chainsOk ops cs = true) (k : Nat) (later : List Stage) (j : Option Nat) (pre : List Stage) (T : TypeId) (z z' : Array Value) (d : Tmp) (y : Operand) (hc : cs[k]? = some (later ++ varSt (some i) (.slot d) T z' :: varSt j (.slot d) T z :: pre))
    (hu1 : later.all (fun y => y.i != some i) = true) (hu2 : (cs.zipIdx.all fun (c, j) => j == k || c.all fun y => y.i != some i) = true) (hg : o.guard = none)
    (ho : o.op = .store T (.tmp d) y) (hd : o.dst = none) {n : Nat} (hT : RowTy P T n) (hn : z.size = n) (hn' : z'.size = n) (h1 : ∀ v ∈ z'.toList, v.oneCell' = true)
    (hy : ∀ (g : Ghost) (a : Act) (w : World), (∀ t, (o.looksAt ops).contains t = true → ahead ops o t = true → FSG GL g t (a.eval (.tmp t)) w) → a.eval y = .agg z') : Op4 P ops a0 (FSG GL) B w00 cs i o := by
  refine op4_stage hok k later _ _ hc rfl hu1 hu2 hg (factsG_stage GL) ?_
  intro g a w K Q hlt hB hBel hlook hpre hdl hK
  obtain ⟨⟨b, e1, hb⟩, h2⟩ : (∃ b, (Src.slot d).get a = .pointer (some ⟨b, 0, none⟩) ∧ BlkIs w b T z) ∧ g k = ptrBlock ((Src.slot d).get a) := hpre
  have hgk : g k = some b := by rw [h2, e1]; rfl
  have ev : ∀ v, (Src.slot d).get (a.put o.dst v) = (Src.slot d).get a := by intro v; rw [hd]; rfl
  refine oper_storeW T (.tmp d) y ho b e1 (hy g a w hlook) hT hb hn (by omega) h1 ?_
  refine hK _ _ (g k) ⟨rfl, rfl, rfl, by simp [World.setRow], fun j _ hj => setRow_other w b j _ (fun e => hj (by rw [hgk, e]))⟩ (.inl rfl) ?_ ?_ (by rw [hd]; trivial)
  · show ∃ b, (Src.slot d).get (a.put o.dst _) = .pointer (some ⟨b, 0, none⟩) ∧ BlkIs _ b T z'
    rw [ev]
    exact ⟨b, e1, hb.setRow z'⟩
  · show g k = ptrBlock ((Src.slot d).get (a.put o.dst _))
    rw [ev]
    exact h2
/-- A call that reads a row. -/
theorem s_callRow (hok : chainsOk ops cs = true) (hi : (idx cs).contains i = false) (k : Nat) (later : List Stage) (j : Option Nat) (sp : Src) (pre : List Stage) (l : List UInt8) (hc : cs[k]? = some (later ++ rowSt j sp B l :: pre)) (hyi : behind ops i j = true)
    (hlat : ∀ listed, Closed ops listed → listed.getD i false = false → ∀ z ∈ later, z.done listed = false) (hg : o.guard = none) (f : FuncId) (x : Operand) (ts : Array TypeId)
    (ho : o.op = .call { callee := .value (.func f), args := #[x], argTypes := ts }) (hs : ∀ a : Act, sp.get a = a.eval x) (hent : ∀ args w, (callFunc f args).run P w = .ok (.enter f args) w) (gf : GFact)
    (hC : ∀ g w A c, Lt g w → InB w w.heap.size A c l → Calls P f #[.slice A l.length c] w fun e w' => ∃ v, e = .returned v ∧ Grow w w' ∧ (gf.toFact g).holds v w') (hd : ∀ g, FD (factsG GL g) o.dst = gf.toFact g) : Op4 P ops a0 (FSG GL) B w00 cs i o := by
  refine op4_read hok hi k later _ pre hc hyi hlat hg (factsG_grow GL) ?_
  intro g a w K Q hlt hB hBel hlook hp hgk hK
  obtain ⟨A, c, e1, hin⟩ := OwnB.inB (show OwnB w B (sp.get a) l from hp)
  have hr : (execOp a.eval o).run P w = .ok (.enter f #[.slice A l.length c]) w := by
    have ef : a.eval (.func f) = .func (.func f) #[] #[] := rfl
    have h := hent #[.slice A l.length c] w
    have ex : a.eval x = .slice A l.length c := by rw [← hs]; exact e1
    simp [execOp, ho, resolve, ex, ef, Deferred.ofValue, invoke, Result.andThen, h]
  unfold Oper.wp
  rw [hr, Oper.upon_enter]
  refine (hC g w A c hlt hin).mono ?_
  rintro e w' ⟨v, rfl, hg', hf⟩
  exact hK v w' hg' (fsd (hd g) hf)
/-- What stands at a region's beginning where every chain begins in it. -/
theorem WC.start {w : World} (hcs : (cs.all fun c => c.all fun x => x.i.isSome) = true) (hB : Below B w00 w) (hb : B ≤ w.heap.size) (n : Nat) (a : Act) : WC B w00 cs (fun _ => none) (Array.replicate n false) a w := by
  refine ⟨hB, hb, ?_, fun _ _ => rfl, fun _ _ _ _ h => by (cases h), fun _ _ h => by cases h⟩
  intro k c hc
  have : current (Array.replicate n false) c = none := by
    rw [List.all_eq_true] at hcs
    have h1 := hcs c (List.mem_of_getElem? hc)
    clear hc
    induction c with
    | nil => rfl
    | cons x r ih =>
      simp only [List.all_cons, Bool.and_eq_true] at h1
      have hx : x.done (Array.replicate n false) = false := by
        unfold Stage.done
        cases hxi : x.i with
        | none => rw [hxi] at h1; cases h1.1
        | some j => simp [Array.getD]
      simp only [current, hx]
      exact ih h1.2
  rw [this]
  rfl
theorem region4_facts {P : Program} {ops : Array Oper} (hm : P.follows .mixedOrders = true) (hcov : backs ops = true) {id : Nat} {a0 : Act} {w0 : World} {Q : Exit → Act → World → Prop} (n : Nat) (hn : a0.tmps.size = n) (hdst : dstsIn ops n = true) (D : List Nat) (hD : dstsAre ops D = true)
    (V W : List (Nat × GFact)) (g0 : Ghost) (hV : StartOk a0 w0.drew (factsG V g0)) (hW : (W.all fun p => written ops p.1) = true) (B : Nat) (w00 : World) (cs : List (List Stage)) (h0 : WC B w00 cs g0 (Array.replicate ops.size false) a0 w0.drew)
    (hok : AllOp4 P ops a0 (FSG (V ++ W)) B w00 cs 0 ops.toList)
    (hend : ∀ g listed a w, listed.size = ops.size → (∀ i, i < ops.size → listed.getD i true = true) → J4 ops (FSG (V ++ W)) a0 D B w00 cs g listed a w → (∀ t, FSG (V ++ W) g t (a.eval (.tmp t)) w) → Q .normal a w) :
    (Code.region id ops true).wp P Q a0 w0 := by
  refine region4 hm hcov n hn hdst D hD (FSG (V ++ W)) B w00 cs g0 ?_ h0 hok hend
  intro t ht
  have e : factsG (V ++ W) g0 = factsG V g0 ++ factsG W g0 := by simp [factsG]
  show FSof (factsG (V ++ W) g0) t _ _
  rw [e]
  refine start_fact _ _ hV ?_ t ht
  rw [List.all_eq_true] at hW ⊢
  intro p hp
  simp only [factsG, List.mem_map] at hp
  obtain ⟨q, hq, rfl⟩ := hp
  exact hW q hq
theorem valAt {t : Tmp} {g : Ghost} {a : Act} {w : World} (v : Value) (hl : ∀ t, (o.looksAt ops).contains t = true → ahead ops o t = true → FSG GL g t (a.eval (.tmp t)) w) (hc : (o.looksAt ops).contains t = true) (ha : ahead ops o t = true) (hF : factOf (factsG GL g) t = .val v) : a.eval (.tmp t) = v := by
  have h : (factOf (factsG GL g) t).holds (a.eval (.tmp t)) w := hl t hc ha
  rw [hF] at h
  exact h
end rules
/-- One of a call's results. -/
theorem l_extract {L : List (Nat × Fact)} {ops : Array Oper} {w0 : World} {o : Oper} {P : Program} (x : Operand) (n : Nat) (vs : Array Value) (v : Value) (ho : o.op = .extract x n) (hx : Has ops (FSof L) o x (.tuple vs)) (hv : vs[n]? = some v) (hd : FD L o.dst = .val v) : RunOk P ops (FSof L) w0 o :=
  run1 x hx (fun ρ w h => by simp [execOp, ho, h, go_sem, Result.andThen, hv]) fun _ => fsd hd rfl
end Reg
end Go.Proofs.Ytlelckdcmlpmdaa
