/- Facts on slots, as data; rules for the operations of a law's last region. -/
import Derived.Test.YtlelckdcmlpmdaaReg
import Derived.Test.YtlelckdcmlpmdaaOctNum
import Derived.Shelf.Abstract
namespace Go.Proofs.Ytlelckdcmlpmdaa
open Go Go.RowKit Lou

/-- What may be known of a slot: its value; that it reads as bytes; nothing. -/
inductive Fact where
  | val (v : Value)
  | res (l : List UInt8)
  | any
  | pred (p : Value → World → Prop) (h : ∀ v w w', p v w → Grow w w' → p v w')
def Fact.holds : Fact → Value → World → Prop
  | .val x, v, _ => v = x
  | .res l, v, w => ∃ A c, v = .slice A l.length c ∧ InB w w.heap.size A c l
  | .any, _, _ => True
  | .pred p _, v, w => p v w
theorem Fact.stable (f : Fact) {v : Value} {w w' : World} (h : f.holds v w) (hg : Grow w w') : f.holds v w' := by
  cases f with
  | val x => exact h
  | res l =>
    obtain ⟨A, c, e, hin⟩ := h
    exact ⟨A, c, e, (hin.below hg).more hg.size⟩
  | any => trivial
  | pred p hp => exact hp v w w' h hg
def factOf : List (Nat × Fact) → Nat → Fact
  | [], _ => .any
  | (k, f) :: r, t => if k == t then f else factOf r t
/-- The slots' facts out of a list. -/
def FSof (L : List (Nat × Fact)) (t : Tmp) (v : Value) (w : World) : Prop := (factOf L t).holds v w
theorem FSof.stable (L : List (Nat × Fact)) (t : Tmp) (v : Value) (w w' : World) (h : FSof L t v w) (hg : Grow w w') : FSof L t v w' := Fact.stable _ h hg

def written (ops : Array Oper) (t : Nat) : Bool := ops.toList.any fun o => o.dst == some t
def dstsIn (ops : Array Oper) (n : Nat) : Bool := ops.toList.all fun o => match o.dst with | some d => decide (d < n) | none => true

namespace Reg
/-- What holds of the slots that the region doesn't write. -/
def StartOk (a0 : Act) (w0 : World) : List (Nat × Fact) → Prop
  | [] => True
  | (k, f) :: r => f.holds (a0.eval (.tmp k)) w0 ∧ StartOk a0 w0 r

theorem start_fact {a0 : Act} {w0 : World} {ops : Array Oper} : ∀ (V W : List (Nat × Fact)), StartOk a0 w0 V → (W.all fun p => written ops p.1) = true → ∀ t, (∀ o ∈ ops.toList, o.dst ≠ some t) → (factOf (V ++ W) t).holds (a0.eval (.tmp t)) w0
  | [], [], _, _, t, _ => by simp [factOf, Fact.holds]
  | [], (k, f) :: r, hV, hW, t, ht => by
    simp only [List.all_cons, Bool.and_eq_true] at hW
    simp only [List.nil_append, factOf]
    split
    · rename_i e
      obtain rfl : k = t := by simpa using e
      exfalso
      have := hW.1
      simp only [written, List.any_eq_true, beq_iff_eq] at this
      obtain ⟨o, ho, hd⟩ := this
      exact ht o ho hd
    · exact start_fact [] r hV hW.2 t ht
  | (k, f) :: r, W, hV, hW, t, ht => by
    simp only [List.cons_append, factOf]
    split
    · rename_i e
      obtain rfl : k = t := by simpa using e
      exact hV.1
    · exact start_fact r W hV.2 hW t ht

/-- The region, by two lists of facts: of the slots that it finds, of those that it writes. -/
theorem region_facts {P : Program} {ops : Array Oper} (hm : P.follows .mixedOrders = true) (hcov : covered ops = true) {id : Nat} {a0 : Act} {w0 : World} {Q : Exit → Act → World → Prop} (n : Nat) (hn : a0.tmps.size = n)
    (hdst : dstsIn ops n = true) (V W : List (Nat × Fact)) (hV : StartOk a0 w0 V) (hW : (W.all fun p => written ops p.1) = true)
    (hok : AllOk P ops (FSof (V ++ W)) w0 ops.toList)
    (hend : ∀ a w, a.tmps.size = n → a.defers = a0.defers → Grow w0 w → (∀ t, FSof (V ++ W) t (a.eval (.tmp t)) w) → Q .normal a w) :
    (Code.region id ops true).wp P Q a0 w0 := by
  refine region hm hcov n hn ?_ (FSof (V ++ W)) (FSof.stable _) (start_fact V W hV hW) hok hend
  intro o ho d hd
  unfold dstsIn at hdst
  rw [List.all_eq_true] at hdst
  have := hdst o ho
  simpa [hd] using this

theorem allOk_cons {P : Program} {ops : Array Oper} {FS : Tmp → Value → World → Prop} {w0 : World} {o : Oper} {r : List Oper} (h : OpOk P ops FS w0 o) (k : AllOk P ops FS w0 r) : AllOk P ops FS w0 (o :: r) := ⟨h, k⟩
theorem allOk_nil {P : Program} {ops : Array Oper} {FS : Tmp → Value → World → Prop} {w0 : World} : AllOk P ops FS w0 [] := trivial

section rules
variable {ops : Array Oper} {FS : Tmp → Value → World → Prop} {w0 : World} {o : Oper}

theorem rule_conv (t : Tmp) (l : List UInt8) (ho : o.op = .convert 30 9 (.tmp t)) (hc : (o.looksAt ops).contains t = true) (hF : ∀ v w, FS t v w → (Fact.res l).holds v w) (hd : ∀ w, FSd FS o.dst (.string (str l)) w) : RunOk Try.prog ops FS w0 o := by
  intro a w K Q hG hl hK
  obtain ⟨A, c, e, hin⟩ := hF _ _ (hl t hc)
  have hs := hin.string
  unfold Oper.wp
  have hr : (execOp a.eval o).run Try.prog w = .ok (.value (.string (str l))) w := by
    simp [execOp, ho, e, hs, Result.andThen]
  rw [hr]
  exact hK _ w (Grow.refl w) (hd w)
theorem rule_convI (x : Operand) (S D : TypeId) {u r : Value} (ho : o.op = .convert S D x) (hx : Has ops FS o x u) (hrun : ∀ w, (convert S D u).run Try.prog w = .ok r w) (hd : ∀ w, FSd FS o.dst r w) : RunOk Try.prog ops FS w0 o :=
  run1 x hx (fun ρ w h => by simp [execOp, ho, h, hrun, Result.andThen]) hd
theorem rule_convS (x : Operand) (S D : TypeId) {u r : Value} (ho : o.op = .convert S D x) (hx : Has ops FS o x u) (hrun : ∀ w, Grow w0 w → (convert S D u).run Try.prog w = .ok r w) (hd : ∀ w, FSd FS o.dst r w) : RunOk Try.prog ops FS w0 o := by
  intro a w K Q hG hl hK
  have e := hx a w hl
  unfold Oper.wp
  have hr : (execOp a.eval o).run Try.prog w = .ok (.value r) w := by simp [execOp, ho, e, hrun w hG, Result.andThen]
  rw [hr]
  exact hK r w (Grow.refl w) (hd w)
theorem conv_45_41 (r : Nat) (h : r < 4294967296) (w : World) : (convert 45 41 (.int .u32 r)).run Try.prog w = .ok (.int .u64 r) w := by
  have e : IntKind.u64.wrap (r : Int) = r := by
    show (r : Int) % 18446744073709551616 = r
    omega
  have k : Try.prog.intKind 41 = .u64 := by kernel_rfl
  have h := run_convert_int (P := Try.prog) (w := w) 45 41 .u32 r (by kernel_rfl) (by kernel_rfl)
  rw [k, e] at h
  exact h
theorem conv_41_45 (n : Nat) (w : World) : (convert 41 45 (.int .u64 n)).run Try.prog w = .ok (.int .u32 ((n % 4294967296 : Nat) : Int)) w := by
  have e : IntKind.u32.wrap (n : Int) = ((n % 4294967296 : Nat) : Int) := by
    show (n : Int) % 4294967296 = _
    omega
  have k : Try.prog.intKind 45 = .u32 := by kernel_rfl
  have h := run_convert_int (P := Try.prog) (w := w) 41 45 .u64 n (by kernel_rfl) (by kernel_rfl)
  rw [k, e] at h
  exact h
theorem rule_eqi (x y : Operand) (T T' : TypeId) (k : IntKind) (m : Int) (ho : o.op = .binOp .eql T x y T') (hT : Try.prog.underlying T = some (.int k)) (hx : Has ops FS o x (.int k m)) (hy : Has ops FS o y (.int k m)) (hd : ∀ w, FSd FS o.dst (.bool true) w) : RunOk Try.prog ops FS w0 o :=
  run2 x y hx hy (fun ρ w h1 h2 => by simp [execOp, ho, h1, h2, go_sem]) hd
theorem rule_eqs (x y : Operand) (T T' : TypeId) (s : ByteArray) (ho : o.op = .binOp .eql T x y T') (hT : Try.prog.underlying T = some .string) (hx : Has ops FS o x (.string s)) (hy : Has ops FS o y (.string s)) (hd : ∀ w, FSd FS o.dst (.bool true) w) : RunOk Try.prog ops FS w0 o :=
  run2 x y hx hy (fun ρ w h1 h2 => by simp [execOp, ho, h1, h2, go_sem]) hd
theorem rule_len (t : Tmp) (A : Option Addr) (n c : Nat) (T : TypeId) (hT : Try.prog.underlying T = some (.slice (Try.prog.elem T))) (ho : o.op = .call { callee := .builtin .len, args := #[.tmp t], argTypes := #[T] }) (hx : Has ops FS o (.tmp t) (.slice A n c)) (hd : ∀ w, FSd FS o.dst (.int .i64 (n : Int)) w) : RunOk Try.prog ops FS w0 o :=
  run1 (.tmp t) hx (fun ρ w h => by simp [execOp, ho, h, go_sem, resolve, invoke, run_len_slice _ _ _ _ _ _ hT]) hd
theorem args1 {x : Operand} {u : Value} (h : Has ops FS o x u) : ∀ (a : Act) (w : World), (∀ t, (o.looksAt ops).contains t = true → FS t (a.eval (.tmp t)) w) → Array.map a.eval #[x] = #[u] := fun a w hl => by simp [h a w hl]
theorem args2 {x y : Operand} {u v : Value} (h : Has ops FS o x u) (k : Has ops FS o y v) : ∀ (a : Act) (w : World), (∀ t, (o.looksAt ops).contains t = true → FS t (a.eval (.tmp t)) w) → Array.map a.eval #[x, y] = #[u, v] := fun a w hl => by simp [h a w hl, k a w hl]
theorem args3 {x y z : Operand} {u v r : Value} (h : Has ops FS o x u) (k : Has ops FS o y v) (m : Has ops FS o z r) : ∀ (a : Act) (w : World), (∀ t, (o.looksAt ops).contains t = true → FS t (a.eval (.tmp t)) w) → Array.map a.eval #[x, y, z] = #[u, v, r] := fun a w hl => by simp [h a w hl, k a w hl, m a w hl]
theorem args4 {x y z q : Operand} {u v r s : Value} (h : Has ops FS o x u) (k : Has ops FS o y v) (m : Has ops FS o z r) (j : Has ops FS o q s) : ∀ (a : Act) (w : World), (∀ t, (o.looksAt ops).contains t = true → FS t (a.eval (.tmp t)) w) → Array.map a.eval #[x, y, z, q] = #[u, v, r, s] := fun a w hl => by simp [h a w hl, k a w hl, m a w hl, j a w hl]
end rules

theorem results1 {fn : Func} {P : Program} {a : Act} {w : World} {v : Value} (t : Tmp) (h : fn.results = #[.tmp t]) (hv : a.eval (.tmp t) = v) : (results fn a.tmps).run P w = .ok v w := by
  have e : a.tmps.getD t undef = v := hv
  unfold results
  simp only [h]
  simp [← e, Array.getD_eq_getD_getElem?]
/-- The end of a function of one result, without deferred calls. -/
theorem ends1 {fn : Func} {P : Program} {a : Act} {w : World} {R : Ending → World → Prop} (t : Tmp) (v : Value) (h : fn.results = #[.tmp t]) (hv : a.eval (.tmp t) = v) (hd : a.defers = []) (hR : R (.returned v) w) : Code.wp P Code.ret (bodyPost P fn R) a w :=
  wp_ret (bodyPost_ret_by (results1 t h hv) hd hR)
theorem gives_same {P : Program} {w : World} {f : FuncId} {args : Array Value} {v : Value} (h : Calls P f args w fun e w' => e = .returned v ∧ w = w') : Calls P f args w fun e w' => ∃ u, e = .returned u ∧ Grow w w' ∧ u = v :=
  h.mono (by rintro e w' ⟨rfl, rfl⟩; exact ⟨_, rfl, Grow.refl _, rfl⟩)
theorem gives_grow {P : Program} {w : World} {f : FuncId} {args : Array Value} {v : Value} (h : Calls P f args w fun e w' => e = .returned v ∧ Below w.heap.size w w') : Calls P f args w fun e w' => ∃ u, e = .returned u ∧ Grow w w' ∧ u = v :=
  h.mono (by rintro e w' ⟨rfl, hB⟩; exact ⟨_, rfl, hB, rfl⟩)
theorem gives_res {w : World} {f : FuncId} {args : Array Value} {l : List UInt8} (h : Calls Try.prog f args w (GivesB w l)) : Calls Try.prog f args w fun e w' => ∃ v, e = .returned v ∧ Grow w w' ∧ (Fact.res l).holds v w' :=
  h.mono fun e w' ⟨v, he, hown, hB⟩ => ⟨v, he, hB, hown.inB⟩

/-! ### The same rules over lists of facts: what is looked up is left to the kernel -/
def FD (L : List (Nat × Fact)) : Option Tmp → Fact
  | some d => factOf L d
  | none => .any
theorem fsd {L : List (Nat × Fact)} {d : Option Tmp} {f : Fact} {v : Value} {w : World} (h : FD L d = f) (hv : f.holds v w) : FSd (FSof L) d v w := by
  cases d with
  | none => trivial
  | some d => subst h; exact hv
section lists
variable {L : List (Nat × Fact)} {ops : Array Oper} {w0 : World} {o : Oper} {P : Program}
theorem hs (t : Tmp) (v : Value) (hc : (o.looksAt ops).contains t = true) (hF : factOf L t = .val v) : Has ops (FSof L) o (.tmp t) v :=
  has_tmp hc fun u w h => by
    have h' : (factOf L t).holds u w := h
    rw [hF] at h'
    exact h'
theorem hc (v : Value) : Has ops (FSof L) o (.const v) v := has_const
theorem okg (j : Nat) (want : Bool) (d : Tmp) (hg : o.guard = some (j, want)) (hd : (ops[j]?).bind (·.dst) = some d) (hl : (o.looksAt ops).contains d = true) (hF : factOf L d = .val (.bool want))
    (h : RunOk P ops (FSof L) w0 o) : OpOk P ops (FSof L) w0 o :=
  ok_guard j want d hg hd hl (fun v w h => by
    have h' : (factOf L d).holds v w := h
    rw [hF] at h'
    exact h') h
theorem l_mv (x : Operand) (v : Value) (ho : o.op = .move x ∨ o.op = .assign x) (hx : Has ops (FSof L) o x v) (hd : FD L o.dst = .val v) : RunOk P ops (FSof L) w0 o :=
  run_mv x ho hx fun _ => fsd hd rfl
theorem l_mvF (t : Tmp) (f : Fact) (ho : o.op = .move (.tmp t) ∨ o.op = .assign (.tmp t)) (hc : (o.looksAt ops).contains t = true) (hF : factOf L t = f) (hd : FD L o.dst = f) : RunOk P ops (FSof L) w0 o :=
  run_mvF t ho hc fun v w h => fsd hd (by
    have h' : (factOf L t).holds v w := h
    rw [hF] at h'
    exact h')
theorem l_pick (x y : Operand) (r : Value) (ho : o.op = .pick x y (.const (.bool false))) (hx : Has ops (FSof L) o x (.bool true)) (hy : Has ops (FSof L) o y r) (hd : FD L o.dst = .val r) : RunOk P ops (FSof L) w0 o :=
  run_pick x y ho hx hy fun _ => fsd hd rfl
/-- Any operation of one operand whose run is known. -/
theorem l_run1 (x : Operand) (u r : Value) (hx : Has ops (FSof L) o x u) (hrun : ∀ (ρ : Operand → Value) (w : World), ρ x = u → (execOp ρ o).run P w = .ok (.value r) w) (hd : FD L o.dst = .val r) : RunOk P ops (FSof L) w0 o :=
  run1 x hx hrun fun _ => fsd hd rfl
theorem l_conv (t : Tmp) (l : List UInt8) (ho : o.op = .convert 30 9 (.tmp t)) (hc : (o.looksAt ops).contains t = true) (hF : factOf L t = .res l) (hd : FD L o.dst = .val (.string (str l))) : RunOk Try.prog ops (FSof L) w0 o :=
  rule_conv t l ho hc (fun v w h => by
    have h' : (factOf L t).holds v w := h
    rw [hF] at h'
    exact h') fun _ => fsd hd rfl
theorem l_convS (x : Operand) (S D : TypeId) (u r : Value) (ho : o.op = .convert S D x) (hx : Has ops (FSof L) o x u) (hrun : ∀ w, Grow w0 w → (convert S D u).run Try.prog w = .ok r w) (hd : FD L o.dst = .val r) : RunOk Try.prog ops (FSof L) w0 o :=
  rule_convS x S D ho hx hrun fun _ => fsd hd rfl
theorem l_eqi (x y : Operand) (T T' : TypeId) (k : IntKind) (m : Int) (ho : o.op = .binOp .eql T x y T') (hT : Try.prog.underlying T = some (.int k)) (hx : Has ops (FSof L) o x (.int k m)) (hy : Has ops (FSof L) o y (.int k m)) (hd : FD L o.dst = .val (.bool true)) : RunOk Try.prog ops (FSof L) w0 o :=
  rule_eqi x y T T' k m ho hT hx hy fun _ => fsd hd rfl
theorem l_eqs (x y : Operand) (T T' : TypeId) (s : ByteArray) (ho : o.op = .binOp .eql T x y T') (hT : Try.prog.underlying T = some .string) (hx : Has ops (FSof L) o x (.string s)) (hy : Has ops (FSof L) o y (.string s)) (hd : FD L o.dst = .val (.bool true)) : RunOk Try.prog ops (FSof L) w0 o :=
  rule_eqs x y T T' s ho hT hx hy fun _ => fsd hd rfl
theorem l_eqb (x y : Operand) (T T' : TypeId) (b : Bool) (ho : o.op = .binOp .eql T x y T') (hT : Try.prog.underlying T = some .bool) (hx : Has ops (FSof L) o x (.bool b)) (hy : Has ops (FSof L) o y (.bool b)) (hd : FD L o.dst = .val (.bool true)) : RunOk Try.prog ops (FSof L) w0 o :=
  run2 x y hx hy (fun ρ w h1 h2 => by simp [execOp, ho, h1, h2, go_sem, run_eql_bool _ _ _ _ hT, Result.andThen]) fun _ => fsd hd rfl
theorem l_len (t : Tmp) (A : Option Addr) (n c : Nat) (T : TypeId) (hT : Try.prog.underlying T = some (.slice (Try.prog.elem T))) (ho : o.op = .call { callee := .builtin .len, args := #[.tmp t], argTypes := #[T] }) (hx : Has ops (FSof L) o (.tmp t) (.slice A n c)) (hd : FD L o.dst = .val (.int .i64 (n : Int))) : RunOk Try.prog ops (FSof L) w0 o :=
  rule_len t A n c T hT ho hx fun _ => fsd hd rfl
/-- The length of what reads as bytes. -/
theorem l_lenR (t : Tmp) (l : List UInt8) (T : TypeId) (hT : Try.prog.underlying T = some (.slice (Try.prog.elem T))) (ho : o.op = .call { callee := .builtin .len, args := #[.tmp t], argTypes := #[T] }) (hc : (o.looksAt ops).contains t = true) (hF : factOf L t = .res l) (hd : FD L o.dst = .val (.int .i64 (l.length : Int))) : RunOk Try.prog ops (FSof L) w0 o := by
  intro a w K Q hG hl hK
  have h' : (factOf L t).holds (a.eval (.tmp t)) w := hl t hc
  rw [hF] at h'
  obtain ⟨A, c, e, hin⟩ := h'
  unfold Oper.wp
  have hr : (execOp a.eval o).run Try.prog w = .ok (.value (.int .i64 (l.length : Int))) w := by
    have key : ∀ ρ : Operand → Value, ρ (.tmp t) = .slice A l.length c → (execOp ρ o).run Try.prog w = .ok (.value (.int .i64 (l.length : Int))) w :=
      fun ρ h => by simp [execOp, ho, h, go_sem, resolve, invoke, run_len_slice _ _ _ _ _ _ hT]
    exact key _ e
  rw [hr]
  exact hK _ w (Grow.refl w) (fsd hd rfl)
theorem l_call (f : FuncId) (xs : Array Operand) (ts : Array TypeId) (ho : o.op = .call { callee := .value (.func f), args := xs, argTypes := ts }) (hent : ∀ args w, (callFunc f args).run P w = .ok (.enter f args) w)
    (args : Array Value) (g : Fact) (hargs : ∀ (a : Act) (w : World), (∀ t, (o.looksAt ops).contains t = true → FSof L t (a.eval (.tmp t)) w) → xs.map a.eval = args)
    (hC : ∀ w, Grow w0 w → Calls P f args w fun e w' => ∃ v, e = .returned v ∧ Grow w w' ∧ g.holds v w') (hd : FD L o.dst = g) : RunOk P ops (FSof L) w0 o :=
  run_call f xs ts ho hent args hargs fun w hG => (hC w hG).mono fun _ _ ⟨v, e, hg, hh⟩ => ⟨v, e, hg, fsd hd hh⟩
/-- A call one of whose arguments (the first) reads as bytes. -/
theorem l_callR (f : FuncId) (t : Tmp) (l : List UInt8) (ts : Array TypeId) (ho : o.op = .call { callee := .value (.func f), args := #[.tmp t], argTypes := ts }) (hent : ∀ args w, (callFunc f args).run P w = .ok (.enter f args) w)
    (g : Fact) (hc : (o.looksAt ops).contains t = true) (hF : factOf L t = .res l)
    (hC : ∀ w A c, Grow w0 w → InB w w.heap.size A c l → Calls P f #[.slice A l.length c] w fun e w' => ∃ v, e = .returned v ∧ Grow w w' ∧ g.holds v w') (hd : FD L o.dst = g) : RunOk P ops (FSof L) w0 o := by
  intro a w K Q hG hl hK
  have h' : (factOf L t).holds (a.eval (.tmp t)) w := hl t hc
  rw [hF] at h'
  obtain ⟨A, c, e, hin⟩ := h'
  unfold Oper.wp
  have hr : (execOp a.eval o).run P w = .ok (.enter f #[.slice A l.length c]) w := by
    have ef : a.eval (.func f) = .func (.func f) #[] #[] := rfl
    have h := hent #[.slice A l.length c] w
    simp [execOp, ho, resolve, e, ef, Deferred.ofValue, invoke, Result.andThen, h]
  rw [hr, Oper.upon_enter]
  refine (hC w A c hG hin).mono ?_
  rintro e w' ⟨v, rfl, hg, hf⟩
  exact hK v w' hg (fsd hd hf)
/-- A call one of whose arguments (the only one) is known by a predicate. -/
theorem l_callP (f : FuncId) (t : Tmp) (p : Value → World → Prop) (hp : ∀ v w w', p v w → Grow w w' → p v w') (ts : Array TypeId) (ho : o.op = .call { callee := .value (.func f), args := #[.tmp t], argTypes := ts }) (hent : ∀ args w, (callFunc f args).run P w = .ok (.enter f args) w)
    (g : Fact) (hc : (o.looksAt ops).contains t = true) (hF : factOf L t = .pred p hp)
    (hC : ∀ w u, Grow w0 w → p u w → Calls P f #[u] w fun e w' => ∃ v, e = .returned v ∧ Grow w w' ∧ g.holds v w') (hd : FD L o.dst = g) : RunOk P ops (FSof L) w0 o := by
  intro a w K Q hG hl hK
  have h' : (factOf L t).holds (a.eval (.tmp t)) w := hl t hc
  rw [hF] at h'
  have e : a.eval (.tmp t) = a.eval (.tmp t) := rfl
  revert h' e
  generalize hu : a.eval (.tmp t) = u
  intro h' _
  unfold Oper.wp
  have hr : (execOp a.eval o).run P w = .ok (.enter f #[u]) w := by
    have ef : a.eval (.func f) = .func (.func f) #[] #[] := rfl
    have h := hent #[u] w
    simp [execOp, ho, resolve, hu, ef, Deferred.ofValue, invoke, Result.andThen, h]
  rw [hr, Oper.upon_enter]
  refine (hC w u hG h').mono ?_
  rintro e w' ⟨v, rfl, hg, hf⟩
  exact hK v w' hg (fsd hd hf)
/-- Any operation of two operands whose run is known; the world may grow. -/
theorem l_run2W (x y : Operand) (g : Fact) (u v : Value) (hx : Has ops (FSof L) o x u) (hy : Has ops (FSof L) o y v)
    (hrun : ∀ (ρ : Operand → Value) (w : World), Grow w0 w → ρ x = u → ρ y = v → ∃ r w', (execOp ρ o).run P w = .ok (.value r) w' ∧ Grow w w' ∧ g.holds r w') (hd : FD L o.dst = g) : RunOk P ops (FSof L) w0 o := by
  intro a w K Q hG hl hK
  obtain ⟨r, w', h1, h2, h3⟩ := hrun a.eval w hG (hx a w hl) (hy a w hl)
  unfold Oper.wp
  rw [h1]
  exact hK r w' h2 (fsd hd h3)
theorem l_run1W (x : Operand) (g : Fact) (u : Value) (hx : Has ops (FSof L) o x u)
    (hrun : ∀ (ρ : Operand → Value) (w : World), Grow w0 w → ρ x = u → ∃ r w', (execOp ρ o).run P w = .ok (.value r) w' ∧ Grow w w' ∧ g.holds r w') (hd : FD L o.dst = g) : RunOk P ops (FSof L) w0 o := by
  intro a w K Q hG hl hK
  obtain ⟨r, w', h1, h2, h3⟩ := hrun a.eval w hG (hx a w hl)
  unfold Oper.wp
  rw [h1]
  exact hK r w' h2 (fsd hd h3)
end lists
end Reg
end Go.Proofs.Ytlelckdcmlpmdaa
