/- Texts that the proof of NodeReads leans on, part 10. -/
import Derived.Test.YtlelckdcmlpmdaaNodeReadsB9
/- node's reader: node, of an inner node. -/
namespace Go.Proofs.Ytlelckdcmlpmdaa
open Go Go.RowKit Lou

theorem rdKey_a {l : List UInt8} (h : rdT12 l = none) : rdKey l = none := by unfold rdKey; rw [h]
theorem rdKey_b {l r : List UInt8} {s : ByteArray} (h : rdT12 l = some (s, r)) (h2 : rdN12 r = none) : rdKey l = none := by unfold rdKey; rw [h]; simp only; rw [h2]
theorem rdKey_c {l r r2 : List UInt8} {s : ByteArray} {n : Nat} (h : rdT12 l = some (s, r)) (h2 : rdN12 r = some (n, r2)) : rdKey l = some ((s, (n : Int)), r2) := by unfold rdKey; rw [h]; simp only; rw [h2]
set_option maxRecDepth 100000 in
set_option maxHeartbeats 8000000 in
theorem rnode_inner (w : World) (q B : Nat) (l r : List UInt8) (h : RdIs w q B l) (hq : B ≤ q) (e1 : rdN12 l = some (2, r)) : Calls Try.prog 128 #[.pointer (some ⟨q, 0, none⟩)] w (RNodOut (rdRest false r) q w) := by
  have hlt := h.lt
  have n1 := NS.start h hq
  have H1 := rnum_gives _ q B l n1.r hq
  unfold RdOut at H1
  rw [e1] at H1
  simp only at H1
  have HN := fun W lx (hW : RdIs W q B lx) => rnum_gives W q B lx hW hq
  unfold RdOut at HN
  have HN2 := fun W (hW : RdIs W q B r) => HN W r hW
  clear e1 h
  cases e2 : rdN12 r with
  | none =>
    rw [e2] at HN2
    simp only at HN2
    have HP := rnod_no (r := rdRest false r) (by unfold rdRest; rw [e2]) q w
    generalize RNodOut (rdRest false r) q w = PO at *
    clear e2 HN
    go_enter Try.func128, Try.ntmps128
    go_wp2_with fail
    refine H1.mono ?_
    rintro e w2 ⟨hg2, rfl, h2⟩
    have n2 := n1.call hg2 h2
    have c2 : w2.cell? ⟨w.heap.size, 0, none⟩ = some (.bool false) := by rw [n2.b.cell]; rfl
    have f2 := n2.b.free 0
    go_wp2_with (go_at_call 115; refine (must_gives _ _ _).mono ?_; rintro e w7 ⟨rfl, h7⟩; obtain ⟨v7, rfl⟩ := h7.1 rfl)
    have n3 := n2.leaf false
    refine (HN2 _ n3.r).mono ?_
    rintro e w4 ⟨hg4, rfl⟩
    exact ⟨rfl, HP _ (n3.g.call (Nat.le_of_lt n3.b.lt) hg4).grown⟩
  | some y =>
    obtain ⟨many, r1⟩ := y
    rw [e2] at HN2
    simp only at HN2
    have hmany : many ≤ 100000 := (rdN12_less e2).2
    have HNk := fun W (hW : RdIs W q B r1) => HN W r1 hW
    cases e4 : rdN12 r1 with
    | none =>
      rw [e4] at HNk
      simp only at HNk
      have HPN := rnod_no (r := rdRest false r) (by unfold rdRest; rw [e2]; simp only [Bool.false_eq_true, if_false]; rw [e4]) q w
      generalize RNodOut (rdRest false r) q w = PO at *
      clear e2 e4 HN
      go_enter Try.func128, Try.ntmps128
      go_wp2_with fail
      refine H1.mono ?_
      rintro e w2 ⟨hg2, rfl, h2⟩
      have n2 := n1.call hg2 h2
      have c2 : w2.cell? ⟨w.heap.size, 0, none⟩ = some (.bool false) := by rw [n2.b.cell]; rfl
      have f2 := n2.b.free 0
      go_wp2_with (go_at_call 115; refine (must_gives _ _ _).mono ?_; rintro e w7 ⟨rfl, h7⟩; obtain ⟨v7, rfl⟩ := h7.1 rfl)
      have n3 := n2.leaf false
      refine (HN2 _ n3.r).mono ?_
      rintro e w4 ⟨hg4, rfl, h4⟩
      obtain ⟨ks, is, Ak, ck, Ai, ci, hks, his, n4⟩ : ∃ (ks : List ByteArray) (is : List Int) (Ak : Option Addr) (ck : Nat) (Ai : Option Addr) (ci : Nat), ks.length ≤ 0 ∧ is.length ≤ 0 ∧ NS w w4 q B w.heap.size false [] ks is r1 none 0 Ak ck Ai ci := ⟨[], [], none, 0, none, 0, by simp, by simp, n3.call hg4 h4⟩
      have c4 : w4.cell? ⟨w.heap.size, 0, none⟩ = some (.bool false) := by rw [n4.b.cell]; rfl
      clear n1 n2 n3 hg2 h2 c2 f2 hg4 h4 H1 HN2
      go_wp2_with fail
      have nda := n4.drew
      have hBd : BlkIs w4.drew w.heap.size 76 #[.bool false, .slice none 0 0, .slice Ak ks.length ck, .slice Ai is.length ci] := nda.b
      refine RegF.start (fun W => BlkIs W w.heap.size 76 #[.bool false, .slice none 0 0, .slice Ak ks.length ck, .slice Ai is.length ci]) 7 (by kernel_rfl) ?_
      refine RegF.take 0 (.pointer (some ⟨w.heap.size, 3, none⟩)) rfl (by kernel_rfl) (by kernel_rfl) (by kernel_rfl) (by kernel_rfl) (fun _ _ _ h => h) hBd (RegF.yld rfl (fun W hW => by go_simp)) ?_
      simp only [List.getElem_toArray, List.getElem_cons_zero, Act.put, List.setIfInBounds_toArray, List.set_cons_zero, List.set_cons_succ]
      refine RegF.take 1 (.slice Ai is.length ci) rfl (by kernel_rfl) (by kernel_rfl) (by kernel_rfl) (by kernel_rfl) (fun _ _ _ h => h) hBd (RegF.yld rfl (fun W hW => by have e : W.cell? ⟨w.heap.size, 3, none⟩ = some (.slice Ai is.length ci) := (by rw [hW.cell]; rfl); go_simp)) ?_
      simp only [List.getElem_toArray, List.getElem_cons_succ, List.getElem_cons_zero, Act.put, List.setIfInBounds_toArray, List.set_cons_zero, List.set_cons_succ]
      refine RegF.take 2 (.pointer (some ⟨q, 0, none⟩)) rfl (by kernel_rfl) (by kernel_rfl) (by kernel_rfl) (by kernel_rfl) (fun _ _ _ h => h) hBd (RegF.yld rfl (fun W hW => by go_simp)) ?_
      simp only [List.getElem_toArray, List.getElem_cons_succ, List.getElem_cons_zero, Act.put, List.setIfInBounds_toArray, List.set_cons_zero, List.set_cons_succ]
      refine RegF.one 3 (by kernel_rfl) ?_
      refine opCP 175 #[.tmp 24] #[220] rfl rfl rfl (enters_of Try.func175 (by kernel_rfl) rfl) #[.pointer (some ⟨q, 0, none⟩)] (by simp only [List.map_toArray, List.map_cons, List.map_nil]; rfl) ((HNk _ nda.r).mono ?_)
      rintro e w5 ⟨hg5, rfl⟩
      refine .inr ⟨_, rfl, ?_⟩
      exact ⟨rfl, HPN _ (nda.g.call (Nat.le_of_lt nda.b.lt) hg5).grown⟩
    | some y4 =>
      obtain ⟨kid, r2⟩ := y4
      rw [e4] at HNk
      simp only at HNk
      have hrest : rdRest false r = match rdMany rdKey many r2 with | none => none | some (ks, _) => some ⟨false, [], ks.map (·.1), (kid : Int) :: ks.map (·.2)⟩ := by unfold rdRest; rw [e2]; simp only [Bool.false_eq_true, if_false]; rw [e4]; rfl
      have HP0 := fun hr => rnod_no (r := rdRest false r) hr q w
      have HP1 := fun x (hr : rdRest false r = some x) => rnod_yes hr q w
      have HPno : ∀ k cs lk, k < many → rdMany rdKey k r2 = some (cs, lk) → rdKey lk = none → ∀ w', w.grownBy w' (some q) → RNodOut (rdRest false r) q w (.panicked [gave 220 false]) w' := fun k cs lk hk hm hf => HP0 (by
        rw [hrest]
        have := rdMany_stop rdKey r2 cs lk k hm hf (many - k - 1)
        rw [show k + 1 + (many - k - 1) = many from by omega] at this
        rw [this])
      have HPyes : ∀ kks lk, rdMany rdKey many r2 = some (kks, lk) → ∀ (ks : List ByteArray) (is : List Int) w' A c A' c', ks = kks.map (·.1) → is = (kid : Int) :: kks.map (·.2) → w.grownBy w' (some q) → NIs w' w'.heap.size ⟨false, [], ks, is⟩ none 0 A c A' c' → RowsFrom w.heap.size none A A' → RNodOut (rdRest false r) q w (.returned (.agg #[.bool false, .slice none 0 0, .slice A ks.length c, .slice A' is.length c'])) w' := fun kks lk hm ks is w' A c A' c' e1 e2 hg hn hf => HP1 ⟨false, [], ks, is⟩ (by rw [hrest, hm, e1, e2]) w' hg none 0 A c A' c' hn hf
      generalize RNodOut (rdRest false r) q w = PO at *
      have HNO := Lib.hid HPno
      have HYES := Lib.hid HPyes
      clear e2 e4 hrest HP0 HP1 HPno HPyes
      go_enter Try.func128, Try.ntmps128
      go_wp2_with fail
      refine H1.mono ?_
      rintro e w2 ⟨hg2, rfl, h2⟩
      have n2 := n1.call hg2 h2
      have c2 : w2.cell? ⟨w.heap.size, 0, none⟩ = some (.bool false) := by rw [n2.b.cell]; rfl
      have f2 := n2.b.free 0
      go_wp2_with (go_at_call 115; refine (must_gives _ _ _).mono ?_; rintro e w7 ⟨rfl, h7⟩; obtain ⟨v7, rfl⟩ := h7.1 rfl)
      have n3 := n2.leaf false
      refine (HN2 _ n3.r).mono ?_
      rintro e w4 ⟨hg4, rfl, h4⟩
      obtain ⟨ks, is, Ak, ck, Ai, ci, hks, his, HK0, HI0, n4⟩ : ∃ (ks : List ByteArray) (is : List Int) (Ak : Option Addr) (ck : Nat) (Ai : Option Addr) (ci : Nat), ks.length ≤ 0 ∧ is.length ≤ 0 ∧ Hid (ks = []) ∧ Hid (is = []) ∧ NS w w4 q B w.heap.size false [] ks is r1 none 0 Ak ck Ai ci := ⟨[], [], none, 0, none, 0, by simp, by simp, Lib.hid rfl, Lib.hid rfl, n3.call hg4 h4⟩
      have c4 : w4.cell? ⟨w.heap.size, 0, none⟩ = some (.bool false) := by rw [n4.b.cell]; rfl
      clear n1 n2 n3 hg2 h2 c2 f2 hg4 h4 H1 HN2
      go_wp2_with fail
      have nda := n4.drew
      have hBd : BlkIs w4.drew w.heap.size 76 #[.bool false, .slice none 0 0, .slice Ak ks.length ck, .slice Ai is.length ci] := nda.b
      refine RegF.start (fun W => BlkIs W w.heap.size 76 #[.bool false, .slice none 0 0, .slice Ak ks.length ck, .slice Ai is.length ci]) 7 (by kernel_rfl) ?_
      refine RegF.take 0 (.pointer (some ⟨w.heap.size, 3, none⟩)) rfl (by kernel_rfl) (by kernel_rfl) (by kernel_rfl) (by kernel_rfl) (fun _ _ _ h => h) hBd (RegF.yld rfl (fun W hW => by go_simp)) ?_
      simp only [List.getElem_toArray, List.getElem_cons_zero, Act.put, List.setIfInBounds_toArray, List.set_cons_zero, List.set_cons_succ]
      refine RegF.take 1 (.slice Ai is.length ci) rfl (by kernel_rfl) (by kernel_rfl) (by kernel_rfl) (by kernel_rfl) (fun _ _ _ h => h) hBd (RegF.yld rfl (fun W hW => by have e : W.cell? ⟨w.heap.size, 3, none⟩ = some (.slice Ai is.length ci) := (by rw [hW.cell]; rfl); go_simp)) ?_
      simp only [List.getElem_toArray, List.getElem_cons_succ, List.getElem_cons_zero, Act.put, List.setIfInBounds_toArray, List.set_cons_zero, List.set_cons_succ]
      refine RegF.take 2 (.pointer (some ⟨q, 0, none⟩)) rfl (by kernel_rfl) (by kernel_rfl) (by kernel_rfl) (by kernel_rfl) (fun _ _ _ h => h) hBd (RegF.yld rfl (fun W hW => by go_simp)) ?_
      simp only [List.getElem_toArray, List.getElem_cons_succ, List.getElem_cons_zero, Act.put, List.setIfInBounds_toArray, List.set_cons_zero, List.set_cons_succ]
      refine RegF.one 3 (by kernel_rfl) ?_
      refine opCP 175 #[.tmp 24] #[220] rfl rfl rfl (enters_of Try.func175 (by kernel_rfl) rfl) #[.pointer (some ⟨q, 0, none⟩)] (by simp only [List.map_toArray, List.map_cons, List.map_nil]; rfl) ((HNk _ nda.r).mono ?_)
      rintro e w5 ⟨hg5, rfl, h5⟩
      have nfa := nda.call hg5 h5
      refine .inl ⟨_, rfl, fun _ => nfa.b, ?_⟩
      simp only [List.getElem_toArray, List.getElem_cons_succ, List.getElem_cons_zero, Act.put, List.setIfInBounds_toArray, List.set_cons_zero, List.set_cons_succ]
      have hBa : Below w5.heap.size w5 (w5.alloc (.cells #[.int .i64 (kid : Int)] 3)) := (Below.refl _ w5).alloc (Nat.le_refl _) _
      have nga := nfa.past hBa
      refine RegF.one 4 (by kernel_rfl) ?_
      refine RegF.opV (w' := w5.alloc (.cells #[.int .i64 (kid : Int)] 3)) (.slice (some ⟨w5.heap.size, 0, none⟩) 1 1) rfl rfl (by go_simp) ⟨fun _ => nga.b, ?_⟩
      simp only [List.getElem_toArray, List.getElem_cons_succ, List.getElem_cons_zero, Act.put, List.setIfInBounds_toArray, List.set_cons_zero, List.set_cons_succ]
      refine RegF.one 5 (by kernel_rfl) ?_
      refine opAppN rfl rfl elIntC (.tmp 23) (.tmp 26) rfl (w.heap.size + 1) (.slice Ai is.length ci) is.length (ikC is) rfl nga.i _ _ 1 1 [.int .i64 (kid : Int)] rfl (row_lit1 w5 3 1 [.int .i64 (kid : Int)] rfl (fun v hv => by obtain rfl := List.mem_singleton.1 hv; rfl)) (by unfold maxLen; omega) (by omega) (by have := nga.b.lt; omega) ?_
      intro v7 w7 own7 hg7
      obtain ⟨A7, c7, rfl, _⟩ := ownG_in own7 (fun v hv => by rcases List.mem_append.1 hv with h | h; exact ikC_one _ v h; obtain rfl := List.mem_singleton.1 h; rfl)
      have nha := nga.appI own7 hg7
      have b7 : BlkIs w7 w.heap.size 76 #[.bool false, .slice none 0 0, .slice Ak ks.length ck, .slice Ai is.length ci] := nga.b.grown hg7 (fun e => by have := ownG_ge nga.i w.heap.size e.symm; omega)
      refine ⟨fun _ => b7, ?_⟩
      simp only [List.getElem_toArray, List.getElem_cons_succ, List.getElem_cons_zero, Act.put, List.setIfInBounds_toArray, List.set_cons_zero, List.set_cons_succ]
      have kc7 : w7.cell? ⟨w.heap.size, 3, none⟩ = some (.slice Ai is.length ci) := by rw [b7.cell]; rfl
      have kf7 := b7.free 3
      refine RegF.one 6 (by kernel_rfl) ?_
      refine RegF.opV (.pointer (some ⟨w.heap.size, 3, none⟩)) rfl rfl (by go_simp) ⟨fun _ => b7, ?_⟩
      simp only [List.getElem_toArray, List.getElem_cons_succ, List.getElem_cons_zero, Act.put, List.setIfInBounds_toArray, List.set_cons_zero, List.set_cons_succ]
      refine RegF.one 7 (by kernel_rfl) ?_
      refine RegF.opS (w' := w7.setCell ⟨w.heap.size, 3, none⟩ (.slice A7 (is.length + 1) c7)) rfl rfl (by go_simp) ⟨fun h => absurd rfl h, ?_⟩
      simp only [List.getElem_toArray, List.getElem_cons_succ, List.getElem_cons_zero, Act.put]
      refine RegF.done (by kernel_rfl) ?_
      clear kc7 kf7 b7 own7 hg7 nga nfa hBa hBd nda hg5 h5
      have hks1 : Hid (ks = (([] : List (ByteArray × Int)).map (·.1))) := Lib.hid (by rw [HK0.out]; rfl)
      have his1 : Hid (is ++ [(kid : Int)] = (kid : Int) :: (([] : List (ByteArray × Int)).map (·.2))) := Lib.hid (by rw [HI0.out]; rfl)
      generalize hisx : is ++ [(kid : Int)] = is1 at *
      have hlen1 : is.length + 1 = is1.length := by rw [← hisx, List.length_append]; rfl
      have HX := Lib.hid hisx
      have HL1 := Lib.hid hlen1
      clear hisx hlen1 HNk n4 c4
      go_wp2_with fail
      go_loopw [30] (fun i wr => ∃ (k : Nat) (kks : List (ByteArray × Int)) (lk : List UInt8) (ks : List ByteArray) (is : List Int) (Ak : Option Addr) (ck : Nat) (Ai : Option Addr) (ci : Nat), k ≤ many ∧ i = .int .i64 k ∧ rdMany rdKey k r2 = some (kks, lk) ∧ Hid (ks = kks.map (·.1)) ∧ Hid (is = (kid : Int) :: kks.map (·.2)) ∧ NS w wr q B w.heap.size false [] ks is lk none 0 Ak ck Ai ci) (fun i _ => many - (intOf i).toNat)
      case atStart => exact ⟨0, [], r2, ks, is1, Ak, ck, A7, c7, by omega, rfl, rfl, hks1, his1, nha⟩
      case round =>
        clear nha hks1 his1 hks his HK0 HI0
        obtain ⟨k, kks, lk, ks, is, Ak, ck, Ai, ci, hk, rfl, hm, HKK, HII, nr⟩ := hrel
        have c0 : wr.cell? ⟨w.heap.size, 0, none⟩ = some (.bool false) := by rw [nr.b.cell]; rfl
        have hln := rdMany_length rdKey k r2 kks lk hm
        have hkl : ks.length ≤ 100000 := by rw [HKK.out, List.length_map]; omega
        have hil : is.length ≤ 100001 := by rw [HII.out, List.length_cons, List.length_map]; omega
        have HM := Lib.hid hm
        clear hm hln
        by_cases hlt : k < many
        · have hlt' : (k : Int) < (many : Int) := by omega
          have hwk : IntKind.i64.wrap ((k : Int) + 1) = (k : Int) + 1 := wrapN _ (by omega) (by omega)
          have HT := fun W (hW : RdIs W q B lk) => rtext_gives W q B lk hW hq
          unfold RdOut at HT
          cases e3 : rdT12 lk with
          | none =>
            rw [e3] at HT
            simp only at HT
            have HPN := HNO.out k kks lk hlt HM.out (rdKey_a e3)
            clear e3 HN
            go_wp2_with fail
            have ndb := nr.drew
            have hBd : BlkIs wr.drew w.heap.size 76 #[.bool false, .slice none 0 0, .slice Ak ks.length ck, .slice Ai is.length ci] := ndb.b
            refine RegF.start (fun W => BlkIs W w.heap.size 76 #[.bool false, .slice none 0 0, .slice Ak ks.length ck, .slice Ai is.length ci]) 7 (by kernel_rfl) ?_
            refine RegF.take 0 (.pointer (some ⟨w.heap.size, 2, none⟩)) rfl (by kernel_rfl) (by kernel_rfl) (by kernel_rfl) (by kernel_rfl) (fun _ _ _ h => h) hBd (RegF.yld rfl (fun W hW => by go_simp)) ?_
            simp only [List.getElem_toArray, List.getElem_cons_zero, Act.put, List.setIfInBounds_toArray, List.set_cons_zero, List.set_cons_succ]
            refine RegF.take 1 (.slice Ak ks.length ck) rfl (by kernel_rfl) (by kernel_rfl) (by kernel_rfl) (by kernel_rfl) (fun _ _ _ h => h) hBd (RegF.yld rfl (fun W hW => by have e : W.cell? ⟨w.heap.size, 2, none⟩ = some (.slice Ak ks.length ck) := (by rw [hW.cell]; rfl); go_simp)) ?_
            simp only [List.getElem_toArray, List.getElem_cons_succ, List.getElem_cons_zero, Act.put, List.setIfInBounds_toArray, List.set_cons_zero, List.set_cons_succ]
            refine RegF.take 2 (.pointer (some ⟨q, 0, none⟩)) rfl (by kernel_rfl) (by kernel_rfl) (by kernel_rfl) (by kernel_rfl) (fun _ _ _ h => h) hBd (RegF.yld rfl (fun W hW => by go_simp)) ?_
            simp only [List.getElem_toArray, List.getElem_cons_succ, List.getElem_cons_zero, Act.put, List.setIfInBounds_toArray, List.set_cons_zero, List.set_cons_succ]
            refine RegF.one 3 (by kernel_rfl) ?_
            refine opCP 177 #[.tmp 43] #[220] rfl rfl rfl (enters_of Try.func177 (by kernel_rfl) rfl) #[.pointer (some ⟨q, 0, none⟩)] (by simp only [List.map_toArray, List.map_cons, List.map_nil]; rfl) ((HT _ ndb.r).mono ?_)
            rintro e w5 ⟨hg5, rfl⟩
            refine .inr ⟨_, rfl, ?_⟩
            exact ⟨rfl, HPN _ (ndb.g.call (Nat.le_of_lt ndb.b.lt) hg5).grown⟩
          | some y3 =>
            obtain ⟨s, lk2⟩ := y3
            rw [e3] at HT
            simp only at HT
            have HNq := fun W (hW : RdIs W q B lk2) => HN W lk2 hW
            cases e5 : rdN12 lk2 with
            | none =>
              rw [e5] at HNq
              simp only at HNq
              have HPN := HNO.out k kks lk hlt HM.out (rdKey_b e3 e5)
              clear e3 e5 HN
              go_wp2_with fail
              have ndb := nr.drew
              have hBd : BlkIs wr.drew w.heap.size 76 #[.bool false, .slice none 0 0, .slice Ak ks.length ck, .slice Ai is.length ci] := ndb.b
              refine RegF.start (fun W => BlkIs W w.heap.size 76 #[.bool false, .slice none 0 0, .slice Ak ks.length ck, .slice Ai is.length ci]) 7 (by kernel_rfl) ?_
              refine RegF.take 0 (.pointer (some ⟨w.heap.size, 2, none⟩)) rfl (by kernel_rfl) (by kernel_rfl) (by kernel_rfl) (by kernel_rfl) (fun _ _ _ h => h) hBd (RegF.yld rfl (fun W hW => by go_simp)) ?_
              simp only [List.getElem_toArray, List.getElem_cons_zero, Act.put, List.setIfInBounds_toArray, List.set_cons_zero, List.set_cons_succ]
              refine RegF.take 1 (.slice Ak ks.length ck) rfl (by kernel_rfl) (by kernel_rfl) (by kernel_rfl) (by kernel_rfl) (fun _ _ _ h => h) hBd (RegF.yld rfl (fun W hW => by have e : W.cell? ⟨w.heap.size, 2, none⟩ = some (.slice Ak ks.length ck) := (by rw [hW.cell]; rfl); go_simp)) ?_
              simp only [List.getElem_toArray, List.getElem_cons_succ, List.getElem_cons_zero, Act.put, List.setIfInBounds_toArray, List.set_cons_zero, List.set_cons_succ]
              refine RegF.take 2 (.pointer (some ⟨q, 0, none⟩)) rfl (by kernel_rfl) (by kernel_rfl) (by kernel_rfl) (by kernel_rfl) (fun _ _ _ h => h) hBd (RegF.yld rfl (fun W hW => by go_simp)) ?_
              simp only [List.getElem_toArray, List.getElem_cons_succ, List.getElem_cons_zero, Act.put, List.setIfInBounds_toArray, List.set_cons_zero, List.set_cons_succ]
              refine RegF.one 3 (by kernel_rfl) ?_
              refine opCP 177 #[.tmp 43] #[220] rfl rfl rfl (enters_of Try.func177 (by kernel_rfl) rfl) #[.pointer (some ⟨q, 0, none⟩)] (by simp only [List.map_toArray, List.map_cons, List.map_nil]; rfl) ((HT _ ndb.r).mono ?_)
              rintro e w5 ⟨hg5, rfl, h5⟩
              have nfb := ndb.call hg5 h5
              refine .inl ⟨_, rfl, fun _ => nfb.b, ?_⟩
              simp only [List.getElem_toArray, List.getElem_cons_succ, List.getElem_cons_zero, Act.put, List.setIfInBounds_toArray, List.set_cons_zero, List.set_cons_succ]
              have hBa : Below w5.heap.size w5 (w5.alloc (.cells #[.string s] 9)) := (Below.refl _ w5).alloc (Nat.le_refl _) _
              have ngb := nfb.past hBa
              refine RegF.one 4 (by kernel_rfl) ?_
              refine RegF.opV (w' := w5.alloc (.cells #[.string s] 9)) (.slice (some ⟨w5.heap.size, 0, none⟩) 1 1) rfl rfl (by go_simp) ⟨fun _ => ngb.b, ?_⟩
              simp only [List.getElem_toArray, List.getElem_cons_succ, List.getElem_cons_zero, Act.put, List.setIfInBounds_toArray, List.set_cons_zero, List.set_cons_succ]
              refine RegF.one 5 (by kernel_rfl) ?_
              refine opAppN rfl rfl elStr (.tmp 42) (.tmp 45) rfl (w.heap.size + 1) (.slice Ak ks.length ck) ks.length (skC ks) rfl ngb.k _ _ 1 1 [.string s] rfl (row_lit1 w5 9 1 [.string s] rfl (fun v hv => by obtain rfl := List.mem_singleton.1 hv; rfl)) (by unfold maxLen; omega) (by omega) (by have := ngb.b.lt; omega) ?_
              intro v7 w7 own7 hg7
              obtain ⟨A7, c7, rfl, _⟩ := ownG_in own7 (fun v hv => by rcases List.mem_append.1 hv with h | h; exact skC_one _ v h; obtain rfl := List.mem_singleton.1 h; rfl)
              have nhb := ngb.appK own7 hg7
              have b7 : BlkIs w7 w.heap.size 76 #[.bool false, .slice none 0 0, .slice Ak ks.length ck, .slice Ai is.length ci] := ngb.b.grown hg7 (fun e => by have := ownG_ge ngb.k w.heap.size e.symm; omega)
              refine ⟨fun _ => b7, ?_⟩
              simp only [List.getElem_toArray, List.getElem_cons_succ, List.getElem_cons_zero, Act.put, List.setIfInBounds_toArray, List.set_cons_zero, List.set_cons_succ]
              have kc7 : w7.cell? ⟨w.heap.size, 2, none⟩ = some (.slice Ak ks.length ck) := by rw [b7.cell]; rfl
              have kf7 := b7.free 2
              refine RegF.one 6 (by kernel_rfl) ?_
              refine RegF.opV (.pointer (some ⟨w.heap.size, 2, none⟩)) rfl rfl (by go_simp) ⟨fun _ => b7, ?_⟩
              simp only [List.getElem_toArray, List.getElem_cons_succ, List.getElem_cons_zero, Act.put, List.setIfInBounds_toArray, List.set_cons_zero, List.set_cons_succ]
              refine RegF.one 7 (by kernel_rfl) ?_
              refine RegF.opS (w' := w7.setCell ⟨w.heap.size, 2, none⟩ (.slice A7 (ks.length + 1) c7)) rfl rfl (by go_simp) ⟨fun h => absurd rfl h, ?_⟩
              simp only [List.getElem_toArray, List.getElem_cons_succ, List.getElem_cons_zero, Act.put]
              refine RegF.done (by kernel_rfl) ?_
              clear kc7 kf7 b7 own7 hg7 ngb nfb hBa hBd ndb hg5 h5
              generalize hkx : ks ++ [s] = ks1 at *
              obtain ⟨wy, hwy⟩ : ∃ W, w7.setCell ⟨w.heap.size, 2, none⟩ (.slice A7 (ks.length + 1) c7) = W := ⟨_, rfl⟩
              rw [hwy] at nhb
              rw [hwy]
              clear hkx hwy nr c0
              go_wp2_with fail
              have ndc := nhb.drew
              have hBd : BlkIs wy.drew w.heap.size 76 #[.bool false, .slice none 0 0, .slice A7 ks1.length c7, .slice Ai is.length ci] := ndc.b
              refine RegF.start (fun W => BlkIs W w.heap.size 76 #[.bool false, .slice none 0 0, .slice A7 ks1.length c7, .slice Ai is.length ci]) 7 (by kernel_rfl) ?_
              refine RegF.take 0 (.pointer (some ⟨w.heap.size, 3, none⟩)) rfl (by kernel_rfl) (by kernel_rfl) (by kernel_rfl) (by kernel_rfl) (fun _ _ _ h => h) hBd (RegF.yld rfl (fun W hW => by go_simp)) ?_
              simp only [List.getElem_toArray, List.getElem_cons_zero, Act.put, List.setIfInBounds_toArray, List.set_cons_zero, List.set_cons_succ]
              refine RegF.take 1 (.slice Ai is.length ci) rfl (by kernel_rfl) (by kernel_rfl) (by kernel_rfl) (by kernel_rfl) (fun _ _ _ h => h) hBd (RegF.yld rfl (fun W hW => by have e : W.cell? ⟨w.heap.size, 3, none⟩ = some (.slice Ai is.length ci) := (by rw [hW.cell]; rfl); go_simp)) ?_
              simp only [List.getElem_toArray, List.getElem_cons_succ, List.getElem_cons_zero, Act.put, List.setIfInBounds_toArray, List.set_cons_zero, List.set_cons_succ]
              refine RegF.take 2 (.pointer (some ⟨q, 0, none⟩)) rfl (by kernel_rfl) (by kernel_rfl) (by kernel_rfl) (by kernel_rfl) (fun _ _ _ h => h) hBd (RegF.yld rfl (fun W hW => by go_simp)) ?_
              simp only [List.getElem_toArray, List.getElem_cons_succ, List.getElem_cons_zero, Act.put, List.setIfInBounds_toArray, List.set_cons_zero, List.set_cons_succ]
              refine RegF.one 3 (by kernel_rfl) ?_
              refine opCP 175 #[.tmp 50] #[220] rfl rfl rfl (enters_of Try.func175 (by kernel_rfl) rfl) #[.pointer (some ⟨q, 0, none⟩)] (by simp only [List.map_toArray, List.map_cons, List.map_nil]; rfl) ((HNq _ ndc.r).mono ?_)
              rintro e w5 ⟨hg5, rfl⟩
              refine .inr ⟨_, rfl, ?_⟩
              exact ⟨rfl, HPN _ (ndc.g.call (Nat.le_of_lt ndc.b.lt) hg5).grown⟩
            | some y5 =>
              obtain ⟨pg, lk3⟩ := y5
              rw [e5] at HNq
              simp only at HNq
              have HM2 := Lib.hid (rdMany_next rdKey k r2 kks lk (s, (pg : Int)) lk3 HM.out (rdKey_c e3 e5))
              clear e3 e5 HN
              go_wp2_with fail
              have ndb := nr.drew
              have hBd : BlkIs wr.drew w.heap.size 76 #[.bool false, .slice none 0 0, .slice Ak ks.length ck, .slice Ai is.length ci] := ndb.b
              refine RegF.start (fun W => BlkIs W w.heap.size 76 #[.bool false, .slice none 0 0, .slice Ak ks.length ck, .slice Ai is.length ci]) 7 (by kernel_rfl) ?_
              refine RegF.take 0 (.pointer (some ⟨w.heap.size, 2, none⟩)) rfl (by kernel_rfl) (by kernel_rfl) (by kernel_rfl) (by kernel_rfl) (fun _ _ _ h => h) hBd (RegF.yld rfl (fun W hW => by go_simp)) ?_
              simp only [List.getElem_toArray, List.getElem_cons_zero, Act.put, List.setIfInBounds_toArray, List.set_cons_zero, List.set_cons_succ]
              refine RegF.take 1 (.slice Ak ks.length ck) rfl (by kernel_rfl) (by kernel_rfl) (by kernel_rfl) (by kernel_rfl) (fun _ _ _ h => h) hBd (RegF.yld rfl (fun W hW => by have e : W.cell? ⟨w.heap.size, 2, none⟩ = some (.slice Ak ks.length ck) := (by rw [hW.cell]; rfl); go_simp)) ?_
              simp only [List.getElem_toArray, List.getElem_cons_succ, List.getElem_cons_zero, Act.put, List.setIfInBounds_toArray, List.set_cons_zero, List.set_cons_succ]
              refine RegF.take 2 (.pointer (some ⟨q, 0, none⟩)) rfl (by kernel_rfl) (by kernel_rfl) (by kernel_rfl) (by kernel_rfl) (fun _ _ _ h => h) hBd (RegF.yld rfl (fun W hW => by go_simp)) ?_
              simp only [List.getElem_toArray, List.getElem_cons_succ, List.getElem_cons_zero, Act.put, List.setIfInBounds_toArray, List.set_cons_zero, List.set_cons_succ]
              refine RegF.one 3 (by kernel_rfl) ?_
              refine opCP 177 #[.tmp 43] #[220] rfl rfl rfl (enters_of Try.func177 (by kernel_rfl) rfl) #[.pointer (some ⟨q, 0, none⟩)] (by simp only [List.map_toArray, List.map_cons, List.map_nil]; rfl) ((HT _ ndb.r).mono ?_)
              rintro e w5 ⟨hg5, rfl, h5⟩
              have nfb := ndb.call hg5 h5
              refine .inl ⟨_, rfl, fun _ => nfb.b, ?_⟩
              simp only [List.getElem_toArray, List.getElem_cons_succ, List.getElem_cons_zero, Act.put, List.setIfInBounds_toArray, List.set_cons_zero, List.set_cons_succ]
              have hBa : Below w5.heap.size w5 (w5.alloc (.cells #[.string s] 9)) := (Below.refl _ w5).alloc (Nat.le_refl _) _
              have ngb := nfb.past hBa
              refine RegF.one 4 (by kernel_rfl) ?_
              refine RegF.opV (w' := w5.alloc (.cells #[.string s] 9)) (.slice (some ⟨w5.heap.size, 0, none⟩) 1 1) rfl rfl (by go_simp) ⟨fun _ => ngb.b, ?_⟩
              simp only [List.getElem_toArray, List.getElem_cons_succ, List.getElem_cons_zero, Act.put, List.setIfInBounds_toArray, List.set_cons_zero, List.set_cons_succ]
              refine RegF.one 5 (by kernel_rfl) ?_
              refine opAppN rfl rfl elStr (.tmp 42) (.tmp 45) rfl (w.heap.size + 1) (.slice Ak ks.length ck) ks.length (skC ks) rfl ngb.k _ _ 1 1 [.string s] rfl (row_lit1 w5 9 1 [.string s] rfl (fun v hv => by obtain rfl := List.mem_singleton.1 hv; rfl)) (by unfold maxLen; omega) (by omega) (by have := ngb.b.lt; omega) ?_
              intro v7 w7 own7 hg7
              obtain ⟨A7, c7, rfl, _⟩ := ownG_in own7 (fun v hv => by rcases List.mem_append.1 hv with h | h; exact skC_one _ v h; obtain rfl := List.mem_singleton.1 h; rfl)
              have nhb := ngb.appK own7 hg7
              have b7 : BlkIs w7 w.heap.size 76 #[.bool false, .slice none 0 0, .slice Ak ks.length ck, .slice Ai is.length ci] := ngb.b.grown hg7 (fun e => by have := ownG_ge ngb.k w.heap.size e.symm; omega)
              refine ⟨fun _ => b7, ?_⟩
              simp only [List.getElem_toArray, List.getElem_cons_succ, List.getElem_cons_zero, Act.put, List.setIfInBounds_toArray, List.set_cons_zero, List.set_cons_succ]
              have kc7 : w7.cell? ⟨w.heap.size, 2, none⟩ = some (.slice Ak ks.length ck) := by rw [b7.cell]; rfl
              have kf7 := b7.free 2
              refine RegF.one 6 (by kernel_rfl) ?_
              refine RegF.opV (.pointer (some ⟨w.heap.size, 2, none⟩)) rfl rfl (by go_simp) ⟨fun _ => b7, ?_⟩
              simp only [List.getElem_toArray, List.getElem_cons_succ, List.getElem_cons_zero, Act.put, List.setIfInBounds_toArray, List.set_cons_zero, List.set_cons_succ]
              refine RegF.one 7 (by kernel_rfl) ?_
              refine RegF.opS (w' := w7.setCell ⟨w.heap.size, 2, none⟩ (.slice A7 (ks.length + 1) c7)) rfl rfl (by go_simp) ⟨fun h => absurd rfl h, ?_⟩
              simp only [List.getElem_toArray, List.getElem_cons_succ, List.getElem_cons_zero, Act.put]
              refine RegF.done (by kernel_rfl) ?_
              clear kc7 kf7 b7 own7 hg7 ngb nfb hBa hBd ndb hg5 h5
              have hkx2 : Hid (ks ++ [s] = (kks ++ [(s, (pg : Int))]).map (·.1)) := Lib.hid (by rw [HKK.out, List.map_append]; rfl)
              generalize hkx : ks ++ [s] = ks1 at *
              obtain ⟨wy, hwy⟩ : ∃ W, w7.setCell ⟨w.heap.size, 2, none⟩ (.slice A7 (ks.length + 1) c7) = W := ⟨_, rfl⟩
              rw [hwy] at nhb
              rw [hwy]
              clear hkx hwy nr c0
              obtain ⟨Ak, hAk⟩ : ∃ A, A = A7 := ⟨_, rfl⟩
              obtain ⟨ck, hck⟩ : ∃ c, c = c7 := ⟨_, rfl⟩
              rw [← hAk, ← hck] at nhb
              clear hAk hck
              go_wp2_with fail
              have ndc := nhb.drew
              have hBd : BlkIs wy.drew w.heap.size 76 #[.bool false, .slice none 0 0, .slice Ak ks1.length ck, .slice Ai is.length ci] := ndc.b
              refine RegF.start (fun W => BlkIs W w.heap.size 76 #[.bool false, .slice none 0 0, .slice Ak ks1.length ck, .slice Ai is.length ci]) 7 (by kernel_rfl) ?_
              refine RegF.take 0 (.pointer (some ⟨w.heap.size, 3, none⟩)) rfl (by kernel_rfl) (by kernel_rfl) (by kernel_rfl) (by kernel_rfl) (fun _ _ _ h => h) hBd (RegF.yld rfl (fun W hW => by go_simp)) ?_
              simp only [List.getElem_toArray, List.getElem_cons_zero, Act.put, List.setIfInBounds_toArray, List.set_cons_zero, List.set_cons_succ]
              refine RegF.take 1 (.slice Ai is.length ci) rfl (by kernel_rfl) (by kernel_rfl) (by kernel_rfl) (by kernel_rfl) (fun _ _ _ h => h) hBd (RegF.yld rfl (fun W hW => by have e : W.cell? ⟨w.heap.size, 3, none⟩ = some (.slice Ai is.length ci) := (by rw [hW.cell]; rfl); go_simp)) ?_
              simp only [List.getElem_toArray, List.getElem_cons_succ, List.getElem_cons_zero, Act.put, List.setIfInBounds_toArray, List.set_cons_zero, List.set_cons_succ]
              refine RegF.take 2 (.pointer (some ⟨q, 0, none⟩)) rfl (by kernel_rfl) (by kernel_rfl) (by kernel_rfl) (by kernel_rfl) (fun _ _ _ h => h) hBd (RegF.yld rfl (fun W hW => by go_simp)) ?_
              simp only [List.getElem_toArray, List.getElem_cons_succ, List.getElem_cons_zero, Act.put, List.setIfInBounds_toArray, List.set_cons_zero, List.set_cons_succ]
              refine RegF.one 3 (by kernel_rfl) ?_
              refine opCP 175 #[.tmp 50] #[220] rfl rfl rfl (enters_of Try.func175 (by kernel_rfl) rfl) #[.pointer (some ⟨q, 0, none⟩)] (by simp only [List.map_toArray, List.map_cons, List.map_nil]; rfl) ((HNq _ ndc.r).mono ?_)
              rintro e w5 ⟨hg5, rfl, h5⟩
              have nfc := ndc.call hg5 h5
              refine .inl ⟨_, rfl, fun _ => nfc.b, ?_⟩
              simp only [List.getElem_toArray, List.getElem_cons_succ, List.getElem_cons_zero, Act.put, List.setIfInBounds_toArray, List.set_cons_zero, List.set_cons_succ]
              have hBa : Below w5.heap.size w5 (w5.alloc (.cells #[.int .i64 (pg : Int)] 3)) := (Below.refl _ w5).alloc (Nat.le_refl _) _
              have ngc := nfc.past hBa
              refine RegF.one 4 (by kernel_rfl) ?_
              refine RegF.opV (w' := w5.alloc (.cells #[.int .i64 (pg : Int)] 3)) (.slice (some ⟨w5.heap.size, 0, none⟩) 1 1) rfl rfl (by go_simp) ⟨fun _ => ngc.b, ?_⟩
              simp only [List.getElem_toArray, List.getElem_cons_succ, List.getElem_cons_zero, Act.put, List.setIfInBounds_toArray, List.set_cons_zero, List.set_cons_succ]
              refine RegF.one 5 (by kernel_rfl) ?_
              refine opAppN rfl rfl elIntC (.tmp 49) (.tmp 52) rfl (w.heap.size + 1) (.slice Ai is.length ci) is.length (ikC is) rfl ngc.i _ _ 1 1 [.int .i64 (pg : Int)] rfl (row_lit1 w5 3 1 [.int .i64 (pg : Int)] rfl (fun v hv => by obtain rfl := List.mem_singleton.1 hv; rfl)) (by unfold maxLen; omega) (by omega) (by have := ngc.b.lt; omega) ?_
              intro v7 w7 own7 hg7
              obtain ⟨A7, c7, rfl, _⟩ := ownG_in own7 (fun v hv => by rcases List.mem_append.1 hv with h | h; exact ikC_one _ v h; obtain rfl := List.mem_singleton.1 h; rfl)
              have nhc := ngc.appI own7 hg7
              have b7 : BlkIs w7 w.heap.size 76 #[.bool false, .slice none 0 0, .slice Ak ks1.length ck, .slice Ai is.length ci] := ngc.b.grown hg7 (fun e => by have := ownG_ge ngc.i w.heap.size e.symm; omega)
              refine ⟨fun _ => b7, ?_⟩
              simp only [List.getElem_toArray, List.getElem_cons_succ, List.getElem_cons_zero, Act.put, List.setIfInBounds_toArray, List.set_cons_zero, List.set_cons_succ]
              have kc7 : w7.cell? ⟨w.heap.size, 3, none⟩ = some (.slice Ai is.length ci) := by rw [b7.cell]; rfl
              have kf7 := b7.free 3
              refine RegF.one 6 (by kernel_rfl) ?_
              refine RegF.opV (.pointer (some ⟨w.heap.size, 3, none⟩)) rfl rfl (by go_simp) ⟨fun _ => b7, ?_⟩
              simp only [List.getElem_toArray, List.getElem_cons_succ, List.getElem_cons_zero, Act.put, List.setIfInBounds_toArray, List.set_cons_zero, List.set_cons_succ]
              refine RegF.one 7 (by kernel_rfl) ?_
              refine RegF.opS (w' := w7.setCell ⟨w.heap.size, 3, none⟩ (.slice A7 (is.length + 1) c7)) rfl rfl (by go_simp) ⟨fun h => absurd rfl h, ?_⟩
              simp only [List.getElem_toArray, List.getElem_cons_succ, List.getElem_cons_zero, Act.put]
              refine RegF.done (by kernel_rfl) ?_
              clear kc7 kf7 b7 own7 hg7 ngc nfc hBa hBd ndc hg5 h5
              have hix2 : Hid (is ++ [(pg : Int)] = (kid : Int) :: (kks ++ [(s, (pg : Int))]).map (·.2)) := Lib.hid (by rw [HII.out, List.map_append]; rfl)
              go_wp2
              exact ⟨⟨k + 1, kks ++ [(s, (pg : Int))], lk3, ks1, is ++ [(pg : Int)], Ak, ck, A7, c7, by omega, by simp, HM2.out, hkx2, hix2, nhc⟩, by simp [intOf]; omega⟩
        · obtain rfl : k = many := by omega
          have ns := nr.same
          go_wp2_with (first
            | (refine wp_loadW rfl 76 (.tmp 2) rfl w.heap.size rfl rowNod nr.b (by rfl) ?_)
            | (refine wp_storeW rfl 76 (.tmp 2) (.tmp 56) rfl w.heap.size rfl rfl rowNod nr.b (by rfl) (by rfl) (four_oneC rfl rfl rfl rfl) ?_))
          exact bodyPost_ret (results_cellW 2 rfl rfl rowNod ns.b (by rfl)) rfl (HYES.out kks lk HM.out ks is _ Ak ck Ai ci HKK.out HII.out ns.g.grown ns.nis ns.rows)
end Go.Proofs.Ytlelckdcmlpmdaa
/- louperef12: readings one behind the other, with the place -1 for none (plain); the rows of the node that is read. -/
namespace Go.Proofs.Ytlelckdcmlpmdaa
open Go Go.RowKit Lou

/-- What is left, or none: a place. -/
def posO (n : Nat) (o : Option (List UInt8)) : Int := match o with
  | some l => ((n - l.length : Nat) : Int)
  | none => -1
def nxtN (o : Option (List UInt8)) : Nat × Option (List UInt8) := match o with
  | none => (0, none)
  | some l => match rdN12 l with
    | none => (0, none)
    | some (v, r) => (v, some r)
def nxtT (o : Option (List UInt8)) : ByteArray × Option (List UInt8) := match o with
  | none => ({ data := #[] }, none)
  | some l => match rdT12 l with
    | none => ({ data := #[] }, none)
    | some (v, r) => (v, some r)
/-- What is left lies at the end of b. -/
def EndO (b : List UInt8) (o : Option (List UInt8)) : Prop := ∀ l, o = some l → ∃ k, k ≤ b.length ∧ l = b.drop k
theorem EndO.pos {b l : List UInt8} (h : EndO b (some l)) : l = b.drop (b.length - l.length) ∧ l.length ≤ b.length := by
  obtain ⟨k, hk, rfl⟩ := h l rfl
  rw [List.length_drop]
  exact ⟨by rw [show b.length - (b.length - k) = k by omega], by omega⟩
theorem rdN12_end {l r : List UInt8} {n : Nat} (h : rdN12 l = some (n, r)) : ∃ m, m ≤ l.length ∧ r = l.drop m := by
  unfold rdN12 at h
  cases e : rd l with
  | none => rw [e] at h; cases h
  | some y =>
    obtain ⟨v, k⟩ := y
    have hb := rd_bound e
    rw [e] at h
    simp only at h
    split at h
    · simp only [Option.some.injEq, Prod.mk.injEq] at h
      exact ⟨k, by omega, h.2.symm⟩
    · cases h
theorem rdT12_end {l r : List UInt8} {n : ByteArray} (h : rdT12 l = some (n, r)) : ∃ m, m ≤ l.length ∧ r = l.drop m := by
  unfold rdT12 at h
  cases e : rdS l with
  | none => rw [e] at h; cases h
  | some y =>
    obtain ⟨v, k⟩ := y
    have hb := rdS_bound e
    rw [e] at h
    simp only [Option.some.injEq, Prod.mk.injEq] at h
    exact ⟨k, by omega, h.2.symm⟩
theorem EndO.drop {b l : List UInt8} (h : EndO b (some l)) {m : Nat} (hm : m ≤ l.length) : EndO b (some (l.drop m)) := by
  obtain ⟨k, hk, rfl⟩ := h l rfl
  intro l' e
  injection e with e
  subst e
  rw [List.length_drop] at hm
  exact ⟨k + m, by omega, by rw [List.drop_drop]⟩
theorem EndO.none (b : List UInt8) : EndO b none := fun _ e => by cases e
theorem EndO.n {b : List UInt8} {o : Option (List UInt8)} (h : EndO b o) : EndO b (nxtN o).2 := by
  cases o with
  | none => exact .none b
  | some l =>
    unfold nxtN
    simp only
    cases e : rdN12 l with
    | none => exact .none b
    | some y =>
      obtain ⟨v, r⟩ := y
      obtain ⟨m, hm, rfl⟩ := rdN12_end e
      exact h.drop hm
theorem EndO.t {b : List UInt8} {o : Option (List UInt8)} (h : EndO b o) : EndO b (nxtT o).2 := by
  cases o with
  | none => exact .none b
  | some l =>
    unfold nxtT
    simp only
    cases e : rdT12 l with
    | none => exact .none b
    | some y =>
      obtain ⟨v, r⟩ := y
      obtain ⟨m, hm, rfl⟩ := rdT12_end e
      exact h.drop hm
theorem EndO.one {b : List UInt8} (h : 1 ≤ b.length) : EndO b (some (b.drop 1)) := fun l e => by
  injection e with e
  exact ⟨1, h, e.symm⟩
theorem posO_neg {n : Nat} {o : Option (List UInt8)} (h : o = none) : posO n o = -1 := by subst h; rfl
theorem posO_some {n : Nat} {o : Option (List UInt8)} (h : ∃ l, o = some l) : 0 ≤ posO n o := by
  obtain ⟨l, rfl⟩ := h
  show (0 : Int) ≤ ((n - l.length : Nat) : Int)
  omega
theorem nxtN_le (o : Option (List UInt8)) : (nxtN o).1 ≤ 100000 := by
  cases o with
  | none => show 0 ≤ _; omega
  | some l =>
    unfold nxtN
    simp only
    cases e : rdN12 l with
    | none => show 0 ≤ _; omega
    | some y =>
      obtain ⟨v, r⟩ := y
      exact (rdN12_less e).2
/-- read and text, by places. -/
theorem rread_u (w : World) (g o c : Nat) (b : List UInt8) (h : InB w w.heap.size (some ⟨g, o, none⟩) c b) (q : Option (List UInt8)) (hq : EndO b q) : Calls Try.prog 130 #[.slice (some ⟨g, o, none⟩) b.length c, .int .i64 (posO b.length q)] w fun e w' => e = .returned (.tuple #[.int .i64 ((nxtN q).1 : Int), .int .i64 (posO b.length (nxtN q).2)]) ∧ w = w' := by
  cases q with
  | none => exact rread_neg w _
  | some l =>
    obtain ⟨h1, h2⟩ := hq.pos
    have := rread_at w g o c b h (b.length - l.length) (by omega)
    rw [← h1] at this
    have e : ReadOut (rdN12 l) b.length = .tuple #[.int .i64 ((nxtN (some l)).1 : Int), .int .i64 (posO b.length (nxtN (some l)).2)] := by
      unfold nxtN
      simp only
      cases rdN12 l with
      | none => rfl
      | some y => rfl
    rw [e] at this
    exact this
theorem rtext_u (w : World) (g o c : Nat) (b : List UInt8) (h : InB w w.heap.size (some ⟨g, o, none⟩) c b) (q : Option (List UInt8)) (hq : EndO b q) : Calls Try.prog 131 #[.slice (some ⟨g, o, none⟩) b.length c, .int .i64 (posO b.length q)] w fun e w' => e = .returned (.tuple #[.string (nxtT q).1, .int .i64 (posO b.length (nxtT q).2)]) ∧ w = w' := by
  cases q with
  | none => exact rtext_neg w _
  | some l =>
    obtain ⟨h1, h2⟩ := hq.pos
    have := rtext_at w g o c b h (b.length - l.length) (by omega)
    rw [← h1] at this
    have e : TextOut (rdT12 l) b.length = .tuple #[.string (nxtT (some l)).1, .int .i64 (posO b.length (nxtT (some l)).2)] := by
      unfold nxtT
      simp only
      cases rdT12 l with
      | none => rfl
      | some y => rfl
    rw [e] at this
    exact this
/-- Cells, keys: so many read; or none of the whole. -/
def InvL (b : List UInt8) (many k : Nat) (cs : List Cel) (o : Option (List UInt8)) : Prop := match o with
  | some l => ∃ r1, rdN12 (b.drop 1) = some (many, r1) ∧ rdMany rdCel k r1 = some (cs, l)
  | none => rdRest true (b.drop 1) = none
def InvI (b : List UInt8) (many k : Nat) (kid : Nat) (ks : List (ByteArray × Int)) (o : Option (List UInt8)) : Prop := match o with
  | some l => ∃ r1 r2, rdN12 (b.drop 1) = some (many, r1) ∧ rdN12 r1 = some (kid, r2) ∧ rdMany rdKey k r2 = some (ks, l)
  | none => rdRest false (b.drop 1) = none
theorem InvL.start (b : List UInt8) : InvL b (nxtN (some (b.drop 1))).1 0 [] (nxtN (some (b.drop 1))).2 := by
  unfold nxtN
  simp only
  cases e : rdN12 (b.drop 1) with
  | none =>
    show rdRest true _ = none
    unfold rdRest
    rw [e]
  | some y => exact ⟨y.2, e, rfl⟩
theorem InvI.start (b : List UInt8) : InvI b (nxtN (some (b.drop 1))).1 0 (nxtN (nxtN (some (b.drop 1))).2).1 [] (nxtN (nxtN (some (b.drop 1))).2).2 := by
  cases e : rdN12 (b.drop 1) with
  | none =>
    have h1 : nxtN (some (b.drop 1)) = (0, none) := by unfold nxtN; simp only; rw [e]
    rw [h1]
    show rdRest false _ = none
    unfold rdRest
    rw [e]
  | some y =>
    obtain ⟨many, r1⟩ := y
    have h1 : nxtN (some (b.drop 1)) = (many, some r1) := by unfold nxtN; simp only; rw [e]
    rw [h1]
    simp only
    cases e2 : rdN12 r1 with
    | none =>
      have h2 : nxtN (some r1) = (0, none) := by unfold nxtN; simp only; rw [e2]
      rw [h2]
      show rdRest false _ = none
      unfold rdRest
      rw [e]
      simp only [Bool.false_eq_true, if_false]
      rw [e2]
    | some z =>
      have h2 : nxtN (some r1) = (z.1, some z.2) := by unfold nxtN; simp only; rw [e2]
      rw [h2]
      exact ⟨r1, z.2, e, e2, rfl⟩
theorem InvL.fin {b l : List UInt8} {many : Nat} {cs : List Cel} (h : InvL b many many cs (some l)) : rdRest true (b.drop 1) = some ⟨true, cs, [], []⟩ := by
  obtain ⟨r1, h1, h2⟩ := h
  unfold rdRest
  rw [h1]
  simp only [if_true]
  rw [h2]
theorem InvI.fin {b l : List UInt8} {many kid : Nat} {ks : List (ByteArray × Int)} (h : InvI b many many kid ks (some l)) : rdRest false (b.drop 1) = some ⟨false, [], ks.map (·.1), (kid : Int) :: ks.map (·.2)⟩ := by
  obtain ⟨r1, r2, h1, h2, h3⟩ := h
  unfold rdRest
  rw [h1]
  simp only [Bool.false_eq_true, if_false]
  rw [h2]
  simp only
  rw [h3]
theorem InvL.stop {b l : List UInt8} {many k : Nat} {cs : List Cel} (h : InvL b many k cs (some l)) (hk : k < many) (hf : rdCel l = none) : rdRest true (b.drop 1) = none := by
  obtain ⟨r1, h1, h2⟩ := h
  have := rdMany_stop rdCel r1 cs l k h2 hf (many - k - 1)
  rw [show k + 1 + (many - k - 1) = many from by omega] at this
  unfold rdRest
  rw [h1]
  simp only [if_true]
  rw [this]
theorem InvI.stop {b l : List UInt8} {many k kid : Nat} {ks : List (ByteArray × Int)} (h : InvI b many k kid ks (some l)) (hk : k < many) (hf : rdKey l = none) : rdRest false (b.drop 1) = none := by
  obtain ⟨r1, r2, h1, h2, h3⟩ := h
  have := rdMany_stop rdKey r2 ks l k h3 hf (many - k - 1)
  rw [show k + 1 + (many - k - 1) = many from by omega] at this
  unfold rdRest
  rw [h1]
  simp only [Bool.false_eq_true, if_false]
  rw [h2]
  simp only
  rw [this]
/-- A cell with a value; one with a size; a key with its kid: one step on. -/
theorem InvL.val {b l : List UInt8} {many k : Nat} {cs : List Cel} (h : InvL b many k cs (some l)) (hk : k < many) {s v : ByteArray} {o1 o2 o3 : Option (List UInt8)} (h1 : nxtT (some l) = (s, o1)) (h2 : nxtN o1 = (0, o2)) (h3 : nxtT o2 = (v, o3)) : InvL b many (k + 1) (cs ++ [⟨s, v, 0, 0⟩]) o3 := by
  cases e1 : rdT12 l with
  | none =>
    have hn : rdCel l = none := by unfold rdCel; rw [e1]
    unfold nxtT at h1; simp only at h1; rw [e1] at h1; simp only [Prod.mk.injEq] at h1
    obtain ⟨_, rfl⟩ := h1
    unfold nxtN at h2; simp only [Prod.mk.injEq] at h2
    obtain ⟨_, rfl⟩ := h2
    unfold nxtT at h3; simp only [Prod.mk.injEq] at h3
    obtain ⟨_, rfl⟩ := h3
    exact h.stop hk hn
  | some y =>
    obtain ⟨s', l1⟩ := y
    unfold nxtT at h1; simp only at h1; rw [e1] at h1; simp only [Prod.mk.injEq] at h1
    obtain ⟨rfl, rfl⟩ := h1
    cases e2 : rdN12 l1 with
    | none =>
      have hn : rdCel l = none := by unfold rdCel; rw [e1]; simp only; rw [e2]
      unfold nxtN at h2; simp only at h2; rw [e2] at h2; simp only [Prod.mk.injEq] at h2
      obtain ⟨_, rfl⟩ := h2
      unfold nxtT at h3; simp only [Prod.mk.injEq] at h3
      obtain ⟨_, rfl⟩ := h3
      exact h.stop hk hn
    | some z =>
      obtain ⟨p, l2⟩ := z
      unfold nxtN at h2; simp only at h2; rw [e2] at h2; simp only [Prod.mk.injEq] at h2
      obtain ⟨rfl, rfl⟩ := h2
      cases e3 : rdT12 l2 with
      | none =>
        have hn : rdCel l = none := by unfold rdCel; rw [e1]; simp only; rw [e2]; simp only [if_true]; rw [e3]
        unfold nxtT at h3; simp only at h3; rw [e3] at h3; simp only [Prod.mk.injEq] at h3
        obtain ⟨_, rfl⟩ := h3
        exact h.stop hk hn
      | some u =>
        obtain ⟨v', l3⟩ := u
        unfold nxtT at h3; simp only at h3; rw [e3] at h3; simp only [Prod.mk.injEq] at h3
        obtain ⟨rfl, rfl⟩ := h3
        obtain ⟨r1, g1, g2⟩ := h
        exact ⟨r1, g1, rdMany_next rdCel k r1 cs l _ l3 g2 (by unfold rdCel; rw [e1]; simp only; rw [e2]; simp only [if_true]; rw [e3])⟩
theorem InvL.size {b l : List UInt8} {many k : Nat} {cs : List Cel} (h : InvL b many k cs (some l)) (hk : k < many) {s : ByteArray} {p z : Nat} {o1 o2 o3 : Option (List UInt8)} (h1 : nxtT (some l) = (s, o1)) (h2 : nxtN o1 = (p, o2)) (hp : ¬ p = 0) (h3 : nxtN o2 = (z, o3)) : InvL b many (k + 1) (cs ++ [⟨s, ByteArray.empty, p, z⟩]) o3 := by
  cases e1 : rdT12 l with
  | none =>
    unfold nxtT at h1; simp only at h1; rw [e1] at h1; simp only [Prod.mk.injEq] at h1
    obtain ⟨_, rfl⟩ := h1
    unfold nxtN at h2; simp only [Prod.mk.injEq] at h2
    exact absurd h2.1.symm hp
  | some y =>
    obtain ⟨s', l1⟩ := y
    unfold nxtT at h1; simp only at h1; rw [e1] at h1; simp only [Prod.mk.injEq] at h1
    obtain ⟨rfl, rfl⟩ := h1
    cases e2 : rdN12 l1 with
    | none =>
      unfold nxtN at h2; simp only at h2; rw [e2] at h2; simp only [Prod.mk.injEq] at h2
      exact absurd h2.1.symm hp
    | some q =>
      obtain ⟨p', l2⟩ := q
      unfold nxtN at h2; simp only at h2; rw [e2] at h2; simp only [Prod.mk.injEq] at h2
      obtain ⟨rfl, rfl⟩ := h2
      cases e3 : rdN12 l2 with
      | none =>
        have hn : rdCel l = none := by unfold rdCel; rw [e1]; simp only; rw [e2]; simp only; rw [if_neg hp, e3]
        unfold nxtN at h3; simp only at h3; rw [e3] at h3; simp only [Prod.mk.injEq] at h3
        obtain ⟨_, rfl⟩ := h3
        exact h.stop hk hn
      | some u =>
        obtain ⟨v', l3⟩ := u
        unfold nxtN at h3; simp only at h3; rw [e3] at h3; simp only [Prod.mk.injEq] at h3
        obtain ⟨rfl, rfl⟩ := h3
        obtain ⟨r1, g1, g2⟩ := h
        exact ⟨r1, g1, rdMany_next rdCel k r1 cs l _ l3 g2 (by unfold rdCel; rw [e1]; simp only; rw [e2]; simp only; rw [if_neg hp, e3])⟩
theorem InvI.key {b l : List UInt8} {many k kid : Nat} {ks : List (ByteArray × Int)} (h : InvI b many k kid ks (some l)) (hk : k < many) {s : ByteArray} {p : Nat} {o1 o2 : Option (List UInt8)} (h1 : nxtT (some l) = (s, o1)) (h2 : nxtN o1 = (p, o2)) : InvI b many (k + 1) kid (ks ++ [(s, (p : Int))]) o2 := by
  cases e1 : rdT12 l with
  | none =>
    unfold nxtT at h1; simp only at h1; rw [e1] at h1; simp only [Prod.mk.injEq] at h1
    obtain ⟨_, rfl⟩ := h1
    unfold nxtN at h2; simp only [Prod.mk.injEq] at h2
    obtain ⟨_, rfl⟩ := h2
    exact h.stop hk (rdKey_a e1)
  | some y =>
    obtain ⟨s', l1⟩ := y
    unfold nxtT at h1; simp only at h1; rw [e1] at h1; simp only [Prod.mk.injEq] at h1
    obtain ⟨rfl, rfl⟩ := h1
    cases e2 : rdN12 l1 with
    | none =>
      unfold nxtN at h2; simp only at h2; rw [e2] at h2; simp only [Prod.mk.injEq] at h2
      obtain ⟨_, rfl⟩ := h2
      exact h.stop hk (rdKey_b e1 e2)
    | some q =>
      obtain ⟨p', l2⟩ := q
      unfold nxtN at h2; simp only at h2; rw [e2] at h2; simp only [Prod.mk.injEq] at h2
      obtain ⟨rfl, rfl⟩ := h2
      obtain ⟨r1, r2, g1, g2, g3⟩ := h
      exact ⟨r1, r2, g1, g2, rdMany_next rdKey k r2 ks l _ l2 g3 (rdKey_c e1 e2)⟩
theorem InvL.len {b l : List UInt8} {many k : Nat} {cs : List Cel} (h : InvL b many k cs (some l)) : cs.length = k := by
  obtain ⟨r1, _, h2⟩ := h
  exact rdMany_length rdCel k r1 cs l h2
/-- The rows of a node; its box at p holds hd. -/
structure NSR (w wr : World) (p : Nat) (hd : Array Value) (cs : List Cel) (Ac : Option Addr) (cc : Nat) (ks : List ByteArray) (Ak : Option Addr) (ck : Nat) (is : List Int) (Ai : Option Addr) (ci : Nat) : Prop where
  b : BlkIs wr p 76 hd
  c : wr.ownsRow (p + 1) 205 4 (.slice Ac cs.length cc) cs.length (clC cs)
  k : wr.ownsRow (p + 1) 9 1 (.slice Ak ks.length ck) ks.length (skC ks)
  i : wr.ownsRow (p + 1) 3 1 (.slice Ai is.length ci) is.length (ikC is)
  g : Below p w wr
section
variable {w wr w' : World} {p : Nat} {hd : Array Value} {cs : List Cel} {Ac : Option Addr} {cc : Nat} {ks : List ByteArray} {Ak : Option Addr} {ck : Nat} {is : List Int} {Ai : Option Addr} {ci : Nat}
theorem NSR.past (h : NSR w wr p hd cs Ac cc ks Ak ck is Ai ci) (hB : Below wr.heap.size wr w') : NSR w w' p hd cs Ac cc ks Ak ck is Ai ci :=
  ⟨h.b.below hB h.b.lt, ownG_grow h.c hB, ownG_grow h.k hB, ownG_grow h.i hB, h.g.trans (hB.mono (Nat.le_of_lt h.b.lt))⟩
theorem NSR.drew (h : NSR w wr p hd cs Ac cc ks Ak ck is Ai ci) : NSR w wr.drew p hd cs Ac cc ks Ak ck is Ai ci := h.past (Below.refl _ wr).drew
theorem NSR.store (h : NSR w wr p hd cs Ac cc ks Ak ck is Ai ci) (f : Nat) (v : Value) : NSR w (wr.setCell ⟨p, f, none⟩ v) p (hd.setIfInBounds f v) cs Ac cc ks Ak ck is Ai ci :=
  ⟨h.b.set f v, own_set h.c, own_set h.k, own_set h.i, h.g.setCell (by simp) _⟩
theorem nsr_app {T : TypeId} {sz n m : Nat} {v v' : Value} {old new : List Value} (hb : BlkIs wr p 76 hd) (hgq : Below p w wr)
    (own : wr.ownsRow (p + 1) T sz v n old) (hg : wr.grownBy w' v.ownBlock) (own' : w'.ownsRow (p + 1) T sz v' m new) : BlkIs w' p 76 hd ∧ Below p w w' := by
  have hlt := hb.lt
  have hBg : Below (p + 1) wr w' := grown_below hg (by omega) (ownG_ge own)
  exact ⟨hb.below hBg (by omega), hgq.trans (hBg.mono (by omega))⟩
theorem NSR.growC (h : NSR w wr p hd cs Ac cc ks Ak ck is Ai ci) {c : Cel} {A' : Option Addr} {c' : Nat} (own' : w'.ownsRow (p + 1) 205 4 (.slice A' (cs.length + 1) c') (cs.length + 1) (clC cs ++ celC c)) (hg : wr.grownBy w' (Value.slice Ac cs.length cc).ownBlock) :
    NSR w w' p hd (cs ++ [c]) A' c' ks Ak ck is Ai ci := by
  obtain ⟨h1, h2⟩ := nsr_app h.b h.g h.c hg own'
  have e : (cs ++ [c]).length = cs.length + 1 := by simp
  exact ⟨h1, by rw [e, clC_snoc]; exact own', own_past h.c h.k (by decide) hg, own_past h.c h.i (by decide) hg, h2⟩
theorem NSR.growK (h : NSR w wr p hd cs Ac cc ks Ak ck is Ai ci) {s : ByteArray} {A' : Option Addr} {c' : Nat} (own' : w'.ownsRow (p + 1) 9 1 (.slice A' (ks.length + 1) c') (ks.length + 1) (skC ks ++ [.string s])) (hg : wr.grownBy w' (Value.slice Ak ks.length ck).ownBlock) :
    NSR w w' p hd cs Ac cc (ks ++ [s]) A' c' is Ai ci := by
  obtain ⟨h1, h2⟩ := nsr_app h.b h.g h.k hg own'
  have e : (ks ++ [s]).length = ks.length + 1 := by simp
  exact ⟨h1, own_past h.k h.c (by decide) hg, by rw [e, skC_snoc]; exact own', own_past h.k h.i (by decide) hg, h2⟩
theorem NSR.growI (h : NSR w wr p hd cs Ac cc ks Ak ck is Ai ci) {s : Int} {A' : Option Addr} {c' : Nat} (own' : w'.ownsRow (p + 1) 3 1 (.slice A' (is.length + 1) c') (is.length + 1) (ikC is ++ [.int .i64 s])) (hg : wr.grownBy w' (Value.slice Ai is.length ci).ownBlock) :
    NSR w w' p hd cs Ac cc ks Ak ck (is ++ [s]) A' c' := by
  obtain ⟨h1, h2⟩ := nsr_app h.b h.g h.i hg own'
  have e : (is ++ [s]).length = is.length + 1 := by simp
  exact ⟨h1, own_past h.i h.c (by decide) hg, own_past h.i h.k (by decide) hg, by rw [e, ikC_snoc]; exact own', h2⟩
/-- The node lies in rows of its own. -/
theorem NSR.nis (h : NSR w wr p hd cs Ac cc ks Ak ck is Ai ci) (lf : Bool) : NIs wr wr.heap.size ⟨lf, cs, ks, is⟩ Ac cc Ak ck Ai ci := by
  obtain ⟨_, _, e1, h1⟩ := ownG_in h.c (clC_one _)
  obtain ⟨_, _, e2, h2⟩ := ownG_in h.k (skC_one _)
  obtain ⟨_, _, e3, h3⟩ := ownG_in h.i (ikC_one _)
  injection e1 with e11 e12 e13
  injection e2 with e21 e22 e23
  injection e3 with e31 e32 e33
  subst e11 e13 e21 e23 e31 e33
  exact ⟨h1, h2, h3⟩
theorem NSR.start (w : World) (hd : Array Value) : NSR w (w.alloc (.cells hd 76)) w.heap.size hd [] none 0 [] none 0 [] none 0 :=
  ⟨BlkIs.new w _ _, World.ownsRow_nil _ _ _ _, World.ownsRow_nil _ _ _ _, World.ownsRow_nil _ _ _ _, (Below.refl _ w).alloc (Nat.le_refl _) _⟩
theorem NSR.rows (h : NSR w wr p hd cs Ac cc ks Ak ck is Ai ci) : RowsFrom (p + 1) Ac Ak Ai := by
  rintro g o (rfl | rfl | rfl)
  · exact ownG_ge h.c g rfl
  · exact ownG_ge h.k g rfl
  · exact ownG_ge h.i g rfl
end
end Go.Proofs.Ytlelckdcmlpmdaa
/- louperef12: cell. -/
namespace Go.Proofs.Ytlelckdcmlpmdaa
open Go Go.RowKit Lou

theorem elU8 : ElT 30 5 1 1 (.int .u8 0) := ⟨Try.underlying30, by kernel_rfl, by kernel_rfl, by decide⟩
theorem refStr_gives (w : World) (s : ByteArray) (hs : s.size ≤ 1000000000) : Calls Try.prog 35 #[.string s] w (GivesB w (bytS s)) := by
  have h := refString_gives s.data.toList (by rw [Array.length_toList]; exact hs) w
  rw [← str_of] at h
  exact h
theorem ownB_app {w : World} {base : Nat} {v : Value} {l1 l2 l : List UInt8} (h : w.ownsRow base 5 1 v (l1.length + l2.length) (l1.map b8 ++ l2.map b8)) (e : l1 ++ l2 = l) : OwnB w base v l := by
  subst e
  unfold OwnB
  rw [List.length_append, List.map_append]
  exact h
theorem b8_oneL (l : List UInt8) : ∀ v ∈ l.map b8, v.oneCell' = true := by
  intro v hv
  simp at hv
  obtain ⟨x, _, rfl⟩ := hv
  rfl
theorem ownB_inG {w : World} {base : Nat} {v : Value} {l : List UInt8} (h : OwnB w base v l) : ∃ A c, v = .slice A l.length c ∧ InG w w.heap.size 1 A l.length c (l.map b8) := ownG_in h (b8_oneL l)
set_option maxRecDepth 100000 in
set_option maxHeartbeats 4000000 in
theorem rcellB_gives (w : World) (c : Cel) (hr : rightB c = true) (hk : c.key.size ≤ 81) : Calls Try.prog 221 #[.agg (celC c).toArray] w (GivesB w (celB c)) := by
  obtain ⟨pn, sn, e1, e2, h1, h2, h3⟩ := right_cases hr
  obtain ⟨xk, xv, xp, xz⟩ := c
  simp only at hk e1 e2 h3
  subst e1 e2
  have hBw : Below w.heap.size w (w.alloc (.cells (celC ⟨xk, xv, (pn : Int), (sn : Int)⟩).toArray 205)) := (Below.refl _ w).alloc (Nat.le_refl _) _
  have b0 := BlkIs.new w 205 (celC ⟨xk, xv, (pn : Int), (sn : Int)⟩).toArray
  have hs1 := World.size_alloc w (.cells (celC ⟨xk, xv, (pn : Int), (sn : Int)⟩).toArray 205)
  have hcb : celB ⟨xk, xv, (pn : Int), (sn : Int)⟩ = (bytS xk ++ num pn) ++ (if pn = 0 then bytS xv else num sn) := by
    unfold celB
    simp only [Int.toNat_natCast]
    by_cases h : pn = 0
    · rw [if_pos h, if_pos (by omega)]
    · rw [if_neg h, if_neg (by omega)]
  rw [hcb]
  have hks : xk.size ≤ 1000000000 := by omega
  have hl1 := bytS_length xk
  have hl2 := num_length pn
  have HK := fun W => refStr_gives W xk hks
  have HN := fun W => refNumber_gives pn (by omega) W
  have hwp : IntKind.u64.wrap (pn : Int) = (pn : Int) := by simp [IntKind.wrap, IntKind.bits, IntKind.signed]; omega
  have hwz : IntKind.u64.wrap (sn : Int) = (sn : Int) := by simp [IntKind.wrap, IntKind.bits, IntKind.signed]; omega
  obtain ⟨l3, hl3⟩ : ∃ l, l = if pn = 0 then bytS xv else num sn := ⟨_, rfl⟩
  rw [← hl3]
  have HL3 := Lib.hid hl3
  generalize bytS xk = l1 at *
  generalize hl12 : l1 ++ num pn = l12 at *
  have HL12 := Lib.hid hl12
  have hlen12 : l12.length ≤ 200 := by rw [← hl12, List.length_append]; omega
  have hln1 : l1.length ≤ 100 := by omega
  generalize num pn = l2 at *
  have hln2 : l2.length ≤ 10 := hl2
  unfold GivesB at *
  have HS1 := Lib.hid hs1
  obtain ⟨W1, hW1⟩ : ∃ W, W = w.alloc (.cells (celC ⟨xk, xv, (pn : Int), (sn : Int)⟩).toArray 205) := ⟨_, rfl⟩
  rw [← hW1] at hBw b0 hs1
  have HW1 := Lib.hid hW1
  have HPW := Lib.hid (show w.heap.size < W1.heap.size by omega)
  clear hcb hl3 hl12 hl1 hl2 hs1 hr hW1 hk hks
  go_enter Try.func221, Try.ntmps221
  go_wp2_with fail
  have hBd : BlkIs W1.drew w.heap.size 205 #[.string xk, .string xv, .int .i64 (pn : Int), .int .i64 (sn : Int)] := b0
  rw [← HW1.out]
  refine RegF.start (fun W => BlkIs W w.heap.size 205 #[.string xk, .string xv, .int .i64 (pn : Int), .int .i64 (sn : Int)]) 8 (by kernel_rfl) ?_
  refine RegF.take 0 (.pointer (some ⟨w.heap.size, 0, none⟩)) rfl (by kernel_rfl) (by kernel_rfl) (by kernel_rfl) (by kernel_rfl) (fun _ _ _ h => h) hBd (RegF.yld rfl (fun W hW => by go_simp)) ?_
  simp only [List.getElem_toArray, List.getElem_cons_zero, Act.put, List.setIfInBounds_toArray, List.set_cons_zero, List.set_cons_succ]
  refine RegF.take 1 (.string xk) rfl (by kernel_rfl) (by kernel_rfl) (by kernel_rfl) (by kernel_rfl) (fun _ _ _ h => h) hBd (RegF.yld rfl (fun W hW => by have e : W.cell? ⟨w.heap.size, 0, none⟩ = some (.string xk) := (by rw [hW.cell]; rfl); go_simp)) ?_
  simp only [List.getElem_toArray, List.getElem_cons_succ, List.getElem_cons_zero, Act.put, List.setIfInBounds_toArray, List.set_cons_zero, List.set_cons_succ]
  refine RegF.take 3 (.pointer (some ⟨w.heap.size, 2, none⟩)) rfl (by kernel_rfl) (by kernel_rfl) (by kernel_rfl) (by kernel_rfl) (fun _ _ _ h => h) hBd (RegF.yld rfl (fun W hW => by go_simp)) ?_
  simp only [List.getElem_toArray, List.getElem_cons_succ, List.getElem_cons_zero, Act.put, List.setIfInBounds_toArray, List.set_cons_zero, List.set_cons_succ]
  refine RegF.take 4 (.int .i64 (pn : Int)) rfl (by kernel_rfl) (by kernel_rfl) (by kernel_rfl) (by kernel_rfl) (fun _ _ _ h => h) hBd (RegF.yld rfl (fun W hW => by have e : W.cell? ⟨w.heap.size, 2, none⟩ = some (.int .i64 (pn : Int)) := (by rw [hW.cell]; rfl); go_simp)) ?_
  simp only [List.getElem_toArray, List.getElem_cons_succ, List.getElem_cons_zero, Act.put, List.setIfInBounds_toArray, List.set_cons_zero, List.set_cons_succ]
  refine RegF.take 5 (.int .u64 (pn : Int)) rfl (by kernel_rfl) (by kernel_rfl) (by kernel_rfl) (by kernel_rfl) (fun _ _ _ h => h) hBd (RegF.yld rfl (fun W hW => by go_simp)) ?_
  simp only [List.getElem_toArray, List.getElem_cons_succ, List.getElem_cons_zero, Act.put, List.setIfInBounds_toArray, List.set_cons_zero, List.set_cons_succ]
  refine RegF.one 2 (by kernel_rfl) ?_
  refine RegF.opC 35 #[.tmp 5] #[9] rfl rfl rfl (enters_of Try.func35 (by kernel_rfl) rfl) #[.string xk] (by simp only [List.map_toArray, List.map_cons, List.map_nil]; rfl) ((HK _).mono ?_)
  rintro e w5 ⟨v5, rfl, own5, hB5⟩
  obtain ⟨A5, c5, rfl, _⟩ := own5.inB
  have b5 := hBd.below hB5 hBd.lt
  refine ⟨_, rfl, fun _ => b5, ?_⟩
  simp only [List.getElem_toArray, List.getElem_cons_succ, List.getElem_cons_zero, Act.put, List.setIfInBounds_toArray, List.set_cons_zero, List.set_cons_succ]
  refine RegF.one 6 (by kernel_rfl) ?_
  refine RegF.opC 42 #[.tmp 9] #[41] rfl rfl rfl (enters_of Try.func42 (by kernel_rfl) rfl) #[.int .u64 (pn : Int)] (by simp only [List.map_toArray, List.map_cons, List.map_nil]; rfl) ((HN _).mono ?_)
  rintro e w6 ⟨v6, rfl, own6, hB6⟩
  obtain ⟨A6, c6, rfl, in6⟩ := ownB_inG own6
  have b6 := b5.below hB6 b5.lt
  have own5' : w6.ownsRow W1.heap.size 5 1 (.slice A5 l1.length c5) l1.length (l1.map b8) := ownG_grow own5 hB6
  have hB16 : Below W1.heap.size W1 w6 := ((Below.refl _ W1).drew.trans hB5).trans (hB6.mono hB5.size)
  refine ⟨_, rfl, fun _ => b6, ?_⟩
  simp only [List.getElem_toArray, List.getElem_cons_succ, List.getElem_cons_zero, Act.put, List.setIfInBounds_toArray, List.set_cons_zero, List.set_cons_succ]
  refine RegF.one 7 (by kernel_rfl) ?_
  refine opAppN rfl rfl elU8 (.tmp 6) (.tmp 10) rfl W1.heap.size (.slice A5 l1.length c5) l1.length (l1.map b8) rfl own5' _ A6 l2.length c6 (l2.map b8) rfl in6 (by unfold maxLen; omega) (by omega) hB16.size ?_
  intro v7 w7 own7 hg7
  have hB17 := hB16.trans (grown_below hg7 hB16.size (ownG_ge own5'))
  have b7 := b6.grown hg7 (fun e => by have := ownG_ge own5' w.heap.size e.symm; have := HPW.out; omega)
  have own7 := ownB_app own7 HL12.out
  obtain ⟨A7, c7, rfl, _⟩ := own7.inB
  refine ⟨fun _ => b7, ?_⟩
  simp only [List.getElem_toArray, List.getElem_cons_succ, List.getElem_cons_zero, Act.put, List.setIfInBounds_toArray, List.set_cons_zero, List.set_cons_succ]
  refine RegF.one 8 (by kernel_rfl) ?_
  refine RegF.opV (w' := w7) (.slice A7 l12.length c7) rfl rfl (by go_simp) ⟨fun h => absurd rfl h, ?_⟩
  simp only [List.getElem_toArray, List.getElem_cons_succ, List.getElem_cons_zero, Act.put, List.setIfInBounds_toArray, List.set_cons_zero, List.set_cons_succ]
  refine RegF.done (by kernel_rfl) ?_
  have k1 : w7.cell? ⟨w.heap.size, 1, none⟩ = some (.string xv) := by rw [b7.cell]; rfl
  have k2 : w7.cell? ⟨w.heap.size, 2, none⟩ = some (.int .i64 (pn : Int)) := by rw [b7.cell]; rfl
  have k3 : w7.cell? ⟨w.heap.size, 3, none⟩ = some (.int .i64 (sn : Int)) := by rw [b7.cell]; rfl
  clear hBd b5 b6 b7 own5 own6 own5' in6 hB5 hB6 hB16 hg7 b0
  by_cases hp : pn = 0
  · have hv : xv.size ≤ 60 := h3 hp
    have HV := refStr_gives w7 xv (by omega)
    have hlv := bytS_length xv
    have e3 : l3 = bytS xv := by rw [HL3.out, if_pos hp]
    rw [← e3] at HV hlv
    clear e3
    have hln3 : l3.length ≤ 100 := by omega
    unfold GivesB at HV
    subst hp
    clear hlv h3
    go_wp2_with (first
      | (go_at_call 35; refine HV.mono ?_; rintro e w8 ⟨v8, rfl, own8, hB8⟩; obtain ⟨A8, c8, rfl, in8⟩ := ownB_inG own8; have own7' := ownG_grow own7 hB8; have hB18 := hB17.trans (hB8.mono hB17.size))
      | (at_builtin; refine wp_appG rfl elU8 (.tmp 15) (.tmp 18) rfl W1.heap.size (.slice A7 l12.length c7) l12.length (l12.map b8) rfl own7' _ A8 l3.length c8 (l3.map b8) rfl in8 (by unfold maxLen; omega) (by omega) hB18.size ?_; intro v9 w9 own9 hg9))
    go_ret
    exact ⟨v9, rfl, OwnB.base (ownB_app own9 rfl) hBw.size, hBw.trans ((hB18.trans (grown_below hg9 hB18.size (ownG_ge own7'))).mono hBw.size)⟩
  · have hp' : ¬ (pn : Int) = 0 := by omega
    have HV := refNumber_gives sn (by omega) w7
    have hlv := num_length sn
    have e3 : l3 = num sn := by rw [HL3.out, if_neg hp]
    rw [← e3] at HV hlv
    clear e3
    have hln3 : l3.length ≤ 100 := by omega
    unfold GivesB at HV
    clear hlv h3 hp
    go_wp2_with (first
      | (go_at_call 42; refine HV.mono ?_; rintro e w8 ⟨v8, rfl, own8, hB8⟩; obtain ⟨A8, c8, rfl, in8⟩ := ownB_inG own8; have own7' := ownG_grow own7 hB8; have hB18 := hB17.trans (hB8.mono hB17.size))
      | (at_builtin; refine wp_appG rfl elU8 (.tmp 20) (.tmp 24) rfl W1.heap.size (.slice A7 l12.length c7) l12.length (l12.map b8) rfl own7' _ A8 l3.length c8 (l3.map b8) rfl in8 (by unfold maxLen; omega) (by omega) hB18.size ?_; intro v9 w9 own9 hg9))
    go_ret
    exact ⟨v9, rfl, OwnB.base (ownB_app own9 rfl) hBw.size, hBw.trans ((hB18.trans (grown_below hg9 hB18.size (ownG_ge own7'))).mono hBw.size)⟩
end Go.Proofs.Ytlelckdcmlpmdaa
/- louperef12: parts. -/
namespace Go.Proofs.Ytlelckdcmlpmdaa
open Go Go.RowKit Lou

set_option maxRecDepth 100000 in
set_option maxHeartbeats 8000000 in
theorem parts_gives (w : World) (x : Nod) (Ac : Option Addr) (cc : Nat) (Ak : Option Addr) (ck : Nat) (Ai : Option Addr) (ci : Nat) (h : NIs w w.heap.size x Ac cc Ak ck Ai ci) (hl : x.cells.length ≤ 1000000) (hl2 : x.keys.length ≤ 1000000) (hl3 : x.kids.length ≤ 1000000) (hR : RightP x) :
    Calls Try.prog 204 #[.agg (nodC x Ac cc Ak ck Ai ci)] w (LotsOut w (lotsB x)) := by
  have b0 := BlkIs.new w 76 (nodC x Ac cc Ak ck Ai ci)
  have hB : Below w.heap.size w (w.alloc (.cells (nodC x Ac cc Ak ck Ai ci) 76)) := (Below.refl _ w).alloc (Nat.le_refl _) _
  obtain ⟨hc, hk, hi⟩ := h
  have lc := hc.le
  have mc := hc.max
  have lk := hk.le
  have li := hi.le
  obtain ⟨leaf, cells, keys, kids⟩ := x
  unfold nodC at *
  simp only at *
  have hcell : ∀ c ∈ cells, rightB c = true ∧ c.key.size ≤ 81 := fun c hc => by
    cases leaf with
    | true =>
      refine ⟨(hR.leaf rfl).2.2 c hc, ?_⟩
      have := hR.short c.key (List.mem_map.2 ⟨c, hc, rfl⟩)
      unfold shortS at this
      simpa using this
    | false =>
      have e : cells = [] := (hR.inner rfl).1
      rw [e] at hc
      cases hc
  have hkid : ∀ j, (h : j < keys.length) → keys[j].size ≤ 81 ∧ ∃ n : Nat, n ≤ 2000 ∧ ∃ h2 : j + 1 < kids.length, kids[j + 1] = (n : Int) := fun j hj => by
    cases leaf with
    | true =>
      have e : keys = [] := (hR.leaf rfl).1
      subst e
      simp at hj
    | false =>
      obtain ⟨_, _, hlen, hp⟩ := hR.inner rfl
      simp only at hlen hp
      have h2 : j + 1 < kids.length := by omega
      have hp2 := hp _ (List.getElem_mem h2)
      simp only [pageB, Bool.and_eq_true, decide_eq_true_eq] at hp2
      have hs := hR.short keys[j] (List.getElem_mem hj)
      refine ⟨by unfold shortS at hs; simpa using hs, kids[j + 1].toNat, by omega, h2, by omega⟩
  clear hR
  obtain ⟨W1, hW1⟩ : ∃ W1, W1 = w.alloc (.cells #[.bool leaf, .slice Ac cells.length cc, .slice Ak keys.length ck, .slice Ai kids.length ci] 76) := ⟨_, rfl⟩
  rw [← hW1] at b0 hB
  have HW1 := Lib.hid hW1
  clear hW1
  have hp1 := b0.lt
  go_enter Try.func204, Try.ntmps204
  go_wp2_with fail
  rw [← HW1.out]
  go_loopw [3, 4] (fun v i wr => ∃ (k : Nat) (A : Option Addr) (c : Nat) (vs : List Value), k ≤ cells.length ∧ i = .int .i64 k ∧ v = .slice A k c ∧ LotR wr W1.heap.size (.slice A k c) ((cells.take k).map celB) vs ∧ Below W1.heap.size W1 wr) (fun _ i _ => cells.length - (intOf i).toNat)
  case atStart => exact ⟨0, none, 0, [], by omega, rfl, rfl, LotR.none _ _, Below.refl _ _⟩
  case round =>
    obtain ⟨k, A, c, vs, hkl, rfl, rfl, hL, hBr⟩ := hrel
    have c1 : wr.cell? ⟨w.heap.size, 1, none⟩ = some (.slice Ac cells.length cc) := (hBr.cell (p := ⟨w.heap.size, 1, none⟩) hp1).trans (by rw [b0.cell]; rfl)
    by_cases hlt : k < cells.length
    · obtain ⟨g, o, rfl, hg, _⟩ := hc.lies (by omega)
      have hrk : wr.rangeAt g (o + k * 4) (celC cells[k]) := fun j v hj => (hBr.cell (p := ⟨g, o + k * 4 + j, none⟩) (Nat.lt_of_lt_of_le hg hB.size)).trans ((hB.cell (p := ⟨g, o + k * 4 + j, none⟩) hg).trans (cel_at hc rfl k hlt j v hj))
      obtain ⟨hx1, hx2⟩ := hcell _ (List.getElem_mem hlt)
      have htk : (cells.take (k + 1)).map celB = (cells.take k).map celB ++ [celB cells[k]] := by rw [List.take_succ_eq_append_getElem hlt, List.map_append]; rfl
      have hlk : ((cells.take k).map celB).length = k := by rw [List.length_map, List.length_take]; omega
      generalize cells[k] = x at *
      have HCB := rcellB_gives wr x hx1 hx2
      unfold GivesB at HCB
      have hclen := celB_length hx2 hx1
      generalize celB x = kB at *
      generalize (cells.take k).map celB = ls at *
      have HLS := Lib.hid hlk
      have HTK := Lib.hid htk
      have hwk : IntKind.i64.wrap ((k : Int) + 1) = (k : Int) + 1 := wrapN _ (by omega) (by omega)
      have hle1 := hBr.size
      clear htk hlk hx1 hx2
      go_wp2_with (first
        | (refine wp_execN rfl (x_loadM rowCel hrk rfl rfl rfl) ?_)
        | (go_at_call 221; refine HCB.mono ?_; rintro e W9 ⟨v9, rfl, own9, hB9⟩; obtain ⟨A9, c9, rfl, hin9⟩ := own9.inB; have hB10 := hB9.alloc hB9.size (.cells #[.slice A9 kB.length c9] 30); have hL10 := hL.grow hB10; have own10 := hL10.own; rw [HLS.out] at own10; have hbs := Nat.le_trans hle1 hB10.size)
        | (at_builtin; refine wp_appG rfl elLists (.tmp 13) (.tmp 20) rfl W1.heap.size (.slice A k c) k vs rfl own10 _ _ 1 1 [.slice A9 kB.length c9] rfl (row_one W9 30 _ rfl) (by unfold maxLen; omega) (by omega) hbs ?_; intro v11 w11 own11 hg11))
      have hB910 : Below W9.heap.size W9 (W9.alloc (.cells #[.slice A9 kB.length c9] 30)) := (Below.refl _ W9).alloc (Nat.le_refl _) _
      have hL11 := hL10.more (ownG_grow own9 hB910) (by rw [HLS.out]; exact own11) hg11
      obtain ⟨A11, c11, rfl, _⟩ := ownG_in own11 hL11.one
      exact ⟨⟨k + 1, A11, c11, _, by omega, by simp, rfl, by rw [HTK.out]; exact hL11, (hBr.trans (hB10.mono hBr.size)).trans (grown_below hg11 hbs (ownG_ge own10))⟩, by simp [intOf]; omega⟩
    · obtain rfl : k = cells.length := by omega
      rw [List.take_length] at hL
      go_wp2
      go_loopw [3, 5] (fun v i w2 => ∃ (k : Nat) (A : Option Addr) (c : Nat) (vs : List Value), k ≤ keys.length ∧ i = .int .i64 k ∧ v = .slice A (cells.length + k) c ∧ LotR w2 W1.heap.size (.slice A (cells.length + k) c) (cells.map celB ++ (List.range k).map fun j => keyB (keys.getD j ByteArray.empty) (kids.getD (j + 1) 0)) vs ∧ Below W1.heap.size W1 w2) (fun _ i _ => keys.length - (intOf i).toNat)
      case atStart => exact ⟨0, A, c, vs, by omega, rfl, rfl, by simpa using hL, hBr⟩
      case round =>
        clear c1 hBr hL
        obtain ⟨k, A, c, vs, hkl, rfl, rfl, hL, hBr⟩ := hrel
        have c2 : wr.cell? ⟨w.heap.size, 2, none⟩ = some (.slice Ak keys.length ck) := (hBr.cell (p := ⟨w.heap.size, 2, none⟩) hp1).trans (by rw [b0.cell]; rfl)
        by_cases hlt : k < keys.length
        · obtain ⟨hs81, n, hn, hk1, hkn⟩ := hkid k hlt
          obtain ⟨g, o, rfl, hg, _⟩ := hk.lies (by omega)
          obtain ⟨gi, oi, rfl, hgi, _⟩ := hi.lies (by omega)
          have HS2 : ∀ W, Below W1.heap.size W1 W → W.cell? ⟨w.heap.size, 2, none⟩ = some (.slice (some ⟨g, o, none⟩) keys.length ck) := fun W hW => (hW.cell (p := ⟨w.heap.size, 2, none⟩) hp1).trans (by rw [b0.cell]; rfl)
          have HS3 : ∀ W, Below W1.heap.size W1 W → W.cell? ⟨w.heap.size, 3, none⟩ = some (.slice (some ⟨gi, oi, none⟩) kids.length ci) := fun W hW => (hW.cell (p := ⟨w.heap.size, 3, none⟩) hp1).trans (by rw [b0.cell]; rfl)
          have HSk : ∀ W, Below W1.heap.size W1 W → W.cell? ⟨g, o + k, none⟩ = some (.string keys[k]) := fun W hW => (hW.cell (p := ⟨g, o + k, none⟩) (Nat.lt_of_lt_of_le hg hB.size)).trans ((hB.cell (p := ⟨g, o + k, none⟩) hg).trans (str_at hk rfl k hlt))
          obtain ⟨k1, hk1e⟩ : ∃ k1, k1 = k + 1 := ⟨_, rfl⟩
          have HSi : ∀ W, Below W1.heap.size W1 W → W.cell? ⟨gi, oi + k1, none⟩ = some (.int .i64 (n : Int)) := fun W hW => by
            rw [← hkn, hk1e]
            exact (hW.cell (p := ⟨gi, oi + (k + 1), none⟩) (Nat.lt_of_lt_of_le hgi hB.size)).trans ((hB.cell (p := ⟨gi, oi + (k + 1), none⟩) hgi).trans (int_at hi rfl (k + 1) hk1))
          have hka : keyB (keys.getD k ByteArray.empty) (kids.getD (k + 1) 0) = bytS keys[k] ++ num n := by
            unfold keyB
            rw [List.getD_eq_getElem?_getD, List.getElem?_eq_getElem hlt, List.getD_eq_getElem?_getD, List.getElem?_eq_getElem hk1, Option.getD_some, Option.getD_some, hkn]
            rfl
          have hrg : (List.range (k + 1)).map (fun j => keyB (keys.getD j ByteArray.empty) (kids.getD (j + 1) 0)) = (List.range k).map (fun j => keyB (keys.getD j ByteArray.empty) (kids.getD (j + 1) 0)) ++ [bytS keys[k] ++ num n] := by rw [List.range_succ, List.map_append, List.map_singleton, hka]
          have hlk : (cells.map celB ++ (List.range k).map (fun j => keyB (keys.getD j ByteArray.empty) (kids.getD (j + 1) 0))).length = cells.length + k := by simp
          generalize keys[k] = s at *
          have HKB := bytS_length s
          have HNL := num_length n
          have HK := fun W => refStr_gives W s (by omega)
          have HN := fun W => refNumber_gives n (by omega) W
          obtain ⟨kB, hkB⟩ : ∃ kB, bytS s ++ num n = kB := ⟨_, rfl⟩
          generalize hlsd : cells.map celB ++ (List.range k).map (fun j => keyB (keys.getD j ByteArray.empty) (kids.getD (j + 1) 0)) = ls at *
          have HTK : Hid (cells.map celB ++ (List.range (k + 1)).map (fun j => keyB (keys.getD j ByteArray.empty) (kids.getD (j + 1) 0)) = ls ++ [kB]) := Lib.hid (by rw [hrg, ← List.append_assoc, hlsd, hkB])
          have HLS := Lib.hid hlk
          have HKBE := Lib.hid hkB
          have hwk1 : IntKind.i64.wrap ((k : Int) + 1) = (k1 : Int) := by rw [wrapN _ (by omega) (by omega)]; omega
          have i1 : (0 : Int) ≤ (k : Int) := by omega
          have i2 : (k : Int) < (keys.length : Int) := by omega
          have i3 : (0 : Int) ≤ (k1 : Int) := by omega
          have i4 : (k1 : Int) < (kids.length : Int) := by omega
          have hwn : IntKind.u64.wrap (n : Int) = (n : Int) := by simp [IntKind.wrap, IntKind.bits, IntKind.signed]; omega
          have hkBl : kB.length ≤ 1000 := by rw [← hkB, List.length_append]; omega
          have hl1 : (bytS s).length ≤ 1000 := by omega
          generalize bytS s = l1 at *
          generalize num n = l2 at *
          have HK1 := Lib.hid hk1e
          unfold GivesB at HK HN
          have hBd : Below W1.heap.size W1 wr.drew := hBr.drew
          clear hka hrg hlk hlsd hkn HKB hkB hk1e hk1
          go_wp2_with fail
          refine RegF.start (fun W => Below W1.heap.size W1 W) 18 (by kernel_rfl) ?_
          refine RegF.take 0 (.slice A (cells.length + k) c) rfl (by kernel_rfl) (by kernel_rfl) (by kernel_rfl) (by kernel_rfl) (fun _ _ _ h => h) hBd (RegF.yld rfl (fun W hW => by go_simp)) ?_
          simp only [List.getElem_toArray, List.getElem_cons_zero, Act.put, List.setIfInBounds_toArray, List.set_cons_zero, List.set_cons_succ]
          refine RegF.take 1 (.pointer (some ⟨w.heap.size, 2, none⟩)) rfl (by kernel_rfl) (by kernel_rfl) (by kernel_rfl) (by kernel_rfl) (fun _ _ _ h => h) hBd (RegF.yld rfl (fun W hW => by go_simp)) ?_
          simp only [List.getElem_toArray, List.getElem_cons_succ, List.getElem_cons_zero, Act.put, List.setIfInBounds_toArray, List.set_cons_zero, List.set_cons_succ]
          refine RegF.take 2 (.slice (some ⟨g, o, none⟩) keys.length ck) rfl (by kernel_rfl) (by kernel_rfl) (by kernel_rfl) (by kernel_rfl) (fun _ _ _ h => h) hBd (RegF.yld rfl (fun W hW => by have e := HS2 W hW; go_simp)) ?_
          simp only [List.getElem_toArray, List.getElem_cons_succ, List.getElem_cons_zero, Act.put, List.setIfInBounds_toArray, List.set_cons_zero, List.set_cons_succ]
          refine RegF.take 3 (.int .i64 (k : Int)) rfl (by kernel_rfl) (by kernel_rfl) (by kernel_rfl) (by kernel_rfl) (fun _ _ _ h => h) hBd (RegF.yld rfl (fun W hW => by go_simp)) ?_
          simp only [List.getElem_toArray, List.getElem_cons_succ, List.getElem_cons_zero, Act.put, List.setIfInBounds_toArray, List.set_cons_zero, List.set_cons_succ]
          refine RegF.take 4 (.pointer (some ⟨g, o + k, none⟩)) rfl (by kernel_rfl) (by kernel_rfl) (by kernel_rfl) (by kernel_rfl) (fun _ _ _ h => h) hBd (RegF.yld rfl (fun W hW => by go_simp)) ?_
          simp only [List.getElem_toArray, List.getElem_cons_succ, List.getElem_cons_zero, Act.put, List.setIfInBounds_toArray, List.set_cons_zero, List.set_cons_succ]
          refine RegF.take 5 (.string s) rfl (by kernel_rfl) (by kernel_rfl) (by kernel_rfl) (by kernel_rfl) (fun _ _ _ h => h) hBd (RegF.yld rfl (fun W hW => by have e := HSk W hW; go_simp)) ?_
          simp only [List.getElem_toArray, List.getElem_cons_succ, List.getElem_cons_zero, Act.put, List.setIfInBounds_toArray, List.set_cons_zero, List.set_cons_succ]
          refine RegF.take 7 (.pointer (some ⟨w.heap.size, 3, none⟩)) rfl (by kernel_rfl) (by kernel_rfl) (by kernel_rfl) (by kernel_rfl) (fun _ _ _ h => h) hBd (RegF.yld rfl (fun W hW => by go_simp)) ?_
          simp only [List.getElem_toArray, List.getElem_cons_succ, List.getElem_cons_zero, Act.put, List.setIfInBounds_toArray, List.set_cons_zero, List.set_cons_succ]
          refine RegF.take 8 (.slice (some ⟨gi, oi, none⟩) kids.length ci) rfl (by kernel_rfl) (by kernel_rfl) (by kernel_rfl) (by kernel_rfl) (fun _ _ _ h => h) hBd (RegF.yld rfl (fun W hW => by have e := HS3 W hW; go_simp)) ?_
          simp only [List.getElem_toArray, List.getElem_cons_succ, List.getElem_cons_zero, Act.put, List.setIfInBounds_toArray, List.set_cons_zero, List.set_cons_succ]
          refine RegF.take 9 (.int .i64 (k : Int)) rfl (by kernel_rfl) (by kernel_rfl) (by kernel_rfl) (by kernel_rfl) (fun _ _ _ h => h) hBd (RegF.yld rfl (fun W hW => by go_simp)) ?_
          simp only [List.getElem_toArray, List.getElem_cons_succ, List.getElem_cons_zero, Act.put, List.setIfInBounds_toArray, List.set_cons_zero, List.set_cons_succ]
          refine RegF.take 10 (.int .i64 (k1 : Int)) rfl (by kernel_rfl) (by kernel_rfl) (by kernel_rfl) (by kernel_rfl) (fun _ _ _ h => h) hBd (RegF.yld rfl (fun W hW => by go_simp)) ?_
          simp only [List.getElem_toArray, List.getElem_cons_succ, List.getElem_cons_zero, Act.put, List.setIfInBounds_toArray, List.set_cons_zero, List.set_cons_succ]
          refine RegF.take 11 (.pointer (some ⟨gi, oi + k1, none⟩)) rfl (by kernel_rfl) (by kernel_rfl) (by kernel_rfl) (by kernel_rfl) (fun _ _ _ h => h) hBd (RegF.yld rfl (fun W hW => by go_simp)) ?_
          simp only [List.getElem_toArray, List.getElem_cons_succ, List.getElem_cons_zero, Act.put, List.setIfInBounds_toArray, List.set_cons_zero, List.set_cons_succ]
          refine RegF.take 12 (.int .i64 (n : Int)) rfl (by kernel_rfl) (by kernel_rfl) (by kernel_rfl) (by kernel_rfl) (fun _ _ _ h => h) hBd (RegF.yld rfl (fun W hW => by have e := HSi W hW; go_simp)) ?_
          simp only [List.getElem_toArray, List.getElem_cons_succ, List.getElem_cons_zero, Act.put, List.setIfInBounds_toArray, List.set_cons_zero, List.set_cons_succ]
          refine RegF.take 13 (.int .u64 (n : Int)) rfl (by kernel_rfl) (by kernel_rfl) (by kernel_rfl) (by kernel_rfl) (fun _ _ _ h => h) hBd (RegF.yld rfl (fun W hW => by go_simp)) ?_
          simp only [List.getElem_toArray, List.getElem_cons_succ, List.getElem_cons_zero, Act.put, List.setIfInBounds_toArray, List.set_cons_zero, List.set_cons_succ]
          refine RegF.one 6 (by kernel_rfl) ?_
          refine RegF.opC 35 #[.tmp 34] #[9] rfl rfl rfl (enters_of Try.func35 (by kernel_rfl) rfl) #[.string s] (by simp only [List.map_toArray, List.map_cons, List.map_nil]; rfl) ((HK _).mono ?_)
          rintro e w5 ⟨v5, rfl, own5, hB5⟩
          obtain ⟨A5, c5, rfl, _⟩ := own5.inB
          have hd0 : Below wr.heap.size wr wr.drew := (Below.refl _ wr).drew
          have hB05 : Below wr.heap.size wr w5 := hd0.trans hB5
          have hS5 := hBr.trans (hB05.mono hBr.size)
          refine ⟨_, rfl, fun _ => hS5, ?_⟩
          simp only [List.getElem_toArray, List.getElem_cons_succ, List.getElem_cons_zero, Act.put, List.setIfInBounds_toArray, List.set_cons_zero, List.set_cons_succ]
          refine RegF.one 14 (by kernel_rfl) ?_
          refine RegF.opC 42 #[.tmp 42] #[41] rfl rfl rfl (enters_of Try.func42 (by kernel_rfl) rfl) #[.int .u64 (n : Int)] (by simp only [List.map_toArray, List.map_cons, List.map_nil]; rfl) ((HN _).mono ?_)
          rintro e w6 ⟨v6, rfl, own6, hB6⟩
          obtain ⟨A6, c6, rfl, in6⟩ := ownB_inG own6
          have hB06 := hB05.trans (hB6.mono hB05.size)
          have hS6 := hBr.trans (hB06.mono hBr.size)
          have own5' : w6.ownsRow wr.heap.size 5 1 (.slice A5 l1.length c5) l1.length (l1.map b8) := ownG_grow own5 hB6
          refine ⟨_, rfl, fun _ => hS6, ?_⟩
          simp only [List.getElem_toArray, List.getElem_cons_succ, List.getElem_cons_zero, Act.put, List.setIfInBounds_toArray, List.set_cons_zero, List.set_cons_succ]
          refine RegF.one 15 (by kernel_rfl) ?_
          refine opAppN rfl rfl elU8 (.tmp 35) (.tmp 43) rfl wr.heap.size (.slice A5 l1.length c5) l1.length (l1.map b8) rfl own5' _ A6 l2.length c6 (l2.map b8) rfl in6 (by unfold maxLen; omega) (by omega) hB06.size ?_
          intro v7 w7 own7 hg7
          have hB07 := hB06.trans (grown_below hg7 hB06.size (ownG_ge own5'))
          have hS7 := hBr.trans (hB07.mono hBr.size)
          have own7 := ownB_app own7 HKBE.out
          obtain ⟨A9, c9, rfl, _⟩ := own7.inB
          refine ⟨fun _ => hS7, ?_⟩
          simp only [List.getElem_toArray, List.getElem_cons_succ, List.getElem_cons_zero, Act.put, List.setIfInBounds_toArray, List.set_cons_zero, List.set_cons_succ]
          have hB910 : Below w7.heap.size w7 (w7.alloc (.cells #[.slice A9 kB.length c9] 30)) := (Below.refl _ w7).alloc (Nat.le_refl _) _
          have hB10 := hB07.trans (hB910.mono hB07.size)
          have hS10 := hBr.trans (hB10.mono hBr.size)
          refine RegF.one 16 (by kernel_rfl) ?_
          refine RegF.opV (w' := w7.alloc (.cells #[.slice A9 kB.length c9] 30)) (.slice (some ⟨w7.heap.size, 0, none⟩) 1 1) rfl rfl (by go_simp) ⟨fun _ => hS10, ?_⟩
          simp only [List.getElem_toArray, List.getElem_cons_succ, List.getElem_cons_zero, Act.put, List.setIfInBounds_toArray, List.set_cons_zero, List.set_cons_succ]
          have hL10 := hL.grow hB10
          have own10 := hL10.own
          rw [HLS.out] at own10
          have hbs := Nat.le_trans hBr.size hB10.size
          refine RegF.one 17 (by kernel_rfl) ?_
          refine opAppN rfl rfl elLists (.tmp 29) (.tmp 45) rfl W1.heap.size (.slice A (cells.length + k) c) (cells.length + k) vs rfl own10 _ _ 1 1 [.slice A9 kB.length c9] rfl (row_one w7 30 _ rfl) (by unfold maxLen; omega) (by omega) hbs ?_
          intro v11 w11 own11 hg11
          have hL11 := hL10.more (ownG_grow own7 hB910) (by rw [HLS.out]; exact own11) hg11
          obtain ⟨A11, c11, rfl, _⟩ := ownG_in own11 hL11.one
          have hS11 := hS10.trans (grown_below hg11 hbs (ownG_ge own10))
          refine ⟨fun _ => hS11, ?_⟩
          simp only [List.getElem_toArray, List.getElem_cons_succ, List.getElem_cons_zero, Act.put, List.setIfInBounds_toArray, List.set_cons_zero, List.set_cons_succ]
          refine RegF.one 18 (by kernel_rfl) ?_
          refine RegF.opV (w' := w11) (.slice A11 (cells.length + k + 1) c11) rfl rfl (by go_simp) ⟨fun h => absurd rfl h, ?_⟩
          simp only [List.getElem_toArray, List.getElem_cons_succ, List.getElem_cons_zero, Act.put, List.setIfInBounds_toArray, List.set_cons_zero, List.set_cons_succ]
          refine RegF.done (by kernel_rfl) ?_
          go_wp2
          have hk1e := HK1.out
          exact ⟨⟨k + 1, A11, c11, _, by omega, by simp; omega, by rw [Nat.add_assoc], by rw [HTK.out, ← Nat.add_assoc]; exact hL11, hS11⟩, by simp [intOf]; omega⟩
        · obtain rfl : k = keys.length := by omega
          go_wp2
          go_ret
          have hlk : (lotsB ⟨leaf, cells, keys, kids⟩).length = cells.length + keys.length := by simp [lotsB]
          have hle : w.heap.size ≤ W1.heap.size := hB.size
          have hLb : LotR wr w.heap.size (.slice A (cells.length + keys.length) c) (lotsB ⟨leaf, cells, keys, kids⟩) vs := ⟨ownG_base hL.own hle, hL.one, hL.at_⟩
          exact ⟨A, c, vs, by rw [hlk]; rfl, by rw [hlk]; exact hLb, hB.trans (hBr.mono hB.size)⟩
end Go.Proofs.Ytlelckdcmlpmdaa
/- node.where: the walk. -/
namespace Go.Proofs.Ytlelckdcmlpmdaa
open Go Go.RowKit Lou

/-- What where answers. -/
def WhereOut (w : World) (ls : List (List UInt8)) (last : Nat) (e : Ending) (w' : World) : Prop := ∃ k : Nat, e = .returned (.int .i64 (k : Int)) ∧ HalfAt ls last k ∧ Below w.heap.size w w'
theorem sumTo_le (ls : List (List UInt8)) (k : Nat) : sumTo ls k ≤ ls.flatten.length := by
  have := sumTo_rest ls k
  omega
set_option maxRecDepth 100000 in
set_option maxHeartbeats 2000000 in
theorem where_gives (w : World) (base : Nat) (A : Option Addr) (c : Nat) (ls : List (List UInt8)) (vs : List Value) (h : LotR w base (.slice A ls.length c) ls vs) (hf : ls.flatten.length ≤ 1000000) (hm : ls.length ≤ 1000000) (last : Nat) (hlast : last ≤ ls.length) :
    Calls Try.prog 118 #[.slice A ls.length c, .int .i64 (last : Int)] w (WhereOut w ls last) := by
  have HJ := joinedR_gives h (by omega)
  obtain ⟨A', c', e', hin⟩ := ownG_in h.own h.one
  injection e' with e1 e2 e3
  subst e1 e3
  have hle := hin.le
  have hmax := hin.max
  unfold WhereOut
  have hsum : ∀ k, sumTo ls k ≤ ls.flatten.length := sumTo_le ls
  have hhalf : ∀ k, k ≤ last → (∀ j, j < k → 2 * sumTo ls j ≤ ls.flatten.length) → (k = last ∨ ls.flatten.length < 2 * sumTo ls k) → HalfAt ls last k := fun k h1 h2 h3 => ⟨h1, h2, h3⟩
  generalize ls.flatten = fl at *
  go_enter Try.func118, Try.ntmps118
  go_wp2_with (go_at_call 167; refine HJ.mono ?_; rintro e w2 ⟨v, rfl, own, hB⟩; obtain ⟨A2, c2, rfl, hin2⟩ := own.inB)
  have hs0 : sumTo ls 0 = 0 := by simp [sumTo]
  go_loopw [4, 6] (fun i v wr => ∃ (k s : Nat), k ≤ last ∧ i = .int .i64 k ∧ v = .int .i64 s ∧ s = sumTo ls k ∧ (∀ j, j < k → 2 * sumTo ls j ≤ fl.length) ∧ wr = w2) (fun i _ _ => last - (intOf i).toNat)
  case atStart => exact ⟨0, 0, by omega, rfl, rfl, hs0.symm, fun j hj => by omega, rfl⟩
  case round =>
    obtain ⟨k, s, hk, rfl, rfl, hs, hall, rfl⟩ := hrel
    have hsl := hsum k
    have HH := Lib.hid (hhalf k hk)
    have hwk : IntKind.i64.wrap ((k : Int) + 1) = (k : Int) + 1 := wrapN _ (by omega) (by omega)
    have hw2 : IntKind.i64.wrap (2 * (s : Int)) = 2 * (s : Int) := wrapN _ (by omega) (by omega)
    by_cases hlt : k < last
    · by_cases hgo : 2 * s ≤ fl.length
      · obtain ⟨Aj, cj, ej, _⟩ := h.at_ k (by omega)
        obtain ⟨g, o, rfl, hg, hr⟩ := hin.lies (by omega)
        have d0 : wr.cell? ⟨g, o + k, none⟩ = some (.slice Aj ls[k].length cj) := (hB.cell (p := ⟨g, o + k, none⟩) hg).trans (hr k _ ej)
        have hn := sumTo_next ls k (by omega)
        have hsl2 := hsum (k + 1)
        have hgo' : 2 * (s : Int) ≤ (fl.length : Int) := by omega
        have hlt' : (k : Int) < (ls.length : Int) := by omega
        have hlt2 : (k : Int) < (last : Int) := by omega
        have hk0 : (0 : Int) ≤ (k : Int) := by omega
        have hall2 : ∀ j, j < k + 1 → 2 * sumTo ls j ≤ fl.length := fun j hj => by
          by_cases e : j = k
          · subst e; omega
          · exact hall j (by omega)
        have hs2 : s + ls[k].length = sumTo ls (k + 1) := by omega
        have hws : IntKind.i64.wrap ((s : Int) + (ls[k].length : Int)) = ((s + ls[k].length : Nat) : Int) := by rw [wrapN _ (by omega) (by omega)]; omega
        generalize ls[k].length = m at *
        have HS := Lib.hid hs2
        have HA := Lib.hid hall2
        have HAL := Lib.hid hall
        clear hs2 hall2 hall hs hn ej hr h hhalf hsum
        go_wp2
        exact ⟨⟨k + 1, s + m, by omega, by simp, by simp, HS.out, HA.out, by simp⟩, by simp [intOf]; omega⟩
      · have hgo' : ¬ 2 * (s : Int) ≤ (fl.length : Int) := by omega
        have hlt2 : (k : Int) < (last : Int) := by omega
        have HS := Lib.hid hs
        have HA := Lib.hid hall
        clear hs hall h hhalf hsum
        go_wp2
        go_ret
        exact ⟨k, rfl, HH.out HA.out (.inr (by rw [← HS.out]; omega)), hB⟩
    · obtain rfl : k = last := by omega
      have hn : ¬ (k : Int) < (k : Int) := by omega
      have HS := Lib.hid hs
      have HA := Lib.hid hall
      clear hs hall h hhalf hsum
      go_wp2
      go_ret
      exact ⟨k, by simp, HH.out HA.out (.inl (by simp)), hB⟩
end Go.Proofs.Ytlelckdcmlpmdaa
