/- loupelaw05.FrameTorn: the walk. -/
import Derived.Test.YtlelckdcmlpmdaaLawHeads
import Derived.Test.YtlelckdcmlpmdaaReg6
namespace Go.Proofs.Ytlelckdcmlpmdaa
open Go Go.RowKit Lou

/-- What the mixed bytes are told to be. -/
theorem torn_says {s e z c s' e' z' c' : Nat} (hs : s < 2 ^ 64) (he : e < 2 ^ 64) (hz : z ≤ 2000) (hc : c ≤ 2000) (hs' : s' < 2 ^ 64) (he' : e' < 2 ^ 64) (hz' : z' ≤ 2000) (hc' : c' ≤ 2000) (m : Nat) :
    decHV ((headW s e z c).take m ++ (headW s' e' z' c').drop m) = .tuple #[.agg #[.int .u64 0, .int .u64 0, .int .i64 0, .int .i64 0], .int .i64 150] ∨
    decHV ((headW s e z c).take m ++ (headW s' e' z' c').drop m) = .tuple #[.agg #[.int .u64 (s : Int), .int .u64 (e : Int), .int .i64 (z : Int), .int .i64 (c : Int)], .int .i64 0] ∨
    decHV ((headW s e z c).take m ++ (headW s' e' z' c').drop m) = .tuple #[.agg #[.int .u64 (s' : Int), .int .u64 (e' : Int), .int .i64 (z' : Int), .int .i64 (c' : Int)], .int .i64 0] := by
  cases hi : isHead ((headW s e z c).take m ++ (headW s' e' z' c').drop m) with
  | false => exact .inl (decHV_no hi)
  | true =>
    right
    rcases isHead_torn m hi with h | h
    · left
      rw [h]
      exact decHV_headW hs he hz hc
    · right
      rw [h]
      exact decHV_headW hs' he' hz' hc'

set_option maxRecDepth 100000 in
set_option maxHeartbeats 8000000 in
theorem lawTorn_mix (s e z c s' e' z' c' : Nat) (hs : s < 2 ^ 64) (he : e < 2 ^ 64) (hz : z ≤ 2000) (hc : c ≤ 2000) (hs' : s' < 2 ^ 64) (he' : e' < 2 ^ 64) (hz' : z' ≤ 2000) (hc' : c' ≤ 2000) (m : Nat) (hm : m ≤ 64) (w : World) :
    Calls Try.prog 14 #[.agg #[.int .u64 (s : Int), .int .u64 (e : Int), .int .i64 (z : Int), .int .i64 (c : Int)], .agg #[.int .u64 (s' : Int), .int .u64 (e' : Int), .int .i64 (z' : Int), .int .i64 (c' : Int)], .int .i64 (m : Int)] w fun e w' => e = .returned (.bool true) ∧ Below w.heap.size w w' := by
  have hB0 : Below w.heap.size w ((w.alloc (.cells #[.int .u64 (s : Int), .int .u64 (e : Int), .int .i64 (z : Int), .int .i64 (c : Int)] 109)).alloc (.cells #[.int .u64 (s' : Int), .int .u64 (e' : Int), .int .i64 (z' : Int), .int .i64 (c' : Int)] 109)) := ((Below.refl _ w).alloc (Nat.le_refl _) _).alloc (by simp) _
  have hb0 := (BlkIs.new w 109 #[.int .u64 (s : Int), .int .u64 (e : Int), .int .i64 (z : Int), .int .i64 (c : Int)]).alloc (.cells #[.int .u64 (s' : Int), .int .u64 (e' : Int), .int .i64 (z' : Int), .int .i64 (c' : Int)] 109)
  have hk0 := BlkIs.new (w.alloc (.cells #[.int .u64 (s : Int), .int .u64 (e : Int), .int .i64 (z : Int), .int .i64 (c : Int)] 109)) 109 #[.int .u64 (s' : Int), .int .u64 (e' : Int), .int .i64 (z' : Int), .int .i64 (c' : Int)]
  rw [World.size_alloc] at hk0
  have E1 : ∀ W, Calls Try.prog 70 #[.agg #[.int .u64 (s : Int), .int .u64 (e : Int), .int .i64 (z : Int), .int .i64 (c : Int)]] W (GivesBE W (headW s e z c) 0) := fun W => by
    have h := encodeHead_gives s e z c W
    rw [(hEnc_ok hz hc).1, (hEnc_ok (s := s) (e := e) hz hc).2] at h
    exact h
  have E2 : ∀ W, Calls Try.prog 70 #[.agg #[.int .u64 (s' : Int), .int .u64 (e' : Int), .int .i64 (z' : Int), .int .i64 (c' : Int)]] W (GivesBE W (headW s' e' z' c') 0) := fun W => by
    have h := encodeHead_gives s' e' z' c' W
    rw [(hEnc_ok hz' hc').1, (hEnc_ok (s := s') (e := e') hz' hc').2] at h
    exact h
  have hX := headW_length s e z c
  have hY := headW_length s' e' z' c'
  have hsay := torn_says hs he hz hc hs' he' hz' hc' m
  generalize headW s e z c = X at *
  generalize headW s' e' z' c' = Y at *
  have HS := Lib.hid hsay
  clear hsay hs he hz hc hs' he' hz' hc'
  have hm0 : (0 : Int) ≤ (m : Int) := by omega
  have hm1 : ¬ (64 : Int) < (m : Int) := by omega
  have hq : ((X.length : Int) == (Y.length : Int)) = true := by rw [hX, hY]; rfl
  have hq2 : ((X.length : Int) != (Y.length : Int)) = false := by rw [hX, hY]; rfl
  have hm2 : ¬ (X.length : Int) < (m : Int) := by omega
  have HX := Lib.hid hX
  have HY := Lib.hid hY
  clear hX hY
  go_enter Try.func14, Try.ntmps14
  go_wp2_with fail
  refine (E1 _).mono ?_
  rintro x W2 ⟨A2, c2, rfl, hin2, hB⟩
  have hB2 := hB0.trans (hB.mono hB0.size)
  have hb2 := hb0.below hB hb0.lt
  have hk2 := hk0.below hB hk0.lt
  clear hB hb0 hk0 hB0 E1
  go_wp2_with (refine wp_loadW rfl 109 (.tmp 4) rfl (w.heap.size + 1) rfl rowHead hk2 (by rfl) ?_)
  refine (E2 _).mono ?_
  rintro x W3 ⟨A3, c3, rfl, hy, hB⟩
  have hB3 := hB2.trans (hB.mono hB2.size)
  have hb3 := hb2.below hB hb2.lt
  have hk3 := hk2.below hB hk2.lt
  have hx := (hin2.below hB).more hB.size
  clear hB hb2 hk2 hB2 E2 hin2
  go_wp2_with (first
    | (go_at_call 60; refine (num5_gives _ _).mono ?_; rintro x w' ⟨rfl, rfl⟩))
  have hmx : m ≤ X.length := by rw [HX.out]; exact hm
  have hmy : m ≤ Y.length := by rw [HY.out]; exact hm
  have hxt : ∀ W, Below W3.heap.size W3 W → InB W W.heap.size A2 c2 (X.take m) := fun W hB => ((hx.below hB).more hB.size).take m c2 hmx (by have := hx.le; omega) (Nat.le_refl _)
  have hyd : ∀ W, Below W3.heap.size W3 W → InB W W.heap.size (cutA A3 c3 m) (c3 - m) (Y.drop m) := fun W hB => ((hy.below hB).more hB.size).drop m hmy
  have hXl := HX.out
  have hYl := HY.out
  have hBs3 := hB3.size
  obtain ⟨p0, p1, p2, p3, r, hV⟩ := decHV_form (X.take m ++ Y.drop m)
  have hdec : ∀ W A c, InB W W.heap.size A c ([] ++ X.take m ++ Y.drop m) → Calls Try.prog 72 #[.slice A ([] ++ X.take m ++ Y.drop m).length c] W fun e w' => e = .returned (.tuple #[.agg #[.int .u64 p0, .int .u64 p1, .int .i64 p2, .int .i64 p3], .int .i64 r]) ∧ Below W.heap.size W w' := fun W A c hin => by
    have h := decodeHead_gives W A c _ hin
    rw [List.nil_append, hV] at h
    rw [List.nil_append]
    exact h
  have HV := Lib.hid hV
  clear hV
  open Reg in
  refine region4_facts (by kernel_rfl) (by kernel_rfl) 76 rfl (by kernel_rfl) [48, 49, 50, 51, 52, 53, 54, 55, 56, 57, 47, 58, 59, 11, 12] (by kernel_rfl)
    [(7, .val (.slice A2 X.length c2)), (9, .val (.slice A3 Y.length c3)), (2, .val (.int .i64 (m : Int)))]
    [(48, .any), (49, .val (.slice A2 X.length c2)), (50, .val (.int .i64 (m : Int))), (51, .val (.slice A2 (X.take m).length c2)), (52, .any), (53, .val (.slice A3 Y.length c3)), (54, .val (.int .i64 (m : Int))), (55, .val (.slice (cutA A3 c3 m) (Y.drop m).length (c3 - m))), (56, .any), (57, .val (.tuple #[.agg #[.int .u64 p0, .int .u64 p1, .int .i64 p2, .int .i64 p3], .int .i64 r])), (47, .val (.tuple #[.agg #[.int .u64 p0, .int .u64 p1, .int .i64 p2, .int .i64 p3], .int .i64 r])), (58, .val (.agg #[.int .u64 p0, .int .u64 p1, .int .i64 p2, .int .i64 p3])), (59, .val (.int .i64 r)), (11, .any), (12, .val (.int .i64 r))]
    (fun _ => none) ⟨rfl, rfl, rfl, trivial⟩ (by kernel_rfl) W3.heap.size W3
    [[rowSt (some 8) (.slot 56) W3.heap.size ([] ++ X.take m ++ Y.drop m), rowSt (some 4) (.slot 52) W3.heap.size ([] ++ X.take m), rowSt (some 0) (.slot 48) W3.heap.size []], [varSt (some 14) (.slot 11) 109 #[.int .u64 p0, .int .u64 p1, .int .i64 p2, .int .i64 p3], varSt (some 13) (.slot 11) 109 #[.int .u64 0, .int .u64 0, .int .i64 0, .int .i64 0]]]
    (WC.start (by kernel_rfl) (Below.refl _ _).drew (Nat.le_refl _) _ _)
    ⟨s_lit0 (by kernel_rfl) 0 [rowSt (some 8) (.slot 56) W3.heap.size ([] ++ X.take m ++ Y.drop m), rowSt (some 4) (.slot 52) W3.heap.size ([] ++ X.take m)] 48 rfl (by kernel_rfl) (by kernel_rfl) rfl rfl rfl (fun _ => (by kernel_rfl)),
    op4_of (by kernel_rfl) (by kernel_rfl) (factsG_grow _) (fun g w0 hlt => ok_none rfl (l_mvF 7 (.val (.slice A2 X.length c2)) (.inl rfl) (by kernel_rfl) (by kernel_rfl) (by kernel_rfl))) (by kernel_rfl),
    op4_of (by kernel_rfl) (by kernel_rfl) (factsG_grow _) (fun g w0 hlt => ok_none rfl (l_mvF 2 (.val (.int .i64 (m : Int))) (.inl rfl) (by kernel_rfl) (by kernel_rfl) (by kernel_rfl))) (by kernel_rfl),
    op4_of (by kernel_rfl) (by kernel_rfl) (factsG_grow _) (fun g w0 hlt => ok_none rfl (l_run2W (.tmp 49) (.tmp 50) (.val (.slice A2 (X.take m).length c2)) (.slice A2 X.length c2) (.int .i64 (m : Int)) (hs 49 _ (by kernel_rfl) (by kernel_rfl)) (hs 50 _ (by kernel_rfl) (by kernel_rfl)) (fun ρ w hg h1 h2 => ⟨_, w, cut_take rfl h1 h2 hmx hx.le, Grow.refl _, rfl⟩) (by kernel_rfl))) (by kernel_rfl),
    s_append (by kernel_rfl) 0 [rowSt (some 8) (.slot 56) W3.heap.size ([] ++ X.take m ++ Y.drop m)] (some 0) (.slot 48) [] [] (X.take m) 52 (.tmp 48) (.tmp 51) rfl (by kernel_rfl) (by kernel_rfl) rfl rfl rfl (fun _ => (by kernel_rfl)) (fun _ => rfl) (fun g a w hl hB => ⟨A2, c2, valAt (.slice A2 (X.take m).length c2) hl (by kernel_rfl) (by kernel_rfl) (by kernel_rfl), hxt w hB⟩) (by simp; omega),
    op4_of (by kernel_rfl) (by kernel_rfl) (factsG_grow _) (fun g w0 hlt => ok_none rfl (l_mvF 9 (.val (.slice A3 Y.length c3)) (.inl rfl) (by kernel_rfl) (by kernel_rfl) (by kernel_rfl))) (by kernel_rfl),
    op4_of (by kernel_rfl) (by kernel_rfl) (factsG_grow _) (fun g w0 hlt => ok_none rfl (l_mvF 2 (.val (.int .i64 (m : Int))) (.inl rfl) (by kernel_rfl) (by kernel_rfl) (by kernel_rfl))) (by kernel_rfl),
    op4_of (by kernel_rfl) (by kernel_rfl) (factsG_grow _) (fun g w0 hlt => ok_none rfl (l_run2W (.tmp 53) (.tmp 54) (.val (.slice (cutA A3 c3 m) (Y.drop m).length (c3 - m))) (.slice A3 Y.length c3) (.int .i64 (m : Int)) (hs 53 _ (by kernel_rfl) (by kernel_rfl)) (hs 54 _ (by kernel_rfl) (by kernel_rfl)) (fun ρ w hg h1 h2 => ⟨_, w, cut_drop rfl h1 h2 hmy hy.le, Grow.refl _, rfl⟩) (by kernel_rfl))) (by kernel_rfl),
    s_append (by kernel_rfl) 0 [] (some 4) (.slot 52) [rowSt (some 0) (.slot 48) W3.heap.size []] ([] ++ X.take m) (Y.drop m) 56 (.tmp 52) (.tmp 55) rfl (by kernel_rfl) (by kernel_rfl) rfl rfl rfl (fun _ => (by kernel_rfl)) (fun _ => rfl) (fun g a w hl hB => ⟨_, _, valAt (.slice (cutA A3 c3 m) (Y.drop m).length (c3 - m)) hl (by kernel_rfl) (by kernel_rfl) (by kernel_rfl), hyd w hB⟩) (by simp; omega),
    s_callRow (by kernel_rfl) (by kernel_rfl) 0 [] (some 8) (.slot 56) [rowSt (some 4) (.slot 52) W3.heap.size ([] ++ X.take m), rowSt (some 0) (.slot 48) W3.heap.size []] ([] ++ X.take m ++ Y.drop m) rfl (by kernel_rfl) (later_nil _) rfl 72 (.tmp 56) _ rfl (fun _ => rfl) (enters_of Try.func72 (by kernel_rfl) rfl) (.val (.tuple #[.agg #[.int .u64 p0, .int .u64 p1, .int .i64 p2, .int .i64 p3], .int .i64 r])) (fun g w A c hlt hin => gives_grow (hdec w A c hin)) (fun g => (by kernel_rfl)),
    op4_of (by kernel_rfl) (by kernel_rfl) (factsG_grow _) (fun g w0 hlt => ok_none rfl (l_mvF 57 (.val (.tuple #[.agg #[.int .u64 p0, .int .u64 p1, .int .i64 p2, .int .i64 p3], .int .i64 r])) (.inl rfl) (by kernel_rfl) (by kernel_rfl) (by kernel_rfl))) (by kernel_rfl),
    op4_of (by kernel_rfl) (by kernel_rfl) (factsG_grow _) (fun g w0 hlt => ok_none rfl (l_extract (.tmp 47) 0 #[.agg #[.int .u64 p0, .int .u64 p1, .int .i64 p2, .int .i64 p3], .int .i64 r] (.agg #[.int .u64 p0, .int .u64 p1, .int .i64 p2, .int .i64 p3]) rfl (hs 47 (.tuple #[.agg #[.int .u64 p0, .int .u64 p1, .int .i64 p2, .int .i64 p3], .int .i64 r]) (by kernel_rfl) (by kernel_rfl)) rfl (by kernel_rfl))) (by kernel_rfl),
    op4_of (by kernel_rfl) (by kernel_rfl) (factsG_grow _) (fun g w0 hlt => ok_none rfl (l_extract (.tmp 47) 1 #[.agg #[.int .u64 p0, .int .u64 p1, .int .i64 p2, .int .i64 p3], .int .i64 r] (.int .i64 r) rfl (hs 47 (.tuple #[.agg #[.int .u64 p0, .int .u64 p1, .int .i64 p2, .int .i64 p3], .int .i64 r]) (by kernel_rfl) (by kernel_rfl)) rfl (by kernel_rfl))) (by kernel_rfl),
    s_alloc (by kernel_rfl) 1 [varSt (some 14) (.slot 11) 109 #[.int .u64 p0, .int .u64 p1, .int .i64 p2, .int .i64 p3]] 109 #[.int .u64 0, .int .u64 0, .int .i64 0, .int .i64 0] 11 rfl (by kernel_rfl) (by kernel_rfl) rfl rfl rfl (fun _ => (by kernel_rfl)) (fun ρ w => by simp [execOp, go_sem, Result.andThen]),
    s_store (by kernel_rfl) 1 [] (some 13) [] 109 #[.int .u64 0, .int .u64 0, .int .i64 0, .int .i64 0] #[.int .u64 p0, .int .u64 p1, .int .i64 p2, .int .i64 p3] 11 (.tmp 58) rfl (by kernel_rfl) (by kernel_rfl) rfl rfl rfl rowHead rfl rfl (head_one _ _ _ _) (fun g a w hl => valAt (.agg #[.int .u64 p0, .int .u64 p1, .int .i64 p2, .int .i64 p3]) hl (by kernel_rfl) (by kernel_rfl) (by kernel_rfl)),
    op4_of (by kernel_rfl) (by kernel_rfl) (factsG_grow _) (fun g w0 hlt => ok_none rfl (l_mvF 59 (.val (.int .i64 r)) (.inr rfl) (by kernel_rfl) (by kernel_rfl) (by kernel_rfl))) (by kernel_rfl),
    trivial⟩ ?_
  intro g listed a W5 hlsz hall hJ hF
  have hBW5 := hJ.wc.below
  have hsz := hJ.size
  have hdef := hJ.defers
  have hU := hJ.rest
  have hge := hJ.wc.ge
  have e12 : a.eval (.tmp 12) = .int .i64 r := hF 12
  obtain ⟨⟨b11, e11, hb11⟩, hg11⟩ := hJ.end_ hall hlsz 1 _ _ rfl (fun i h => by injection h with h; subst h; decide)
  replace e11 : a.eval (.tmp 11) = .pointer (some ⟨b11, 0, none⟩) := e11
  have hgb11 : g 1 = some b11 := by rw [hg11]; show Reg.ptrBlock (a.eval (.tmp 11)) = _; rw [e11]; rfl
  have hbB11 := hge 1 _ hgb11
  clear hg11 hgb11
  clear hall hJ hge
  have ha := Reg.acts_eq [48, 49, 50, 51, 52, 53, 54, 55, 56, 57, 47, 58, 59, 11, 12] hsz hdef hU
  clear hF hU hdef
  simp only [List.foldl_cons, List.foldl_nil, e12, e11] at ha
  clear e12 e11 hsz
  generalize a.eval (.tmp 48) = v48 at *
  generalize a.eval (.tmp 49) = v49 at *
  generalize a.eval (.tmp 50) = v50 at *
  generalize a.eval (.tmp 51) = v51 at *
  generalize a.eval (.tmp 52) = v52 at *
  generalize a.eval (.tmp 53) = v53 at *
  generalize a.eval (.tmp 54) = v54 at *
  generalize a.eval (.tmp 55) = v55 at *
  generalize a.eval (.tmp 56) = v56 at *
  generalize a.eval (.tmp 57) = v57 at *
  generalize a.eval (.tmp 47) = v47 at *
  generalize a.eval (.tmp 58) = v58 at *
  generalize a.eval (.tmp 59) = v59 at *
  simp only [Act.put, List.setIfInBounds_toArray, List.set_cons_succ, List.set_cons_zero] at ha
  subst ha
  simp only [Exit.then]
  refine ‹∀ (a : Act) (w : World), Code.wp Try.prog _ _ a w → _› _ W5 ?_
  clear hXl hYl hdec hxt hyd hmx hmy
  have hb5 := hb3.below hBW5 hb3.lt
  have hk5 := hk3.below hBW5 hk3.lt
  have hB05 : Below w.heap.size w W5 := hB3.trans (hBW5.mono hBs3)
  have cA0 : W5.cell? ⟨b11, 0, none⟩ = some (.int .u64 p0) := by rw [hb11.cell]; rfl
  have cA1 : W5.cell? ⟨b11, 1, none⟩ = some (.int .u64 p1) := by rw [hb11.cell]; rfl
  have cA2 : W5.cell? ⟨b11, 2, none⟩ = some (.int .i64 p2) := by rw [hb11.cell]; rfl
  have cA3 : W5.cell? ⟨b11, 3, none⟩ = some (.int .i64 p3) := by rw [hb11.cell]; rfl
  have cB0 : W5.cell? ⟨w.heap.size, 0, none⟩ = some (.int .u64 (s : Int)) := by rw [hb5.cell]; rfl
  have cB1 : W5.cell? ⟨w.heap.size, 1, none⟩ = some (.int .u64 (e : Int)) := by rw [hb5.cell]; rfl
  have cB2 : W5.cell? ⟨w.heap.size, 2, none⟩ = some (.int .i64 (z : Int)) := by rw [hb5.cell]; rfl
  have cB3 : W5.cell? ⟨w.heap.size, 3, none⟩ = some (.int .i64 (c : Int)) := by rw [hb5.cell]; rfl
  have cC0 : W5.cell? ⟨w.heap.size + 1, 0, none⟩ = some (.int .u64 (s' : Int)) := by rw [hk5.cell]; rfl
  have cC1 : W5.cell? ⟨w.heap.size + 1, 1, none⟩ = some (.int .u64 (e' : Int)) := by rw [hk5.cell]; rfl
  have cC2 : W5.cell? ⟨w.heap.size + 1, 2, none⟩ = some (.int .i64 (z' : Int)) := by rw [hk5.cell]; rfl
  have cC3 : W5.cell? ⟨w.heap.size + 1, 3, none⟩ = some (.int .i64 (c' : Int)) := by rw [hk5.cell]; rfl
  clear hb11 hb5 hk5 hb3 hk3 hB3 hx hy hBW5 hbB11
  have hV := HV.out
  have hS := HS.out
  rw [hV] at hS
  clear HV HS hV
  rcases hS with h | h | h
  · obtain ⟨⟨rfl, rfl, rfl, rfl⟩, rfl⟩ : (p0 = 0 ∧ p1 = 0 ∧ p2 = 0 ∧ p3 = 0) ∧ r = 150 := by simpa using h
    clear h
    go_wp2_with (first
      | (go_at_call 60; refine (num5_gives _ _).mono ?_; rintro x w' ⟨rfl, rfl⟩)
      | (go_at_call 62; refine (works5_gives _).mono ?_; rintro x W10 ⟨rfl, hB⟩))
    go_ret
    exact ⟨rfl, hB05.trans (hB.mono hB05.size)⟩
  · obtain ⟨⟨rfl, rfl, rfl, rfl⟩, rfl⟩ : (p0 = s ∧ p1 = e ∧ p2 = z ∧ p3 = c) ∧ r = 0 := by simpa using h
    clear h
    go_wp2_with (first
      | (go_at_call 60; refine (num5_gives _ _).mono ?_; rintro x w' ⟨rfl, rfl⟩)
      | (go_at_call 62; refine (works5_gives _).mono ?_; rintro x W10 ⟨rfl, hB⟩))
    go_ret
    exact ⟨rfl, hB05.trans (hB.mono hB05.size)⟩
  · obtain ⟨⟨rfl, rfl, rfl, rfl⟩, rfl⟩ : (p0 = s' ∧ p1 = e' ∧ p2 = z' ∧ p3 = c') ∧ r = 0 := by simpa using h
    clear h
    go_wp2_with (first
      | (go_at_call 60; refine (num5_gives _ _).mono ?_; rintro x w' ⟨rfl, rfl⟩)
      | (go_at_call 62; refine (works5_gives _).mono ?_; rintro x W10 ⟨rfl, hB⟩))
    all_goals
      go_ret
      exact ⟨rfl, hB05.trans (hB.mono hB05.size)⟩
set_option maxRecDepth 100000 in
set_option maxHeartbeats 8000000 in
theorem lawTorn_out (s e : Nat) (z c : Int) (s' e' : Nat) (z' c' : Int) (m : Int) (w : World) (ho : headOk z c = false ∨ headOk z' c' = false ∨ (headOk z c = true ∧ headOk z' c' = true ∧ (m < 0 ∨ 64 < m))) :
    Calls Try.prog 14 #[.agg #[.int .u64 (s : Int), .int .u64 (e : Int), .int .i64 z, .int .i64 c], .agg #[.int .u64 (s' : Int), .int .u64 (e' : Int), .int .i64 z', .int .i64 c'], .int .i64 m] w fun e w' => e = .returned (.bool true) ∧ Below w.heap.size w w' := by
  have hB0 : Below w.heap.size w ((w.alloc (.cells #[.int .u64 (s : Int), .int .u64 (e : Int), .int .i64 z, .int .i64 c] 109)).alloc (.cells #[.int .u64 (s' : Int), .int .u64 (e' : Int), .int .i64 z', .int .i64 c'] 109)) := ((Below.refl _ w).alloc (Nat.le_refl _) _).alloc (by simp) _
  have hk0 := BlkIs.new (w.alloc (.cells #[.int .u64 (s : Int), .int .u64 (e : Int), .int .i64 z, .int .i64 c] 109)) 109 #[.int .u64 (s' : Int), .int .u64 (e' : Int), .int .i64 z', .int .i64 c']
  rw [World.size_alloc] at hk0
  have E1 := fun W => encodeHead_gives s e z c W
  have E2 := fun W => encodeHead_gives s' e' z' c' W
  have l1 : headOk z c = true → (hEnc s e z c).length = 64 := fun h => by simp [hEnc, h, headW_length]
  have l2 : headOk z' c' = true → (hEnc s' e' z' c').length = 64 := fun h => by simp [hEnc, h, headW_length]
  have n1 : (headOk z c = true ∧ hErr z c = 0) ∨ (headOk z c = false ∧ hErr z c = 2) := by cases h : headOk z c <;> simp [hErr, h]
  have n2 : (headOk z' c' = true ∧ hErr z' c' = 0) ∨ (headOk z' c' = false ∧ hErr z' c' = 2) := by cases h : headOk z' c' <;> simp [hErr, h]
  generalize hEnc s e z c = X at *
  generalize hEnc s' e' z' c' = Y at *
  generalize hErr z c = r1 at *
  generalize hErr z' c' = r2 at *
  have key : (r1 + r2 ≠ 0 ∧ 0 ≤ r1 ∧ r1 ≤ 2 ∧ 0 ≤ r2 ∧ r2 ≤ 2) ∨ (r1 = 0 ∧ r2 = 0 ∧ X.length = 64 ∧ Y.length = 64 ∧ (m < 0 ∨ 64 < m)) := by
    rcases ho with h | h | ⟨h, h', hm⟩
    · left
      rcases n1 with ⟨a, _⟩ | ⟨_, b⟩
      · rw [h] at a; cases a
      · rcases n2 with ⟨_, b2⟩ | ⟨_, b2⟩ <;> omega
    · left
      rcases n2 with ⟨a, _⟩ | ⟨_, b⟩
      · rw [h] at a; cases a
      · rcases n1 with ⟨_, b2⟩ | ⟨_, b2⟩ <;> omega
    · right
      rcases n1 with ⟨_, b⟩ | ⟨a, _⟩
      · rcases n2 with ⟨_, b2⟩ | ⟨a2, _⟩
        · exact ⟨b, b2, l1 h, l2 h', hm⟩
        · rw [h'] at a2; cases a2
      · rw [h] at a; cases a
  clear n1 n2 l1 l2 ho
  rcases key with ⟨hne, b1, b2, b3, b4⟩ | ⟨rfl, rfl, hX, hY, hm⟩
  · have hw1 : IntKind.i64.wrap (r1 + r2) = r1 + r2 := wrap_i64_fr _ (by omega) (by omega)
    have hq : ((r1 + r2) == 0) = false := by simpa using hne
    have hq2 : ((r1 + r2) != 0) = true := by simpa using hne
    go_enter Try.func14, Try.ntmps14
    go_wp2_with fail
    refine (E1 _).mono ?_
    rintro x W2 ⟨A2, c2, rfl, hin2, hB⟩
    have hB2 := hB0.trans (hB.mono hB0.size)
    have hk2 := hk0.below hB hk0.lt
    clear hB hk0 hB0 E1 hin2
    go_wp2_with (refine wp_loadW rfl 109 (.tmp 4) rfl (w.heap.size + 1) rfl rowHead hk2 (by rfl) ?_)
    refine (E2 _).mono ?_
    rintro x W3 ⟨A3, c3, rfl, hy, hB⟩
    have hB3 := hB2.trans (hB.mono hB2.size)
    clear hB hk2 hB2 E2 hy
    go_wp2_with (first
      | (go_at_call 60; refine (num5_gives _ _).mono ?_; rintro x w' ⟨rfl, rfl⟩)
      | (go_at_call 62; refine (works5_gives _).mono ?_; rintro x W10 ⟨rfl, hB⟩))
    all_goals
      go_ret
      exact ⟨rfl, hB3.trans (hB.mono hB3.size)⟩
  · have hq : ((X.length : Int) == (Y.length : Int)) = true := by rw [hX, hY]; rfl
    have hq2 : ((X.length : Int) != (Y.length : Int)) = false := by rw [hX, hY]; rfl
    rcases hm with hm | hm
    · clear hX hY
      go_enter Try.func14, Try.ntmps14
      go_wp2_with fail
      refine (E1 _).mono ?_
      rintro x W2 ⟨A2, c2, rfl, hin2, hB⟩
      have hB2 := hB0.trans (hB.mono hB0.size)
      have hk2 := hk0.below hB hk0.lt
      clear hB hk0 hB0 E1 hin2
      go_wp2_with (refine wp_loadW rfl 109 (.tmp 4) rfl (w.heap.size + 1) rfl rowHead hk2 (by rfl) ?_)
      refine (E2 _).mono ?_
      rintro x W3 ⟨A3, c3, rfl, hy, hB⟩
      have hB3 := hB2.trans (hB.mono hB2.size)
      clear hB hk2 hB2 E2 hy
      go_wp2_with (first
        | (go_at_call 60; refine (num5_gives _ _).mono ?_; rintro x w' ⟨rfl, rfl⟩)
        | (go_at_call 62; refine (works5_gives _).mono ?_; rintro x W10 ⟨rfl, hB⟩))
      all_goals
        go_ret
        exact ⟨rfl, hB3.trans (hB.mono hB3.size)⟩
    · have hm1 : ¬ m < 0 := by omega
      have hm2 : (X.length : Int) < m := by rw [hX]; exact hm
      clear hX hY
      go_enter Try.func14, Try.ntmps14
      go_wp2_with fail
      refine (E1 _).mono ?_
      rintro x W2 ⟨A2, c2, rfl, hin2, hB⟩
      have hB2 := hB0.trans (hB.mono hB0.size)
      have hk2 := hk0.below hB hk0.lt
      clear hB hk0 hB0 E1 hin2
      go_wp2_with (refine wp_loadW rfl 109 (.tmp 4) rfl (w.heap.size + 1) rfl rowHead hk2 (by rfl) ?_)
      refine (E2 _).mono ?_
      rintro x W3 ⟨A3, c3, rfl, hy, hB⟩
      have hB3 := hB2.trans (hB.mono hB2.size)
      clear hB hk2 hB2 E2 hy
      go_wp2_with (first
        | (go_at_call 60; refine (num5_gives _ _).mono ?_; rintro x w' ⟨rfl, rfl⟩)
        | (go_at_call 62; refine (works5_gives _).mono ?_; rintro x W10 ⟨rfl, hB⟩))
      all_goals
        go_ret
        exact ⟨rfl, hB3.trans (hB.mono hB3.size)⟩
theorem lawTorn_walk (s e : Nat) (z c : Int) (s' e' : Nat) (z' c' : Int) (m : Int) (w : World) (hs : s < 2 ^ 64) (he : e < 2 ^ 64) (hs' : s' < 2 ^ 64) (he' : e' < 2 ^ 64) :
    Calls Try.prog 14 #[.agg #[.int .u64 (s : Int), .int .u64 (e : Int), .int .i64 z, .int .i64 c], .agg #[.int .u64 (s' : Int), .int .u64 (e' : Int), .int .i64 z', .int .i64 c'], .int .i64 m] w fun e w' => e = .returned (.bool true) ∧ Below w.heap.size w w' := by
  cases h1 : headOk z c with
  | false => exact lawTorn_out s e z c s' e' z' c' m w (.inl h1)
  | true =>
    cases h2 : headOk z' c' with
    | false => exact lawTorn_out s e z c s' e' z' c' m w (.inr (.inl h2))
    | true =>
      by_cases hm : m < 0 ∨ 64 < m
      · exact lawTorn_out s e z c s' e' z' c' m w (.inr (.inr ⟨h1, h2, hm⟩))
      · obtain ⟨⟨hz0, hz1⟩, hc0, hc1⟩ := (headOk_iff z c).1 h1
        obtain ⟨⟨hz0', hz1'⟩, hc0', hc1'⟩ := (headOk_iff z' c').1 h2
        obtain ⟨z, rfl⟩ : ∃ n : Nat, z = n := ⟨z.toNat, by omega⟩
        obtain ⟨c, rfl⟩ : ∃ n : Nat, c = n := ⟨c.toNat, by omega⟩
        obtain ⟨z', rfl⟩ : ∃ n : Nat, z' = n := ⟨z'.toNat, by omega⟩
        obtain ⟨c', rfl⟩ : ∃ n : Nat, c' = n := ⟨c'.toNat, by omega⟩
        obtain ⟨m, rfl⟩ : ∃ n : Nat, m = n := ⟨m.toNat, by omega⟩
        exact lawTorn_mix s e z c s' e' z' c' hs he (by omega) (by omega) hs' he' (by omega) (by omega) m (by omega) w
end Go.Proofs.Ytlelckdcmlpmdaa
