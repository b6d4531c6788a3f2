/- Texts that the proof of DiskCopies leans on, part 12. -/
import Derived.Shelf.SlIterI.Nil
import Derived.Shelf.SortM.Plain
import Derived.Shelf.SortM.SortNone
import Derived.Test.YtlelckdcmlpmdaaDiskCopiesB11
/- loupelaw04.act: Read, where it reads. -/
namespace Go.Proofs.Ytlelckdcmlpmdaa
open Go Go.RowKit Lou

theorem rdE_ok {many k : Nat} {L : Int} (h : rdE (many : Int) (k : Int) L = 0) : k < many ∧ ¬ L = 0 := by
  unfold rdE at h
  by_cases h2 : (k : Int) < 0 ∨ (many : Int) ≤ (k : Int)
  · rw [if_pos h2] at h; cases h
  · rw [if_neg h2] at h
    by_cases h3 : L = 0
    · rw [if_pos h3] at h; cases h
    · exact ⟨by omega, h3⟩
theorem x_convB64 {ρ : Operand → Value} {w : World} {o : Oper} {x : Operand} {A : Option Addr} {c B : Nat} {l : List UInt8} (hl : l.length = 64) (ho : o.op = .convert 30 9 x) (hx : ρ x = .slice A 64 c) (hin : InB w B A c l) : (execOp ρ o).run Try.prog w = .ok (.value (.string (str l))) w := x_convB ho (by rw [hl]; exact hx) hin
set_option maxRecDepth 100000 in
set_option maxHeartbeats 8000000 in
theorem act_rok (w : World) (p many : Nat) (sy ls : List (Nat × List UInt8)) (left : Int) (stops : Bool) (As : Option Addr) (cs : Nat) (Al : Option Addr) (cl : Nat) (what at_ n : Int) (b : UInt8) (keep : List Bool) (K : Option Addr) (kc : Nat) (hD : DkIs w p many (gOf sy) ls left stops) (hR : RIs w w.heap.size sy ls As cs Al cl) (hok : StOk many ⟨sy, ls, left, stops⟩) (hn1 : sy.length ≤ 400000) (hn2 : ls.length ≤ 400000) (k : Nat) (hk : at_ = (k : Int)) (hE : rdE (many : Int) (k : Int) (relL stops left) = 0) :
    Calls Try.prog 83 #[.pointer (some ⟨p, 0, none⟩), VAL (many : Int) As sy.length cs Al ls.length cl (relL stops left), .agg #[.int .i64 6, .int .i64 at_, .int .i64 n, .int .u8 (b.toNat : Int), .slice K keep.length kc]] w (ActOut w p many ⟨sy, ls, left, stops⟩) := by
  unfold ActOut VAL
  subst hk
  obtain ⟨hkm, hL0⟩ := rdE_ok hE
  have hs0 : (stops && left == 0) = false := by rw [relL_stopped]; exact decide_eq_false hL0
  have hnr : ¬ ((k : Int) < 0 ∨ (many : Int) ≤ (k : Int)) := by omega
  have hlen : (lastB (sy ++ ls) (k : Int)).length = 64 := lastB_len (fun x hx => by rcases List.mem_append.1 hx with h | h; exact hok.wsy x h; exact hok.wls x h) _
  have HL0 := Lib.hid hL0
  have HS0 := Lib.hid hs0
  have HNR := Lib.hid hnr
  have HLEN := Lib.hid hlen
  clear hE hL0 hs0 hnr hlen
  obtain ⟨b1, b2, b3, b4, hB1⟩ := acW_is w #[.int .i64 (many : Int), .slice As sy.length cs, .slice Al ls.length cl, .int .i64 (relL stops left)] #[.int .i64 6, .int .i64 (k : Int), .int .i64 n, .int .u8 (b.toNat : Int), .slice K keep.length kc]
  have bl0 := ((BlkIs.new w 141 #[.int .i64 (many : Int), .slice As sy.length cs, .slice Al ls.length cl, .int .i64 (relL stops left)]).alloc (.cells #[.int .i64 6, .int .i64 (k : Int), .int .i64 n, .int .u8 (b.toNat : Int), .slice K keep.length kc] 136)).alloc (.cells #[.int .i64 0, .slice none 0 0, .slice none 0 0, .int .i64 0] 141)
  have bs0 := BlkIs.new (((w.alloc (.cells #[.int .i64 (many : Int), .slice As sy.length cs, .slice Al ls.length cl, .int .i64 (relL stops left)] 141)).alloc (.cells #[.int .i64 6, .int .i64 (k : Int), .int .i64 n, .int .u8 (b.toNat : Int), .slice K keep.length kc] 136)).alloc (.cells #[.int .i64 0, .slice none 0 0, .slice none 0 0, .int .i64 0] 141)) 141 #[.int .i64 0, .slice none 0 0, .slice none 0 0, .int .i64 0]
  simp only [World.size_alloc] at bs0
  obtain ⟨W1, hW1⟩ : ∃ W, W = acW w #[.int .i64 (many : Int), .slice As sy.length cs, .slice Al ls.length cl, .int .i64 (relL stops left)] #[.int .i64 6, .int .i64 (k : Int), .int .i64 n, .int .u8 (b.toNat : Int), .slice K keep.length kc] := ⟨_, rfl⟩
  rw [← hW1] at b1 b2 b3 b4 hB1
  unfold acW zeroR at hW1
  have HW1 := Lib.hid hW1
  have hp := hD.lt
  clear hW1
  have x0 : W1.cell? ⟨w.heap.size + 1, 0, none⟩ = some (.int .i64 6) := by rw [b2.cell]; rfl
  have D1 := hD.grow hB1
  have R1 := hR.grow hB1
  go_enter Try.func83, Try.ntmps83
  go_upto_region 2 with (first
    | (refine wp_loadW rfl 141 (.tmp 4) rfl w.heap.size rfl rowRDisk bl0 (by rfl) ?_)
    | (refine wp_storeW rfl 141 (.tmp 9) (.tmp 16) rfl (w.heap.size + 1 + 1 + 1) rfl rfl rowRDisk bs0 (by rfl) (by rfl) (four_oneR rfl rfl rfl rfl) ?_))
  rw [← HW1.out]
  clear HW1 bl0 bs0
  have x1 : W1.cell? ⟨w.heap.size + 1, 1, none⟩ = some (.int .i64 (k : Int)) := by rw [b2.cell]; rfl
  go_wp2_with (first
    | (go_at_call 26; refine (read_gives W1 p many (gOf sy) ls left stops D1 HS0.out k hkm (by omega)).mono ?_; rintro e w6 ⟨q, rfl, in6, hB6⟩; rw [laid_gOf] at in6; have b16 := b1.below hB6 b1.lt; have b26 := b2.below hB6 b2.lt; have b36 := b3.below hB6 b3.lt; have D6 := D1.grow hB6; have R6 := R1.grow hB6; have hB06 := hB1.trans (hB6.mono hB1.size); have x16 : w6.cell? ⟨w.heap.size + 1, 1, none⟩ = some (.int .i64 (k : Int)) := (by rw [b26.cell]; rfl))
    | (refine wp_loadW rfl 141 (.tmp 4) rfl w.heap.size rfl rowRDisk b16 (by rfl) ?_)
    | (go_at_call 149; have HRx := rread4_gives w6 (many : Int) sy ls As cs Al cl (relL stops left) R6 hn1 hn2 (k : Int); rw [if_neg HNR.out, if_neg HL0.out] at HRx; unfold VAL at HRx; refine HRx.mono ?_; rintro e w8 ⟨rfl, hB8⟩; have b18 := b16.below hB8 b16.lt; have b38 := b36.below hB8 b36.lt; have D8 := D6.grow hB8; have R8 := R6.grow hB8; have hB08 := hB06.trans (hB8.mono hB06.size)))
  have hBd : Below w8.heap.size w8 w8.drew := (Below.refl _ w8).drew
  refine RegF.start (fun W => BlkIs W w.heap.size 141 #[.int .i64 (many : Int), .slice As sy.length cs, .slice Al ls.length cl, .int .i64 (relL stops left)]) 99 (by kernel_rfl) ?_
  have hSd : BlkIs w8.drew w.heap.size 141 #[.int .i64 (many : Int), .slice As sy.length cs, .slice Al ls.length cl, .int .i64 (relL stops left)] := b18
  refine RegF.take0 0 (.pointer (some ⟨p, 0, none⟩)) rfl (by kernel_rfl) (by kernel_rfl) (by kernel_rfl) rfl (fun _ _ _ h => h) hSd (RegF.yld rfl (fun W hW => by go_simp)) ?_
  simp only [List.getElem_toArray, List.getElem_cons_zero, Act.put, List.setIfInBounds_toArray, List.set_cons_zero, List.set_cons_succ]
  refine RegF.take0 1 (.agg #[.int .i64 (many : Int), .slice As sy.length cs, .slice Al ls.length cl, .int .i64 (relL stops left)]) rfl (by kernel_rfl) (by kernel_rfl) (by kernel_rfl) rfl (fun _ _ _ h => h) hSd (RegF.yld rfl (fun W hW => by exact x_loadM rowRDisk hW.range rfl rfl rfl)) ?_
  simp only [List.getElem_toArray, List.getElem_cons_succ, List.getElem_cons_zero, Act.put, List.setIfInBounds_toArray, List.set_cons_zero, List.set_cons_succ]
  refine RegF.take0 2 (.slice (some ⟨q, 0, none⟩) 64 64) rfl (by kernel_rfl) (by kernel_rfl) (by kernel_rfl) rfl (fun _ _ _ h => h) hSd (RegF.yld rfl (fun W hW => by go_simp)) ?_
  simp only [List.getElem_toArray, List.getElem_cons_succ, List.getElem_cons_zero, Act.put, List.setIfInBounds_toArray, List.set_cons_zero, List.set_cons_succ]
  refine RegF.take0 4 (.string (str (lastB (sy ++ ls) (k : Int)))) rfl (by kernel_rfl) (by kernel_rfl) (by kernel_rfl) rfl (fun _ _ _ h => h) hSd (RegF.yld rfl (fun W hW => by go_simp)) ?_
  simp only [List.getElem_toArray, List.getElem_cons_succ, List.getElem_cons_zero, Act.put, List.setIfInBounds_toArray, List.set_cons_zero, List.set_cons_succ]
  refine RegF.one 3 (by kernel_rfl) ?_
  refine RegF.opV (w' := w8.drew) (.string (str (lastB (sy ++ ls) (k : Int)))) rfl rfl (x_convB64 HLEN.out rfl rfl ((in6.below hB8).drew)) ⟨fun _ => hSd, ?_⟩
  simp only [List.getElem_toArray, List.getElem_cons_succ, List.getElem_cons_zero, Act.put, List.setIfInBounds_toArray, List.set_cons_zero, List.set_cons_succ]
  refine RegF.one 5 (by kernel_rfl) ?_
  refine RegF.opV (w' := w8.drew) (.bool true) rfl rfl (by go_simp) ⟨fun _ => hSd, ?_⟩
  simp only [List.getElem_toArray, List.getElem_cons_succ, List.getElem_cons_zero, Act.put, List.setIfInBounds_toArray, List.set_cons_zero, List.set_cons_succ]
  refine RegF.take0 6 (.bool true) rfl (by kernel_rfl) (by kernel_rfl) (by kernel_rfl) rfl (fun _ _ _ h => h) hSd (RegF.yld rfl (fun W hW => by go_simp)) ?_
  simp only [List.getElem_toArray, List.getElem_cons_succ, List.getElem_cons_zero, Act.put, List.setIfInBounds_toArray, List.set_cons_zero, List.set_cons_succ]
  refine RegF.take0 7 (.int .i64 (0)) rfl (by kernel_rfl) (by kernel_rfl) (by kernel_rfl) rfl (fun _ _ _ h => h) hSd (.inl ⟨by first | rfl | simp [Region.wanted, yielded, Act.put], fun W hW => by go_simp⟩) ?_
  simp only [List.getElem_toArray, List.getElem_cons_succ, List.getElem_cons_zero, Act.put, List.setIfInBounds_toArray, List.set_cons_zero, List.set_cons_succ]
  refine RegF.take0 9 (.int .i64 (0)) rfl (by kernel_rfl) (by kernel_rfl) (by kernel_rfl) rfl (fun _ _ _ h => h) hSd (.inl ⟨by first | rfl | simp [Region.wanted, yielded, Act.put], fun W hW => by go_simp⟩) ?_
  simp only [List.getElem_toArray, List.getElem_cons_succ, List.getElem_cons_zero, Act.put, List.setIfInBounds_toArray, List.set_cons_zero, List.set_cons_succ]
  refine RegF.one 8 (by kernel_rfl) ?_
  refine opCG 20 #[.tmp 104] #[27] rfl (by first | rfl | simp [Region.wanted, yielded, Act.put]) rfl (enters_of Try.func20 (by kernel_rfl) rfl) #[.int .i64 (0)] (by simp only [List.map_toArray, List.map_cons, List.map_nil]; rfl) ((num4_gives w8.drew (0)).mono ?_)
  rintro e W9 ⟨rfl, rfl⟩
  refine ⟨_, rfl, fun _ => hSd, ?_⟩
  simp only [List.getElem_toArray, List.getElem_cons_succ, List.getElem_cons_zero, Act.put, List.setIfInBounds_toArray, List.set_cons_zero, List.set_cons_succ]
  refine RegF.take0 10 (.bool true) rfl (by kernel_rfl) (by kernel_rfl) (by kernel_rfl) rfl (fun _ _ _ h => h) hSd (.inl ⟨by first | rfl | simp [Region.wanted, yielded, Act.put], fun W hW => by go_simp⟩) ?_
  simp only [List.getElem_toArray, List.getElem_cons_succ, List.getElem_cons_zero, Act.put, List.setIfInBounds_toArray, List.set_cons_zero, List.set_cons_succ]
  refine RegF.take0 11 (.bool true) rfl (by kernel_rfl) (by kernel_rfl) (by kernel_rfl) rfl (fun _ _ _ h => h) hSd (RegF.yld rfl (fun W hW => by go_simp)) ?_
  simp only [List.getElem_toArray, List.getElem_cons_succ, List.getElem_cons_zero, Act.put, List.setIfInBounds_toArray, List.set_cons_zero, List.set_cons_succ]
  refine RegF.one 12 (by kernel_rfl) ?_
  refine RegF.opV (w' := w8.drew) (.pointer (some ⟨p, 0, none⟩)) rfl rfl (by go_simp) ⟨fun _ => hSd, ?_⟩
  simp only [List.getElem_toArray, List.getElem_cons_succ, List.getElem_cons_zero, Act.put, List.setIfInBounds_toArray, List.set_cons_zero, List.set_cons_succ]
  have hb3d : BlkIs w8.drew (w.heap.size + 1 + 1) 141 #[.int .i64 0, .slice none 0 0, .slice none 0 0, .int .i64 0] := b38
  refine RegF.one 13 (by kernel_rfl) ?_
  refine RegF.opS (w' := w8.drew.setRow (w.heap.size + 1 + 1) #[.int .i64 (many : Int), .slice As sy.length cs, .slice Al ls.length cl, .int .i64 (relL stops left)]) rfl rfl (x_storeR (.tmp 7) (.tmp 98) rfl (w.heap.size + 1 + 1) rfl rfl hb3d rfl rfl (four_oneR rfl rfl rfl rfl)) ⟨fun _ => hSd.setRow_ne (by omega) _, ?_⟩
  simp only [List.getElem_toArray, List.getElem_cons_succ, List.getElem_cons_zero, Act.put]
  refine RegF.one 14 (by kernel_rfl) ?_
  refine RegF.opV (w' := w8.drew.setRow (w.heap.size + 1 + 1) #[.int .i64 (many : Int), .slice As sy.length cs, .slice Al ls.length cl, .int .i64 (relL stops left)]) (.bool true) rfl rfl (by go_simp) ⟨fun _ => hSd.setRow_ne (by omega) _, ?_⟩
  simp only [List.getElem_toArray, List.getElem_cons_succ, List.getElem_cons_zero, Act.put, List.setIfInBounds_toArray, List.set_cons_zero, List.set_cons_succ]
  refine RegF.done (by kernel_rfl) ?_
  go_wp2
  have gE : w8.drew.grownBy (w8.drew.setRow (w.heap.size + 1 + 1) #[.int .i64 (many : Int), .slice As sy.length cs, .slice Al ls.length cl, .int .i64 (relL stops left)]) (some (w.heap.size + 1 + 1)) := setRow_grownBy _ _ _
  have DE := (D8.grow hBd).other hb3d (by show 4 ≤ 64; decide) (by omega) gE
  have RE := (R8.grow hBd).grownT hb3d (noText4 _ _ _ _ _ _ _ _) gE
  exact bodyPost_ret (results3 6 7 8 rfl rfl rfl rfl rowRDisk (hb3d.setRow _) (by rfl)) rfl ⟨p, As, cs, Al, cl, rfl, DE, RE, .inl rfl, below_grownBy (below_setRow hB08.drew (by omega) _) p⟩
end Go.Proofs.Ytlelckdcmlpmdaa
/- loupelaw04.act, whatever call. -/
namespace Go.Proofs.Ytlelckdcmlpmdaa
open Go Go.RowKit Lou

theorem act_gives (w : World) (p many : Nat) (s : DSt) (As : Option Addr) (cs : Nat) (Al : Option Addr) (cl : Nat) (x : ActV) (hD : DkIs w p many (gOf s.sy) s.ls s.left s.stops) (hR : RIs w w.heap.size s.sy s.ls As cs Al cl) (hok : StOk many s) (hn1 : s.sy.length ≤ 400000) (hn2 : s.ls.length ≤ 400000) (B : Nat) (hBp : B ≤ p) (hBw : B ≤ w.heap.size) (hK : KeepIs w B x) (hnk : x.keep.length ≤ 1000000) :
    Calls Try.prog 83 #[.pointer (some ⟨p, 0, none⟩), VAL (many : Int) As s.sy.length cs Al s.ls.length cl (relL s.stops s.left), .agg (actC x).toArray] w (ActOut w p many (actS many x s)) := by
  obtain ⟨sy, ls, left, stops⟩ := s
  obtain ⟨what, at_, n, b, keep, K, kc⟩ := x
  simp only at *
  show Calls Try.prog 83 #[.pointer (some ⟨p, 0, none⟩), VAL (many : Int) As sy.length cs Al ls.length cl (relL stops left), .agg #[.int .i64 what, .int .i64 at_, .int .i64 n, .int .u8 (b.toNat : Int), .slice K keep.length kc]] w (ActOut w p many (actS many ⟨what, at_, n, b, keep, K, kc⟩ ⟨sy, ls, left, stops⟩))
  unfold actS
  simp only
  by_cases h012 : what = 0 ∨ what = 1 ∨ what = 2
  · rw [if_pos h012]
    by_cases hE : rwE (many : Int) at_ (relL stops left) (bytesOf ⟨what, at_, n, b, keep, K, kc⟩).length = 0
    · rw [if_pos hE]
      have hpos : 0 ≤ at_ := by
        unfold rwE at hE
        split at hE
        · cases hE
        · split at hE
          · cases hE
          · omega
      obtain ⟨k, rfl⟩ : ∃ k : Nat, at_ = (k : Int) := ⟨at_.toNat, by omega⟩
      rw [show ((k : Int)).toNat = k from by omega]
      rcases h012 with rfl | rfl | rfl
      · exact act_wok0 w p many sy ls left stops As cs Al cl _ n b keep K kc hD hR hok hn1 hn2 k rfl hE
      · exact act_wok1 w p many sy ls left stops As cs Al cl _ n b keep K kc hD hR hok hn1 hn2 k rfl hE
      · exact act_wok2 w p many sy ls left stops As cs Al cl _ n b keep K kc hD hR hok hn1 hn2 k rfl hE
    · rw [if_neg hE]
      rcases h012 with rfl | rfl | rfl
      · exact act_wbad0 w p many sy ls left stops As cs Al cl at_ n b keep K kc hD hR hok hn1 hn2 _ rfl hE
      · exact act_wbad1 w p many sy ls left stops As cs Al cl at_ n b keep K kc hD hR hok hn1 hn2 _ rfl hE
      · exact act_wbad2 w p many sy ls left stops As cs Al cl at_ n b keep K kc hD hR hok hn1 hn2 _ rfl hE
  · rw [if_neg h012]
    by_cases h3 : what = 3
    · rw [if_pos h3]
      subst h3
      by_cases h0 : relL stops left = 0
      · rw [if_pos h0]
        exact act_sbad w p many sy ls left stops As cs Al cl at_ n b keep K kc hD hR hok hn1 hn2 h0
      · rw [if_neg h0]
        exact act_sok w p many sy ls left stops As cs Al cl at_ n b keep K kc hD hR hok hn1 hn2 h0
    · rw [if_neg h3]
      by_cases h4 : what = 4
      · rw [if_pos h4]
        subst h4
        by_cases h0 : n < 0
        · rw [if_pos h0]
          exact act_tbad w p many sy ls left stops As cs Al cl at_ n b keep K kc hD hR hok hn1 hn2 h0
        · rw [if_neg h0]
          obtain ⟨m, rfl⟩ : ∃ m : Nat, n = (m : Int) := ⟨n.toNat, by omega⟩
          exact act_tok w p many sy ls left stops As cs Al cl at_ _ b keep K kc hD hR hok hn1 hn2 m rfl
      · rw [if_neg h4]
        by_cases h5 : what = 5
        · rw [if_pos h5]
          subst h5
          by_cases h0 : n < 0 ∨ 63 < n
          · rw [if_pos h0]
            exact act_cbad w p many sy ls left stops As cs Al cl at_ n b keep K kc hD hR hok hn1 hn2 h0
          · rw [if_neg h0]
            obtain ⟨m, rfl⟩ : ∃ m : Nat, n = (m : Int) := ⟨n.toNat, by omega⟩
            rw [show ((m : Int)).toNat = m from by omega]
            exact act_cok w p many sy ls left stops As cs Al cl at_ _ b keep K kc hD hR hok hn1 hn2 m rfl (by omega) B hBp hBw hK hnk
        · rw [if_neg h5]
          by_cases h6 : what = 6
          · subst h6
            by_cases hE : rdE (many : Int) at_ (relL stops left) = 0
            · have hpos : 0 ≤ at_ := by
                unfold rdE at hE
                split at hE
                · cases hE
                · omega
              obtain ⟨k, rfl⟩ : ∃ k : Nat, at_ = (k : Int) := ⟨at_.toNat, by omega⟩
              exact act_rok w p many sy ls left stops As cs Al cl 6 _ n b keep K kc hD hR hok hn1 hn2 k rfl hE
            · exact act_rbad w p many sy ls left stops As cs Al cl 6 at_ n b keep K kc hD hR hok hn1 hn2 hE
          · exact act_copy w p many sy ls left stops As cs Al cl what at_ n b keep K kc hD hR hok hn1 hn2 (fun e => h012 (.inl e)) (fun e => h012 (.inr (.inl e))) (fun e => h012 (.inr (.inr e))) h3 h4 h5 h6
end Go.Proofs.Ytlelckdcmlpmdaa
/- disk: states that act keeps. -/
namespace Go.Proofs.Ytlelckdcmlpmdaa
open Go Go.RowKit Lou

theorem relL_pos {stops : Bool} {left : Int} (h : stops = true → 0 ≤ left) (h0 : ¬ relL stops left = 0) (hs : stops = true) : 0 ≤ lft stops left := by
  subst hs
  unfold relL at h0
  unfold lft
  have := h rfl
  simp only [if_true] at *
  omega
theorem torn_wide {g : Nat → List UInt8} {ks : List (Nat × List UInt8)} (hk : Wide ks) (hg : ∀ k, (laid g ks.dropLast k).length = 64) (t : Nat) : Wide (torn g ks t) := by
  unfold torn
  split
  · exact hk
  · rename_i h
    have hne : ks ≠ [] := fun e => h (.inl e)
    intro x hx
    rcases List.mem_append.1 hx with hx | hx
    · exact hk x (List.dropLast_subset ks hx)
    · obtain rfl := List.mem_singleton.1 hx
      have hl : (ks.getLastD (0, zer64)).2.length = 64 := by
        cases ks with
        | nil => exact absurd rfl hne
        | cons y t => exact hk _ (by rw [List.getLastD_cons]; exact List.getLastD_mem_cons ..)
      show (_ ++ _ : List UInt8).length = 64
      rw [List.length_append, List.length_take, List.length_drop, hl, hg]
      omega
theorem torn_len (g : Nat → List UInt8) (ks : List (Nat × List UInt8)) (t : Nat) : (torn g ks t).length = ks.length := by
  unfold torn
  split
  · rfl
  · rename_i h
    have hne : ks ≠ [] := fun e => h (.inl e)
    have := List.length_pos_iff.2 hne
    simp
    omega
theorem keptTo_sub (xs : List (Nat × List UInt8)) (bs : List Bool) : ∀ i, i ≤ xs.length → ∀ x ∈ keptTo xs bs i, x ∈ xs := fun i hi x hx => by
  obtain ⟨j, hj, _, rfl⟩ := keptTo_mem xs bs i hi x hx
  exact List.getElem_mem hj
theorem torn_at {g : Nat → List UInt8} {ks : List (Nat × List UInt8)} {t : Nat} : ∀ x ∈ torn g ks t, ∃ y ∈ ks, y.1 = x.1 := fun x hx => by
  unfold torn at hx
  split at hx
  · exact ⟨x, hx, rfl⟩
  · rename_i h
    have hne : ks ≠ [] := fun e => h (.inl e)
    rcases List.mem_append.1 hx with hx | hx
    · exact ⟨x, List.dropLast_subset ks hx, rfl⟩
    · obtain rfl := List.mem_singleton.1 hx
      refine ⟨ks.getLastD (0, zer64), ?_, rfl⟩
      cases ks with
      | nil => exact absurd rfl hne
      | cons y t => rw [List.getLastD_cons]; exact List.getLastD_mem_cons ..
end Go.Proofs.Ytlelckdcmlpmdaa
/- disk: act keeps states that may be. -/
namespace Go.Proofs.Ytlelckdcmlpmdaa
open Go Go.RowKit Lou

theorem lft_lo {stops : Bool} {left : Int} (h : stops = true → 0 ≤ left) (hl : -1000000 ≤ left) (h0 : ¬ relL stops left = 0) : -1000000 ≤ lft stops left := by
  cases hs : stops with
  | false => exact hl
  | true => have := relL_pos h h0 hs; rw [hs] at this; omega
theorem lft_hi {stops : Bool} {left : Int} (hl : left ≤ 9223372036854775807) : lft stops left ≤ 9223372036854775807 := by unfold lft; split <;> omega
theorem stOk_act {many : Nat} {s : DSt} (h : StOk many s) (x : ActV) (hx : x.n ≤ 9223372036854775807) : StOk many (actS many x s) := by
  unfold actS
  split
  · split
    · rename_i hE
      have h64 : (bytesOf x).length = 64 := by
        unfold rwE at hE
        by_cases e : (bytesOf x).length = 64
        · exact e
        · rw [if_pos e] at hE; cases hE
      unfold rwE at hE
      rw [if_neg (by omega)] at hE
      by_cases hr : x.at_ < 0 ∨ (many : Int) ≤ x.at_
      · rw [if_pos hr] at hE; cases hE
      · rw [if_neg hr] at hE
        by_cases h0 : relL s.stops s.left = 0
        · rw [if_pos h0] at hE; cases hE
        · exact ⟨h.wsy, fun y hy => by
            rcases List.mem_append.1 hy with hy | hy
            · exact h.wls y hy
            · obtain rfl := List.mem_singleton.1 hy; exact h64, fun y hy => by
            simp only [List.mem_append] at hy
            rcases hy with hy | hy | hy
            · exact h.at_ y (List.mem_append.2 (.inl hy))
            · exact h.at_ y (List.mem_append.2 (.inr hy))
            · obtain rfl := List.mem_singleton.1 hy
              show x.at_.toNat < many
              omega, fun hs => relL_pos h.pos h0 hs, lft_lo h.pos h.lo h0, lft_hi h.hi⟩
    · exact h
  · split
    · split
      · exact h
      · rename_i h0
        exact ⟨fun y hy => by
          rcases List.mem_append.1 hy with hy | hy
          · exact h.wsy y hy
          · exact h.wls y hy, (fun y hy => by cases hy), (fun y hy => h.at_ y (by simpa using hy)), fun hs => relL_pos h.pos h0 hs, lft_lo h.pos h.lo h0, lft_hi h.hi⟩
    · split
      · split
        · exact h
        · rename_i hn
          exact ⟨h.wsy, h.wls, h.at_, (fun _ => by show 0 ≤ x.n; omega), (by show -1000000 ≤ x.n; omega), hx⟩
      · split
        · split
          · exact h
          · have hk := keptTo_wide h.wls x.keep s.ls.length
            have hg : ∀ k, (laid (gOf s.sy) (keptTo s.ls x.keep s.ls.length).dropLast k).length = 64 := fun k => by
              rw [laid_gOf]
              exact lastB_len (fun y hy => by
                rcases List.mem_append.1 hy with hy | hy
                · exact h.wsy y hy
                · exact hk y (List.dropLast_subset _ hy)) _
            exact ⟨(fun y hy => by
              rcases List.mem_append.1 hy with hy | hy
              · exact h.wsy y hy
              · exact torn_wide hk hg _ y hy), (fun y hy => by cases hy), (fun y hy => by
              simp only [List.append_nil, List.mem_append] at hy
              rcases hy with hy | hy
              · exact h.at_ y (List.mem_append.2 (.inl hy))
              · obtain ⟨z, hz, hzy⟩ := torn_at y hy
                rw [← hzy]
                exact h.at_ z (List.mem_append.2 (.inr (keptTo_sub _ _ _ (Nat.le_refl _) z hz)))), (fun hs => by cases hs), (by show (-1000000 : Int) ≤ 0; decide), (by show (0 : Int) ≤ 9223372036854775807; decide)⟩
        · exact h
end Go.Proofs.Ytlelckdcmlpmdaa
/- disk: plain laws of states for DiskCopies: how long they grow, which are the same. -/
namespace Go.Proofs.Ytlelckdcmlpmdaa
open Go Go.RowKit Lou

theorem act_len (many : Nat) (x : ActV) (s : DSt) : (actS many x s).sy.length + (actS many x s).ls.length ≤ s.sy.length + s.ls.length + 1 := by
  unfold actS
  split
  · split
    · simp only [List.length_append, List.length_singleton]; omega
    · omega
  · split
    · split
      · omega
      · simp only [List.length_append, List.length_nil]; omega
    · split
      · split
        · omega
        · simp only; omega
      · split
        · split
          · omega
          · simp only [List.length_append, List.length_nil, torn_len]
            have := keptTo_le s.ls x.keep s.ls.length
            omega
        · omega
/-- No stop: nothing is left. -/
def St0 (s : DSt) : Prop := s.stops = false → s.left = 0
theorem act_st0 {many : Nat} {s : DSt} (h : St0 s) (x : ActV) : St0 (actS many x s) := by
  unfold actS
  split
  · split
    · intro hs
      show lft s.stops s.left = 0
      have e : s.stops = false := hs
      unfold lft
      simp [e, h e]
    · exact h
  · split
    · split
      · exact h
      · intro hs
        show lft s.stops s.left = 0
        have e : s.stops = false := hs
        unfold lft
        simp [e, h e]
    · split
      · split
        · exact h
        · intro hs
          cases hs
      · split
        · split
          · exact h
          · intro _; rfl
        · exact h
/-- The state behind some calls. -/
def runS (many : Nat) (xs : List ActV) (s : DSt) : DSt := xs.foldl (fun s x => actS many x s) s
theorem runS_next (many : Nat) (xs : List ActV) (s : DSt) (k : Nat) (h : k < xs.length) : runS many (xs.take (k + 1)) s = actS many xs[k] (runS many (xs.take k) s) := by
  unfold runS
  rw [List.take_succ_eq_append_getElem h, List.foldl_append]
  rfl
def sNew : DSt := ⟨[], [], 0, false⟩
theorem sNew_ok (many : Nat) : StOk many sNew := ⟨(fun x h => by cases h), (fun x h => by cases h), (fun x h => by cases h), (fun h => by cases h), (by show (-1000000 : Int) ≤ 0; omega), (by show (0 : Int) ≤ _; omega)⟩
theorem sNew_st0 : St0 sNew := fun _ => rfl
theorem lastB_no {zs : List (Nat × List UInt8)} {k : Nat} (hno : ∀ x ∈ zs, ¬ (x.1 : Int) = (k : Int)) : lastB zs (k : Int) = zer64 := by
  unfold lastB
  suffices h : ∀ s, zs.foldl (fun s (x : Nat × List UInt8) => if (x.1 : Int) = (k : Int) then x.2 else s) s = s from h zer64
  intro s
  induction zs generalizing s with
  | nil => rfl
  | cons y t ih => rw [List.foldl_cons, if_neg (hno y (List.mem_cons_self ..))]; exact ih (fun x hx => hno x (List.mem_cons_of_mem _ hx)) s
/-- What the document calls the same is what the disk does. -/
theorem same_iff {many : Nat} {s s' : DSt} (h : StOk many s) (h' : StOk many s') (z : St0 s) (z' : St0 s') :
    SameP (many : Int) (many : Int) (relL s.stops s.left) (relL s'.stops s'.left) s.sy s.ls s'.sy s'.ls ↔ (many = many ∧ s.left = s'.left ∧ s.stops = s'.stops ∧ (∀ k, gOf s.sy k = gOf s'.sy k) ∧ s.ls = s'.ls) := by
  have hg : (∀ x ∈ s.sy ++ s'.sy, lastB s.sy (x.1 : Int) = lastB s'.sy (x.1 : Int)) ↔ ∀ k, gOf s.sy k = gOf s'.sy k := by
    constructor
    · intro hx k
      show lastB s.sy (k : Int) = lastB s'.sy (k : Int)
      by_cases hk : ∃ x ∈ s.sy ++ s'.sy, (x.1 : Int) = (k : Int)
      · obtain ⟨x, hm, e⟩ := hk
        rw [← e]
        exact hx x hm
      · rw [lastB_no fun x hm e => hk ⟨x, List.mem_append.2 (.inl hm), e⟩, lastB_no fun x hm e => hk ⟨x, List.mem_append.2 (.inr hm), e⟩]
    · exact fun hk x _ => hk x.1
  have hl : relL s.stops s.left = relL s'.stops s'.left ↔ s.left = s'.left ∧ s.stops = s'.stops := by
    unfold relL
    have p := h.pos
    have p' := h'.pos
    unfold St0 at z z'
    cases hs : s.stops <;> cases hs' : s'.stops
    · simp [z hs, z' hs']
    · simp only [Bool.false_eq_true, if_false, if_true]
      have := p' hs'
      constructor
      · intro e; omega
      · rintro ⟨_, e⟩; cases e
    · simp only [Bool.false_eq_true, if_false, if_true]
      have := p hs
      constructor
      · intro e; omega
      · rintro ⟨_, e⟩; cases e
    · simp
  unfold SameP
  rw [hg, hl]
  constructor
  · rintro ⟨_, ⟨h1, h2⟩, h3, h4⟩
    exact ⟨rfl, h1, h2, h4, h3⟩
  · rintro ⟨_, h1, h2, h4, h3⟩
    exact ⟨rfl, ⟨h1, h2⟩, h3, h4⟩
end Go.Proofs.Ytlelckdcmlpmdaa
/- The library's contracts on slices.Sorted(maps.Keys(m)) and slices.Sort laid at this program, in plain words (the numbers are this seat's). -/
namespace Go.Proofs.Ytlelckdcmlpmdaa
open Go Go.RowKit Lou Go.Maps Go.Sort Go.Shelf

def layK_ren : Go.Shelf.Ren := ⟨fun | 7 => 209 | 10 => 226 | n => n, fun | 23 => 150 | 26 => 3 | 3 => 162 | 28 => 304 | 0 => 0 | 27 => 303 | 33 => 277 | 4 => 4 | n => n, fun | n => n⟩
theorem layK : SlLaysZI.n7 Try.prog layK_ren := {
  mixed := by kernel_rfl
  f7 := ⟨Try.f209.name, by decide, Try.func209.trans (congrArg some (by kernel_rfl))⟩
  f10 := ⟨Try.f226.name, by decide, Try.func226.trans (congrArg some (by kernel_rfl))⟩
  t0 := Try.underlying0
  a0 := Try.isAgg0
  z0 := Try.sizeOf0
  v0 := Try.zeroValue0
  t4 := Try.underlying4
  a4 := Try.isAgg4
  z4 := Try.sizeOf4
  v4 := Try.zeroValue4
  t23 := Try.underlying150
  a23 := Try.isAgg150
  z23 := Try.sizeOf150
  v23 := Try.zeroValue150
  t26 := Try.underlying3
  a26 := Try.isAgg3
  z26 := Try.sizeOf3
  v26 := Try.zeroValue3
  t27 := Try.underlying303
  a27 := Try.isAgg303
  z27 := Try.sizeOf303
  v27 := Try.zeroValue303
  t28 := Try.underlying304
  a28 := Try.isAgg304
  z28 := Try.sizeOf304
  v28 := Try.zeroValue304
  t33 := Try.underlying277
  a33 := Try.isAgg277
  z33 := Try.sizeOf277
  v33 := Try.zeroValue277 }
def layS_ren : Go.Shelf.Ren := ⟨fun | 6 => 208 | 8 => 224 | 9 => 225 | 11 => 234 | 13 => 236 | 12 => 235 | 23 => 254 | 24 => 255 | 14 => 245 | 15 => 246 | 16 => 247 | 17 => 248 | 18 => 249 | 19 => 250 | 20 => 251 | 21 => 252 | 22 => 253 | 25 => 263 | 26 => 264 | 27 => 265 | 28 => 266 | 29 => 267 | 30 => 268 | 31 => 269 | n => n, fun | 26 => 3 | 28 => 304 | 24 => 74 | 0 => 0 | 3 => 3 | 37 => 44 | 48 => 45 | 50 => 41 | 4 => 4 | 40 => 337 | 39 => 336 | 45 => 78 | 5 => 5 | 9 => 9 | 51 => 348 | 55 => 352 | 57 => 354 | 58 => 227 | 33 => 277 | n => n, fun | n => n⟩
theorem layS : SlLaysZI.n6 Try.prog layS_ren := {
  mixed := by kernel_rfl
  f6 := ⟨Try.f208.name, by decide, Try.func208.trans (congrArg some (by kernel_rfl))⟩
  f8 := ⟨Try.f224.name, by decide, Try.func224.trans (congrArg some (by kernel_rfl))⟩
  f11 := ⟨Try.f234.name, by decide, Try.func234.trans (congrArg some (by kernel_rfl))⟩
  t0 := Try.underlying0
  a0 := Try.isAgg0
  z0 := Try.sizeOf0
  v0 := Try.zeroValue0
  t24 := Try.underlying74
  a24 := Try.isAgg74
  z24 := Try.sizeOf74
  v24 := Try.zeroValue74
  t26 := Try.underlying3
  a26 := Try.isAgg3
  z26 := Try.sizeOf3
  v26 := Try.zeroValue3
  t28 := Try.underlying304
  a28 := Try.isAgg304
  z28 := Try.sizeOf304
  v28 := Try.zeroValue304
  i26 := by kernel_rfl }
def layO_ren : Go.Shelf.Ren := ⟨fun | 5 => 225 | 8 => 236 | 7 => 235 | 19 => 254 | 20 => 255 | 10 => 245 | 11 => 246 | 12 => 247 | 13 => 248 | 14 => 249 | 15 => 250 | 16 => 251 | 17 => 252 | 18 => 253 | 30 => 263 | 31 => 264 | 32 => 265 | 33 => 266 | 34 => 267 | 35 => 268 | 40 => 269 | n => n, fun | 23 => 74 | 25 => 3 | 3 => 3 | 32 => 44 | 22 => 74 | 0 => 0 | 44 => 45 | 46 => 41 | 4 => 4 | 36 => 337 | 35 => 336 | 41 => 78 | 5 => 5 | 9 => 9 | 53 => 348 | 57 => 352 | 63 => 354 | 64 => 227 | n => n, fun | n => n⟩
theorem layO : SlLaysM.n5 Try.prog layO_ren := {
  mixed := by kernel_rfl
  f5 := ⟨Try.f225.name, by decide, Try.func225.trans (congrArg some (by kernel_rfl))⟩
  f7 := ⟨Try.f235.name, by decide, Try.func235.trans (congrArg some (by kernel_rfl))⟩
  f8 := Try.func236.trans (congrArg some (by kernel_rfl))
  f10 := ⟨Try.f245.name, by decide, Try.func245.trans (congrArg some (by kernel_rfl))⟩
  f11 := ⟨Try.f246.name, by decide, Try.func246.trans (congrArg some (by kernel_rfl))⟩
  f12 := ⟨Try.f247.name, by decide, Try.func247.trans (congrArg some (by kernel_rfl))⟩
  f13 := ⟨Try.f248.name, by decide, Try.func248.trans (congrArg some (by kernel_rfl))⟩
  f14 := ⟨Try.f249.name, by decide, Try.func249.trans (congrArg some (by kernel_rfl))⟩
  f15 := ⟨Try.f250.name, by decide, Try.func250.trans (congrArg some (by kernel_rfl))⟩
  f16 := ⟨Try.f251.name, by decide, Try.func251.trans (congrArg some (by kernel_rfl))⟩
  f17 := ⟨Try.f252.name, by decide, Try.func252.trans (congrArg some (by kernel_rfl))⟩
  f18 := ⟨Try.f253.name, by decide, Try.func253.trans (congrArg some (by kernel_rfl))⟩
  f19 := Try.func254.trans (congrArg some (by kernel_rfl))
  f20 := Try.func255.trans (congrArg some (by kernel_rfl))
  f30 := ⟨Try.f263.name, by decide, Try.func263.trans (congrArg some (by kernel_rfl))⟩
  f31 := Try.func264.trans (congrArg some (by kernel_rfl))
  f32 := Try.func265.trans (congrArg some (by kernel_rfl))
  f33 := ⟨Try.f266.name, by decide, Try.func266.trans (congrArg some (by kernel_rfl))⟩
  f34 := ⟨Try.f267.name, by decide, Try.func267.trans (congrArg some (by kernel_rfl))⟩
  f35 := ⟨Try.f268.name, by decide, Try.func268.trans (congrArg some (by kernel_rfl))⟩
  f40 := ⟨Try.f269.name, by decide, Try.func269.trans (congrArg some (by kernel_rfl))⟩
  t0 := Try.underlying0
  a0 := Try.isAgg0
  z0 := Try.sizeOf0
  v0 := Try.zeroValue0
  t3 := Try.underlying3
  a3 := Try.isAgg3
  z3 := Try.sizeOf3
  v3 := Try.zeroValue3
  t4 := Try.underlying4
  a4 := Try.isAgg4
  z4 := Try.sizeOf4
  v4 := Try.zeroValue4
  t5 := Try.underlying5
  a5 := Try.isAgg5
  z5 := Try.sizeOf5
  v5 := Try.zeroValue5
  t9 := Try.underlying9
  a9 := Try.isAgg9
  z9 := Try.sizeOf9
  v9 := Try.zeroValue9
  t22 := Try.underlying74
  a22 := Try.isAgg74
  z22 := Try.sizeOf74
  v22 := Try.zeroValue74
  t23 := Try.underlying74
  a23 := Try.isAgg74
  z23 := Try.sizeOf74
  v23 := Try.zeroValue74
  t25 := Try.underlying3
  a25 := Try.isAgg3
  z25 := Try.sizeOf3
  v25 := Try.zeroValue3
  t32 := Try.underlying44
  a32 := Try.isAgg44
  z32 := Try.sizeOf44
  v32 := Try.zeroValue44
  t35 := Try.underlying336
  a35 := Try.isAgg336
  z35 := Try.sizeOf336
  v35 := Try.zeroValue336
  t36 := Try.underlying337
  a36 := Try.isAgg337
  z36 := Try.sizeOf337
  v36 := Try.zeroValue337
  t41 := Try.underlying78
  a41 := Try.isAgg78
  z41 := Try.sizeOf78
  v41 := Try.zeroValue78
  t44 := Try.underlying45
  a44 := Try.isAgg45
  z44 := Try.sizeOf45
  v44 := Try.zeroValue45
  t46 := Try.underlying41
  a46 := Try.isAgg41
  z46 := Try.sizeOf41
  v46 := Try.zeroValue41
  t53 := Try.underlying348
  a53 := Try.isAgg348
  z53 := Try.sizeOf348
  v53 := Try.zeroValue348
  t57 := Try.underlying352
  a57 := Try.isAgg352
  z57 := Try.sizeOf352
  v57 := Try.zeroValue352
  t63 := Try.underlying354
  a63 := Try.isAgg354
  z63 := Try.sizeOf354
  v63 := Try.zeroValue354
  t64 := Try.underlying227
  a64 := Try.isAgg227
  z64 := Try.sizeOf227
  v64 := Try.zeroValue227 }
/-- slices.Sort's two contracts, at the fence that asks nothing. -/
theorem sortsInts (m : Nat) : AnyZI.SortsIn Try.prog layS_ren Fence.wide m :=
  ⟨fun blk off cap ss W hH hblk hsz => callsIn_wide.2 (AnyM.slices_Sort_int layO blk off cap ss W hH hblk hsz),
   fun p cap W => callsIn_wide.2 (AnyM.slices_Sort_int_none layO p cap W)⟩
end Go.Proofs.Ytlelckdcmlpmdaa
/- disk: sorted: the keys of a map of sectors, rising. -/
namespace Go.Proofs.Ytlelckdcmlpmdaa
open Go Go.RowKit Lou Go.Maps Go.Sort Go.Shelf

/-- Which sectors are not noughts, rising. -/
def keysUp (g : Nat → List UInt8) (many : Nat) : List Nat := (List.range many).filter fun k => decide (¬ g k = zer64)
theorem keysUp_mem {g : Nat → List UInt8} {many : Nat} {k : Nat} : k ∈ keysUp g many ↔ k < many ∧ ¬ g k = zer64 := by simp [keysUp]
theorem keysUp_lt (g : Nat → List UInt8) (many : Nat) : (keysUp g many).Pairwise (· < ·) := List.pairwise_lt_range.filter _
theorem keysUp_nodup (g : Nat → List UInt8) (many : Nat) : (keysUp g many).Nodup := (keysUp_lt g many).imp fun h => Nat.ne_of_lt h
theorem keysUp_len (g : Nat → List UInt8) (many : Nat) : (keysUp g many).length ≤ many := Nat.le_trans (List.length_filter_le _ _) (by simp)
/-- How the map's values read: each as nothing. -/
def dR : Value → Option (DataW Unit × List MemPlace) := fun _ => some (.nil, [])
theorem ents_key {es : Array MapEntry} {g : Nat → List UInt8} {many : Nat} (h : Ents es (spar g)) (hlt : ∀ k, ¬ g k = zer64 → k < many) : ∀ e ∈ es.toList, ∃ k : Nat, k < many ∧ e.key = .int .i64 (k : Int) := fun e he => by
  obtain ⟨i, hi, rfl⟩ := List.getElem_of_mem he
  obtain ⟨k, l, h1, h2, _⟩ := h.keys i es.toList[i] (by rw [← Array.getElem?_toList]; exact List.getElem?_eq_getElem hi)
  refine ⟨k, hlt k fun e => ?_, h2⟩
  unfold spar at h1
  rw [if_pos e] at h1
  cases h1
theorem keys_perm {es : Array MapEntry} {g : Nat → List UInt8} {many : Nat} (h : Ents es (spar g)) (hlt : ∀ k, ¬ g k = zer64 → k < many) : (keysN es).Perm (keysUp g many) :=
  (List.perm_ext_iff_of_nodup h.nodup (keysUp_nodup g many)).2 fun k => by
    rw [h.mem, keysUp_mem]
    unfold spar
    by_cases e : g k = zer64
    · simp [e]
    · rw [if_neg e]
      exact ⟨fun _ => ⟨hlt k e, e⟩, fun _ h => by cases h⟩
theorem key_rd {e : MapEntry} {k : Nat} (hk : e.key = .int .i64 (k : Int)) (hl : k < 100000) : WideElems.rd Try.prog 3 dR e = some (.int .i64 (k : Int), .nil) := by
  have hkey : keyOf Try.prog 3 e.key = some (.int .i64 (k : Int)) := by
    rw [hk]
    exact Maps.keyOf_int_mk Try.underlying3 (by simp [Lit.wf, IntKind.min, IntKind.max, IntKind.signed, IntKind.bits]; omega)
  unfold WideElems.rd
  rw [hkey]
  rfl
theorem own_map {w : World} {r many : Nat} {g : Nat → List UInt8} (h : MapF w r g) (hlt : ∀ k, ¬ g k = zer64 → k < many) (hm : many ≤ 40000) :
    ∃ D0, w.ownsMap Try.prog 3 dR r many D0 ∧ Maps.size D0 ≤ many ∧ (intKeys D0).Perm ((keysUp g many).map fun k : Nat => (k : Int)) := by
  obtain ⟨es, clock, hmi, he, hst⟩ := h.lies
  have hp := keys_perm he hlt
  have hsz : es.size ≤ many := by
    have h1 := hp.length_eq
    rw [keysN_length] at h1
    have := keysUp_len g many
    omega
  have hrd : ∀ x ∈ es.toList, ∃ k : Nat, x.key = .int .i64 (k : Int) ∧ WideElems.rd Try.prog 3 dR x = some (.int .i64 (k : Int), .nil) := fun x hx => by
    obtain ⟨k, hk, hxk⟩ := ents_key he hlt x hx
    exact ⟨k, hxk, key_rd hxk (by omega)⟩
  have hmx : es.size ≤ maxLen := Nat.le_trans (Nat.le_trans hsz hm) (by decide)
  refine ⟨.map ((es.toList.map (WideElems.rg Try.prog 3 dR)).foldr DataW.insert []), ⟨es, clock, hmi, ⟨hmx, hst, fun x hx => by obtain ⟨k, _, h2⟩ := hrd x hx; exact ⟨_, h2⟩⟩, hsz, rfl⟩, ?_, ?_⟩
  · simp only [Maps.size]
    rw [length_read]
    exact hsz
  · refine List.Perm.trans ?_ (hp.map fun k : Nat => (k : Int))
    show (((es.toList.map (WideElems.rg Try.prog 3 dR)).foldr DataW.insert []).map fun p => Go.intOf p.1).Perm _
    refine ((WideShapes.sorted_perm _).map _).trans ?_
    rw [List.map_map]
    unfold keysN
    rw [List.map_map]
    refine List.Perm.of_eq (List.map_congr_left fun x hx => ?_)
    obtain ⟨k, h1, h2⟩ := hrd x hx
    simp only [Function.comp]
    rw [WideElems.rg_of h2, keyN_of h1]
    rfl
theorem keysUp_sort (g : Nat → List UInt8) (many : Nat) : ((keysUp g many).map fun k : Nat => (k : Int)).mergeSort leI = (keysUp g many).map fun k : Nat => (k : Int) :=
  List.mergeSort_of_pairwise (List.pairwise_map.2 ((keysUp_lt g many).imp fun h => by simp [leI]; omega))
set_option maxHeartbeats 2000000 in
/-- disk.sorted: a new row of the keys, rising. -/
theorem sorted_gives (w : World) (r many : Nat) (g : Nat → List UInt8) (h : MapF w r g) (hlt : ∀ k, ¬ g k = zer64 → k < many) (hm : many ≤ 40000) :
    Calls Try.prog 187 #[.map (some r)] w fun e w' => ∃ v, e = .returned v ∧ w'.ownsRow w.heap.size 3 1 v (keysUp g many).length ((keysUp g many).map fun k : Nat => Value.int .i64 (k : Int)) ∧ Below w.heap.size w w' := by
  obtain ⟨D0, hown, hsz, hperm⟩ := own_map h hlt hm
  have hmax : Maps.size D0 ≤ maxLen := Nat.le_trans hsz (Nat.le_trans hm (by decide))
  have hbytes : Maps.size D0 * 8 ≤ 140737488355328 := by omega
  refine (callsIn_wide (n := 6)).1 ?_
  have hbl := hown.lt
  have hseq : SeqGives Fence.wide 2 Try.prog 226 #[.pointer (some ⟨w.heap.size, 0, none⟩)] encZ (fun ss => ss.Perm (intKeys D0)) (Maps.size D0) (w.alloc (.cells #[.map (some r)] 150)) :=
    AnyZI.keys_gives (ρ := layK_ren) { layK with } Fence.wide _ trivial rfl (by omega) w.heap.size r many D0 _ (by simp) (by simp) (by
      obtain ⟨es, clock, hb, Ft, hs, hD⟩ := hown
      exact ⟨es, clock, (Below.heap_alloc _ _ r hbl).trans hb, Ft, hs, hD⟩)
  have cK : ∀ mb W, CallsIn Fence.wide 5 Try.prog 209 #[.map mb] W fun e w' => e = .returned (.func (.func 226) #[] #[.pointer (some ⟨W.heap.size, 0, none⟩)]) ∧ w' = W.alloc (.cells #[.map mb] 150) := fun mb W => AnyZI.keys_in layK Fence.wide 5 trivial rfl mb W
  have cS := AnyZI.sorted_in layS Fence.wide 5 trivial trivial trivial trivial rfl (by omega) (sortsInts _) (enters_of Try.func225 (by kernel_rfl) rfl) 226 #[.pointer (some ⟨w.heap.size, 0, none⟩)] trivial (enters_of Try.func226 (by kernel_rfl) rfl) _ _ hmax hbytes _ hseq
  change CallsIn _ _ Try.prog 208 _ _ _ at cS
  have hfK : Fence.wide.fn 209 := trivial
  have hfS : Fence.wide.fn 208 := trivial
  refine callsIn_of_wp Try.func187 rfl trivial ?_ rfl
  simp only [Try.ntmps187, List.size_toArray, List.length_cons, List.length_nil, Nat.reduceAdd, Nat.reduceSub, Array.replicate_succ, Array.replicate_zero, List.push_toArray, List.append_toArray, List.nil_append, List.cons_append]
  gi_wp2_with (first
    | (gi_at_call 209; refine (cK _ _).mono ?_; rintro e w' ⟨rfl, rfl⟩)
    | (gi_at_call 208; refine cS.mono ?_; rintro e w' ⟨v, ss, rfl, hS, hrow, hnil, hb⟩))
  go_ret
  have hss := hS.trans hperm
  have e1 : ss.mergeSort (fun x y => decide (x ≤ y)) = (keysUp g many).map fun k : Nat => (k : Int) := (mergeSort_of_perm_i hss).trans (keysUp_sort g many)
  have e2 : ss.length = (keysUp g many).length := by rw [hss.length_eq, List.length_map]
  rw [e1, e2, List.map_map] at hrow
  exact ⟨v, rfl, ownsRow_base_a hrow (by simp), ((Below.refl _ w).alloc (Nat.le_refl _) _).trans (hb.mono (by simp))⟩
end Go.Proofs.Ytlelckdcmlpmdaa
/- Regions that draw their order, in a round of a range over a function. -/
namespace Go.Proofs.Ytlelckdcmlpmdaa
open Go Go.RowKit Lou

/-- Q, but that nothing outgrows. -/
def NoOut (Q : Exit → Act → World → Prop) : Exit → Act → World → Prop
  | .outgrown, _, _ => False
  | e, a, w => Q e a w
theorem NoOut.imp {Q : Exit → Act → World → Prop} : ∀ (e : Exit) (a : Act) (w : World), NoOut Q e a w → Q e a w := fun e a w h => by
  cases e <;> first | exact h | exact (h : False).elim
theorem NoOut.stays {Q : Exit → Act → World → Prop} : ¬ LetsOut (NoOut Q) := fun ⟨_, _, h⟩ => h
/-- No operation defers. -/
def noDefer (ops : Array Oper) : Bool := ops.toList.all fun o => match o.op with | .defer _ => false | _ => true
section
variable {P : Program} {ops : Array Oper} {Q : Exit → Act → World → Prop} {n l : Nat}
theorem oper_inRound {o : Oper} {a : Act} {w : World} {K K' : Act → World → Prop} (hd : ∀ c, o.op ≠ .defer c) (hK : ∀ a w, K a w → K' a w) (h : o.wp P a w K (NoOut Q)) : o.wpIn (Fence.wide.inRound l) n P a w K' (NoOut Q) := by
  refine ⟨fun _ _ => trivial, ?_⟩
  have e : o.semAt (Fence.wide.inRound l).round a.eval = execOp a.eval o := Oper.semAt_some l _ o hd
  rw [e]
  unfold Oper.wp at h
  generalize (execOp a.eval o).run P w = r at *
  have nd : ∀ {p : Prop}, ((Fence.wide.inRound l).depth.isSome = true → p) := fun h => by cases h
  cases r with
  | ok x w' =>
    cases x <;> simp only [Oper.upon, Oper.uponIn] at h ⊢ <;>
      first
        | exact hK _ _ h
        | (refine ⟨nd, CallsIn.inRound l ((callsIn_wide.2 h).mono fun e w'' he => ?_)⟩; cases e <;> first | exact hK _ _ he | exact he)
        | exact ⟨nd, fun c cs _ => let ⟨v, w'', r, s⟩ := h c cs; ⟨v, w'', hK _ _ r, stepsIn_wide.2 s⟩⟩
        | exact h.elim
  | halt x w' => cases x <;> simp only [Oper.upon, Oper.uponIn] at h ⊢ <;> first | exact h | exact h.elim
theorem noDefer_spec (h : noDefer ops = true) {i : Nat} {o : Oper} (ho : ops[i]? = some o) : ∀ c, o.op ≠ .defer c := by
  intro c hc
  unfold noDefer at h
  rw [List.all_eq_true] at h
  have hm : o ∈ ops.toList := by
    obtain ⟨h1, h2⟩ := Array.getElem?_eq_some_iff.1 ho
    subst h2
    simp
  have := h o hm
  rw [hc] at this
  cases this
theorem wpAny_inRound (hd : noDefer ops = true) : ∀ (fuel : Nat) (listed : Array Bool) (a : Act) (w : World), wpAny P .any ops (NoOut Q) fuel listed a w → wpAnyIn (Fence.wide.inRound l) n P .any ops (NoOut Q) fuel listed a w := by
  intro fuel
  induction fuel with
  | zero => exact fun listed a w h => h
  | succ fuel ih =>
    intro listed a w h
    refine ⟨h.1, fun i hi => ?_⟩
    have hs := h.2 i hi
    unfold wpOp at hs
    unfold wpOpIn
    split
    · rename_i ho
      rw [ho] at hs
      exact ih _ _ _ hs
    · rename_i o ho
      rw [ho] at hs
      simp only at hs
      by_cases hw : Region.wanted o (yielded ops a.tmps) = true
      · rw [if_pos hw] at hs ⊢
        rcases hs with h1 | ⟨_, h2⟩
        · exact oper_inRound (noDefer_spec hd ho) (fun a w => ih _ a w) h1
        · exact (NoOut.stays h2).elim
      · rw [if_neg hw] at hs ⊢
        exact ⟨fun _ _ => trivial, ih _ _ _ hs⟩
end
namespace Reg
/-- As region_acts, in a round. -/
theorem region_actsR {P : Program} {ops : Array Oper} (hm : P.follows .mixedOrders = true) (hcov : covered ops = true) (hdf : noDefer ops = true) {id : Nat} {a0 : Act} {w0 : World} {Q : Exit → Act → World → Prop} {l m : Nat} (n : Nat) (hn : a0.tmps.size = n)
    (hdst : dstsIn ops n = true) (D : List Nat) (hD : dstsAre ops D = true) (V W : List (Nat × Fact)) (hV : StartOk a0 w0 V) (hW : (W.all fun p => written ops p.1) = true)
    (hok : AllOk P ops (FSof (V ++ W)) w0 ops.toList)
    (hend : ∀ a w, a.tmps.size = n → a.defers = a0.defers → Grow w0 w → (∀ t, FSof (V ++ W) t (a.eval (.tmp t)) w) → (∀ t, D.contains t = false → a.eval (.tmp t) = a0.eval (.tmp t)) → Q .normal a w) :
    (Code.region id ops true).wpIn (Fence.wide.inRound l) m P Q a0 w0 := by
  have hD' : ∀ o ∈ ops.toList, ∀ d, o.dst = some d → D.contains d = true := by
    intro o ho d hd
    unfold dstsAre at hD
    rw [List.all_eq_true] at hD
    have := hD o ho
    simpa [hd] using this
  refine wpIn_mono (Q := NoOut Q) (wpIn_region_any hm (wpAny_inRound hdf _ _ _ _ (region_wpAny hm hcov n hn ?_ (fun t v w => FSof (V ++ W) t v w ∧ (D.contains t = false → v = a0.eval (.tmp t))) (fun t v w w' h hg => ⟨FSof.stable _ _ _ _ _ h.1 hg, h.2⟩) (fun t ht => ⟨start_fact V W hV hW t ht, fun _ => rfl⟩)
    (AllOk.mono (fun _ _ _ h => h.1) (fun o ho d v w hd h => ⟨h, fun hn => by rw [hD' o ho d hd] at hn; cases hn⟩) hok) ?_))) NoOut.imp
  · intro o ho d hd
    unfold dstsIn at hdst
    rw [List.all_eq_true] at hdst
    have := hdst o ho
    simpa [hd] using this
  · intro a w h1 h2 h3 h4
    exact hend a w h1 h2 h3 (fun t => (h4 t).1) (fun t => (h4 t).2)
end Reg
end Go.Proofs.Ytlelckdcmlpmdaa
/- Small words for walks of loops over functions. -/
namespace Go.Proofs.Ytlelckdcmlpmdaa
open Go Go.RowKit Lou Go.Shelf
attribute [local go_sem] Oper.semAt_some

theorem BlkIs.abN {B g : Nat} {t : TypeId} {cs : Array Value} (hg : g < B) {W W' : World} {row : Option Nat} (h : BlkIs W g t cs) (hgr : W.grownBy W' row) (hr : ∀ r, row = some r → B ≤ r) : BlkIs W' g t cs :=
  h.grown hgr (fun e => by have := hr g e.symm; omega)
theorem below_abN {B n₀ : Nat} {w : World} (hB : n₀ ≤ B) {W W' : World} {row : Option Nat} (hw : n₀ ≤ W.heap.size) (h : Below n₀ w W) (hgr : W.grownBy W' row) (hr : ∀ r, row = some r → B ≤ r) : Below n₀ w W' :=
  h.trans (grown_below hgr hw (fun r e => Nat.le_trans hB (hr r e)))
theorem run_eqF_nil {P : Program} {ps rs : Array TypeId} {vd : Bool} (d : Nat) (t : TypeId) (w : World) (f : Fn) (xs ys : Array Value) (h : P.underlying t = some (.func ps rs vd)) : (Op.equalIn (d + 1) t (.func f xs ys) .nilFunc).run P w = .ok false w := by
  simp [Op.equalIn, run_underlying h, Result.andThen]
theorem wpI_stopB {F : Fence} {n id : Nat} {P : Program} {C : Code} {Q : Exit → Act → World → Prop} {a0 : Act} {w0 : World} (S : Act → Act → World → Prop) (h1 : ∀ Q' : Exit → Act → World → Prop, (∀ a w, S a0 a w → Q' .normal a w) → C.wpIn F n P Q' a0 w0) (h2 : ∀ a w, S a0 a w → Q .normal a w) : C.wpIn F n P (Exit.inBlock id Q) a0 w0 :=
  h1 _ h2
theorem putObj_oth (V : World) (D : Nat) (o : Obj) {g : Nat} (h : D ≠ g) : (V.putObj D o).heap[g]? = V.heap[g]? := by
  simp [World.putObj, h]
theorem results_cellQ {fn : Func} {P : Program} {a : Act} {w : World} {v : Value} {p : Addr} {t : TypeId} (k : Tmp) (h : fn.results = #[.cell k t]) (hk : a.eval (.tmp k) = .pointer (some p)) (hagg : (isAgg t).run P w = .ok false w) (hv : w.cell? p = some v) : (results fn a.tmps).run P w = .ok v w := by
  have e : a.tmps.getD k undef = .pointer (some p) := hk
  unfold results
  simp only [h]
  simp [← Array.getD_eq_getD_getElem?, e, loadVar, asAddr, hagg, hv, Result.andThen]
end Go.Proofs.Ytlelckdcmlpmdaa
/- disk: All: the function over the sectors that are not noughts; what it goes through. -/
namespace Go.Proofs.Ytlelckdcmlpmdaa
open Go Go.RowKit Lou Go.Shelf
attribute [local go_sem] Oper.semAt_some

section
variable {P : Program} {w w' : World} {ops : Array Oper} {rest : List Oper} {o : Oper} {a : Act} {Q : Exit → Act → World → Prop} {n : Nat}
/-- An operation whose run is known, in a fence that asks nothing. -/
theorem wpI_exec {v : Value} (hg : o.guard = none) (hr : (execOp a.eval o).run P w = .ok (.value v) w') (h : wpListIn Fence.wide n P ops Q rest (a.put o.dst v) w') : wpListIn Fence.wide n P ops Q (o :: rest) a w := by
  unfold wpListIn
  rw [if_pos (by simp [Region.wanted, hg])]
  refine ⟨fun _ _ => trivial, ?_⟩
  show Oper.uponIn _ _ _ _ _ _ _ ((execOp a.eval o).run P w)
  rw [hr]
  exact h
theorem wpI_execS (hg : o.guard = none) (hr : (execOp a.eval o).run P w = .ok .skip w') (h : wpListIn Fence.wide n P ops Q rest (a.put o.dst undef) w') : wpListIn Fence.wide n P ops Q (o :: rest) a w := by
  unfold wpListIn
  rw [if_pos (by simp [Region.wanted, hg])]
  refine ⟨fun _ _ => trivial, ?_⟩
  show Oper.uponIn _ _ _ _ _ _ _ ((execOp a.eval o).run P w)
  rw [hr]
  exact h
end
theorem x_storeQ {P : Program} {w : World} {ρ : Operand → Value} {o : Oper} (T : TypeId) (x y : Operand) (ho : o.op = .store T x y) (g : Nat) {t : TypeId} {cs cs' : Array Value} (hx : ρ x = .pointer (some ⟨g, 0, none⟩)) (hy : ρ y = .agg cs') {n : Nat} (hT : RowTy P T n) (hb : BlkIs w g t cs) (hn : cs.size = n)
    (hs : cs'.size = cs.size) (h1 : ∀ v ∈ cs'.toList, v.oneCell' = true) : (execOp ρ o).run P w = .ok .skip (w.setRow g cs') := by
  unfold execOp
  simp only [ho, hx, hy, Instr.storeAt, Instr.sureAddr, Sem.run_bind, Sem.run_pure, Result.andThen_ok, run_storeW (hn ▸ hT) hb hs h1]
/-- A new row of numbers. -/
theorem row_ints {w : World} {base : Nat} {e : TypeId} {v : Value} {ks : List Nat} (h : w.ownsRow base e 1 v ks.length (ks.map fun k : Nat => Value.int .i64 (k : Int))) :
    ∃ A c, v = .slice A ks.length c ∧ ks.length ≤ c ∧ ∀ (j : Nat) (hj : j < ks.length), ∃ gb, A = some ⟨gb, 0, none⟩ ∧ base ≤ gb ∧ w.cell? ⟨gb, j, none⟩ = some (.int .i64 ((ks[j] : Nat) : Int)) := by
  rcases h.2 with ⟨rfl, hz⟩ | ⟨gb, cap, cur, rfl, hbase, hgb, r1, r2, r3, r4⟩
  · exact ⟨none, 0, by rw [hz], by omega, fun j hj => by omega⟩
  · refine ⟨_, cap, rfl, r1, fun j hj => ⟨gb, rfl, hbase, ?_⟩⟩
    rw [Nat.mul_one] at r4
    have h1 : (cur.toList.take ks.length)[j]? = (ks.map fun k : Nat => Value.int .i64 (k : Int))[j]? := by rw [r4]
    rw [List.getElem?_take_of_lt hj, List.getElem?_map, List.getElem?_eq_getElem hj, Array.getElem?_toList] at h1
    simpa [World.cell?, hgb] using h1
set_option maxRecDepth 100000 in
set_option maxHeartbeats 4000000 in
theorem all_gives (w : World) (p many : Nat) (g : Nat → List UInt8) (xs : List (Nat × List UInt8)) (left : Int) (stops : Bool) (hD : DkIs w p many g xs left stops) (hl : xs.length ≤ 1000000) :
    Calls Try.prog 151 #[.pointer (some ⟨p, 0, none⟩)] w fun e w' => ∃ Bs r, e = .returned (.func (.func 186) #[] #[.pointer (some ⟨Bs, 0, none⟩)]) ∧ BlkIs w' Bs 151 #[.map (some r)] ∧ MapF w' r (laid g xs) ∧ Below w.heap.size w w' := by
  have n0 := BlkIs.new w 151 #[.map none]
  have hB0 : Below w.heap.size w (w.alloc (.cells #[.map none] 151)) := (Below.refl _ w).alloc (Nat.le_refl _) _
  have hD0 := hD.grow hB0
  have HN := none_gives _ p many g xs left stops hD0
  obtain ⟨W0, hW0⟩ : ∃ W0, W0 = w.alloc (.cells #[.map none] 151) := ⟨_, rfl⟩
  rw [← hW0] at n0 hB0 hD0
  obtain ⟨r, A, c, hb, hm, hx⟩ := hD0.has
  have hBd : Below W0.heap.size W0 W0.drew := (Below.refl _ W0).drew
  have c0 : W0.drew.cell? ⟨p, 0, none⟩ = some (.map (some r)) := by rw [show W0.drew.cell? ⟨p, 0, none⟩ = W0.cell? ⟨p, 0, none⟩ from rfl, hb.cell]; rfl
  have c2 : W0.drew.cell? ⟨p, 2, none⟩ = some (.slice A xs.length c) := by rw [show W0.drew.cell? ⟨p, 2, none⟩ = W0.cell? ⟨p, 2, none⟩ from rfl, hb.cell]; rfl
  have HNW := now_gives W0.drew r g A c xs (hm.grow hBd) (hx.grow hBd) hl
  go_enter Try.func151, Try.ntmps151
  go_wp2_with (go_at_call 95; refine HN.mono ?_; rintro e w' ⟨rfl, rfl⟩)
  rw [← hW0]
  clear hW0 HN
  go_region_with (go_at_call 94; refine HNW.mono ?_; rintro e w4 ⟨rfl, hm4, hB4⟩; have hb4 : BlkIs w4 w.heap.size _ _ := n0.below (hBd.trans (hB4.mono hBd.size)) n0.lt; have f0 := hb4.free 0; have k0 := hb4.boxed)
  all_goals
    go_wp2
    go_ret
    refine ⟨_, _, rfl, hb4.set 0 _, hm4.setCell _ _, ?_⟩
    exact (hB0.trans ((hBd.trans (hB4.mono hBd.size)).mono hB0.size)).setCell (p := ⟨w.heap.size, 0, none⟩) (Nat.le_refl _) _
end Go.Proofs.Ytlelckdcmlpmdaa
/- disk: All: what its function goes through. -/
namespace Go.Proofs.Ytlelckdcmlpmdaa
open Go Go.RowKit Lou Go.Shelf
attribute [local go_sem] Oper.semAt_some

/-- A round's values: a sector's number, a new row of its bytes. -/
def allEnc (x : Nat × Nat) : Array Value := #[.int .i64 (x.1 : Int), .slice (some ⟨x.2, 0, none⟩) 64 64]
/-- What a round may lean on. -/
def AllRd (g : Nat → List UInt8) (many : Nat) (pre : List (Nat × Nat)) (x : Nat × Nat) (W : World) : Prop :=
  (keysUp g many)[pre.length]? = some x.1 ∧ pre.map (·.1) = (keysUp g many).take pre.length ∧ BlkIs W x.2 162 ((g x.1).map b8).toArray
set_option maxRecDepth 100000 in
set_option maxHeartbeats 4000000 in
theorem all1_in (n : Nat) (hn : 6 ≤ n) (l Bs r many : Nat) (g : Nat → List UInt8) (J Jx : List (Nat × Nat) → World → Prop) (W : World) (Mu : Nat → Prop) (hMB : ¬ Mu Bs) (hMr : ¬ Mu r) (hJA : AbNew W.heap.size J)
    (hY : ∀ pre x W1, J pre W1 → AllRd g many pre x W1 → YieldAt Fence.wide (n - 1) Try.prog l (allEnc x) W1 fun e W' =>
      (e = .returned (.bool true) ∧ J (pre ++ [x]) W' ∧ KeepOut Mu W.heap.size W1 W') ∨ (e = .returned (.bool false) ∧ Jx (pre ++ [x]) W' ∧ KeepOut (fun _ => True) W.heap.size W1 W'))
    (hBs : BlkIs W Bs 151 #[.map (some r)]) (hm : MapF W r g) (hlt : ∀ k, ¬ g k = zer64 → k < many) (hmany : many ≤ 40000) (h0 : J [] W) :
    CallsIn Fence.wide n Try.prog 186 #[.func (.yield l) #[] #[], .pointer (some ⟨Bs, 0, none⟩)] W fun e W' => (∃ v, e = .returned v) ∧
      ((∃ ys, ys.map (·.1) = keysUp g many ∧ J ys W') ∨ (∃ pre, pre.length ≤ (keysUp g many).length ∧ Jx pre W')) := by
  have h1 : 1 ≤ n := by omega
  have hcB := hBs.boxed
  have HS := sorted_gives W r many g hm hlt hmany
  have hgl := hm.len
  obtain ⟨K, hK⟩ : ∃ K, K = keysUp g many := ⟨_, rfl⟩
  have hKl : K.length ≤ 40000 := by rw [hK]; exact Nat.le_trans (keysUp_len g many) hmany
  rw [← hK] at HS
  unfold AllRd at hY
  rw [← hK] at hY ⊢
  clear hK hlt
  refine callsIn_of_wp Try.func186 rfl trivial ?_ rfl
  simp only [Try.ntmps186, List.size_toArray, List.length_cons, List.length_nil, Nat.reduceAdd, Nat.reduceSub, Array.replicate_succ, Array.replicate_zero, List.push_toArray, List.append_toArray, List.nil_append, List.cons_append]
  refine wpIn_scope_wide ?_
  gi_wp2
  refine wpIn_label ?_
  gi_wp2_with (refine ⟨trivial, ?_⟩; gi_at_call 187; refine (callsIn_wide.2 HS).mono ?_; rintro e W1 ⟨v, rfl, hrow, hB1⟩; obtain ⟨A, c, rfl, hKc, hcell⟩ := row_ints hrow)
  have hJ1 : J [] W1 := hJA.grow h0 hB1
  have hKo1 : KeepOut Mu W.heap.size W W1 := KeepOut.grow _ _ hB1
  have hb1 := hKo1.blk hBs (fun _ => hMB)
  have hm1 : MapF W1 r g := hm.grow hB1
  clear HS hrow hcB hBs hm hKo1
  gi_loopw [9] (fun i wr => ∃ pre : List (Nat × Nat), i = .int .i64 (pre.length : Int) ∧ pre.length ≤ K.length ∧ pre.map (·.1) = K.take pre.length ∧ J pre wr ∧ KeepOut Mu W.heap.size W1 wr)
    (fun i _ => K.length - (intOf i).toNat)
  case atStart => exact ⟨[], rfl, Nat.zero_le _, rfl, hJ1, KeepOut.refl _ _ _⟩
  case round =>
    obtain ⟨pre, rfl, hpl, hpm, hJs, hko⟩ := hrel
    by_cases hlt : pre.length < K.length
    · obtain ⟨gb, rfl, hgb, hgc⟩ := hcell pre.length hlt
      have hgc2 := hko.cell (p := ⟨gb, pre.length, none⟩) hgc (fun h => absurd (show gb < W.heap.size from h) (by omega))
      have hbr := hko.blk hb1 (fun _ => hMB)
      have hcBr := hbr.boxed
      have hmr : MapF wr r g := by
        obtain ⟨es, c', hmi, he⟩ := hm1.lies
        exact ⟨hm1.len, es, c', hko.2 _ _ hmi (fun _ => hMr), he⟩
      have hk0 : K[pre.length]? = some K[pre.length] := List.getElem?_eq_getElem hlt
      obtain ⟨k, hk⟩ : ∃ k, k = K[pre.length] := ⟨_, rfl⟩
      rw [← hk] at hgc2 hk0
      have hpm' : (pre ++ [(k, wr.heap.size)]).map (·.1) = K.take (pre ++ [(k, wr.heap.size)]).length := by
        rw [List.map_append, hpm, List.length_append, List.length_singleton, List.take_add_one, hk0]
        rfl
      have hg64 := hgl k
      obtain ⟨b3, hB3⟩ := newSec wr (g k)
      have hz64 : ((zer64.map b8).toArray).size = 64 := by decide
      have hs1 : (((g k).map b8).toArray).size = ((zer64.map b8).toArray).size := by rw [hz64]; simp [hg64]
      have hJ3 := hJA.grow hJs hB3
      have HSEC := @x_lookup
      obtain ⟨fn, tmps, assign, body, hy, hR⟩ := hY pre (k, wr.heap.size) _ hJ3 ⟨hk0, hpm, b3⟩
      unfold allEnc at hy
      have hwk : IntKind.i64.wrap ((pre.length : Int) + 1) = (pre.length : Int) + 1 := wrap_i64_id' _ (by omega) (by omega)
      have HZ64 := Lib.hid hz64
      have HS1 := Lib.hid hs1
      have HPM := Lib.hid hpm
      have HPM' := Lib.hid hpm'
      have HK := Lib.hid hk
      have HK0 := Lib.hid hk0
      clear hz64 hs1 hpm hpm' hk hk0 hcell
      dsimp only at hy
      gi_wp2_with (first
        | (refine wpI_exec rfl (x_lookup hmr rfl rfl rfl) ?_)
        | (refine wpI_exec rfl (x_allocSec rfl) ?_)
        | (refine wpI_execS rfl (x_storeQ 162 (.tmp 5) (.tmp 15) rfl wr.heap.size rfl rfl rowDSec (BlkIs.new wr 162 (zer64.map b8).toArray) HZ64.out HS1.out (b8_one _)) ?_))
      refine hR.mono ?_
      rintro e W4 (⟨rfl, hJ4, hk4⟩ | ⟨rfl, hJx4, _⟩)
      · have hko4 := hko.trans ((KeepOut.grow Mu W.heap.size hB3).trans hk4)
        have hle4 : (pre ++ [(k, wr.heap.size)]).length ≤ K.length := by simp; omega
        gi_wp2
        go_roundw
        case rel => exact ⟨_, by simp, hle4, HPM'.out, hJ4, hko4⟩
        case measure => simp [intOf]; omega
      · have hle4 : (pre ++ [(k, wr.heap.size)]).length ≤ K.length := by simp; omega
        gi_wp2
        simp only [Exit.noGoto]
        go_end0
        exact ⟨⟨_, rfl⟩, .inr ⟨_, hle4, hJx4⟩⟩
    · have hpk : pre.map (·.1) = K := by rw [hpm, List.take_of_length_le (by omega)]
      have hln : pre.length = K.length := by omega
      have HPK := Lib.hid hpk
      clear hpk hpm
      gi_wp2
      simp only [Exit.noGoto]
      go_end0
      exact ⟨⟨_, rfl⟩, .inl ⟨pre, HPK.out, hJs⟩⟩
theorem all1_seq (n : Nat) (hn : 6 ≤ n) (Bs r many : Nat) (g : Nat → List UInt8) (Mu : Nat → Prop) (hMB : ¬ Mu Bs) (hMr : ¬ Mu r) (w : World) (hBs : BlkIs w Bs 151 #[.map (some r)]) (hm : MapF w r g) (hlt : ∀ k, ¬ g k = zer64 → k < many) (hmany : many ≤ 40000) :
    SeqR Fence.wide n Try.prog 186 #[.pointer (some ⟨Bs, 0, none⟩)] allEnc Mu (AllRd g many) (fun ys => ys.map (·.1) = keysUp g many) (fun pre => pre.length ≤ (keysUp g many).length) w := fun l J Jx W hW hJ _ hY h0 =>
  all1_in n hn l Bs r many g J Jx W Mu hMB hMr hJ hY (hBs.below hW hBs.lt) (hm.grow hW) hlt hmany h0
end Go.Proofs.Ytlelckdcmlpmdaa
/- loupelaw04: works. -/
namespace Go.Proofs.Ytlelckdcmlpmdaa
open Go Go.RowKit Lou

theorem Reg.gives_num4 (m : Int) (w : World) : Calls Try.prog 20 #[.int .i64 m] w fun e w' => ∃ v, e = .returned v ∧ Grow w w' ∧ v = .int .i64 m :=
  (num4_gives w m).mono (by rintro e w' ⟨rfl, rfl⟩; exact ⟨_, rfl, Grow.refl _, rfl⟩)
theorem run_addS {ρ : Operand → Value} {w : World} {o : Oper} {x y : Operand} {T T' : TypeId} {a b l : List UInt8} (ho : o.op = .binOp .add T x y T') (hx : ρ x = .string (str a)) (hy : ρ y = .string (str b)) (hl : a ++ b = l) (hs : a.length + b.length ≤ 1000000) (hT : Try.prog.underlying T = some .string) :
    (execOp ρ o).run Try.prog w = .ok (.value (.string (str l))) w := by
  subst hl
  have e : str a ++ str b = str (a ++ b) := by simp [str, ByteArray.ext_iff]
  have e2 : ¬ 9223372036854775807 < (str a).size + (str b).size := by
    have e3 : ∀ l : List UInt8, (str l).size = l.length := fun l => by simp [str, ByteArray.size]
    rw [e3, e3]
    omega
  simp [execOp, ho, hx, hy, go_sem, Result.andThen, hT, e, e2]
namespace Reg
section
variable {ops : Array Oper} {L : List (Nat × Fact)} {w0 : World} {o : Oper}
theorem l_cutR (t : Tmp) (l : List UInt8) (k : Nat) (ho : o.op = .slice 30 (.tmp t) none (some (.const (.int .i64 (k : Int)))) none) (hc : (o.looksAt ops).contains t = true) (hF : factOf L t = .res l) (hk : k ≤ l.length) (hd : FD L o.dst = .res (l.take k)) : RunOk Try.prog ops (FSof L) w0 o := by
  intro a w K Q hG hl hK
  have h' : (factOf L t).holds (a.eval (.tmp t)) w := hl t hc
  rw [hF] at h'
  obtain ⟨A, c, e, hin⟩ := h'
  have hle := hin.le
  have hr := cut_take (ρ := a.eval) (w := w) (o := o) ho e rfl hk hle
  unfold Oper.wp
  rw [hr]
  exact hK _ w (Grow.refl w) (fsd hd ⟨A, c, rfl, hin.take k c hk (by omega) (Nat.le_refl _)⟩)
theorem l_makeR (k : Nat) (ho : o.op = .makeSlice 30 (.const (.int .i64 (k : Int))) (.const (.int .i64 (k : Int)))) (hk : k ≤ 1000) (hd : FD L o.dst = .res (List.replicate k 0)) : RunOk Try.prog ops (FSof L) w0 o := by
  intro a w K Q hG hl hK
  have hr := x_makeB (ρ := a.eval) (w := w) (o := o) ho rfl rfl (by omega)
  have hb := BlkIs.new w 5 ((List.replicate k (0 : UInt8)).map b8).toArray
  unfold Oper.wp
  rw [hr]
  refine hK _ _ ((Below.refl _ w).alloc (Nat.le_refl _) _) (fsd hd ?_)
  have := hb.inB _ hb.lt (by simp; omega)
  rw [List.length_replicate] at this
  exact ⟨_, _, by rw [List.length_replicate], this⟩
end
end Reg
def L4 : List UInt8 := laid (fun _ => zer64) (torn (fun _ => zer64) (keptTo [(0, secL 7)] [true] 1) 10) 0
theorem L4_eq : L4 = (secL 7).take 10 ++ List.replicate 54 0 := by decide +kernel
set_option maxRecDepth 100000 in
set_option maxHeartbeats 4000000 in
theorem works4_gives (w : World) : Calls Try.prog 18 #[] w fun e w' => e = .returned (.bool true) ∧ Below w.heap.size w w' := by
  have HS7 : ∀ W, Calls Try.prog 22 #[.int .u8 7] W (GivesB W (secL 7)) := fun W => sec4_gives W 7
  have HN : ∀ W, Calls Try.prog 19 #[.int .i64 2] W fun e w' => ∃ p, e = .returned (.tuple #[.pointer (some ⟨p, 0, none⟩), .int .i64 0]) ∧ W.heap.size ≤ p ∧ DkIs w' p 2 (fun _ => zer64) [] 0 false ∧ Below W.heap.size W w' := fun W => new_gives W 2 (by decide) (by decide)
  have HW0 : ∀ W p A c, DkIs W p 2 (fun _ => zer64) [] 0 false → InB W W.heap.size A c (secL 7) → Calls Try.prog 21 #[.pointer (some ⟨p, 0, none⟩), .int .i64 0, .slice A (secL 7).length c] W fun e w' => e = .returned (.int .i64 0) ∧ DkIs w' p 2 (fun _ => zer64) [(0, secL 7)] 0 false ∧ W.grownBy w' (some p) := fun W p A c hD hin =>
    (write_ok W p 2 _ [] 0 false hD rfl 0 (by decide) A c (secL 7) rfl hin (by decide) (by decide) (by decide)).mono fun e w' h => ⟨h.1, h.2.1, h.2.2.1⟩
  have HST : ∀ W p, DkIs W p 2 (fun _ => zer64) [(0, secL 7)] 0 false → Calls Try.prog 87 #[.pointer (some ⟨p, 0, none⟩), .int .i64 0] W fun e w' => e = .returned (.int .i64 0) ∧ DkIs w' p 2 (fun _ => zer64) [(0, secL 7)] 0 true ∧ W.grownBy w' (some p) := fun W p hD => stop_gives W p 2 _ _ 0 false hD 0
  have HCR : ∀ W p q, DkIs W p 2 (fun _ => zer64) [(0, secL 7)] 0 true → InG W W.heap.size 1 (some ⟨q, 0, none⟩) 1 1 [.bool true] → Calls Try.prog 25 #[.pointer (some ⟨p, 0, none⟩), .int .i64 10, .slice (some ⟨q, 0, none⟩) 1 1] W fun e w' => e = .returned (.int .i64 0) ∧ DkIs w' p 2 (laid (fun _ => zer64) (torn (fun _ => zer64) (keptTo [(0, secL 7)] [true] 1) 10)) [] 0 false ∧ W.grownBy w' (some p) := fun W p q hD hin =>
    crash_gives W p 2 _ [(0, secL 7)] 0 true hD 10 (by decide) (some ⟨q, 0, none⟩) 1 [true] hin (by decide)
  have HWS : ∀ W p A c, DkIs W p 2 (fun _ => zer64) [(0, secL 7)] 0 true → InB W W.heap.size A c (secL 7) → Calls Try.prog 21 #[.pointer (some ⟨p, 0, none⟩), .int .i64 1, .slice A (secL 7).length c] W fun e w' => e = .returned (.int .i64 140) ∧ Below W.heap.size W w' := fun W p A c hD hin =>
    write_stop W p 2 _ _ 0 true hD rfl 1 (by decide) A c
  have HRD : ∀ W p g, DkIs W p 2 g [] 0 false → Calls Try.prog 26 #[.pointer (some ⟨p, 0, none⟩), .int .i64 0] W fun e w' => ∃ q, e = .returned (.tuple #[.slice (some ⟨q, 0, none⟩) 64 64, .int .i64 0]) ∧ InB w' w'.heap.size (some ⟨q, 0, none⟩) 64 (g 0) ∧ Below W.heap.size W w' := fun W p g hD => read_gives W p 2 g [] 0 false hD rfl 0 (by decide) (by decide)
  have hL4 : L4 = (secL 7).take 10 ++ List.replicate 54 0 := L4_eq
  go_enter Try.func18, Try.ntmps18
  go_wp2_with fail
  refine (HN _).mono ?_
  rintro x W1 ⟨p, rfl, hp, hD1, hB1⟩
  go_wp2_with (go_at_call 20; refine (num4_gives _ _).mono ?_; rintro x W ⟨rfl, rfl⟩)
  refine (HS7 _).mono ?_
  rintro x W2 ⟨v2, rfl, own2, hB2⟩
  obtain ⟨A2, c2, rfl, hin2⟩ := own2.inB
  have hD2 := hD1.grow hB2
  have hB02 := hB1.trans (hB2.mono hB1.size)
  go_wp2_with fail
  refine (HW0 _ _ _ _ hD2 hin2).mono ?_
  rintro x W3 ⟨rfl, hD3, hg3⟩
  have hB03 := hB02.trans (grown_below hg3 hB02.size (fun r h => by injection h with h; omega))
  go_wp2_with (go_at_call 20; refine (num4_gives _ _).mono ?_; rintro x W ⟨rfl, rfl⟩)
  refine (HST _ _ hD3).mono ?_
  rintro x W4 ⟨rfl, hD4, hg4⟩
  have hB04 := hB03.trans (grown_below hg4 hB03.size (fun r h => by injection h with h; omega))
  go_wp2_with (go_at_call 20; refine (num4_gives _ _).mono ?_; rintro x W ⟨rfl, rfl⟩)
  refine (HS7 _).mono ?_
  rintro x W5 ⟨v5, rfl, own5, hB5⟩
  obtain ⟨A5, c5, rfl, hin5⟩ := own5.inB
  have hD5 := hD4.grow hB5
  have hB05 := hB04.trans (hB5.mono hB04.size)
  go_wp2_with fail
  refine (HWS _ _ _ _ hD5 hin5).mono ?_
  rintro x W6 ⟨rfl, hB6⟩
  have hD6 := hD5.grow hB6
  have hB06 := hB05.trans (hB6.mono hB05.size)
  go_wp2_with fail
  have hBa : Below W6.heap.size W6 (W6.alloc (.cells #[.bool true] 4)) := (Below.refl _ _).alloc (Nat.le_refl _) _
  refine (HCR _ _ _ (hD6.grow hBa) (row_true W6 true)).mono ?_
  rintro x W7 ⟨rfl, hD7, hg7⟩
  have hB06' := hB06.trans (hBa.mono hB06.size)
  have hB07 := hB06'.trans (grown_below hg7 hB06'.size (fun r h => by injection h with h; omega))
  go_wp2_with (go_at_call 20; refine (num4_gives _ _).mono ?_; rintro x W ⟨rfl, rfl⟩)
  refine (HRD _ _ _ hD7).mono ?_
  rintro x W8 ⟨q, rfl, hin8, hB8⟩
  have hB08 := hB07.trans (hB8.mono hB07.size)
  replace hin8 : InB W8 W8.heap.size (some ⟨q, 0, none⟩) 64 L4 := hin8
  have hL4l : L4.length = 64 := by rw [hL4]; rfl
  generalize L4 = L4 at *
  go_wp2
  open Reg in
  refine region_facts (by kernel_rfl) (by kernel_rfl) 59 rfl (by kernel_rfl)
    [(3, .val (.int .i64 0)), (4, .val (.int .i64 140)), (5, .res (L4)), (6, .val (.int .i64 0))]
    [(36, .val (.int .i64 0)), (37, .val (.bool true)), (38, .val (.bool true)), (39, .val (.int .i64 140)), (40, .val (.int .i64 140)), (41, .val (.bool true)), (42, .val (.bool true)), (43, .val (.bool true)), (44, .val (.int .i64 0)), (45, .val (.int .i64 0)), (46, .val (.bool true)), (47, .val (.bool true)), (48, .val (.bool true)), (49, .res (L4)), (50, .val (.string (str (L4)))), (51, .res (secL 7)), (52, .res ((secL 7).take 10)), (53, .val (.string (str ((secL 7).take 10)))), (54, .res (List.replicate 54 0)), (55, .val (.string (str (List.replicate 54 0)))), (56, .val (.string (str (L4)))), (57, .val (.bool true)), (58, .val (.bool true)), (0, .val (.bool true))]
    ⟨rfl, rfl, ⟨_, _, (by rw [hL4l]; rfl), hin8⟩, rfl, trivial⟩ (by kernel_rfl)
    (allOk_cons (ok_none rfl (l_mvF 3 (.val (.int .i64 0)) (.inl rfl) (by kernel_rfl) (by kernel_rfl) (by kernel_rfl)))
    <| allOk_cons (ok_none rfl (l_eqi (.tmp 36) (.const (Go.Value.int Go.IntKind.i64 0)) _ _ .i64 (0) rfl Try.underlying3 (hs 36 (.int .i64 0) (by kernel_rfl) (by kernel_rfl)) (hc _) (by kernel_rfl)))
    <| allOk_cons (ok_none rfl (l_mvF 37 (.val (.bool true)) (.inl rfl) (by kernel_rfl) (by kernel_rfl) (by kernel_rfl)))
    <| allOk_cons (okg 2 true 38 rfl (by kernel_rfl) (by kernel_rfl) (by kernel_rfl) (l_mvF 4 (.val (.int .i64 140)) (.inl rfl) (by kernel_rfl) (by kernel_rfl) (by kernel_rfl)))
    <| allOk_cons (okg 2 true 38 rfl (by kernel_rfl) (by kernel_rfl) (by kernel_rfl) (l_call 20 _ _ rfl (enters_of Try.func20 (by kernel_rfl) rfl) #[.int .i64 140] (.val (.int .i64 140)) (args1 (hs 39 (.int .i64 140) (by kernel_rfl) (by kernel_rfl))) (fun w hg => gives_num4 _ _) (by kernel_rfl)))
    <| allOk_cons (okg 2 true 38 rfl (by kernel_rfl) (by kernel_rfl) (by kernel_rfl) (l_eqi (.tmp 40) (.const (Go.Value.int Go.IntKind.i64 140)) _ _ .i64 (140) rfl Try.underlying3 (hs 40 (.int .i64 140) (by kernel_rfl) (by kernel_rfl)) (hc _) (by kernel_rfl)))
    <| allOk_cons (ok_none rfl (l_pick (.tmp 38) (.tmp 41) (.bool true) rfl (hs 38 (.bool true) (by kernel_rfl) (by kernel_rfl)) (hs 41 (.bool true) (by kernel_rfl) (by kernel_rfl)) (by kernel_rfl)))
    <| allOk_cons (ok_none rfl (l_mvF 42 (.val (.bool true)) (.inl rfl) (by kernel_rfl) (by kernel_rfl) (by kernel_rfl)))
    <| allOk_cons (okg 7 true 43 rfl (by kernel_rfl) (by kernel_rfl) (by kernel_rfl) (l_mvF 6 (.val (.int .i64 0)) (.inl rfl) (by kernel_rfl) (by kernel_rfl) (by kernel_rfl)))
    <| allOk_cons (okg 7 true 43 rfl (by kernel_rfl) (by kernel_rfl) (by kernel_rfl) (l_call 20 _ _ rfl (enters_of Try.func20 (by kernel_rfl) rfl) #[.int .i64 0] (.val (.int .i64 0)) (args1 (hs 44 (.int .i64 0) (by kernel_rfl) (by kernel_rfl))) (fun w hg => gives_num4 _ _) (by kernel_rfl)))
    <| allOk_cons (okg 7 true 43 rfl (by kernel_rfl) (by kernel_rfl) (by kernel_rfl) (l_eqi (.tmp 45) (.const (Go.Value.int Go.IntKind.i64 0)) _ _ .i64 (0) rfl Try.underlying3 (hs 45 (.int .i64 0) (by kernel_rfl) (by kernel_rfl)) (hc _) (by kernel_rfl)))
    <| allOk_cons (ok_none rfl (l_pick (.tmp 43) (.tmp 46) (.bool true) rfl (hs 43 (.bool true) (by kernel_rfl) (by kernel_rfl)) (hs 46 (.bool true) (by kernel_rfl) (by kernel_rfl)) (by kernel_rfl)))
    <| allOk_cons (ok_none rfl (l_mvF 47 (.val (.bool true)) (.inl rfl) (by kernel_rfl) (by kernel_rfl) (by kernel_rfl)))
    <| allOk_cons (okg 12 true 48 rfl (by kernel_rfl) (by kernel_rfl) (by kernel_rfl) (l_mvF 5 (.res (L4)) (.inl rfl) (by kernel_rfl) (by kernel_rfl) (by kernel_rfl)))
    <| allOk_cons (okg 12 true 48 rfl (by kernel_rfl) (by kernel_rfl) (by kernel_rfl) (l_conv 49 (L4) rfl (by kernel_rfl) (by kernel_rfl) (by kernel_rfl)))
    <| allOk_cons (okg 12 true 48 rfl (by kernel_rfl) (by kernel_rfl) (by kernel_rfl) (l_call 22 _ _ rfl (enters_of Try.func22 (by kernel_rfl) rfl) #[(Go.Value.int Go.IntKind.u8 7)] (.res (secL 7)) (args1 (hc _)) (fun w hg => gives_res (HS7 w)) (by kernel_rfl)))
    <| allOk_cons (okg 12 true 48 rfl (by kernel_rfl) (by kernel_rfl) (by kernel_rfl) (l_cutR 51 (secL 7) 10 rfl (by kernel_rfl) (by kernel_rfl) (by decide) (by kernel_rfl)))
    <| allOk_cons (okg 12 true 48 rfl (by kernel_rfl) (by kernel_rfl) (by kernel_rfl) (l_conv 52 ((secL 7).take 10) rfl (by kernel_rfl) (by kernel_rfl) (by kernel_rfl)))
    <| allOk_cons (okg 12 true 48 rfl (by kernel_rfl) (by kernel_rfl) (by kernel_rfl) (l_makeR 54 rfl (by decide) (by kernel_rfl)))
    <| allOk_cons (okg 12 true 48 rfl (by kernel_rfl) (by kernel_rfl) (by kernel_rfl) (l_conv 54 (List.replicate 54 0) rfl (by kernel_rfl) (by kernel_rfl) (by kernel_rfl)))
    <| allOk_cons (okg 12 true 48 rfl (by kernel_rfl) (by kernel_rfl) (by kernel_rfl) (l_run2W (.tmp 53) (.tmp 55) (.val (.string (str (L4)))) (.string (str ((secL 7).take 10))) (.string (str (List.replicate 54 0))) (hs 53 _ (by kernel_rfl) (by kernel_rfl)) (hs 55 _ (by kernel_rfl) (by kernel_rfl)) (fun ρ w hg h1 h2 => ⟨_, w, run_addS rfl h1 h2 hL4.symm (by decide) Try.underlying9, Grow.refl _, rfl⟩) (by kernel_rfl)))
    <| allOk_cons (okg 12 true 48 rfl (by kernel_rfl) (by kernel_rfl) (by kernel_rfl) (l_eqs (.tmp 50) (.tmp 56) _ _ ((str (L4))) rfl Try.underlying9 (hs 50 (.string (str (L4))) (by kernel_rfl) (by kernel_rfl)) (hs 56 (.string (str (L4))) (by kernel_rfl) (by kernel_rfl)) (by kernel_rfl)))
    <| allOk_cons (ok_none rfl (l_pick (.tmp 48) (.tmp 57) (.bool true) rfl (hs 48 (.bool true) (by kernel_rfl) (by kernel_rfl)) (hs 57 (.bool true) (by kernel_rfl) (by kernel_rfl)) (by kernel_rfl)))
    <| allOk_cons (ok_none rfl (l_mvF 58 (.val (.bool true)) (.inr rfl) (by kernel_rfl) (by kernel_rfl) (by kernel_rfl)))
    <| allOk_nil) ?_
  intro a w9 _ hdef hG hF
  have hr : a.eval (.tmp 0) = .bool true := hF 0
  have hB09 : Below w.heap.size w w9 := hB08.trans (hG.mono hB08.size)
  clear hF
  simp only [Exit.then]
  refine ‹∀ (a : Act) (w : World), Code.wp Try.prog Code.ret _ a w → _› a w9 ?_
  refine Reg.ends1 0 (.bool true) rfl hr hdef ?_
  exact ⟨rfl, hB09⟩
end Go.Proofs.Ytlelckdcmlpmdaa
