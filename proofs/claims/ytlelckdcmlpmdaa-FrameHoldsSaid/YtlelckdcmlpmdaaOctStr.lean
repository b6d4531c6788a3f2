/- octet.String, ReadString; louperef03.String, ReadString. -/
import Derived.Test.YtlelckdcmlpmdaaOctRef
import Derived.Test.YtlelckdcmlpmdaaOctRdFix
namespace Go.Proofs.Ytlelckdcmlpmdaa
open Go Go.RowKit Lou

/-- A string's bytes. -/
def strL (l : List UInt8) : List UInt8 := num l.length ++ l

theorem OwnB.below {w0 w w' : World} {v : Value} {l : List UInt8} (h : OwnB w w0.heap.size v l) (hb : Below w0.heap.size w0 w) (hg : w.grownBy w' v.ownBlock) : Below w0.heap.size w0 w' :=
  hb.grown hg hb.size (fun k hk => (World.ownsRow.lt h k hk).1)

set_option maxRecDepth 100000 in
theorem string_gives (l : List UInt8) (hl : l.length ≤ 1000000000) (w : World) : Calls Try.prog 32 #[.string (str l)] w (GivesB w (strL l)) := by
  have hsz := str_size l
  have hn := num_length l.length
  go_enter Try.func32, Try.ntmps32
  go_wp2_with fail
  refine (number_gives l.length (by omega) _).mono ?_
  rintro e w1 ⟨v, rfl, hown, hB⟩
  go_wp2_with (at_builtin; refine wp_appS rfl _ _ rfl w.heap.size v (num l.length) rfl hown (str l) rfl (by omega) hB.size ?_; intro v' w' hown' hgrow)
  go_ret
  exact ⟨v', rfl, hown', hown.below hB hgrow⟩

set_option maxRecDepth 100000 in
theorem refString_gives (l : List UInt8) (hl : l.length ≤ 1000000000) (w : World) : Calls Try.prog 35 #[.string (str l)] w (GivesB w (strL l)) := by
  have hsz := str_size l
  have hn := num_length l.length
  go_enter Try.func35, Try.ntmps35
  go_wp2_with fail
  refine (refNumber_gives l.length (by omega) _).mono ?_
  rintro e w1 ⟨v, rfl, hown, hB⟩
  go_wp2_with (at_builtin; refine wp_appS rfl _ _ rfl w.heap.size v (num l.length) rfl hown (str l) rfl (by omega) hB.size ?_; intro v' w' hown' hgrow)
  go_ret
  exact ⟨v', rfl, hown', hown.below hB hgrow⟩

/-- What a string's reading answers. -/
def rdS (l : List UInt8) : Option (List UInt8 × Nat) :=
  match rd l with
  | some (n, k) => if n ≤ l.length - k then some ((l.drop k).take n, k + n) else none
  | none => none
def rdSV (l : List UInt8) : Value :=
  match rdS l with
  | some (s, k) => .tuple #[.string (str s), .int .i64 (k : Int), .int .i64 0]
  | none => .tuple #[.string (str []), .int .i64 0, .int .i64 130]
theorem rdSV_a {l : List UInt8} (h : rd l = none) : rdSV l = .tuple #[.string (str []), .int .i64 0, .int .i64 130] := by unfold rdSV rdS; rw [h]
theorem rdSV_b {l : List UInt8} {n k : Nat} (h : rd l = some (n, k)) (hn : ¬ n ≤ l.length - k) : rdSV l = .tuple #[.string (str []), .int .i64 0, .int .i64 130] := by unfold rdSV rdS; rw [h]; simp only [if_neg hn]
theorem rdSV_c {l : List UInt8} {n k : Nat} (h : rd l = some (n, k)) (hn : n ≤ l.length - k) : rdSV l = .tuple #[.string (str ((l.drop k).take n)), .int .i64 ((k : Int) + (n : Int)), .int .i64 0] := by unfold rdSV rdS; rw [h]; simp only [if_pos hn]; rfl

set_option maxRecDepth 100000 in
set_option maxHeartbeats 1000000 in
theorem readString_gives (w : World) (A : Option Addr) (c : Nat) (l : List UInt8) (h : InB w w.heap.size A c l) :
    Calls Try.prog 33 #[.slice A l.length c] w fun e w' => e = .returned (rdSV l) ∧ Below w.heap.size w w' := by
  have hle := h.le
  have hmax := h.max
  have H := readNumber_gives w _ A c l h
  have hb0 : ∀ u, Below w.heap.size w (w.alloc (Obj.cells #[u] 196)) := fun u => (Below.refl _ _).alloc (Nat.le_refl _) _
  rcases hr : rd l with _ | ⟨n, k⟩
  · rw [rdV_none hr] at H
    have hS := Lib.hid (rdSV_a hr)
    clear hr
    go_enter Try.func33, Try.ntmps33
    go_wp2_with (first | (go_at_call 38; refine H.mono ?_; clear H; rintro e w' ⟨rfl, rfl⟩))
    go_ret3
    exact ⟨by rw [hS.out]; rfl, hb0 _⟩
  · rw [rdV_some hr] at H
    obtain ⟨hn64, hk1, hkl⟩ := rd_bound hr
    have hcut : (if c = k then A else Option.map (fun x => x.add k) A) = cutA A c k := rfl
    have hin : InB w w.heap.size (cutA A c k) (c - k) (l.drop k) := h.drop k hkl
    have hlen : (l.drop k).length = l.length - k := by simp
    have hN := Lib.hid hn64
    clear hn64
    by_cases hs : n ≤ l.length - k
    · have hS := Lib.hid (rdSV_c hr hs)
      have hd : decide (n ≤ l.length - k) = true := by simp [hs]
      have hin2 := hin.take n n (by omega) (Nat.le_refl _) (by omega)
      have hstr : ∀ W, Below w.heap.size w W → (convert 30 9 (.slice (cutA A c k) n n)).run Try.prog W = .ok (.string (str ((l.drop k).take n))) W := by
        intro W hW
        have := (hin2.below hW).string
        rwa [List.length_take, hlen, Nat.min_eq_left hs] at this
      clear hr hin hin2
      go_enter Try.func33, Try.ntmps33
      go_wp2_with (first
        | (go_at_call 38; refine H.mono ?_; clear H; rintro e w' ⟨rfl, rfl⟩)
        | (go_at_call 102; refine (has_gives _ w.heap.size 0 (cutA A c k) (l.length - k) (c - k) n (by omega) (new_cell _ _ _)).mono ?_; rintro e w' ⟨rfl, rfl⟩)
        | (go_at_call 103; refine (take_gives _ w.heap.size 0 (cutA A c k) (l.length - k) (c - k) n (by omega) (by omega) (by omega) (new_cell _ _ _) (new_free _ _ _ _)).mono ?_; rintro e w' ⟨rfl, rfl⟩))
      go_ret3
      exact ⟨by rw [hS.out]; rfl, by first | exact hb0 _ | exact (hb0 _).setCell (p := ⟨w.heap.size, 0, none⟩) (Nat.le_refl _) _⟩
    · have hS := Lib.hid (rdSV_b hr hs)
      have hd : decide (n ≤ l.length - k) = false := by simp; omega
      clear hr hin
      go_enter Try.func33, Try.ntmps33
      go_wp2_with (first
        | (go_at_call 38; refine H.mono ?_; clear H; rintro e w' ⟨rfl, rfl⟩)
        | (go_at_call 102; refine (has_gives _ w.heap.size 0 (cutA A c k) (l.length - k) (c - k) n (by omega) (new_cell _ _ _)).mono ?_; rintro e w' ⟨rfl, rfl⟩))
      go_ret3
      exact ⟨by rw [hS.out]; rfl, hb0 _⟩

set_option maxRecDepth 100000 in
set_option maxHeartbeats 1000000 in
theorem refReadString_gives (w : World) (A : Option Addr) (c : Nat) (l : List UInt8) (h : InB w w.heap.size A c l) :
    Calls Try.prog 34 #[.slice A l.length c] w fun e w' => e = .returned (rdSV l) ∧ w = w' := by
  have hle := h.le
  have hmax := h.max
  have H := refReadNumber_gives w _ A c l h
  rcases hr : rd l with _ | ⟨n, k⟩
  · rw [rdV_none hr] at H
    have hS := Lib.hid (rdSV_a hr)
    clear hr
    go_enter Try.func34, Try.ntmps34
    go_wp2_with (first | (go_at_call 31; refine H.mono ?_; clear H; rintro e w' ⟨rfl, rfl⟩))
    go_ret3
    exact ⟨by rw [hS.out]; rfl, rfl⟩
  · rw [rdV_some hr] at H
    obtain ⟨hn64, hk1, hkl⟩ := rd_bound hr
    have hcut : (if c = k then A else Option.map (fun x => x.add k) A) = cutA A c k := rfl
    have hin : InB w w.heap.size (cutA A c k) (c - k) (l.drop k) := h.drop k hkl
    have hlen : (l.drop k).length = l.length - k := by simp
    have hN := Lib.hid hn64
    clear hn64
    by_cases hs : n ≤ l.length - k
    · have hS := Lib.hid (rdSV_c hr hs)
      have hin2 := hin.take n (c - k) (by omega) (by omega) (by omega)
      have hstr : (convert 30 9 (.slice (cutA A c k) n (c - k))).run Try.prog w = .ok (.string (str ((l.drop k).take n))) w := by
        have := hin2.string
        rwa [List.length_take, hlen, Nat.min_eq_left hs] at this
      clear hr hin hin2
      go_enter Try.func34, Try.ntmps34
      go_wp2_with (first | (go_at_call 31; refine H.mono ?_; clear H; rintro e w' ⟨rfl, rfl⟩))
      go_ret3
      exact ⟨by rw [hS.out]; rfl, rfl⟩
    · have hS := Lib.hid (rdSV_b hr hs)
      clear hr hin
      go_enter Try.func34, Try.ntmps34
      go_wp2_with (first | (go_at_call 31; refine H.mono ?_; clear H; rintro e w' ⟨rfl, rfl⟩))
      go_ret3
      exact ⟨by rw [hS.out]; rfl, rfl⟩
end Go.Proofs.Ytlelckdcmlpmdaa
