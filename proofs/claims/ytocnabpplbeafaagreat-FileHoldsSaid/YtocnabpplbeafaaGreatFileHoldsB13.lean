/- Texts that the proof of FileHolds leans on, part 13. -/
import Derived.Test.YtocnabpplbeafaaGreatFileHoldsB12
/- wal: the good head with the greatest serial. -/
namespace Go.Proofs.YtocnabpplbeafaaGreat
open Go Go.RowKit Lou

def hvOf (l : List UInt8) : HdP := if isHead l then ⟨hdS l, hdE l, (hdZ l : Int), (hdC l : Int)⟩ else HdP.zero
def goodH (l : List UInt8) (j : Nat) : Bool := isHead l && decide (hdS l % 2 = j)
def gdH (l : List UInt8) (j : Nat) : HdP := if goodH l j then hvOf l else HdP.zero
theorem decHV_hv (l : List UInt8) : decHV l = .tuple #[.agg (hvOf l).l.toArray, .int .i64 (if isHead l then 0 else 150)] := by
  unfold decHV hvOf
  cases isHead l <;> rfl
/-- How a good head is told: the reading's error, and its serial's parity. -/
theorem goodH_cases (l : List UInt8) (j : Nat) (hj : j < 2) : ∃ (h : HdP) (er : Int), decHV l = .tuple #[.agg h.l.toArray, .int .i64 er] ∧ ((er = 150 ∧ goodH l j = false ∧ gdH l j = HdP.zero) ∨ (er = 0 ∧ ((h.s % 2 = j ∧ goodH l j = true ∧ gdH l j = h) ∨ (¬ h.s % 2 = j ∧ goodH l j = false ∧ gdH l j = HdP.zero)))) := by
  refine ⟨_, _, decHV_hv l, ?_⟩
  cases hh : isHead l
  · exact .inl ⟨by simp, by simp [goodH, hh], by simp [gdH, goodH, hh]⟩
  · refine .inr ⟨by simp, ?_⟩
    have hs : (hvOf l).s = hdS l := by simp [hvOf, hh]
    rw [hs]
    by_cases hp : hdS l % 2 = j
    · exact .inl ⟨hp, by simp [goodH, hh, hp], by simp [gdH, goodH, hh, hp]⟩
    · exact .inr ⟨hp, by simp [goodH, hh, hp], by simp [gdH, goodH, hh, hp]⟩
theorem tmod2 (k : Nat) (x : Nat) (h : k % 2 = x) : Int.tmod (k : Int) 2 = (x : Int) := by
  rw [← h]
  rfl
set_option maxRecDepth 100000 in
set_option maxHeartbeats 16000000 in
theorem headH_gives (w : World) (l d many : Nat) (s : DS) (hD : DkS w d many s) (hs : s.stopped = false) (hxl : s.xs.length ≤ 1000000) (hc : w.cell? ⟨l, 0, none⟩ = some (.pointer (some ⟨d, 0, none⟩))) (hll : l < w.heap.size) (hm2 : 2 ≤ many) (hmax : many ≤ 1000000) (G : Nat → List UInt8) (hG : G = laid s.g s.xs) :
    Calls Tryz.prog 39 #[.pointer (some ⟨l, 0, none⟩)] w fun e w' => e = .returned (.tuple #[.agg (if (gdH (G 0) 0).s < (gdH (G 1) 1).s then gdH (G 1) 1 else gdH (G 0) 0).l.toArray, .bool (goodH (G 0) 0 || goodH (G 1) 1), .int .i64 0]) ∧ Below w.heap.size w w' := by
  have hGl : ∀ k, (G k).length = 64 := by rw [hG]; exact laid_long hD
  have HR : ∀ (i : Nat) (W : World), i < 2 → Below w.heap.size w W → Calls Tryz.prog 74 #[.pointer (some ⟨l, 0, none⟩), .int .i64 (i : Int), .int .i64 1] W fun e w' => ∃ A c, e = .returned (.tuple #[.slice A 64 c, .int .i64 0]) ∧ InB w' w'.heap.size A c (G i) ∧ Below W.heap.size W w' := fun i W hi hB => by
    have := wread_gives W l d many s.g s.xs s.left s.st (hD.grow hB) hs hxl ((hB.cell (p := ⟨l, 0, none⟩) hll).trans hc) (Nat.lt_of_lt_of_le hll hB.size) i 1 (by omega) hmax
    rw [← hG] at this
    exact this
  have HDC : ∀ (i : Nat) (W : World) (A : Option Addr) (c : Nat), InB W W.heap.size A c (G i) → Calls Tryz.prog 75 #[.slice A 64 c] W fun e w' => e = .returned (decHV (G i)) ∧ Below W.heap.size W w' := fun i W A c h => by
    have := decodeHead_gives W A c (G i) h
    rw [hGl] at this
    exact this
  obtain ⟨p0, r0, hd0, hg0⟩ := goodH_cases (G 0) 0 (by omega)
  obtain ⟨p1, r1, hd1, hg1⟩ := goodH_cases (G 1) 1 (by omega)
  have HDC0 := HDC 0
  have HDC1 := HDC 1
  rw [hd0] at HDC0
  rw [hd1] at HDC1
  have HR0 := fun W => HR 0 W (by omega)
  have HR1 := fun W => HR 1 W (by omega)
  generalize G 0 = G0 at *
  generalize G 1 = G1 at *
  generalize goodH G0 0 = g0 at *
  generalize goodH G1 1 = g1 at *
  generalize gdH G0 0 = q0 at *
  generalize gdH G1 1 = q1 at *
  clear hd0 hd1 HR HDC hG hGl hD hs
  have b0 := (BlkIs.new w 89 #[.int .u64 0, .int .u64 0, .int .i64 0, .int .i64 0]).alloc (.cells #[.int .u64 0, .int .u64 0, .int .i64 0, .int .i64 0, .int .u64 0, .int .u64 0, .int .i64 0, .int .i64 0] 123)
  have b1 := BlkIs.new (w.alloc (.cells #[.int .u64 0, .int .u64 0, .int .i64 0, .int .i64 0] 89)) 123 #[.int .u64 0, .int .u64 0, .int .i64 0, .int .i64 0, .int .u64 0, .int .u64 0, .int .i64 0, .int .i64 0]
  rw [World.size_alloc] at b1
  have hBb : Below w.heap.size w ((w.alloc (.cells #[.int .u64 0, .int .u64 0, .int .i64 0, .int .i64 0] 89)).alloc (.cells #[.int .u64 0, .int .u64 0, .int .i64 0, .int .i64 0, .int .u64 0, .int .u64 0, .int .i64 0, .int .i64 0] 123)) := ((Below.refl _ w).alloc (Nat.le_refl _) _).alloc (by simp) _
  have HG0 := Lib.hid hg0
  have HG1 := Lib.hid hg1
  clear hg0 hg1
  obtain ⟨RR, hRR⟩ : ∃ RR, RR = (if q0.s < q1.s then q1 else q0).l.toArray := ⟨_, rfl⟩
  rw [← hRR]
  have HRA := Lib.hid hRR
  clear hRR
  go_enter Tryz.func39, Tryz.ntmps39
  go_wp2
  go_loopw [13, 6] (fun i v wr => ((i = .int .i64 0 ∧ v = .bool false ∧ BlkIs wr (w.heap.size + 1) 123 (HdP.zero.l ++ HdP.zero.l).toArray) ∨ (i = .int .i64 1 ∧ v = .bool g0 ∧ BlkIs wr (w.heap.size + 1) 123 (q0.l ++ HdP.zero.l).toArray) ∨ (i = .int .i64 2 ∧ v = .bool (g0 || g1) ∧ BlkIs wr (w.heap.size + 1) 123 (q0.l ++ q1.l).toArray)) ∧ BlkIs wr w.heap.size 89 HdP.zero.l.toArray ∧ Below w.heap.size w wr) (fun i _ _ => 2 - (intOf i).toNat)
  case atStart => exact ⟨.inl ⟨rfl, rfl, b1⟩, b0, hBb⟩
  case round =>
    clear b0 b1 hBb
    obtain ⟨(⟨rfl, rfl, c1⟩ | ⟨rfl, rfl, c1⟩ | ⟨rfl, rfl, c1⟩), c0, hB⟩ := hrel
    · have HRk := HR0 wr hB
      obtain ⟨S, E, Z, C⟩ := p0
      have HDC0 := HDC0
      simp only [HdP.l] at HDC0
      have hone : ∀ v ∈ (#[.int .u64 (S : Int), .int .u64 (E : Int), .int .i64 Z, .int .i64 C] : Array Value).toList, v.oneCell' = true := HdP.one ⟨S, E, Z, C⟩
      clear HR1
      rcases HG0.out with ⟨rfl, hgf, hq⟩ | ⟨rfl, ⟨hp, hgf, hq⟩ | ⟨hp, hgf, hq⟩⟩
      · replace hgf := Lib.hid hgf
        replace hq := Lib.hid hq
        go_wp2_with (first
          | (go_at_call 74; refine HRk.mono ?_; rintro e w2 ⟨A, c, rfl, hin, hB2⟩)
          | (go_at_call 75; refine (HDC0 w2 A c hin).mono ?_; rintro e w3 ⟨rfl, hB3⟩; have b4 := BlkIs.new w3 89 #[.int .u64 0, .int .u64 0, .int .i64 0, .int .i64 0])
          | (refine wp_storeW rfl 89 (.tmp 10) (.tmp 31) rfl w3.heap.size rfl rfl rowHead b4 rfl rfl hone ?_; obtain ⟨W4, hW4⟩ : ∃ W4, W4 = (w3.alloc (.cells #[.int .u64 0, .int .u64 0, .int .i64 0, .int .i64 0] 89)).setRow w3.heap.size #[.int .u64 (S : Int), .int .u64 (E : Int), .int .i64 Z, .int .i64 C] := ⟨_, rfl⟩; have b5 : BlkIs W4 w3.heap.size 89 #[.int .u64 (S : Int), .int .u64 (E : Int), .int .i64 Z, .int .i64 C] := (by rw [hW4]; exact b4.setRow _); have hB4 : Below wr.heap.size wr W4 := (by rw [hW4]; exact below_setRow ((hB2.trans (hB3.mono hB2.size)).alloc (Nat.le_trans hB2.size hB3.size) _) (Nat.le_trans hB2.size hB3.size) _); rw [← hW4]; clear hW4; have c4 := c1.below hB4 c1.lt; have d4 := c0.below hB4 c0.lt; have k0 : W4.cell? ⟨w3.heap.size, 0, none⟩ = some (.int .u64 (S : Int)) := (by rw [b5.cell]; rfl); have k1 : W4.cell? ⟨w3.heap.size, 1, none⟩ = some (.int .u64 (E : Int)) := (by rw [b5.cell]; rfl); have k2 : W4.cell? ⟨w3.heap.size, 2, none⟩ = some (.int .i64 Z) := (by rw [b5.cell]; rfl); have k3 : W4.cell? ⟨w3.heap.size, 3, none⟩ = some (.int .i64 C) := (by rw [b5.cell]; rfl); have z0 : W4.cell? ⟨w.heap.size + 1, 0, none⟩ = some (.int .u64 0) := (by rw [c4.cell]; rfl); have z1 : W4.cell? ⟨w.heap.size + 1, 1, none⟩ = some (.int .u64 0) := (by rw [c4.cell]; rfl); have z2 : W4.cell? ⟨w.heap.size + 1, 2, none⟩ = some (.int .i64 0) := (by rw [c4.cell]; rfl); have z3 : W4.cell? ⟨w.heap.size + 1, 3, none⟩ = some (.int .i64 0) := (by rw [c4.cell]; rfl); have y0 := c4.free 0; have y1 := c4.free 1; have y2 := c4.free 2; have y3 := c4.free 3))
        go_roundw
        case rel => exact ⟨.inr (.inl ⟨rfl, by rw [hgf.out], by rw [hq.out]; exact c4⟩), d4, hB.trans (hB4.mono hB.size)⟩
        case measure => simp [intOf]
      · have hm : Int.tmod (S : Int) 2 = 0 := by
          have := tmod2 S 0 hp
          exact this
        replace hgf := Lib.hid hgf
        replace hq := Lib.hid hq
        clear hp
        go_wp2_with (first
          | (go_at_call 74; refine HRk.mono ?_; rintro e w2 ⟨A, c, rfl, hin, hB2⟩)
          | (go_at_call 75; refine (HDC0 w2 A c hin).mono ?_; rintro e w3 ⟨rfl, hB3⟩; have b4 := BlkIs.new w3 89 #[.int .u64 0, .int .u64 0, .int .i64 0, .int .i64 0])
          | (refine wp_storeW rfl 89 (.tmp 10) (.tmp 31) rfl w3.heap.size rfl rfl rowHead b4 rfl rfl hone ?_; obtain ⟨W4, hW4⟩ : ∃ W4, W4 = (w3.alloc (.cells #[.int .u64 0, .int .u64 0, .int .i64 0, .int .i64 0] 89)).setRow w3.heap.size #[.int .u64 (S : Int), .int .u64 (E : Int), .int .i64 Z, .int .i64 C] := ⟨_, rfl⟩; have b5 : BlkIs W4 w3.heap.size 89 #[.int .u64 (S : Int), .int .u64 (E : Int), .int .i64 Z, .int .i64 C] := (by rw [hW4]; exact b4.setRow _); have hB4 : Below wr.heap.size wr W4 := (by rw [hW4]; exact below_setRow ((hB2.trans (hB3.mono hB2.size)).alloc (Nat.le_trans hB2.size hB3.size) _) (Nat.le_trans hB2.size hB3.size) _); rw [← hW4]; clear hW4; have c4 := c1.below hB4 c1.lt; have d4 := c0.below hB4 c0.lt; have k0 : W4.cell? ⟨w3.heap.size, 0, none⟩ = some (.int .u64 (S : Int)) := (by rw [b5.cell]; rfl); have k1 : W4.cell? ⟨w3.heap.size, 1, none⟩ = some (.int .u64 (E : Int)) := (by rw [b5.cell]; rfl); have k2 : W4.cell? ⟨w3.heap.size, 2, none⟩ = some (.int .i64 Z) := (by rw [b5.cell]; rfl); have k3 : W4.cell? ⟨w3.heap.size, 3, none⟩ = some (.int .i64 C) := (by rw [b5.cell]; rfl); have z0 : W4.cell? ⟨w.heap.size + 1, 0, none⟩ = some (.int .u64 0) := (by rw [c4.cell]; rfl); have z1 : W4.cell? ⟨w.heap.size + 1, 1, none⟩ = some (.int .u64 0) := (by rw [c4.cell]; rfl); have z2 : W4.cell? ⟨w.heap.size + 1, 2, none⟩ = some (.int .i64 0) := (by rw [c4.cell]; rfl); have z3 : W4.cell? ⟨w.heap.size + 1, 3, none⟩ = some (.int .i64 0) := (by rw [c4.cell]; rfl); have y0 := c4.free 0; have y1 := c4.free 1; have y2 := c4.free 2; have y3 := c4.free 3))
        go_roundw
        case rel =>
          have e1 := (((c4.set 0 (.int .u64 (S : Int))).set 1 (.int .u64 (E : Int))).set 2 (.int .i64 Z)).set 3 (.int .i64 C)
          have e0 := (((d4.other (p := ⟨w.heap.size + 1, 0, none⟩) (by simp) (.int .u64 (S : Int))).other (p := ⟨w.heap.size + 1, 1, none⟩) (by simp) (.int .u64 (E : Int))).other (p := ⟨w.heap.size + 1, 2, none⟩) (by simp) (.int .i64 Z)).other (p := ⟨w.heap.size + 1, 3, none⟩) (by simp) (.int .i64 C)
          exact ⟨.inr (.inl ⟨rfl, by rw [hgf.out], by rw [hq.out]; exact e1⟩), e0, ((((hB.trans (hB4.mono hB.size)).setCell (by simp) _).setCell (by simp) _).setCell (by simp) _).setCell (by simp) _⟩
        case measure => simp [intOf]
      · have hm : Int.tmod (S : Int) 2 = 1 := by
          have := tmod2 S 1 (by have hp' : ¬ S % 2 = 0 := hp; omega)
          exact this
        replace hgf := Lib.hid hgf
        replace hq := Lib.hid hq
        clear hp
        go_wp2_with (first
          | (go_at_call 74; refine HRk.mono ?_; rintro e w2 ⟨A, c, rfl, hin, hB2⟩)
          | (go_at_call 75; refine (HDC0 w2 A c hin).mono ?_; rintro e w3 ⟨rfl, hB3⟩; have b4 := BlkIs.new w3 89 #[.int .u64 0, .int .u64 0, .int .i64 0, .int .i64 0])
          | (refine wp_storeW rfl 89 (.tmp 10) (.tmp 31) rfl w3.heap.size rfl rfl rowHead b4 rfl rfl hone ?_; obtain ⟨W4, hW4⟩ : ∃ W4, W4 = (w3.alloc (.cells #[.int .u64 0, .int .u64 0, .int .i64 0, .int .i64 0] 89)).setRow w3.heap.size #[.int .u64 (S : Int), .int .u64 (E : Int), .int .i64 Z, .int .i64 C] := ⟨_, rfl⟩; have b5 : BlkIs W4 w3.heap.size 89 #[.int .u64 (S : Int), .int .u64 (E : Int), .int .i64 Z, .int .i64 C] := (by rw [hW4]; exact b4.setRow _); have hB4 : Below wr.heap.size wr W4 := (by rw [hW4]; exact below_setRow ((hB2.trans (hB3.mono hB2.size)).alloc (Nat.le_trans hB2.size hB3.size) _) (Nat.le_trans hB2.size hB3.size) _); rw [← hW4]; clear hW4; have c4 := c1.below hB4 c1.lt; have d4 := c0.below hB4 c0.lt; have k0 : W4.cell? ⟨w3.heap.size, 0, none⟩ = some (.int .u64 (S : Int)) := (by rw [b5.cell]; rfl); have k1 : W4.cell? ⟨w3.heap.size, 1, none⟩ = some (.int .u64 (E : Int)) := (by rw [b5.cell]; rfl); have k2 : W4.cell? ⟨w3.heap.size, 2, none⟩ = some (.int .i64 Z) := (by rw [b5.cell]; rfl); have k3 : W4.cell? ⟨w3.heap.size, 3, none⟩ = some (.int .i64 C) := (by rw [b5.cell]; rfl); have z0 : W4.cell? ⟨w.heap.size + 1, 0, none⟩ = some (.int .u64 0) := (by rw [c4.cell]; rfl); have z1 : W4.cell? ⟨w.heap.size + 1, 1, none⟩ = some (.int .u64 0) := (by rw [c4.cell]; rfl); have z2 : W4.cell? ⟨w.heap.size + 1, 2, none⟩ = some (.int .i64 0) := (by rw [c4.cell]; rfl); have z3 : W4.cell? ⟨w.heap.size + 1, 3, none⟩ = some (.int .i64 0) := (by rw [c4.cell]; rfl); have y0 := c4.free 0; have y1 := c4.free 1; have y2 := c4.free 2; have y3 := c4.free 3))
        go_roundw
        case rel => exact ⟨.inr (.inl ⟨rfl, by rw [hgf.out], by rw [hq.out]; exact c4⟩), d4, hB.trans (hB4.mono hB.size)⟩
        case measure => simp [intOf]
    · have HRk := HR1 wr hB
      obtain ⟨S, E, Z, C⟩ := p1
      have HDC1 := HDC1
      simp only [HdP.l] at HDC1
      have hone : ∀ v ∈ (#[.int .u64 (S : Int), .int .u64 (E : Int), .int .i64 Z, .int .i64 C] : Array Value).toList, v.oneCell' = true := HdP.one ⟨S, E, Z, C⟩
      clear HR0
      rcases HG1.out with ⟨rfl, hgf, hq⟩ | ⟨rfl, ⟨hp, hgf, hq⟩ | ⟨hp, hgf, hq⟩⟩
      · replace hgf := Lib.hid hgf
        replace hq := Lib.hid hq
        go_wp2_with (first
          | (go_at_call 74; refine HRk.mono ?_; rintro e w2 ⟨A, c, rfl, hin, hB2⟩)
          | (go_at_call 75; refine (HDC1 w2 A c hin).mono ?_; rintro e w3 ⟨rfl, hB3⟩; have b4 := BlkIs.new w3 89 #[.int .u64 0, .int .u64 0, .int .i64 0, .int .i64 0])
          | (refine wp_storeW rfl 89 (.tmp 10) (.tmp 31) rfl w3.heap.size rfl rfl rowHead b4 rfl rfl hone ?_; obtain ⟨W4, hW4⟩ : ∃ W4, W4 = (w3.alloc (.cells #[.int .u64 0, .int .u64 0, .int .i64 0, .int .i64 0] 89)).setRow w3.heap.size #[.int .u64 (S : Int), .int .u64 (E : Int), .int .i64 Z, .int .i64 C] := ⟨_, rfl⟩; have b5 : BlkIs W4 w3.heap.size 89 #[.int .u64 (S : Int), .int .u64 (E : Int), .int .i64 Z, .int .i64 C] := (by rw [hW4]; exact b4.setRow _); have hB4 : Below wr.heap.size wr W4 := (by rw [hW4]; exact below_setRow ((hB2.trans (hB3.mono hB2.size)).alloc (Nat.le_trans hB2.size hB3.size) _) (Nat.le_trans hB2.size hB3.size) _); rw [← hW4]; clear hW4; have c4 := c1.below hB4 c1.lt; have d4 := c0.below hB4 c0.lt; have k0 : W4.cell? ⟨w3.heap.size, 0, none⟩ = some (.int .u64 (S : Int)) := (by rw [b5.cell]; rfl); have k1 : W4.cell? ⟨w3.heap.size, 1, none⟩ = some (.int .u64 (E : Int)) := (by rw [b5.cell]; rfl); have k2 : W4.cell? ⟨w3.heap.size, 2, none⟩ = some (.int .i64 Z) := (by rw [b5.cell]; rfl); have k3 : W4.cell? ⟨w3.heap.size, 3, none⟩ = some (.int .i64 C) := (by rw [b5.cell]; rfl); have z0 : W4.cell? ⟨w.heap.size + 1, 4, none⟩ = some (.int .u64 0) := (by rw [c4.cell]; rfl); have z1 : W4.cell? ⟨w.heap.size + 1, 5, none⟩ = some (.int .u64 0) := (by rw [c4.cell]; rfl); have z2 : W4.cell? ⟨w.heap.size + 1, 6, none⟩ = some (.int .i64 0) := (by rw [c4.cell]; rfl); have z3 : W4.cell? ⟨w.heap.size + 1, 7, none⟩ = some (.int .i64 0) := (by rw [c4.cell]; rfl); have y0 := c4.free 4; have y1 := c4.free 5; have y2 := c4.free 6; have y3 := c4.free 7))
        go_roundw
        case rel => exact ⟨.inr (.inr ⟨rfl, by rw [hgf.out]; simp, by rw [hq.out]; exact c4⟩), d4, hB.trans (hB4.mono hB.size)⟩
        case measure => simp [intOf]
      · have hm : Int.tmod (S : Int) 2 = 1 := by
          have := tmod2 S 1 hp
          exact this
        replace hgf := Lib.hid hgf
        replace hq := Lib.hid hq
        clear hp
        go_wp2_with (first
          | (go_at_call 74; refine HRk.mono ?_; rintro e w2 ⟨A, c, rfl, hin, hB2⟩)
          | (go_at_call 75; refine (HDC1 w2 A c hin).mono ?_; rintro e w3 ⟨rfl, hB3⟩; have b4 := BlkIs.new w3 89 #[.int .u64 0, .int .u64 0, .int .i64 0, .int .i64 0])
          | (refine wp_storeW rfl 89 (.tmp 10) (.tmp 31) rfl w3.heap.size rfl rfl rowHead b4 rfl rfl hone ?_; obtain ⟨W4, hW4⟩ : ∃ W4, W4 = (w3.alloc (.cells #[.int .u64 0, .int .u64 0, .int .i64 0, .int .i64 0] 89)).setRow w3.heap.size #[.int .u64 (S : Int), .int .u64 (E : Int), .int .i64 Z, .int .i64 C] := ⟨_, rfl⟩; have b5 : BlkIs W4 w3.heap.size 89 #[.int .u64 (S : Int), .int .u64 (E : Int), .int .i64 Z, .int .i64 C] := (by rw [hW4]; exact b4.setRow _); have hB4 : Below wr.heap.size wr W4 := (by rw [hW4]; exact below_setRow ((hB2.trans (hB3.mono hB2.size)).alloc (Nat.le_trans hB2.size hB3.size) _) (Nat.le_trans hB2.size hB3.size) _); rw [← hW4]; clear hW4; have c4 := c1.below hB4 c1.lt; have d4 := c0.below hB4 c0.lt; have k0 : W4.cell? ⟨w3.heap.size, 0, none⟩ = some (.int .u64 (S : Int)) := (by rw [b5.cell]; rfl); have k1 : W4.cell? ⟨w3.heap.size, 1, none⟩ = some (.int .u64 (E : Int)) := (by rw [b5.cell]; rfl); have k2 : W4.cell? ⟨w3.heap.size, 2, none⟩ = some (.int .i64 Z) := (by rw [b5.cell]; rfl); have k3 : W4.cell? ⟨w3.heap.size, 3, none⟩ = some (.int .i64 C) := (by rw [b5.cell]; rfl); have z0 : W4.cell? ⟨w.heap.size + 1, 4, none⟩ = some (.int .u64 0) := (by rw [c4.cell]; rfl); have z1 : W4.cell? ⟨w.heap.size + 1, 5, none⟩ = some (.int .u64 0) := (by rw [c4.cell]; rfl); have z2 : W4.cell? ⟨w.heap.size + 1, 6, none⟩ = some (.int .i64 0) := (by rw [c4.cell]; rfl); have z3 : W4.cell? ⟨w.heap.size + 1, 7, none⟩ = some (.int .i64 0) := (by rw [c4.cell]; rfl); have y0 := c4.free 4; have y1 := c4.free 5; have y2 := c4.free 6; have y3 := c4.free 7))
        go_roundw
        case rel =>
          have e1 := (((c4.set 4 (.int .u64 (S : Int))).set 5 (.int .u64 (E : Int))).set 6 (.int .i64 Z)).set 7 (.int .i64 C)
          have e0 := (((d4.other (p := ⟨w.heap.size + 1, 4, none⟩) (by simp) (.int .u64 (S : Int))).other (p := ⟨w.heap.size + 1, 5, none⟩) (by simp) (.int .u64 (E : Int))).other (p := ⟨w.heap.size + 1, 6, none⟩) (by simp) (.int .i64 Z)).other (p := ⟨w.heap.size + 1, 7, none⟩) (by simp) (.int .i64 C)
          exact ⟨.inr (.inr ⟨rfl, by rw [hgf.out]; simp, by rw [hq.out]; exact e1⟩), e0, ((((hB.trans (hB4.mono hB.size)).setCell (by simp) _).setCell (by simp) _).setCell (by simp) _).setCell (by simp) _⟩
        case measure => simp [intOf]
      · have hm : Int.tmod (S : Int) 2 = 0 := by
          have := tmod2 S 0 (by have hp' : ¬ S % 2 = 1 := hp; omega)
          exact this
        replace hgf := Lib.hid hgf
        replace hq := Lib.hid hq
        clear hp
        go_wp2_with (first
          | (go_at_call 74; refine HRk.mono ?_; rintro e w2 ⟨A, c, rfl, hin, hB2⟩)
          | (go_at_call 75; refine (HDC1 w2 A c hin).mono ?_; rintro e w3 ⟨rfl, hB3⟩; have b4 := BlkIs.new w3 89 #[.int .u64 0, .int .u64 0, .int .i64 0, .int .i64 0])
          | (refine wp_storeW rfl 89 (.tmp 10) (.tmp 31) rfl w3.heap.size rfl rfl rowHead b4 rfl rfl hone ?_; obtain ⟨W4, hW4⟩ : ∃ W4, W4 = (w3.alloc (.cells #[.int .u64 0, .int .u64 0, .int .i64 0, .int .i64 0] 89)).setRow w3.heap.size #[.int .u64 (S : Int), .int .u64 (E : Int), .int .i64 Z, .int .i64 C] := ⟨_, rfl⟩; have b5 : BlkIs W4 w3.heap.size 89 #[.int .u64 (S : Int), .int .u64 (E : Int), .int .i64 Z, .int .i64 C] := (by rw [hW4]; exact b4.setRow _); have hB4 : Below wr.heap.size wr W4 := (by rw [hW4]; exact below_setRow ((hB2.trans (hB3.mono hB2.size)).alloc (Nat.le_trans hB2.size hB3.size) _) (Nat.le_trans hB2.size hB3.size) _); rw [← hW4]; clear hW4; have c4 := c1.below hB4 c1.lt; have d4 := c0.below hB4 c0.lt; have k0 : W4.cell? ⟨w3.heap.size, 0, none⟩ = some (.int .u64 (S : Int)) := (by rw [b5.cell]; rfl); have k1 : W4.cell? ⟨w3.heap.size, 1, none⟩ = some (.int .u64 (E : Int)) := (by rw [b5.cell]; rfl); have k2 : W4.cell? ⟨w3.heap.size, 2, none⟩ = some (.int .i64 Z) := (by rw [b5.cell]; rfl); have k3 : W4.cell? ⟨w3.heap.size, 3, none⟩ = some (.int .i64 C) := (by rw [b5.cell]; rfl); have z0 : W4.cell? ⟨w.heap.size + 1, 4, none⟩ = some (.int .u64 0) := (by rw [c4.cell]; rfl); have z1 : W4.cell? ⟨w.heap.size + 1, 5, none⟩ = some (.int .u64 0) := (by rw [c4.cell]; rfl); have z2 : W4.cell? ⟨w.heap.size + 1, 6, none⟩ = some (.int .i64 0) := (by rw [c4.cell]; rfl); have z3 : W4.cell? ⟨w.heap.size + 1, 7, none⟩ = some (.int .i64 0) := (by rw [c4.cell]; rfl); have y0 := c4.free 4; have y1 := c4.free 5; have y2 := c4.free 6; have y3 := c4.free 7))
        go_roundw
        case rel => exact ⟨.inr (.inr ⟨rfl, by rw [hgf.out]; simp, by rw [hq.out]; exact c4⟩), d4, hB.trans (hB4.mono hB.size)⟩
        case measure => simp [intOf]
    · have HM := maxG_gives wr (w.heap.size + 1) _ q0 q1 c1
      clear HR0 HR1 HDC0 HDC1
      rw [← HRA.out] at HM
      have hRl : RR.size = 4 := by rw [HRA.out]; rfl
      have hRo : ∀ v ∈ RR.toList, v.oneCell' = true := by rw [HRA.out]; exact HdP.one _
      go_wp2_with (first
        | (go_at_call 78; refine HM.mono ?_; rintro e w5 ⟨rfl, hB5⟩; have d0 := c0.below hB5 c0.lt)
        | (refine wp_storeW rfl 89 (.tmp 2) (.tmp 49) rfl w.heap.size rfl rfl rowHead d0 rfl hRl hRo ?_))
      refine bodyPost_ret_by (results_cellW_tmp2 2 3 4 rfl rfl rfl rfl rowHead (d0.setRow _) hRl) rfl ⟨rfl, below_setRow (hB.trans (hB5.mono hB.size)) (Nat.le_refl _) _⟩
end Go.Proofs.YtocnabpplbeafaaGreat
/- frame: what is encoded is decoded again; plain. -/
namespace Go.Proofs.YtocnabpplbeafaaGreat
open Go Go.RowKit Lou

theorem frame_back {e i p z n : Nat} {f : Bool} {y : List UInt8} (he : e < 2 ^ 64) (hi : i ≤ 2000) (hp : p ≤ 2000) (hz : z ≤ 2000) (hf : f = true ∨ z = 0) (hn : n < 2 ^ 32) (hy : y.length = 512) :
    isFrame (frameB (partB e i p f z n) y) = true ∧ fdE (frameB (partB e i p f z n) y) = e ∧ fdI (frameB (partB e i p f z n) y) = i ∧ fdP (frameB (partB e i p f z n) y) = p ∧ fdF (frameB (partB e i p f z n) y) = f ∧ fdZ (frameB (partB e i p f z n) y) = z ∧ fdL (frameB (partB e i p f z n) y) = n ∧ (frameB (partB e i p f z n) y).drop 64 = y := by
  obtain ⟨R, hR⟩ : ∃ R, frameB (partB e i p f z n) y = fixL 8 e ++ (fixL 4 i ++ (fixL 4 p ++ ([if f then 1 else 0] ++ (fixL 4 z ++ (fixL 4 n ++ R))))) := ⟨_, by
    unfold frameB sectB
    rw [partB_eq]
    simp only [List.append_assoc, List.cons_append, List.nil_append]
    rfl⟩
  have l8 : ∀ k, (fixL 8 k).length = 8 := fun k => fixL_length 8 k
  have l4 : ∀ k, (fixL 4 k).length = 4 := fun k => fixL_length 4 k
  have d8 : (frameB (partB e i p f z n) y).drop 8 = fixL 4 i ++ (fixL 4 p ++ ([if f then 1 else 0] ++ (fixL 4 z ++ (fixL 4 n ++ R)))) := by rw [hR, List.drop_left' (l8 e)]
  have d12 : (frameB (partB e i p f z n) y).drop 12 = fixL 4 p ++ ([if f then 1 else 0] ++ (fixL 4 z ++ (fixL 4 n ++ R))) := by
    have : (frameB (partB e i p f z n) y).drop 12 = ((frameB (partB e i p f z n) y).drop 8).drop 4 := by rw [List.drop_drop]
    rw [this, d8, List.drop_left' (l4 i)]
  have d16 : (frameB (partB e i p f z n) y).drop 16 = [if f then 1 else 0] ++ (fixL 4 z ++ (fixL 4 n ++ R)) := by
    have : (frameB (partB e i p f z n) y).drop 16 = ((frameB (partB e i p f z n) y).drop 12).drop 4 := by rw [List.drop_drop]
    rw [this, d12, List.drop_left' (l4 p)]
  have d17 : (frameB (partB e i p f z n) y).drop 17 = fixL 4 z ++ (fixL 4 n ++ R) := by
    have : (frameB (partB e i p f z n) y).drop 17 = ((frameB (partB e i p f z n) y).drop 16).drop 1 := by rw [List.drop_drop]
    rw [this, d16]
    rfl
  have d21 : (frameB (partB e i p f z n) y).drop 21 = fixL 4 n ++ R := by
    have : (frameB (partB e i p f z n) y).drop 21 = ((frameB (partB e i p f z n) y).drop 17).drop 4 := by rw [List.drop_drop]
    rw [this, d17, List.drop_left' (l4 z)]
  have hs : (sectB (partB e i p f z n) y).length = 64 := by rw [sectB_length, partB_length]
  have d64 : (frameB (partB e i p f z n) y).drop 64 = y := by unfold frameB; rw [List.drop_left' hs]
  have t64 : (frameB (partB e i p f z n) y).take 64 = sectB (partB e i p f z n) y := by unfold frameB; rw [List.take_left' hs]
  have hlen : (frameB (partB e i p f z n) y).length = 576 := by unfold frameB; rw [List.length_append, hs, hy]
  have e1 : fdE (frameB (partB e i p f z n) y) = e := by
    unfold fdE
    rw [hR, List.take_left' (l8 e), rfix_fixL_lt (by omega)]
  have e2 : fdI (frameB (partB e i p f z n) y) = i := by
    unfold fdI
    rw [d8, List.take_left' (l4 i), rfix_fixL_lt (by omega)]
  have e3 : fdP (frameB (partB e i p f z n) y) = p := by
    unfold fdP
    rw [d12, List.take_left' (l4 p), rfix_fixL_lt (by omega)]
  have e4 : fdF (frameB (partB e i p f z n) y) = f := by
    unfold fdF
    have : (frameB (partB e i p f z n) y).getD 16 0 = ((frameB (partB e i p f z n) y).drop 16).getD 0 0 := by
      simp [List.getD_eq_getElem?_getD, List.getElem?_drop]
    rw [this, d16]
    cases f <;> rfl
  have e5 : fdZ (frameB (partB e i p f z n) y) = z := by
    unfold fdZ
    rw [d17, List.take_left' (l4 z), rfix_fixL_lt (by omega)]
  have e6 : fdL (frameB (partB e i p f z n) y) = n := by
    unfold fdL
    rw [d21, List.take_left' (l4 n), rfix_fixL_lt (by omega)]
  refine ⟨?_, e1, e2, e3, e4, e5, e6, d64⟩
  unfold isFrame
  rw [e1, e2, e3, e4, e5, e6, d64, t64, hlen]
  have hok : frOk 512 (i : Int) (p : Int) f (z : Int) = true := (frOk_iff _ _ _ _ _).2 ⟨rfl, ⟨by omega, by omega⟩, ⟨by omega, by omega⟩, ⟨by omega, by omega⟩, by rcases hf with h | h; exact .inl h; exact .inr (by omega)⟩
  rw [hok]
  simp
end Go.Proofs.YtocnabpplbeafaaGreat
/- wal: the frames that count. -/
namespace Go.Proofs.YtocnabpplbeafaaGreat
open Go Go.RowKit Lou Reg

section
variable {ρ : Operand → Value} {w : World} {o : Oper} {x y : Operand}
theorem r_neEr {m : Int} (ho : o.op = .binOp .neq 29 x y 29) (h1 : ρ x = .int .i64 m) (h2 : ρ y = .int .i64 m) : (execOp ρ o).run Tryz.prog w = .ok (.value (.bool false)) w := by
  simp [execOp, ho, h1, h2, go_sem, bne]
theorem r_neU8 {m : Int} (ho : o.op = .binOp .neq 54 x y 54) (h1 : ρ x = .int .u64 m) (h2 : ρ y = .int .u64 m) : (execOp ρ o).run Tryz.prog w = .ok (.value (.bool false)) w := by
  simp [execOp, ho, h1, h2, go_sem, bne]
theorem r_neU4 {m : Int} (ho : o.op = .binOp .neq 95 x y 95) (h1 : ρ x = .int .u32 m) (h2 : ρ y = .int .u32 m) : (execOp ρ o).run Tryz.prog w = .ok (.value (.bool false)) w := by
  simp [execOp, ho, h1, h2, go_sem, bne]
theorem r_neIn {m : Int} (ho : o.op = .binOp .neq 3 x y 3) (h1 : ρ x = .int .i64 m) (h2 : ρ y = .int .i64 m) : (execOp ρ o).run Tryz.prog w = .ok (.value (.bool false)) w := by
  simp [execOp, ho, h1, h2, go_sem, bne]
theorem r_fF0 {b : Nat} (ho : o.op = .fieldAddr 97 x 0) (h1 : ρ x = .pointer (some ⟨b, 0, none⟩)) : (execOp ρ o).run Tryz.prog w = .ok (.value (.pointer (some ⟨b, 0, none⟩))) w := by
  simp [execOp, ho, h1, go_sem, Result.andThen]
theorem r_fF1 {b : Nat} (ho : o.op = .fieldAddr 97 x 1) (h1 : ρ x = .pointer (some ⟨b, 0, none⟩)) : (execOp ρ o).run Tryz.prog w = .ok (.value (.pointer (some ⟨b, 1, none⟩))) w := by
  simp [execOp, ho, h1, go_sem, Result.andThen]
theorem r_fF5 {b : Nat} (ho : o.op = .fieldAddr 97 x 5) (h1 : ρ x = .pointer (some ⟨b, 0, none⟩)) : (execOp ρ o).run Tryz.prog w = .ok (.value (.pointer (some ⟨b, 5, none⟩))) w := by
  simp [execOp, ho, h1, go_sem, Result.andThen]
theorem r_fL2 {b : Nat} (ho : o.op = .fieldAddr 57 x 2) (h1 : ρ x = .pointer (some ⟨b, 0, none⟩)) : (execOp ρ o).run Tryz.prog w = .ok (.value (.pointer (some ⟨b, 4, none⟩))) w := by
  simp [execOp, ho, h1, go_sem, Result.andThen]
theorem r_nc {b k : Nat} (ho : o.op = .nilCheck x) (h1 : ρ x = .pointer (some ⟨b, k, none⟩)) : (execOp ρ o).run Tryz.prog w = .ok (.value (.pointer (some ⟨b, k, none⟩))) w := by
  simp [execOp, ho, h1, go_sem]
theorem cut_3F {z : Operand} {A : Option Addr} {n c : Nat} (ho : o.op = .slice 55 x none (some y) (some z)) (h1 : ρ x = .slice A n c) (h2 : ρ y = .int .i64 (n : Int)) (h3 : ρ z = .int .i64 (n : Int)) (hc : n ≤ c) : (execOp ρ o).run Tryz.prog w = .ok (.value (.slice A n n)) w := by
  have ht : Tryz.prog.underlying 55 = some (.slice (Tryz.prog.elem 55)) := by kernel_rfl
  simp [execOp, ho, h1, h2, h3, go_sem, run_sliceAt_slice _ _ _ _ _ _ ht, Result.andThen, hc]
end
/-- A frame, as its bytes say. -/
def FrP.enc (x : FrP) : List UInt8 := frameB (partB x.e x.i.toNat x.p.toNat x.f x.z.toNat x.n) x.y
/-- The frames lie on the disk, and count. -/
structure FrOn (G : Nat → List UInt8) (ep : Nat) (fs : List FrP) : Prop where
  lies : ∀ j (h : j < fs.length), secsOf G (2 + 9 * j) 9 = (fs[j]).enc
  ok : ∀ j (h : j < fs.length), (fs[j]).e = ep ∧ (fs[j]).i = (j : Int) ∧ frOk (fs[j]).y.length (fs[j]).i (fs[j]).p (fs[j]).f (fs[j]).z = true ∧ (fs[j]).n = linkOf (fs.take j) ∧ (fs[j]).n < 2 ^ 32
  last : ∀ x, fs.getLast? = some x → x.f = true
def szOf (z : Int) (fs : List FrP) : Int := match fs.getLast? with | some x => x.z | none => z
theorem FrP.enc_length {x : FrP} (h : frOk x.y.length x.i x.p x.f x.z = true) : x.enc.length = 576 := by
  have h1 := ((frOk_iff _ _ _ _ _).1 h).1
  simp [FrP.enc, frameB, sectB_length, partB_length, h1]
theorem FrP.enc_back {x : FrP} (h : frOk x.y.length x.i x.p x.f x.z = true) (he : x.e < 2 ^ 64) (hn : x.n < 2 ^ 32) : isFrame x.enc = true ∧ (frCells (fdE x.enc) (fdI x.enc) (fdP x.enc) (fdF x.enc) (fdZ x.enc) (fdL x.enc)) = (frCells x.e x.i x.p x.f x.z x.n) ∧ x.enc.drop 64 = x.y := by
  obtain ⟨h1, ⟨h2, h3⟩, ⟨h4, h5⟩, ⟨h6, h7⟩, h8⟩ := (frOk_iff _ _ _ _ _).1 h
  obtain ⟨e0, e1, e2, e3, e4, e5, e6, e7⟩ := frame_back (e := x.e) (i := x.i.toNat) (p := x.p.toNat) (z := x.z.toNat) (n := x.n) (f := x.f) (y := x.y) he (by omega) (by omega) (by omega) (by rcases h8 with h | h; exact .inl h; exact .inr (by omega)) hn h1
  refine ⟨e0, ?_, e7⟩
  unfold FrP.enc
  rw [e1, e2, e3, e4, e5, e6, show ((x.i.toNat : Nat) : Int) = x.i by omega, show ((x.p.toNat : Nat) : Int) = x.p by omega, show ((x.z.toNat : Nat) : Int) = x.z by omega]
/-- How far count has come. -/
def CntRel (w : World) (l d : Nat) (fr pg : Int) (sr ep : Nat) (sz : Int) (fs : List FrP) (N : Nat) (i v : Value) (wr : World) : Prop := ∃ k : Nat, k ≤ N ∧ i = .int .i64 (k : Int) ∧ ∃ Am cm vk, v = .slice Am k cm ∧ wr.ownsRow w.heap.size 97 7 (.slice Am k cm) k (vsC vk) ∧ vk.map (·.1) = fs.take k ∧ (∀ v ∈ vk, InB wr wr.heap.size v.2.1 v.2.2 v.1.y ∧ (∀ g o, v.2.1 = some ⟨g, o, none⟩ → w.heap.size ≤ g) ∧ TyB wr v.2.1) ∧
    (∃ sk Ak nk ck, BlkIs wr l 57 (lgC (some ⟨d, 0, none⟩) fr pg sr ep sk Ak nk ck) ∧ (k = 0 → sk = sz ∧ Ak = none ∧ nk = 0 ∧ ck = 0) ∧ (∀ x, (fs.take k).getLast? = some x → x.f = true → sk = x.z ∧ Ak = Am ∧ nk = k ∧ ck = k)) ∧ GrowBut (fun k => k = l) w wr
set_option maxRecDepth 100000 in
set_option maxHeartbeats 16000000 in
theorem count_gives (w : World) (l d many : Nat) (s : DS) (fr pg : Int) (sr ep : Nat) (sz : Int) (fs : List FrP) (hD : DkS w d many s) (hst : s.stopped = false) (hxl : s.xs.length ≤ 1000000) (hlg : BlkIs w l 57 (lgC (some ⟨d, 0, none⟩) fr pg sr ep sz none 0 0)) (hld : l ≠ d)
    (G : Nat → List UInt8) (hG : G = laid s.g s.xs) (hF : FrOn G ep fs) (hep : ep < 2 ^ 64) (hpl : planOk fr pg = true) (hfr : (fs.length : Int) ≤ fr) (hmany : 2 + 9 * fr ≤ (many : Int)) (hmax : many ≤ 1000000) :
    Calls Tryz.prog 41 #[.pointer (some ⟨l, 0, none⟩), .int .i64 (fs.length : Int)] w fun e w' => e = .returned (.int .i64 0) ∧ (∃ A c vs, BlkIs w' l 57 (lgC (some ⟨d, 0, none⟩) fr pg sr ep (szOf sz fs) A vs.length c) ∧ FrsIs (fun k => k = d ∨ k = l) w' A c vs ∧ vs.map (·.1) = fs) ∧ GrowBut (fun k => k = l) w w' := by
  have hplr := (planOk_iff fr pg).1 hpl
  have hdl := hD.lt
  have hll := hlg.lt
  have hrow := hD.has
  obtain ⟨N, hN⟩ : ∃ N, N = fs.length := ⟨_, rfl⟩
  have HR : ∀ (j : Nat) (W : World) (sk : Int) (Ak : Option Addr) (nk ck : Nat), j < fs.length → GrowBut (fun k => k = l) w W → BlkIs W l 57 (lgC (some ⟨d, 0, none⟩) fr pg sr ep sk Ak nk ck) → Calls Tryz.prog 74 #[.pointer (some ⟨l, 0, none⟩), .int .i64 ((2 + 9 * j : Nat) : Int), .int .i64 9] W fun e w' => ∃ A c, e = .returned (.tuple #[.slice A 576 c, .int .i64 0]) ∧ InB w' w'.heap.size A c (secsOf G (2 + 9 * j) 9) ∧ Below W.heap.size W w' := fun j W sk Ak nk ck hj hW hb => by
    have hDW : DkS W d many s := hD.other hlg (by show 7 ≤ 64; decide) (fun e => hld e.symm) ⟨hW.os, hW.tape, hW.output, hW.size, fun k hk hn => hW.block k hk (fun e => hn (by rw [e]))⟩
    have h := wread_gives W l d many s.g s.xs s.left s.st hDW hst hxl (by rw [hb.cell]; rfl) hb.lt (2 + 9 * j) 9 (by omega) hmax
    rw [← hG] at h
    exact h
  have hmn : min (fs.length : Int) fr = (fs.length : Int) := by omega
  rw [← hN] at hmn hfr ⊢
  have HNN := Lib.hid hN
  have k1 : w.cell? ⟨l, 1, none⟩ = some (.int .i64 fr) := by rw [hlg.cell]; rfl
  have hNb : N ≤ 2000 := by omega
  clear hN
  go_enter Tryz.func41, Tryz.ntmps41
  go_wp2
  go_loopw [20, 5] (fun i v wr => CntRel w l d fr pg sr ep sz fs N i v wr) (fun i _ _ => N - (intOf i).toNat)
  case atStart => exact ⟨0, by omega, rfl, none, 0, [], rfl, World.ownsRow_nil _ _ _ _, rfl, (fun v hv => by cases hv), ⟨sz, none, 0, 0, hlg, fun _ => ⟨rfl, rfl, rfl, rfl⟩, fun x hx => by cases hx⟩, GrowBut.refl _ _⟩
  case round =>
    obtain ⟨k, hk, rfl, Am, cm, vk, rfl, own, hvk, hbk, ⟨sk, Ak, nk, ck, hlgr, hk0, hkl⟩, hGr⟩ := hrel
    by_cases hlt : k < N
    · have hj : k < fs.length := by rw [← HNN.out]; exact hlt
      obtain ⟨he, hi, hok, hn, hn32⟩ := hF.ok k hj
      have hlies := hF.lies k hj
      have HRk := fun W (hW : Below wr.heap.size wr W) => HR k W sk Ak nk ck hj (hGr.trans (GrowBut.below hW)) (hlgr.below hW hlgr.lt)
      rw [hlies] at HRk
      obtain ⟨hb1, hb2, hb3⟩ := FrP.enc_back hok (by rw [he]; exact hep) hn32
      have hel := FrP.enc_length hok
      have htk : fs.take (k + 1) = fs.take k ++ [fs[k]] := by rw [List.take_succ_eq_append_getElem hj]
      have hvl : vk.length = k := by
        have := congrArg List.length hvk
        rw [List.length_map, List.length_take] at this
        omega
      have hlink : linkOf (fs.take k) = linkOf (vk.map (·.1)) := by rw [hvk]
      generalize fs[k] = x at *
      obtain ⟨ee, i', p', f', z', SM, y'⟩ := x
      simp only at he hi hok hn hb3
      subst he hi
      obtain ⟨b, hb⟩ : ∃ b, b = (FrP.mk ee (k : Int) p' f' z' SM y').enc := ⟨_, rfl⟩
      rw [← hb] at HRk hb1 hb2 hb3 hel
      have hk1 : k + 1 ≤ N := by omega
      have hwk : IntKind.i64.wrap ((k : Int) + 1) = (k : Int) + 1 := wrap_i64_fr _ (by omega) (by omega)
      have hy512 : y'.length = 512 := ((frOk_iff _ _ _ _ _).1 hok).1
      obtain ⟨AT, hAT⟩ : ∃ AT : Int, AT = ((2 + 9 * k : Nat) : Int) := ⟨_, rfl⟩
      have HP : ∀ W, Calls Tryz.prog 49 #[.agg #[.int .i64 fr, .int .i64 pg], .int .i64 (k : Int)] W fun e w' => e = .returned (.tuple #[.int .i64 AT, .int .i64 0]) ∧ Below W.heap.size W w' := fun W => by
        have := frameAt_gives fr pg (k : Int) W
        have h0 : plE (planOk fr pg) (k : Int) fr = 0 := by rw [hpl]; simp [plE]; omega
        unfold atV at this
        rw [h0, if_pos rfl] at this
        rw [hAT, show ((2 + 9 * k : Nat) : Int) = 2 + 9 * (k : Int) by omega]
        exact this
      rw [← hAT] at HRk
      have HDT : ∀ W A c, InB W W.heap.size A c b → Calls Tryz.prog 82 #[.slice A 576 c] W fun e w' => ∃ A k2, e = .returned (.tuple #[.agg (frCells ee (k : Int) p' f' z' SM A 512 k2), .int .i64 0]) ∧ InB w' w'.heap.size A k2 y' ∧ (∀ g o, A = some ⟨g, o, none⟩ → W.heap.size ≤ g ∧ ∃ cs, BlkIs w' g 5 cs) ∧ Below W.heap.size W w' := fun W A c h => by
        refine (decode_576T W A c b h hel).mono ?_
        rintro e w' ⟨hB, h2⟩
        rw [if_pos hb1, hb2, hb3] at h2
        obtain ⟨A, k2, h3, h4, h5⟩ := h2
        exact ⟨A, k2, h3, h4, h5, hB⟩
      have HTK := Lib.hid htk
      have HVK := Lib.hid hvk
      have HVL := Lib.hid hvl
      have HLN : Hid (SM = linkOf (vk.map (·.1))) := Lib.hid (by rw [hn, hlink])
      clear hn hlink htk hvk hvl hAT hb hb1 hb2 hb3 hlies HR
      have k1r : wr.cell? ⟨l, 1, none⟩ = some (.int .i64 fr) := by rw [hlgr.cell]; rfl
      have k2r : wr.cell? ⟨l, 2, none⟩ = some (.int .i64 pg) := by rw [hlgr.cell]; rfl
      have HLK : ∀ W, Below wr.heap.size wr W → Calls Tryz.prog 45 #[.slice Am k cm] W fun e w' => e = .returned (.int .u32 (SM : Int)) ∧ Below W.heap.size W w' := fun W hW => by
        obtain ⟨_, _, eAm, hin4⟩ := ownG_in own (vsC_one vk)
        injection eAm with eA1 _ eA2
        subst eA1 eA2
        have h := link_gives W Am cm vk (by rw [HVL.out]; exact hin4.grow hW) (fun v hv => ((hbk v hv).1.below hW).more hW.size) (by rw [HVL.out]; omega)
        rw [HVL.out, ← HLN.out] at h
        exact h
      have HOK := Lib.hid hok
      have HK0 := Lib.hid hk0
      clear hok hk0 hkl hel
      go_wp2_with (first
        | (go_at_call 49; refine (HP _).mono ?_; rintro e w2 ⟨rfl, hB2⟩)
        | (go_at_call 74; refine (HRk _ hB2).mono ?_; rintro e w3 ⟨A3, c3, rfl, hin3, hB3⟩)
        | (go_at_call 82; refine (HDT _ _ _ hin3).mono ?_; rintro e w4 ⟨A6, c6, rfl, hin6, hty6, hB4⟩; have bz := BlkIs.new w4 97 #[.int .u64 0, .int .i64 0, .int .i64 0, .bool false, .int .i64 0, .int .u32 0, .slice none 0 0])
        | (refine wp_storeW rfl 97 (.tmp 11) (.tmp 47) rfl w4.heap.size rfl rfl rowFrame bz rfl rfl (frCells_one _ _ _ _ _ _ _ _ _) ?_))
      have hBr4 : Below wr.heap.size wr w4 := hB2.trans ((hB3.trans (hB4.mono hB3.size)).mono hB2.size)
      have hB45 : Below w4.heap.size w4 ((w4.alloc (.cells #[.int .u64 0, .int .i64 0, .int .i64 0, .bool false, .int .i64 0, .int .u32 0, .slice none 0 0] 97)).setRow w4.heap.size (frCells ee (k : Int) p' f' z' SM A6 512 c6)) := below_setRow ((Below.refl _ _).alloc (Nat.le_refl _) _) (Nat.le_refl _) _
      have hbq := bz.setRow (frCells ee (k : Int) p' f' z' SM A6 512 c6)
      have hA6 : ∀ g o, A6 = some ⟨g, o, none⟩ → wr.heap.size ≤ g := fun g o e => by
        have h1 := (hty6 g o e).1
        have h2 := hB2.size
        have h3 := hB3.size
        omega
      have hty4 : TyB w4 A6 := fun g o e => (hty6 g o e).2
      have hq4 := hBr4.size
      clear HP HRk HDT k1r k2r bz hty6 hin3 hB2 hB3 hB4
      obtain ⟨W5, hW5⟩ : ∃ W5, W5 = (w4.alloc (.cells #[.int .u64 0, .int .i64 0, .int .i64 0, .bool false, .int .i64 0, .int .u32 0, .slice none 0 0] 97)).setRow w4.heap.size (frCells ee (k : Int) p' f' z' SM A6 512 c6) := ⟨_, rfl⟩
      rw [← hW5] at hB45 hbq ⊢
      obtain ⟨q, hq⟩ : ∃ q, q = w4.heap.size := ⟨_, rfl⟩
      rw [← hq] at hbq ⊢
      have hBr5 : Below wr.heap.size wr W5 := hBr4.trans (hB45.mono hq4)
      have hin5 := (hin6.below hB45).more hB45.size
      have hty5 := hty4.grow hB45
      have hqr : wr.heap.size ≤ q := by omega
      clear hW5 hq hB45 hin6 hty4 hBr4 hq4
      have hcl : ∀ W, Grow W5 W → W.cell? ⟨l, 4, none⟩ = some (.int .u64 (ee : Int)) := fun W hg => by
        have h1 := hBr5.trans (hg.mono hBr5.size)
        rw [(hlgr.below h1 hlgr.lt).cell]; rfl
      have hq0 : ∀ W, Grow W5 W → W.cell? ⟨q, 0, none⟩ = some (.int .u64 (ee : Int)) := fun W hg => by rw [(hbq.below hg hbq.lt).cell]; rfl
      have hq1 : ∀ W, Grow W5 W → W.cell? ⟨q, 1, none⟩ = some (.int .i64 (k : Int)) := fun W hg => by rw [(hbq.below hg hbq.lt).cell]; rfl
      have hq5 : ∀ W, Grow W5 W → W.cell? ⟨q, 5, none⟩ = some (.int .u32 (SM : Int)) := fun W hg => by rw [(hbq.below hg hbq.lt).cell]; rfl
      have HLK5 : ∀ W, Grow W5 W → Calls Tryz.prog 45 #[.slice Am k cm] W fun e w' => e = .returned (.int .u32 (SM : Int)) ∧ Below W.heap.size W w' := fun W hg => HLK W (hBr5.trans (hg.mono hBr5.size))
      clear HLK
      have HLK := HLK5
      clear HLK5
      open Reg in
      refine region_acts (by kernel_rfl) (by kernel_rfl) 94 rfl (by kernel_rfl) [49, 50, 51, 52, 53, 54, 55, 56, 57, 58, 59, 60, 61, 62, 63, 64, 65, 66, 67, 68, 69, 70, 71, 72] (by kernel_rfl)
        [(10, .val (.int .i64 0)), (11, .val (.pointer (some ⟨q, 0, none⟩))), (0, .val (.pointer (some ⟨l, 0, none⟩))), (6, .val (.int .i64 (k : Int))), (5, .val (.slice Am k cm))]
        [(49, .val (.int .i64 0)), (50, .val (.bool false)), (51, .val (.bool false)), (52, .val (.pointer (some ⟨q, 0, none⟩))), (53, .val (.int .u64 (ee : Int))), (54, .val (.pointer (some ⟨l, 0, none⟩))), (55, .val (.pointer (some ⟨l, 0, none⟩))), (56, .val (.pointer (some ⟨l, 4, none⟩))), (57, .val (.int .u64 (ee : Int))), (58, .val (.bool false)), (59, .val (.bool false)), (60, .val (.bool false)), (61, .val (.pointer (some ⟨q, 1, none⟩))), (62, .val (.int .i64 (k : Int))), (63, .val (.int .i64 (k : Int))), (64, .val (.bool false)), (65, .val (.bool false)), (66, .val (.bool false)), (67, .val (.pointer (some ⟨q, 5, none⟩))), (68, .val (.int .u32 (SM : Int))), (69, .val (.slice Am k cm)), (70, .val (.int .u32 (SM : Int))), (71, .val (.bool false)), (72, .val (.bool false))]
        ⟨rfl, rfl, rfl, rfl, rfl, trivial⟩ (by kernel_rfl)
        (allOk_cons (ok_none rfl (l_mvF 10 (.val (.int .i64 0)) (.inl rfl) (by kernel_rfl) (by kernel_rfl) (by kernel_rfl)))
        <| allOk_cons (ok_none rfl (l_run2W (.tmp 49) (.const (.int .i64 0)) (.val (.bool false)) (.int .i64 0) (.int .i64 0) (hs 49 _ (by kernel_rfl) (by kernel_rfl)) (hc _) (fun ρ w hg h1 h2 => ⟨_, w, r_neEr rfl h1 h2, Grow.refl _, rfl⟩) (by kernel_rfl)))
        <| allOk_cons (ok_none rfl (l_mvF 50 (.val (.bool false)) (.inl rfl) (by kernel_rfl) (by kernel_rfl) (by kernel_rfl)))
        <| allOk_cons (okg 2 false 51 rfl (by kernel_rfl) (by kernel_rfl) (by kernel_rfl) (l_run1W (.tmp 11) (.val (.pointer (some ⟨q, 0, none⟩))) (.pointer (some ⟨q, 0, none⟩)) (hs 11 _ (by kernel_rfl) (by kernel_rfl)) (fun ρ w hg h1 => ⟨_, w, r_fF0 rfl h1, Grow.refl _, rfl⟩) (by kernel_rfl)))
        <| allOk_cons (okg 2 false 51 rfl (by kernel_rfl) (by kernel_rfl) (by kernel_rfl) (l_load (.tmp 52) (⟨q, 0, none⟩) _ (.int .u64 (ee : Int)) (by intro w; simp [go_sem]) rfl (hs 52 (.pointer (some ⟨q, 0, none⟩)) (by kernel_rfl) (by kernel_rfl)) (fun w hg => hq0 w hg) (by kernel_rfl)))
        <| allOk_cons (okg 2 false 51 rfl (by kernel_rfl) (by kernel_rfl) (by kernel_rfl) (l_mvF 0 (.val (.pointer (some ⟨l, 0, none⟩))) (.inl rfl) (by kernel_rfl) (by kernel_rfl) (by kernel_rfl)))
        <| allOk_cons (okg 2 false 51 rfl (by kernel_rfl) (by kernel_rfl) (by kernel_rfl) (l_run1W (.tmp 54) (.val (.pointer (some ⟨l, 0, none⟩))) (.pointer (some ⟨l, 0, none⟩)) (hs 54 _ (by kernel_rfl) (by kernel_rfl)) (fun ρ w hg h1 => ⟨_, w, r_nc rfl h1, Grow.refl _, rfl⟩) (by kernel_rfl)))
        <| allOk_cons (okg 2 false 51 rfl (by kernel_rfl) (by kernel_rfl) (by kernel_rfl) (l_run1W (.tmp 55) (.val (.pointer (some ⟨l, 4, none⟩))) (.pointer (some ⟨l, 0, none⟩)) (hs 55 _ (by kernel_rfl) (by kernel_rfl)) (fun ρ w hg h1 => ⟨_, w, r_fL2 rfl h1, Grow.refl _, rfl⟩) (by kernel_rfl)))
        <| allOk_cons (okg 2 false 51 rfl (by kernel_rfl) (by kernel_rfl) (by kernel_rfl) (l_load (.tmp 56) (⟨l, 4, none⟩) _ (.int .u64 (ee : Int)) (by intro w; simp [go_sem]) rfl (hs 56 (.pointer (some ⟨l, 4, none⟩)) (by kernel_rfl) (by kernel_rfl)) (fun w hg => hcl w hg) (by kernel_rfl)))
        <| allOk_cons (okg 2 false 51 rfl (by kernel_rfl) (by kernel_rfl) (by kernel_rfl) (l_run2W (.tmp 53) (.tmp 57) (.val (.bool false)) (.int .u64 (ee : Int)) (.int .u64 (ee : Int)) (hs 53 _ (by kernel_rfl) (by kernel_rfl)) (hs 57 _ (by kernel_rfl) (by kernel_rfl)) (fun ρ w hg h1 h2 => ⟨_, w, r_neU8 rfl h1 h2, Grow.refl _, rfl⟩) (by kernel_rfl)))
        <| allOk_cons (ok_none rfl (l_pickF (.tmp 51) (.const (Go.Value.bool true)) (.tmp 58) (.bool false) rfl (hs 51 (.bool false) (by kernel_rfl) (by kernel_rfl)) (hs 58 (.bool false) (by kernel_rfl) (by kernel_rfl)) (by kernel_rfl)))
        <| allOk_cons (ok_none rfl (l_mvF 59 (.val (.bool false)) (.inl rfl) (by kernel_rfl) (by kernel_rfl) (by kernel_rfl)))
        <| allOk_cons (okg 11 false 60 rfl (by kernel_rfl) (by kernel_rfl) (by kernel_rfl) (l_run1W (.tmp 11) (.val (.pointer (some ⟨q, 1, none⟩))) (.pointer (some ⟨q, 0, none⟩)) (hs 11 _ (by kernel_rfl) (by kernel_rfl)) (fun ρ w hg h1 => ⟨_, w, r_fF1 rfl h1, Grow.refl _, rfl⟩) (by kernel_rfl)))
        <| allOk_cons (okg 11 false 60 rfl (by kernel_rfl) (by kernel_rfl) (by kernel_rfl) (l_load (.tmp 61) (⟨q, 1, none⟩) _ (.int .i64 (k : Int)) (by intro w; simp [go_sem]) rfl (hs 61 (.pointer (some ⟨q, 1, none⟩)) (by kernel_rfl) (by kernel_rfl)) (fun w hg => hq1 w hg) (by kernel_rfl)))
        <| allOk_cons (okg 11 false 60 rfl (by kernel_rfl) (by kernel_rfl) (by kernel_rfl) (l_mvF 6 (.val (.int .i64 (k : Int))) (.inl rfl) (by kernel_rfl) (by kernel_rfl) (by kernel_rfl)))
        <| allOk_cons (okg 11 false 60 rfl (by kernel_rfl) (by kernel_rfl) (by kernel_rfl) (l_run2W (.tmp 62) (.tmp 63) (.val (.bool false)) (.int .i64 (k : Int)) (.int .i64 (k : Int)) (hs 62 _ (by kernel_rfl) (by kernel_rfl)) (hs 63 _ (by kernel_rfl) (by kernel_rfl)) (fun ρ w hg h1 h2 => ⟨_, w, r_neIn rfl h1 h2, Grow.refl _, rfl⟩) (by kernel_rfl)))
        <| allOk_cons (ok_none rfl (l_pickF (.tmp 60) (.const (Go.Value.bool true)) (.tmp 64) (.bool false) rfl (hs 60 (.bool false) (by kernel_rfl) (by kernel_rfl)) (hs 64 (.bool false) (by kernel_rfl) (by kernel_rfl)) (by kernel_rfl)))
        <| allOk_cons (ok_none rfl (l_mvF 65 (.val (.bool false)) (.inl rfl) (by kernel_rfl) (by kernel_rfl) (by kernel_rfl)))
        <| allOk_cons (okg 17 false 66 rfl (by kernel_rfl) (by kernel_rfl) (by kernel_rfl) (l_run1W (.tmp 11) (.val (.pointer (some ⟨q, 5, none⟩))) (.pointer (some ⟨q, 0, none⟩)) (hs 11 _ (by kernel_rfl) (by kernel_rfl)) (fun ρ w hg h1 => ⟨_, w, r_fF5 rfl h1, Grow.refl _, rfl⟩) (by kernel_rfl)))
        <| allOk_cons (okg 17 false 66 rfl (by kernel_rfl) (by kernel_rfl) (by kernel_rfl) (l_load (.tmp 67) (⟨q, 5, none⟩) _ (.int .u32 (SM : Int)) (by intro w; simp [go_sem]) rfl (hs 67 (.pointer (some ⟨q, 5, none⟩)) (by kernel_rfl) (by kernel_rfl)) (fun w hg => hq5 w hg) (by kernel_rfl)))
        <| allOk_cons (okg 17 false 66 rfl (by kernel_rfl) (by kernel_rfl) (by kernel_rfl) (l_mvF 5 (.val (.slice Am k cm)) (.inl rfl) (by kernel_rfl) (by kernel_rfl) (by kernel_rfl)))
        <| allOk_cons (okg 17 false 66 rfl (by kernel_rfl) (by kernel_rfl) (by kernel_rfl) (l_call 45 _ _ rfl (enters_of Tryz.func45 (by kernel_rfl) rfl) #[.slice Am k cm] (.val (.int .u32 (SM : Int))) (args1 (hs 69 (.slice Am k cm) (by kernel_rfl) (by kernel_rfl))) (fun w hg => gives_grow (HLK w hg)) (by kernel_rfl)))
        <| allOk_cons (okg 17 false 66 rfl (by kernel_rfl) (by kernel_rfl) (by kernel_rfl) (l_run2W (.tmp 68) (.tmp 70) (.val (.bool false)) (.int .u32 (SM : Int)) (.int .u32 (SM : Int)) (hs 68 _ (by kernel_rfl) (by kernel_rfl)) (hs 70 _ (by kernel_rfl) (by kernel_rfl)) (fun ρ w hg h1 h2 => ⟨_, w, r_neU4 rfl h1 h2, Grow.refl _, rfl⟩) (by kernel_rfl)))
        <| allOk_cons (ok_none rfl (l_pickF (.tmp 66) (.const (Go.Value.bool true)) (.tmp 71) (.bool false) rfl (hs 66 (.bool false) (by kernel_rfl) (by kernel_rfl)) (hs 71 (.bool false) (by kernel_rfl) (by kernel_rfl)) (by kernel_rfl)))
        <| allOk_nil) ?_
      intro a W6 hsz hdef hGW6 hF hU
      have e72 : a.eval (.tmp 72) = .bool false := hF 72
      have ha := Reg.acts_eq [49, 50, 51, 52, 53, 54, 55, 56, 57, 58, 59, 60, 61, 62, 63, 64, 65, 66, 67, 68, 69, 70, 71, 72] hsz hdef hU
      clear hF hU hdef
      simp only [List.foldl_cons, List.foldl_nil, e72] at ha
      clear e72 hsz
      generalize a.eval (.tmp 49) = v49 at *
      generalize a.eval (.tmp 50) = v50 at *
      generalize a.eval (.tmp 51) = v51 at *
      generalize a.eval (.tmp 52) = v52 at *
      generalize a.eval (.tmp 53) = v53 at *
      generalize a.eval (.tmp 54) = v54 at *
      generalize a.eval (.tmp 55) = v55 at *
      generalize a.eval (.tmp 56) = v56 at *
      generalize a.eval (.tmp 57) = v57 at *
      generalize a.eval (.tmp 58) = v58 at *
      generalize a.eval (.tmp 59) = v59 at *
      generalize a.eval (.tmp 60) = v60 at *
      generalize a.eval (.tmp 61) = v61 at *
      generalize a.eval (.tmp 62) = v62 at *
      generalize a.eval (.tmp 63) = v63 at *
      generalize a.eval (.tmp 64) = v64 at *
      generalize a.eval (.tmp 65) = v65 at *
      generalize a.eval (.tmp 66) = v66 at *
      generalize a.eval (.tmp 67) = v67 at *
      generalize a.eval (.tmp 68) = v68 at *
      generalize a.eval (.tmp 69) = v69 at *
      generalize a.eval (.tmp 70) = v70 at *
      generalize a.eval (.tmp 71) = v71 at *
      simp only [Act.put, List.setIfInBounds_toArray, List.set_cons_succ, List.set_cons_zero] at ha
      subst ha
      simp only [Exit.then]
      refine ‹∀ (a : Act) (w : World), Code.wp Tryz.prog _ _ a w → _› _ W6 ?_
      have hbq6 := hbq.below hGW6 hbq.lt
      have hBr6 : Below wr.heap.size wr W6 := hBr5.trans (hGW6.mono hBr5.size)
      have hin6 := (hin5.below hGW6).more hGW6.size
      have hty6 := hty5.grow hGW6
      have own6 := ownG_grow own hBr6
      have hlg6 := hlgr.below hBr6 hlgr.lt
      have hrl : ∀ r, (Value.slice Am k cm).ownBlock = some r → r < wr.heap.size := ownG_lt own
      clear hcl hq0 hq1 hq5 HLK hin5 hty5 hBr5 hGW6 hbq
      obtain ⟨K1, hK1⟩ : ∃ K1, K1 = k + 1 := ⟨_, rfl⟩
      obtain ⟨FC, hFC⟩ : ∃ FC, FC = frCells ee (k : Int) p' f' z' SM A6 512 c6 := ⟨_, rfl⟩
      have HFC : Hid (FC.toList = (FrV.arr (⟨ee, (k : Int), p', f', z', SM, y'⟩, A6, c6)).toList) := Lib.hid (by rw [hFC]; simp only [FrV.arr, hy512])
      have hfs : FC.size = 7 := by rw [hFC]; rfl
      have hFC1 : ∀ v ∈ FC.toList, v.oneCell' = true := by rw [hFC]; exact frCells_one _ _ _ _ _ _ _ _ _
      have hbF := hbq6
      rw [← hFC] at hbF
      have hBL : Below W6.heap.size W6 (W6.alloc (.cells FC 97)) := (Below.refl _ _).alloc (Nat.le_refl _) _
      have hin7 : InG (W6.alloc (.cells FC 97)) (W6.alloc (.cells FC 97)).heap.size 7 (some ⟨W6.heap.size, 0, none⟩) 1 1 FC.toList := by
        obtain ⟨AL, cL, eL, hin⟩ := ownG_in (World.ownsRow_lit (base := W6.heap.size) (size := 7) (e := 97) W6 FC 1 (Nat.le_refl _) (by decide) hfs) hFC1
        injection eL with eL1 _ eL2
        subst eL1 eL2
        exact hin
      have own7 := ownG_grow own6 hBL
      have hsz7 : w.heap.size ≤ (W6.alloc (.cells FC 97)).heap.size := Nat.le_trans hGr.size (Nat.le_trans hBr6.size hBL.size)
      have hneL : some l ≠ (Value.slice Am k cm).ownBlock := fun e => by
        obtain ⟨cur, hcur⟩ := ownG_ty own7 l e.symm
        exact BlkIs.ne_type hcur (hlg6.alloc (.cells FC 97)) (by decide) rfl
      have hneQ : some q ≠ (Value.slice Am k cm).ownBlock := fun e => by
        have := hrl q e.symm
        omega
      have hone : ∀ v ∈ vsC vk ++ FC.toList, v.oneCell' = true := fun v hv => by
        rcases List.mem_append.1 hv with h | h
        · exact vsC_one vk v h
        · exact hFC1 v h
      have HK1 := Lib.hid hK1
      have hK1b : K1 ≤ 2001 := by omega
      have FIN : ∀ (w9 : World) (A8 : Option Addr) (c8 : Nat) (sk9 : Int) (Ak9 : Option Addr) (nk9 ck9 : Nat), GrowBut (fun g => (Value.slice Am k cm).ownBlock = some g ∨ g = l) W6 w9 → w9.ownsRow w.heap.size 97 7 (.slice A8 K1 c8) K1 (vsC vk ++ FC.toList) → BlkIs w9 l 57 (lgC (some ⟨d, 0, none⟩) fr pg sr ee sk9 Ak9 nk9 ck9) → (f' = true → sk9 = z' ∧ Ak9 = A8 ∧ nk9 = K1 ∧ ck9 = K1) → CntRel w l d fr pg sr ee sz fs N (.int .i64 ((k : Int) + 1)) (.slice A8 K1 c8) w9 := fun w9 A8 c8 sk9 Ak9 nk9 ck9 G9 own9 hl9 hf9 => by
        have hMu : ∀ g cs, BlkIs W6 g 5 cs → ¬ ((Value.slice Am k cm).ownBlock = some g ∨ g = l) := fun g cs hb h => by
          rcases h with h | rfl
          · obtain ⟨cur, hcur⟩ := ownG_ty own7 g h
            exact BlkIs.ne_type hcur (hb.alloc (.cells FC 97)) (by decide) rfl
          · exact BlkIs.ne_type hb hlg6 (by decide) rfl
        refine ⟨k + 1, hk1, by simp, A8, c8, vk ++ [(⟨ee, (k : Int), p', f', z', SM, y'⟩, A6, c6)], by rw [hK1], ?_, ?_, ?_, ⟨sk9, Ak9, nk9, ck9, hl9, (fun e => by omega), ?_⟩, ?_⟩
        · rw [vsC_append, vsC_one1, ← HFC.out, ← hK1]
          exact own9
        · rw [List.map_append, HVK.out]
          exact HTK.out.symm
        · intro v hv
          rcases List.mem_append.1 hv with hv | hv
          · obtain ⟨h1, h2, h3⟩ := hbk v hv
            obtain ⟨h4, h5⟩ := keepB G9 ((h1.below hBr6).more hBr6.size) (h3.grow hBr6) hMu
            exact ⟨h4, h2, h5⟩
          · obtain rfl := List.mem_singleton.1 hv
            obtain ⟨h4, h5⟩ := keepB G9 hin6 hty6 hMu
            exact ⟨h4, fun g o e => Nat.le_trans hGr.size (hA6 g o e), h5⟩
        · intro x hx hxf
          rw [HTK.out, List.getLast?_concat] at hx
          injection hx with hx
          subst hx
          obtain ⟨h1, h2, h3, h4⟩ := hf9 hxf
          exact ⟨h1, h2, by omega, by omega⟩
        · exact (((hGr.more (Nu := fun g => (Value.slice Am k cm).ownBlock = some g ∨ g = l) (fun j h _ => .inr h)).trans (GrowBut.below hBr6)).trans G9).more (fun j h hj => by
            rcases h with h | h
            · have := ownG_ge own j h
              omega
            · exact h)
      have HFIN := Lib.hid FIN
      clear hK1 hFC hbk FIN
      cases f'
      case' false =>
        go_wp2_with (first
          | (refine wp_loadW rfl 97 (.tmp 11) rfl q rfl rowFrame hbF hfs ?_)
          | (refine wp_exec rfl (x_sliceFr FC hfs rfl rfl) ?_)
          | (at_builtin; refine wp_appG rfl elFrame (.tmp 73) (.tmp 75) rfl w.heap.size (.slice Am k cm) k (vsC vk) rfl own7 _ (some ⟨W6.heap.size, 0, none⟩) 1 1 FC.toList rfl hin7 (by unfold maxLen; omega) (by omega) hsz7 ?_; intro v8 w8 own8 hg8; replace own8 : w8.ownsRow w.heap.size 97 7 v8 K1 (vsC vk ++ FC.toList) := (by rw [HK1.out]; exact own8); have hlg8 := (hlg6.alloc (.cells FC 97)).grown hg8 hneL; have hbq8 := (hbq6.alloc (.cells FC 97)).grown hg8 hneQ; obtain ⟨A8, c8, rfl, hin8⟩ := ownG_in own8 hone; have kq3 : w8.cell? ⟨q, 3, none⟩ = some (.bool false) := (by rw [hbq8.cell]; rfl)))
      case' true =>
        go_wp2_with (first
          | (refine wp_loadW rfl 97 (.tmp 11) rfl q rfl rowFrame hbF hfs ?_)
          | (refine wp_exec rfl (x_sliceFr FC hfs rfl rfl) ?_)
          | (at_builtin; refine wp_appG rfl elFrame (.tmp 73) (.tmp 75) rfl w.heap.size (.slice Am k cm) k (vsC vk) rfl own7 _ (some ⟨W6.heap.size, 0, none⟩) 1 1 FC.toList rfl hin7 (by unfold maxLen; omega) (by omega) hsz7 ?_; intro v8 w8 own8 hg8; replace own8 : w8.ownsRow w.heap.size 97 7 v8 K1 (vsC vk ++ FC.toList) := (by rw [HK1.out]; exact own8); have hlg8 := (hlg6.alloc (.cells FC 97)).grown hg8 hneL; have hbq8 := (hbq6.alloc (.cells FC 97)).grown hg8 hneQ; obtain ⟨A8, c8, rfl, hin8⟩ := ownG_in own8 hone; have kq3 : w8.cell? ⟨q, 3, none⟩ = some (.bool true) := (by rw [hbq8.cell]; rfl)))
      case' false =>
        have G9 : GrowBut (fun g => (Value.slice Am k cm).ownBlock = some g ∨ g = l) W6 w8 := (GrowBut.below hBL).trans (GrowBut.grown hg8 (fun r e => .inl (.inl e)))
        refine ⟨HFIN.out w8 A8 c8 sk Ak nk ck G9 own8 hlg8 (fun e => by cases e), by simp [intOf]; omega⟩
      case' true =>
        have hS1 := hbq8.drew
        have hnql : ¬ q = l := by have := hlgr.lt; omega
        have hSA := hS1.other (p := ⟨l, 6, none⟩) hnql (.slice A8 K1 K1)
        have z6 : w8.cell? ⟨l, 6, none⟩ = some (.slice Ak nk ck) := by rw [hlg8.cell]; rfl
        have z5 : w8.cell? ⟨l, 5, none⟩ = some (.int .i64 sk) := by rw [hlg8.cell]; rfl
        have y6 := hlg8.free 6
        have y5 := hlg8.free 5
        have hle8 := hin8.le
        have e6 := hlg8.drew.set 6 (.slice A8 K1 K1)
        have z5' : (w8.drew.setCell ⟨l, 6, none⟩ (.slice A8 K1 K1)).cell? ⟨l, 5, none⟩ = some (.int .i64 sk) := by rw [e6.cell]; rfl
        have y5' := e6.free 5
        refine RegF.start (fun W => BlkIs W q 97 (frCells ee (k : Int) p' true z' SM A6 512 c6)) 15 (by kernel_rfl) ?_
        refine RegF.take 0 (.pointer (some ⟨l, 0, none⟩)) rfl (by kernel_rfl) (by kernel_rfl) (by kernel_rfl) (by kernel_rfl) (fun _ _ _ h => h) hS1 (RegF.yld rfl (fun W hW => by go_simp)) ?_
        simp only [List.getElem_toArray, List.getElem_cons_zero, Act.put, List.setIfInBounds_toArray, List.set_cons_zero, List.set_cons_succ]
        refine RegF.take 1 (.pointer (some ⟨l, 0, none⟩)) rfl (by kernel_rfl) (by kernel_rfl) (by kernel_rfl) (by kernel_rfl) (fun _ _ _ h => h) hS1 (RegF.yld rfl (fun W hW => by go_simp)) ?_
        simp only [List.getElem_toArray, List.getElem_cons_succ, List.getElem_cons_zero, Act.put, List.setIfInBounds_toArray, List.set_cons_zero, List.set_cons_succ]
        refine RegF.take 2 (.slice A8 K1 c8) rfl (by kernel_rfl) (by kernel_rfl) (by kernel_rfl) (by kernel_rfl) (fun _ _ _ h => h) hS1 (RegF.yld rfl (fun W hW => by go_simp)) ?_
        simp only [List.getElem_toArray, List.getElem_cons_succ, List.getElem_cons_zero, Act.put, List.setIfInBounds_toArray, List.set_cons_zero, List.set_cons_succ]
        refine RegF.take 3 (.slice A8 K1 c8) rfl (by kernel_rfl) (by kernel_rfl) (by kernel_rfl) (by kernel_rfl) (fun _ _ _ h => h) hS1 (RegF.yld rfl (fun W hW => by go_simp)) ?_
        simp only [List.getElem_toArray, List.getElem_cons_succ, List.getElem_cons_zero, Act.put, List.setIfInBounds_toArray, List.set_cons_zero, List.set_cons_succ]
        refine RegF.take 4 (.int .i64 (K1 : Int)) rfl (by kernel_rfl) (by kernel_rfl) (by kernel_rfl) (by kernel_rfl) (fun _ _ _ h => h) hS1 (RegF.yld rfl (fun W hW => by go_simp)) ?_
        simp only [List.getElem_toArray, List.getElem_cons_succ, List.getElem_cons_zero, Act.put, List.setIfInBounds_toArray, List.set_cons_zero, List.set_cons_succ]
        refine RegF.take 5 (.slice A8 K1 c8) rfl (by kernel_rfl) (by kernel_rfl) (by kernel_rfl) (by kernel_rfl) (fun _ _ _ h => h) hS1 (RegF.yld rfl (fun W hW => by go_simp)) ?_
        simp only [List.getElem_toArray, List.getElem_cons_succ, List.getElem_cons_zero, Act.put, List.setIfInBounds_toArray, List.set_cons_zero, List.set_cons_succ]
        refine RegF.take 6 (.int .i64 (K1 : Int)) rfl (by kernel_rfl) (by kernel_rfl) (by kernel_rfl) (by kernel_rfl) (fun _ _ _ h => h) hS1 (RegF.yld rfl (fun W hW => by go_simp)) ?_
        simp only [List.getElem_toArray, List.getElem_cons_succ, List.getElem_cons_zero, Act.put, List.setIfInBounds_toArray, List.set_cons_zero, List.set_cons_succ]
        refine RegF.take 7 (.slice A8 K1 K1) rfl (by kernel_rfl) (by kernel_rfl) (by kernel_rfl) (by kernel_rfl) (fun _ _ _ h => h) hS1 (RegF.yld rfl (fun W hW => by exact cut_3F rfl rfl rfl rfl hle8)) ?_
        simp only [List.getElem_toArray, List.getElem_cons_succ, List.getElem_cons_zero, Act.put, List.setIfInBounds_toArray, List.set_cons_zero, List.set_cons_succ]
        refine RegF.take 8 (.pointer (some ⟨q, 4, none⟩)) rfl (by kernel_rfl) (by kernel_rfl) (by kernel_rfl) (by kernel_rfl) (fun _ _ _ h => h) hS1 (RegF.yld rfl (fun W hW => by go_simp)) ?_
        simp only [List.getElem_toArray, List.getElem_cons_succ, List.getElem_cons_zero, Act.put, List.setIfInBounds_toArray, List.set_cons_zero, List.set_cons_succ]
        refine RegF.take 9 (.int .i64 z') rfl (by kernel_rfl) (by kernel_rfl) (by kernel_rfl) (by kernel_rfl) (fun _ _ _ h => h) hS1 (RegF.yld rfl (fun W hW => by have e : W.cell? ⟨q, 4, none⟩ = some (.int .i64 z') := (by rw [hW.cell]; rfl); go_simp)) ?_
        simp only [List.getElem_toArray, List.getElem_cons_succ, List.getElem_cons_zero, Act.put, List.setIfInBounds_toArray, List.set_cons_zero, List.set_cons_succ]
        refine RegF.one 10 (by kernel_rfl) (RegF.opV (w' := w8.drew) (.pointer (some ⟨l, 0, none⟩)) rfl rfl (by go_simp) ⟨fun _ => hS1, ?_⟩)
        simp only [List.getElem_toArray, List.getElem_cons_succ, List.getElem_cons_zero, Act.put, List.setIfInBounds_toArray, List.set_cons_zero, List.set_cons_succ]
        refine RegF.one 11 (by kernel_rfl) (RegF.opV (w' := w8.drew) (.pointer (some ⟨l, 6, none⟩)) rfl rfl (by go_simp) ⟨fun _ => hS1, ?_⟩)
        simp only [List.getElem_toArray, List.getElem_cons_succ, List.getElem_cons_zero, Act.put, List.setIfInBounds_toArray, List.set_cons_zero, List.set_cons_succ]
        refine RegF.one 12 (by kernel_rfl) (RegF.opS (w' := w8.drew.setCell ⟨l, 6, none⟩ (.slice A8 K1 K1)) rfl rfl (by go_simp) ⟨fun _ => hSA, ?_⟩)
        simp only [List.getElem_toArray, List.getElem_cons_succ, List.getElem_cons_zero, Act.put]
        refine RegF.one 13 (by kernel_rfl) (RegF.opV (w' := w8.drew.setCell ⟨l, 6, none⟩ (.slice A8 K1 K1)) (.pointer (some ⟨l, 0, none⟩)) rfl rfl (by go_simp) ⟨fun _ => hSA, ?_⟩)
        simp only [List.getElem_toArray, List.getElem_cons_succ, List.getElem_cons_zero, Act.put, List.setIfInBounds_toArray, List.set_cons_zero, List.set_cons_succ]
        refine RegF.one 14 (by kernel_rfl) (RegF.opV (w' := w8.drew.setCell ⟨l, 6, none⟩ (.slice A8 K1 K1)) (.pointer (some ⟨l, 5, none⟩)) rfl rfl (by go_simp) ⟨fun _ => hSA, ?_⟩)
        simp only [List.getElem_toArray, List.getElem_cons_succ, List.getElem_cons_zero, Act.put, List.setIfInBounds_toArray, List.set_cons_zero, List.set_cons_succ]
        refine RegF.one 15 (by kernel_rfl) (RegF.opS (w' := (w8.drew.setCell ⟨l, 6, none⟩ (.slice A8 K1 K1)).setCell ⟨l, 5, none⟩ (.int .i64 z')) rfl rfl (by go_simp) ⟨fun h => absurd rfl h, RegF.done (by kernel_rfl) ?_⟩)
        simp only [List.getElem_toArray, List.getElem_cons_succ, List.getElem_cons_zero, Act.put]
        have e5 : BlkIs ((w8.drew.setCell ⟨l, 6, none⟩ (.slice A8 K1 K1)).setCell ⟨l, 5, none⟩ (.int .i64 z')) l 57 (lgC (some ⟨d, 0, none⟩) fr pg sr ee z' A8 K1 K1) := e6.set 5 (.int .i64 z')
        have own9 : ((w8.drew.setCell ⟨l, 6, none⟩ (.slice A8 K1 K1)).setCell ⟨l, 5, none⟩ (.int .i64 z')).ownsRow w.heap.size 97 7 (.slice A8 K1 c8) K1 (vsC vk ++ FC.toList) := ownG_later own8 (fun r hr => by
          have hrl8 : r ≠ l := fun e => by
            obtain ⟨cur, hcur⟩ := ownG_ty own8 r hr
            subst e
            exact BlkIs.ne_type hcur hlg8 (by decide) rfl
          rw [Below.heap_setCell _ ⟨l, 5, none⟩ _ r hrl8, Below.heap_setCell _ ⟨l, 6, none⟩ _ r hrl8]
          rfl)
        have G9 : GrowBut (fun g => (Value.slice Am k cm).ownBlock = some g ∨ g = l) W6 ((w8.drew.setCell ⟨l, 6, none⟩ (.slice A8 K1 K1)).setCell ⟨l, 5, none⟩ (.int .i64 z')) := ((((GrowBut.below hBL).trans (GrowBut.grown hg8 (fun r e => .inl (.inl e)))).trans (GrowBut.grown (grownBy_drew w8 none) (fun r e => by cases e))).trans (GrowBut.setCell _ _ _ (.inr rfl))).trans (GrowBut.setCell _ _ _ (.inr rfl))
        clear z6 z5 y6 y5 z5' y5' hSA hS1 e6 kq3
        generalize (w8.drew.setCell ⟨l, 6, none⟩ (.slice A8 K1 K1)).setCell ⟨l, 5, none⟩ (.int .i64 z') = w9 at *
        go_wp2
        exact ⟨HFIN.out w9 A8 c8 z' A8 K1 K1 G9 own9 e5 (fun _ => ⟨rfl, rfl, rfl, rfl⟩), by simp [intOf]; omega⟩
    · have hkn : k = N := by omega
      have hNf := HNN.out
      subst hkn
      subst hNf
      rw [List.take_length] at hvk hkl
      have hvl : vk.length = fs.length := by rw [← hvk, List.length_map]
      have HOUT : Hid (∃ A c vs, BlkIs wr l 57 (lgC (some ⟨d, 0, none⟩) fr pg sr ep (szOf sz fs) A vs.length c) ∧ FrsIs (fun k => k = d ∨ k = l) wr A c vs ∧ vs.map (·.1) = fs) := Lib.hid (by
        rcases hfs : fs.getLast? with _ | x
        · have hf0 : fs = [] := List.getLast?_eq_none_iff.1 hfs
          subst hf0
          obtain ⟨rfl, rfl, rfl, rfl⟩ := hk0 rfl
          refine ⟨none, 0, [], ?_, FrsIs.mt _ _, rfl⟩
          exact hlgr
        · have hne : fs ≠ [] := fun e => by rw [e] at hfs; cases hfs
          have hpos : 0 < fs.length := List.length_pos_iff.2 hne
          obtain ⟨rfl, rfl, rfl, rfl⟩ := hkl x hfs (hF.last x hfs)
          have hsz : szOf sz fs = x.z := by unfold szOf; rw [hfs]
          obtain ⟨fg, hfgA, hfg3⟩ : ∃ fg, Ak = some ⟨fg, 0, none⟩ ∧ w.heap.size ≤ fg := by
            rcases own.2 with ⟨_, h0⟩ | ⟨fg, cap, cur, e, h1, _⟩
            · omega
            · injection e with e1 _ _
              exact ⟨fg, e1, h1⟩
          subst hfgA
          obtain ⟨_, _, eAm, hin4⟩ := ownG_in own (vsC_one vk)
          injection eAm with eA1 _ eA2
          subst eA1 eA2
          have hin5 := hin4.take _ _ (Nat.le_refl _) (Nat.le_refl _) hin4.le
          rw [List.take_of_length_le (by rw [vsC_length, hvl]; exact Nat.le_refl _)] at hin5
          refine ⟨_, _, vk, by rw [hsz, hvl]; exact hlgr, ⟨by rw [hvl]; exact hin5, fun g o e => ?_, fun h => ?_, fun v hv => ?_⟩, hvk⟩
          · injection e with e
            injection e with e1 e2
            refine ⟨fun h => ?_, e2.symm⟩
            rcases h with h | h <;> omega
          · rw [h] at hvl
            simp at hvl
            omega
          · obtain ⟨h1, h2, _⟩ := hbk v hv
            refine ⟨h1, fun g o e h => ?_⟩
            have := h2 g o e
            rcases h with h | h <;> omega)
      clear HR hk0 hkl hbk hvk own hlgr hvl
      go_wp2
      go_ret
      exact ⟨rfl, HOUT.out, hGr⟩
end Go.Proofs.YtocnabpplbeafaaGreat
/- wal: Open of a log's disk. -/
namespace Go.Proofs.YtocnabpplbeafaaGreat
open Go Go.RowKit Lou

/-- A log lies on a disk. -/
structure LogOn (G : Nat → List UInt8) (S : LgS) (hz : Nat) : Prop where
  hd : G (S.sr % 2) = headW S.sr S.ep hz S.fs.length
  sr : S.sr < 2 ^ 64
  ep : S.ep < 2 ^ 64
  hzl : hz ≤ 2000
  hn : S.fs.length ≤ 2000
  pos : 1 ≤ S.sr
  oth : goodH (G (1 - S.sr % 2)) (1 - S.sr % 2) = true → hdS (G (1 - S.sr % 2)) < S.sr
  sz : S.sz = szOf (hz : Int) S.fs
  fr : FrOn G S.ep S.fs
theorem LogOn.pick {G : Nat → List UInt8} {S : LgS} {hz : Nat} (h : LogOn G S hz) : (if (gdH (G 0) 0).s < (gdH (G 1) 1).s then gdH (G 1) 1 else gdH (G 0) 0) = ⟨S.sr, S.ep, (hz : Int), (S.fs.length : Int)⟩ ∧ (goodH (G 0) 0 || goodH (G 1) 1) = true := by
  have hi := isHead_headW (s := S.sr) (e := S.ep) h.sr h.ep h.hzl h.hn
  obtain ⟨r1, r2, r3, r4⟩ := headW_read (s := S.sr) (e := S.ep) h.sr h.ep h.hzl h.hn
  have hv : hvOf (headW S.sr S.ep hz S.fs.length) = ⟨S.sr, S.ep, (hz : Int), (S.fs.length : Int)⟩ := by
    unfold hvOf
    rw [if_pos hi, r1, r2, r3, r4]
  have hg : ∀ j, S.sr % 2 = j → goodH (headW S.sr S.ep hz S.fs.length) j = true := fun j hj => by
    unfold goodH
    rw [hi, r1, hj]
    simp
  have ho : ∀ l j, (goodH l j = true → hdS l < S.sr) → (gdH l j).s < S.sr := fun l j hh => by
    unfold gdH
    cases hb : goodH l j
    · exact h.pos
    · have h2 : isHead l = true := by
        unfold goodH at hb
        simp at hb
        exact hb.1
      show (hvOf l).s < S.sr
      unfold hvOf
      rw [if_pos h2]
      exact hh hb
  have hd := h.hd
  have hoth := h.oth
  have hp : S.sr % 2 = 0 ∨ S.sr % 2 = 1 := by omega
  rcases hp with hp | hp
  · rw [hp] at hd hoth
    have h0 : gdH (G 0) 0 = ⟨S.sr, S.ep, (hz : Int), (S.fs.length : Int)⟩ := by
      unfold gdH
      rw [hd, if_pos (hg 0 hp), hv]
    have h1 := ho (G 1) 1 hoth
    rw [h0]
    refine ⟨if_neg (by show ¬ S.sr < _; omega), ?_⟩
    rw [hd, hg 0 hp]
    rfl
  · rw [hp] at hd hoth
    have h0 : gdH (G 1) 1 = ⟨S.sr, S.ep, (hz : Int), (S.fs.length : Int)⟩ := by
      unfold gdH
      rw [hd, if_pos (hg 1 hp), hv]
    have h1 := ho (G 0) 0 hoth
    rw [h0]
    refine ⟨if_pos h1, ?_⟩
    rw [hd, hg 1 hp]
    simp
set_option maxRecDepth 100000 in
set_option maxHeartbeats 16000000 in
theorem open_old (w : World) (fr pg : Int) (d many : Nat) (s : DS) (S : LgS) (hz : Nat) (hD : DkS w d many s) (hst : s.stopped = false) (hxl : s.xs.length ≤ 1000000) (hok : planOk fr pg = true) (hm : (many : Int) = 2 + 9 * fr + 8 * pg) (hmax : many ≤ 1000000) (hfl : (S.fs.length : Int) ≤ fr) (hO : LogOn (laid s.g s.xs) S hz) :
    Calls Tryz.prog 11 #[.pointer (some ⟨d, 0, none⟩), .agg #[.int .i64 fr, .int .i64 pg]] w fun e w' => ∃ l, e = .returned (.tuple #[.pointer (some ⟨l, 0, none⟩), .int .i64 0]) ∧ w.heap.size ≤ l ∧ DkS w' d many s ∧ LogIs w' l d fr pg S ∧ Below w.heap.size w w' := by
  have hpl := (planOk_iff fr pg).1 hok
  have hB0 : Below w.heap.size w (w.alloc (.cells #[.int .i64 fr, .int .i64 pg] 23)) := (Below.refl _ w).alloc (Nat.le_refl _) _
  have b0 := BlkIs.new w 23 #[.int .i64 fr, .int .i64 pg]
  have HS := sectors_gives fr pg (w.alloc (.cells #[.int .i64 fr, .int .i64 pg] 23))
  have hp0 : plE (planOk fr pg) 0 1 = 0 := by rw [hok]; rfl
  unfold atV at HS
  rw [hp0, if_pos rfl, ← hm] at HS
  have hm0 : ¬ (many : Int) = 0 := by omega
  have hdl := hD.lt
  have hm2 : 2 ≤ many := by omega
  have hmny : 2 + 9 * fr ≤ (many : Int) := by omega
  obtain ⟨hpk, hgd⟩ := hO.pick
  obtain ⟨HC, hHC⟩ : ∃ HC, HC = (HdP.mk S.sr S.ep (hz : Int) (S.fs.length : Int)).l.toArray := ⟨_, rfl⟩
  have HHD : ∀ W l, DkS W d many s → W.cell? ⟨l, 0, none⟩ = some (.pointer (some ⟨d, 0, none⟩)) → l < W.heap.size → Calls Tryz.prog 39 #[.pointer (some ⟨l, 0, none⟩)] W fun e w' => e = .returned (.tuple #[.agg HC, .bool true, .int .i64 0]) ∧ Below W.heap.size W w' := fun W l h1 h2 h3 => by
    have := headH_gives W l d many s h1 hst hxl h2 h3 hm2 hmax _ rfl
    rw [hpk, hgd, ← hHC] at this
    exact this
  have hhs : HC.size = 4 := by rw [hHC]; rfl
  have hho : ∀ v ∈ HC.toList, v.oneCell' = true := by rw [hHC]; exact HdP.one _
  have HHC := Lib.hid hHC
  have HOK := Lib.hid hok
  have HM := Lib.hid hm
  clear hm hok hpk hgd hHC
  go_enter Tryz.func11, Tryz.ntmps11
  go_wp2_with fail
  refine wp_scope_straight ?_
  go_wp2_with (first
    | (refine wp_loadW rfl 23 (.tmp 3) rfl w.heap.size rfl rowPlan b0 rfl ?_)
    | (go_at_call 37; refine HS.mono ?_; rintro e w1 ⟨rfl, hB1⟩; have b1 := b0.below hB1 b0.lt; have k0 : w1.cell? ⟨w.heap.size, 0, none⟩ = some (.int .i64 fr) := (by rw [b1.cell]; rfl); have k1 : w1.cell? ⟨w.heap.size, 1, none⟩ = some (.int .i64 pg) := (by rw [b1.cell]; rfl); have hB01 := hB0.trans (hB1.mono hB0.size); have hs1 := hB01.size; have hB03 : Below w.heap.size w ((w1.alloc (.cells #[.pointer (some ⟨d, 0, none⟩), .int .i64 fr, .int .i64 pg, .int .u64 0, .int .u64 0, .int .i64 0, .slice none 0 0] 57)).alloc (.cells #[.int .u64 0, .int .u64 0, .int .i64 0, .int .i64 0] 89)) := (hB01.alloc hB01.size _).alloc (by have := hB01.size; simp; omega) _; have hD3 : DkS _ d many s := hD.grow hB03; have HL := len_gives _ d many s.g s.xs s.left s.st hD3; have bl : BlkIs ((w1.alloc (.cells #[.pointer (some ⟨d, 0, none⟩), .int .i64 fr, .int .i64 pg, .int .u64 0, .int .u64 0, .int .i64 0, .slice none 0 0] 57)).alloc (.cells #[.int .u64 0, .int .u64 0, .int .i64 0, .int .i64 0] 89)) w1.heap.size 57 (lgC (some ⟨d, 0, none⟩) fr pg 0 0 0 none 0 0) := (BlkIs.new w1 _ _).alloc _; have bh : BlkIs ((w1.alloc (.cells #[.pointer (some ⟨d, 0, none⟩), .int .i64 fr, .int .i64 pg, .int .u64 0, .int .u64 0, .int .i64 0, .slice none 0 0] 57)).alloc (.cells #[.int .u64 0, .int .u64 0, .int .i64 0, .int .i64 0] 89)) (w1.heap.size + 1) 89 #[.int .u64 0, .int .u64 0, .int .i64 0, .int .i64 0] := (by have := BlkIs.new (w1.alloc (.cells #[.pointer (some ⟨d, 0, none⟩), .int .i64 fr, .int .i64 pg, .int .u64 0, .int .u64 0, .int .i64 0, .slice none 0 0] 57)) 89 #[.int .u64 0, .int .u64 0, .int .i64 0, .int .i64 0]; rw [World.size_alloc] at this; exact this); have kl : World.cell? ((w1.alloc (.cells #[.pointer (some ⟨d, 0, none⟩), .int .i64 fr, .int .i64 pg, .int .u64 0, .int .u64 0, .int .i64 0, .slice none 0 0] 57)).alloc (.cells #[.int .u64 0, .int .u64 0, .int .i64 0, .int .i64 0] 89)) ⟨w1.heap.size, 0, none⟩ = some (.pointer (some ⟨d, 0, none⟩)) := (by rw [bl.cell]; rfl))
    | (go_at_call 38; refine HL.mono ?_; rintro e w' ⟨rfl, rfl⟩)
    | (go_at_call 39; refine (HHD _ w1.heap.size hD3 kl bl.lt).mono ?_; rintro e w4 ⟨rfl, hB4⟩; have bl4 := bl.below hB4 bl.lt; have bh4 := bh.below hB4 bh.lt; have hB04 := hB03.trans (hB4.mono hB03.size))
    | (refine wp_storeW rfl 89 (.tmp 9) (.tmp 35) rfl (w1.heap.size + 1) rfl rfl rowHead bh4 rfl hhs hho ?_; have bh5 := bh4.setRow HC; have bl5 := bl4.setRow_ne (k := w1.heap.size + 1) (by omega) HC; have hB05 : Below w.heap.size w (w4.setRow (w1.heap.size + 1) HC) := below_setRow hB04 (by omega) HC))
  have hsl : d < w1.heap.size := by omega
  have hsl2 : w.heap.size ≤ w1.heap.size := by omega
  clear HS HL HHD hD3 bl bl4 bh bh4 kl hB4 hB04 hB03 b0 b1 k0 k1 hB0 hB01 hB1 hs1
  generalize w4.setRow (w1.heap.size + 1) HC = w7 at *
  generalize w1.heap.size = l at *
  have bh7 : BlkIs w7 (l + 1) 89 #[.int .u64 (S.sr : Int), .int .u64 (S.ep : Int), .int .i64 (hz : Int), .int .i64 (S.fs.length : Int)] := by
    rw [HHC.out] at bh5
    exact bh5
  have bl7 := bl5
  have hlh : ¬ l = l + 1 := by omega
  have bA := bl7.drew.set 3 (.int .u64 (S.sr : Int))
  have bB := bA.set 4 (.int .u64 (S.ep : Int))
  have bC := bB.set 5 (.int .i64 (hz : Int))
  have hA := bh7.drew.other (p := ⟨l, 3, none⟩) (by show ¬ l + 1 = l; omega) (.int .u64 (S.sr : Int))
  have hB := hA.other (p := ⟨l, 4, none⟩) (by show ¬ l + 1 = l; omega) (.int .u64 (S.ep : Int))
  have hC := hB.other (p := ⟨l, 5, none⟩) (by show ¬ l + 1 = l; omega) (.int .i64 (hz : Int))
  have BC : Below w.heap.size w (((w7.drew.setCell ⟨l, 3, none⟩ (.int .u64 (S.sr : Int))).setCell ⟨l, 4, none⟩ (.int .u64 (S.ep : Int))).setCell ⟨l, 5, none⟩ (.int .i64 (hz : Int))) := (((hB05.drew).setCell (p := ⟨l, 3, none⟩) hsl2 _).setCell (p := ⟨l, 4, none⟩) hsl2 _).setCell (p := ⟨l, 5, none⟩) hsl2 _
  have a3 : w7.drew.cell? ⟨l, 3, none⟩ = some (.int .u64 0) := by rw [bl7.drew.cell]; rfl
  have a4 : (w7.drew.setCell ⟨l, 3, none⟩ (.int .u64 (S.sr : Int))).cell? ⟨l, 4, none⟩ = some (.int .u64 0) := by rw [bA.cell]; rfl
  have a5 : ((w7.drew.setCell ⟨l, 3, none⟩ (.int .u64 (S.sr : Int))).setCell ⟨l, 4, none⟩ (.int .u64 (S.ep : Int))).cell? ⟨l, 5, none⟩ = some (.int .i64 0) := by rw [bB.cell]; rfl
  have x3 : w7.cell? ⟨l, 3, none⟩ = some (.int .u64 0) := by rw [bl7.cell]; rfl
  have x4 : w7.cell? ⟨l, 4, none⟩ = some (.int .u64 0) := by rw [bl7.cell]; rfl
  have x5 : w7.cell? ⟨l, 5, none⟩ = some (.int .i64 0) := by rw [bl7.cell]; rfl
  have y3 := bl7.free 3
  have y4 := bl7.free 4
  have y5 := bl7.free 5
  have f3 := bl7.drew.free 3
  have f4 := bA.free 4
  have f5 := bB.free 5
  have e3 : (((w7.drew.setCell ⟨l, 3, none⟩ (.int .u64 (S.sr : Int))).setCell ⟨l, 4, none⟩ (.int .u64 (S.ep : Int))).setCell ⟨l, 5, none⟩ (.int .i64 (hz : Int))).cell? ⟨l + 1, 3, none⟩ = some (.int .i64 (S.fs.length : Int)) := by rw [hC.cell]; rfl
  have hS0 := bh7.drew
  refine RegF.start (fun W : World => BlkIs W (l + 1) 89 #[.int .u64 (S.sr : Int), .int .u64 (S.ep : Int), .int .i64 (hz : Int), .int .i64 (S.fs.length : Int)]) 17 (by kernel_rfl) ?_
  refine RegF.take 0 (.pointer (some ⟨l, 0, none⟩)) rfl (by kernel_rfl) (by kernel_rfl) (by kernel_rfl) (by kernel_rfl) (fun _ _ _ h => h) hS0 (RegF.yld rfl (fun W hW => by go_simp)) ?_
  simp only [List.getElem_toArray, List.getElem_cons_zero, Act.put, List.setIfInBounds_toArray, List.set_cons_zero, List.set_cons_succ]
  refine RegF.take 1 (.pointer (some ⟨l, 0, none⟩)) rfl (by kernel_rfl) (by kernel_rfl) (by kernel_rfl) (by kernel_rfl) (fun _ _ _ h => h) hS0 (RegF.yld rfl (fun W hW => by go_simp)) ?_
  simp only [List.getElem_toArray, List.getElem_cons_succ, List.getElem_cons_zero, Act.put, List.setIfInBounds_toArray, List.set_cons_zero, List.set_cons_succ]
  refine RegF.take 2 (.pointer (some ⟨l, 0, none⟩)) rfl (by kernel_rfl) (by kernel_rfl) (by kernel_rfl) (by kernel_rfl) (fun _ _ _ h => h) hS0 (RegF.yld rfl (fun W hW => by go_simp)) ?_
  simp only [List.getElem_toArray, List.getElem_cons_succ, List.getElem_cons_zero, Act.put, List.setIfInBounds_toArray, List.set_cons_zero, List.set_cons_succ]
  refine RegF.take 3 (.pointer (some ⟨l + 1, 0, none⟩)) rfl (by kernel_rfl) (by kernel_rfl) (by kernel_rfl) (by kernel_rfl) (fun _ _ _ h => h) hS0 (RegF.yld rfl (fun W hW => by go_simp)) ?_
  simp only [List.getElem_toArray, List.getElem_cons_succ, List.getElem_cons_zero, Act.put, List.setIfInBounds_toArray, List.set_cons_zero, List.set_cons_succ]
  refine RegF.take 4 (.int .u64 (S.sr : Int)) rfl (by kernel_rfl) (by kernel_rfl) (by kernel_rfl) (by kernel_rfl) (fun _ _ _ h => h) hS0 (RegF.yld rfl (fun W hW => by have q : W.cell? ⟨l + 1, 0, none⟩ = some (.int .u64 (S.sr : Int)) := (by rw [hW.cell]; rfl); go_simp)) ?_
  simp only [List.getElem_toArray, List.getElem_cons_succ, List.getElem_cons_zero, Act.put, List.setIfInBounds_toArray, List.set_cons_zero, List.set_cons_succ]
  refine RegF.take 5 (.pointer (some ⟨l + 1, 1, none⟩)) rfl (by kernel_rfl) (by kernel_rfl) (by kernel_rfl) (by kernel_rfl) (fun _ _ _ h => h) hS0 (RegF.yld rfl (fun W hW => by go_simp)) ?_
  simp only [List.getElem_toArray, List.getElem_cons_succ, List.getElem_cons_zero, Act.put, List.setIfInBounds_toArray, List.set_cons_zero, List.set_cons_succ]
  refine RegF.take 6 (.int .u64 (S.ep : Int)) rfl (by kernel_rfl) (by kernel_rfl) (by kernel_rfl) (by kernel_rfl) (fun _ _ _ h => h) hS0 (RegF.yld rfl (fun W hW => by have q : W.cell? ⟨l + 1, 1, none⟩ = some (.int .u64 (S.ep : Int)) := (by rw [hW.cell]; rfl); go_simp)) ?_
  simp only [List.getElem_toArray, List.getElem_cons_succ, List.getElem_cons_zero, Act.put, List.setIfInBounds_toArray, List.set_cons_zero, List.set_cons_succ]
  refine RegF.take 7 (.pointer (some ⟨l + 1, 2, none⟩)) rfl (by kernel_rfl) (by kernel_rfl) (by kernel_rfl) (by kernel_rfl) (fun _ _ _ h => h) hS0 (RegF.yld rfl (fun W hW => by go_simp)) ?_
  simp only [List.getElem_toArray, List.getElem_cons_succ, List.getElem_cons_zero, Act.put, List.setIfInBounds_toArray, List.set_cons_zero, List.set_cons_succ]
  refine RegF.take 8 (.int .i64 (hz : Int)) rfl (by kernel_rfl) (by kernel_rfl) (by kernel_rfl) (by kernel_rfl) (fun _ _ _ h => h) hS0 (RegF.yld rfl (fun W hW => by have q : W.cell? ⟨l + 1, 2, none⟩ = some (.int .i64 (hz : Int)) := (by rw [hW.cell]; rfl); go_simp)) ?_
  simp only [List.getElem_toArray, List.getElem_cons_succ, List.getElem_cons_zero, Act.put, List.setIfInBounds_toArray, List.set_cons_zero, List.set_cons_succ]
  refine RegF.one 9 (by kernel_rfl) (RegF.opV (w' := w7.drew) (.pointer (some ⟨l, 0, none⟩)) rfl rfl (by go_simp) ⟨fun _ => hS0, ?_⟩)
  simp only [List.getElem_toArray, List.getElem_cons_succ, List.getElem_cons_zero, Act.put, List.setIfInBounds_toArray, List.set_cons_zero, List.set_cons_succ]
  refine RegF.one 10 (by kernel_rfl) (RegF.opV (w' := w7.drew) (.pointer (some ⟨l, 3, none⟩)) rfl rfl (by go_simp) ⟨fun _ => hS0, ?_⟩)
  simp only [List.getElem_toArray, List.getElem_cons_succ, List.getElem_cons_zero, Act.put, List.setIfInBounds_toArray, List.set_cons_zero, List.set_cons_succ]
  refine RegF.one 11 (by kernel_rfl) (RegF.opS (w' := w7.drew.setCell ⟨l, 3, none⟩ (.int .u64 (S.sr : Int))) rfl rfl (by go_simp) ⟨fun _ => hA, ?_⟩)
  simp only [List.getElem_toArray, List.getElem_cons_succ, List.getElem_cons_zero, Act.put]
  refine RegF.one 12 (by kernel_rfl) (RegF.opV (w' := w7.drew.setCell ⟨l, 3, none⟩ (.int .u64 (S.sr : Int))) (.pointer (some ⟨l, 0, none⟩)) rfl rfl (by go_simp) ⟨fun _ => hA, ?_⟩)
  simp only [List.getElem_toArray, List.getElem_cons_succ, List.getElem_cons_zero, Act.put, List.setIfInBounds_toArray, List.set_cons_zero, List.set_cons_succ]
  refine RegF.one 13 (by kernel_rfl) (RegF.opV (w' := w7.drew.setCell ⟨l, 3, none⟩ (.int .u64 (S.sr : Int))) (.pointer (some ⟨l, 4, none⟩)) rfl rfl (by go_simp) ⟨fun _ => hA, ?_⟩)
  simp only [List.getElem_toArray, List.getElem_cons_succ, List.getElem_cons_zero, Act.put, List.setIfInBounds_toArray, List.set_cons_zero, List.set_cons_succ]
  refine RegF.one 14 (by kernel_rfl) (RegF.opS (w' := (w7.drew.setCell ⟨l, 3, none⟩ (.int .u64 (S.sr : Int))).setCell ⟨l, 4, none⟩ (.int .u64 (S.ep : Int))) rfl rfl (by go_simp) ⟨fun _ => hB, ?_⟩)
  simp only [List.getElem_toArray, List.getElem_cons_succ, List.getElem_cons_zero, Act.put]
  refine RegF.one 15 (by kernel_rfl) (RegF.opV (w' := (w7.drew.setCell ⟨l, 3, none⟩ (.int .u64 (S.sr : Int))).setCell ⟨l, 4, none⟩ (.int .u64 (S.ep : Int))) (.pointer (some ⟨l, 0, none⟩)) rfl rfl (by go_simp) ⟨fun _ => hB, ?_⟩)
  simp only [List.getElem_toArray, List.getElem_cons_succ, List.getElem_cons_zero, Act.put, List.setIfInBounds_toArray, List.set_cons_zero, List.set_cons_succ]
  refine RegF.one 16 (by kernel_rfl) (RegF.opV (w' := (w7.drew.setCell ⟨l, 3, none⟩ (.int .u64 (S.sr : Int))).setCell ⟨l, 4, none⟩ (.int .u64 (S.ep : Int))) (.pointer (some ⟨l, 5, none⟩)) rfl rfl (by go_simp) ⟨fun _ => hB, ?_⟩)
  simp only [List.getElem_toArray, List.getElem_cons_succ, List.getElem_cons_zero, Act.put, List.setIfInBounds_toArray, List.set_cons_zero, List.set_cons_succ]
  refine RegF.one 17 (by kernel_rfl) (RegF.opS (w' := ((w7.drew.setCell ⟨l, 3, none⟩ (.int .u64 (S.sr : Int))).setCell ⟨l, 4, none⟩ (.int .u64 (S.ep : Int))).setCell ⟨l, 5, none⟩ (.int .i64 (hz : Int))) rfl rfl (by go_simp) ⟨fun h => absurd rfl h, RegF.done (by kernel_rfl) ?_⟩)
  simp only [List.getElem_toArray, List.getElem_cons_succ, List.getElem_cons_zero, Act.put]
  have bC2 : BlkIs (((w7.drew.setCell ⟨l, 3, none⟩ (.int .u64 (S.sr : Int))).setCell ⟨l, 4, none⟩ (.int .u64 (S.ep : Int))).setCell ⟨l, 5, none⟩ (.int .i64 (hz : Int))) l 57 (lgC (some ⟨d, 0, none⟩) fr pg S.sr S.ep (hz : Int) none 0 0) := bC
  clear x3 x4 x5 y3 y4 y5 a3 a4 a5 f3 f4 f5 hS0 hA hB bA bB bC hC bl7 bh7 bh5 bl5 hB05
  generalize ((w7.drew.setCell ⟨l, 3, none⟩ (.int .u64 (S.sr : Int))).setCell ⟨l, 4, none⟩ (.int .u64 (S.ep : Int))).setCell ⟨l, 5, none⟩ (.int .i64 (hz : Int)) = w8 at *
  have HC8 := count_gives w8 l d many s fr pg S.sr S.ep (hz : Int) S.fs (hD.grow BC) hst hxl bC2 (by omega) _ rfl hO.fr hO.ep HOK.out hfl hmny hmax
  rw [← hO.sz] at HC8
  go_wp2_with (go_at_call 41; refine HC8.mono ?_; rintro e w9 ⟨rfl, hL9, hG9⟩; have HL9 := Lib.hid hL9; clear hL9)
  simp only [Exit.noGoto]
  have hB9 : Below w.heap.size w w9 := BC.trans (hG9.toBelow BC.size (fun k e => by subst e; exact hsl2))
  exact ⟨by simp, _, results_tmp2 rfl _ _ _, ⟨l, rfl, hsl2, hD.grow hB9, ⟨by omega, HL9.out⟩, hB9⟩⟩
end Go.Proofs.YtocnabpplbeafaaGreat
