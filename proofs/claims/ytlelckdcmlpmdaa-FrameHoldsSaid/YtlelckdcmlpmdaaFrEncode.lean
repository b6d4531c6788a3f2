/- frame.Encode. -/
import Derived.Test.YtlelckdcmlpmdaaFrFront
namespace Go.Proofs.Ytlelckdcmlpmdaa
open Go Go.RowKit Lou

def fEnc (e : Nat) (i p : Int) (f : Bool) (z : Int) (n : Nat) (y : List UInt8) : List UInt8 := if frOk y.length i p f z then frameB (partB e i.toNat p.toNat f z.toNat n) y else []
def fErr (i p : Int) (f : Bool) (z : Int) (y : List UInt8) : Int := if frOk y.length i p f z then 0 else 2
theorem fEnc_ok {e i p : Nat} {f : Bool} {z n : Nat} {y : List UInt8} (h : frOk y.length i p f z = true) : fEnc e i p f z n y = frameB (partB e i p f z n) y ∧ fErr i p f z y = 0 := by simp [fEnc, fErr, h]
set_option maxRecDepth 100000 in
set_option maxHeartbeats 8000000 in
theorem encode_gives (e : Nat) (i p : Int) (f : Bool) (z : Int) (n : Nat) (A : Option Addr) (k : Nat) (y : List UInt8) (w : World) (hin : InB w w.heap.size A k y) :
    Calls Try.prog 74 #[.agg (frCells e i p f z n A y.length k)] w (GivesBE w (fEnc e i p f z n y) (fErr i p f z y)) := by
  have hbh := BlkIs.new w 120 (frCells e i p f z n A y.length k)
  have hBw : Below w.heap.size w (w.alloc (.cells (frCells e i p f z n A y.length k) 120)) := (Below.refl _ w).alloc (Nat.le_refl _) _
  have H := right_gives e i p f z n A y.length k (w.alloc (.cells (frCells e i p f z n A y.length k) 120))
  cases hk : frOk y.length i p f z with
  | false =>
    have h1 : fEnc e i p f z n y = [] := by simp [fEnc, hk]
    have h2 : fErr i p f z y = 2 := by simp [fErr, hk]
    rw [h1, h2]
    rw [hk] at H
    clear h1 h2 hk
    unfold frCells at *
    go_enter Try.func74, Try.ntmps74
    go_wp2_with (first
      | (go_at_call 140; refine H.mono ?_; rintro x w2 ⟨rfl, hB2⟩)
      | (refine wp_loadW rfl 120 (.tmp 1) rfl w.heap.size rfl rowFrame hbh (by rfl) ?_))
    exact bodyPost_ret (results_tmp2 rfl _ _ _) rfl ⟨none, 0, rfl, InB.mt _ _, hBw.trans (hB2.mono hBw.size)⟩
  | true =>
    obtain ⟨hy, ⟨hi0, hi1⟩, ⟨hp0, hp1⟩, ⟨hz0, hz1⟩, _⟩ := (frOk_iff _ _ _ _ _).1 hk
    obtain ⟨i, rfl⟩ : ∃ q : Nat, i = q := ⟨i.toNat, by omega⟩
    obtain ⟨p, rfl⟩ : ∃ q : Nat, p = q := ⟨p.toNat, by omega⟩
    obtain ⟨z, rfl⟩ : ∃ q : Nat, z = q := ⟨z.toNat, by omega⟩
    rw [hk] at H
    obtain ⟨h1, h2⟩ := fEnc_ok (e := e) (n := n) hk
    rw [h1, h2]
    have hin1 := (hin.below hBw).more hBw.size
    have HF := fun W (h : InB W W.heap.size A k y) => front_gives e i p z n f A k y W (by omega) (by omega) (by omega) h hy
    have hl25 := partB_length e i p f z n
    have hfr : frameB (partB e i p f z n) y = sectB (partB e i p f z n) y ++ y := rfl
    have hsl : (sectB (partB e i p f z n) y).length = 64 := by rw [sectB_length, hl25]
    rw [hfr]
    generalize sectB (partB e i p f z n) y = s at *
    have HSL := Lib.hid hsl
    have HYL := Lib.hid hy
    have hRow : RowTy Try.prog 236 (s.map b8).toArray.size := by
      have : (s.map b8).toArray.size = 64 := by simp [hsl]
      rw [this]
      exact rowSector
    clear h1 h2 hk hin hfr hl25 hsl hy
    unfold frCells at *
    go_enter Try.func74, Try.ntmps74
    go_wp2_with (first
      | (go_at_call 140; refine H.mono ?_; rintro x w2 ⟨rfl, hB2⟩; have hbh2 := hbh.below hB2 hbh.lt; have hB02 := hBw.trans (hB2.mono hBw.size); have hin2 := (hin1.below hB2).more hB2.size; clear H hbh hin1)
      | (go_at_call 141; refine (HF _ hin2).mono ?_; rintro x w3 ⟨rfl, hB3⟩; have hbh3 := hbh2.below hB3 hbh2.lt; have hB03 := hB02.trans (hB3.mono hB02.size); have hin3 := (hin2.below hB3).more hB3.size; clear HF hbh2 hin2)
      | (refine wp_loadW rfl 120 (.tmp 1) rfl w.heap.size rfl rowFrame (by assumption) (by rfl) ?_)
      | (refine wp_storeW rfl 236 (.tmp 4) (.tmp 9) rfl w3.heap.size rfl rfl rowSector (BlkIs.new w3 236 #[.int .u8 0, .int .u8 0, .int .u8 0, .int .u8 0, .int .u8 0, .int .u8 0, .int .u8 0, .int .u8 0, .int .u8 0, .int .u8 0, .int .u8 0, .int .u8 0, .int .u8 0, .int .u8 0, .int .u8 0, .int .u8 0, .int .u8 0, .int .u8 0, .int .u8 0, .int .u8 0, .int .u8 0, .int .u8 0, .int .u8 0, .int .u8 0, .int .u8 0, .int .u8 0, .int .u8 0, .int .u8 0, .int .u8 0, .int .u8 0, .int .u8 0, .int .u8 0, .int .u8 0, .int .u8 0, .int .u8 0, .int .u8 0, .int .u8 0, .int .u8 0, .int .u8 0, .int .u8 0, .int .u8 0, .int .u8 0, .int .u8 0, .int .u8 0, .int .u8 0, .int .u8 0, .int .u8 0, .int .u8 0, .int .u8 0, .int .u8 0, .int .u8 0, .int .u8 0, .int .u8 0, .int .u8 0, .int .u8 0, .int .u8 0, .int .u8 0, .int .u8 0, .int .u8 0, .int .u8 0, .int .u8 0, .int .u8 0, .int .u8 0, .int .u8 0]) (by rfl) (by have := HSL.out; simp; omega) (b8_one _) ?_))
    have hb4 := (BlkIs.new w3 236 #[.int .u8 0, .int .u8 0, .int .u8 0, .int .u8 0, .int .u8 0, .int .u8 0, .int .u8 0, .int .u8 0, .int .u8 0, .int .u8 0, .int .u8 0, .int .u8 0, .int .u8 0, .int .u8 0, .int .u8 0, .int .u8 0, .int .u8 0, .int .u8 0, .int .u8 0, .int .u8 0, .int .u8 0, .int .u8 0, .int .u8 0, .int .u8 0, .int .u8 0, .int .u8 0, .int .u8 0, .int .u8 0, .int .u8 0, .int .u8 0, .int .u8 0, .int .u8 0, .int .u8 0, .int .u8 0, .int .u8 0, .int .u8 0, .int .u8 0, .int .u8 0, .int .u8 0, .int .u8 0, .int .u8 0, .int .u8 0, .int .u8 0, .int .u8 0, .int .u8 0, .int .u8 0, .int .u8 0, .int .u8 0, .int .u8 0, .int .u8 0, .int .u8 0, .int .u8 0, .int .u8 0, .int .u8 0, .int .u8 0, .int .u8 0, .int .u8 0, .int .u8 0, .int .u8 0, .int .u8 0, .int .u8 0, .int .u8 0, .int .u8 0, .int .u8 0]).setRow (s.map b8).toArray
    have hB34 : Below w3.heap.size w3 ((w3.alloc (.cells #[.int .u8 0, .int .u8 0, .int .u8 0, .int .u8 0, .int .u8 0, .int .u8 0, .int .u8 0, .int .u8 0, .int .u8 0, .int .u8 0, .int .u8 0, .int .u8 0, .int .u8 0, .int .u8 0, .int .u8 0, .int .u8 0, .int .u8 0, .int .u8 0, .int .u8 0, .int .u8 0, .int .u8 0, .int .u8 0, .int .u8 0, .int .u8 0, .int .u8 0, .int .u8 0, .int .u8 0, .int .u8 0, .int .u8 0, .int .u8 0, .int .u8 0, .int .u8 0, .int .u8 0, .int .u8 0, .int .u8 0, .int .u8 0, .int .u8 0, .int .u8 0, .int .u8 0, .int .u8 0, .int .u8 0, .int .u8 0, .int .u8 0, .int .u8 0, .int .u8 0, .int .u8 0, .int .u8 0, .int .u8 0, .int .u8 0, .int .u8 0, .int .u8 0, .int .u8 0, .int .u8 0, .int .u8 0, .int .u8 0, .int .u8 0, .int .u8 0, .int .u8 0, .int .u8 0, .int .u8 0, .int .u8 0, .int .u8 0, .int .u8 0, .int .u8 0] 236)).setRow w3.heap.size (s.map b8).toArray) := below_setRow ((Below.refl _ w3).alloc (Nat.le_refl _) _) (Nat.le_refl _) _
    have hB4 : Below w.heap.size w ((w3.alloc (.cells #[.int .u8 0, .int .u8 0, .int .u8 0, .int .u8 0, .int .u8 0, .int .u8 0, .int .u8 0, .int .u8 0, .int .u8 0, .int .u8 0, .int .u8 0, .int .u8 0, .int .u8 0, .int .u8 0, .int .u8 0, .int .u8 0, .int .u8 0, .int .u8 0, .int .u8 0, .int .u8 0, .int .u8 0, .int .u8 0, .int .u8 0, .int .u8 0, .int .u8 0, .int .u8 0, .int .u8 0, .int .u8 0, .int .u8 0, .int .u8 0, .int .u8 0, .int .u8 0, .int .u8 0, .int .u8 0, .int .u8 0, .int .u8 0, .int .u8 0, .int .u8 0, .int .u8 0, .int .u8 0, .int .u8 0, .int .u8 0, .int .u8 0, .int .u8 0, .int .u8 0, .int .u8 0, .int .u8 0, .int .u8 0, .int .u8 0, .int .u8 0, .int .u8 0, .int .u8 0, .int .u8 0, .int .u8 0, .int .u8 0, .int .u8 0, .int .u8 0, .int .u8 0, .int .u8 0, .int .u8 0, .int .u8 0, .int .u8 0, .int .u8 0, .int .u8 0] 236)).setRow w3.heap.size (s.map b8).toArray) := hB03.trans (hB34.mono hB03.size)
    have hf4 := hbh3.below hB34 hbh3.lt
    have hin4 := (hin3.below hB34).more hB34.size
    have hs4 := hb4.inBT (by rw [HSL.out]; omega)
    rw [HSL.out] at hs4
    clear hb4 hbh3 hin3 hB34 hB03 hB02 hB2 hB3
    generalize hW4 : (w3.alloc (.cells #[.int .u8 0, .int .u8 0, .int .u8 0, .int .u8 0, .int .u8 0, .int .u8 0, .int .u8 0, .int .u8 0, .int .u8 0, .int .u8 0, .int .u8 0, .int .u8 0, .int .u8 0, .int .u8 0, .int .u8 0, .int .u8 0, .int .u8 0, .int .u8 0, .int .u8 0, .int .u8 0, .int .u8 0, .int .u8 0, .int .u8 0, .int .u8 0, .int .u8 0, .int .u8 0, .int .u8 0, .int .u8 0, .int .u8 0, .int .u8 0, .int .u8 0, .int .u8 0, .int .u8 0, .int .u8 0, .int .u8 0, .int .u8 0, .int .u8 0, .int .u8 0, .int .u8 0, .int .u8 0, .int .u8 0, .int .u8 0, .int .u8 0, .int .u8 0, .int .u8 0, .int .u8 0, .int .u8 0, .int .u8 0, .int .u8 0, .int .u8 0, .int .u8 0, .int .u8 0, .int .u8 0, .int .u8 0, .int .u8 0, .int .u8 0, .int .u8 0, .int .u8 0, .int .u8 0, .int .u8 0, .int .u8 0, .int .u8 0, .int .u8 0, .int .u8 0] 236)).setRow w3.heap.size (s.map b8).toArray = W4 at *
    generalize w3.heap.size = g3 at *
    clear hW4
    simp only [Act.put]
    have hc6 : W4.cell? ⟨w.heap.size, 6, none⟩ = some (.slice A y.length k) := by rw [hf4.cell]; rfl
    have hC := concat2_gives W4.drew (some ⟨g3, 0, none⟩) A 64 k s y hs4.drew hin4.drew (by rw [HSL.out, HYL.out]; omega)
    rw [HSL.out] at hC
    have hlt4 := hf4.lt
    go_region_held3 (fun W => Below W4.heap.size W4 W ∧ W.cell? ⟨w.heap.size, 6, none⟩ = some (.slice A y.length k)) (first | exact ⟨(Below.refl _ _).drew, hc6⟩ | exact ⟨((Below.refl _ W4).drew).alloc (Nat.le_refl _) _, (World.cell?_of_block (Below.heap_alloc W4.drew _ _ hlt4)).trans hc6⟩ | exact ⟨hB5', (hB5'.cell (p := ⟨w.heap.size, 6, none⟩) hlt4).trans hc6⟩)
      (first
        | (go_at_call 142; refine hC.mono ?_; rintro x W5 ⟨v5, rfl, own5, hB5⟩; have hB5' : Below W4.heap.size W4 W5 := (Below.refl _ W4).drew.trans hB5))
    go_wp2
    obtain ⟨A5, c5, rfl, hin5⟩ := own5.inB
    exact bodyPost_ret (results_tmp2 rfl _ _ _) rfl ⟨A5, c5, rfl, hin5, hB4.trans (hB5'.mono hB4.size)⟩
end Go.Proofs.Ytlelckdcmlpmdaa
