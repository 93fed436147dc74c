/-
  'live' is true: a device that begins with no image is none.
-/
import Derived.Test.YtooonpmiglhjpaaGreatDoorLive5
import Derived.Test.YtooonpmiglhjpaaGreatDoorLive1
namespace Go.Proofs.YtooonpmiglhjpaaGreatDoor
open Go.RowKit

theorem Audit_nil (w : World) : Calls Tryz.prog 74 #[.slice none 0 0] w fun e w' => e = .returned (.tuple #[.agg #[.slice none 0 0], .int .i64 6]) ∧ Below w.heap.size w w' := by
  go_enter Tryz.func74, Tryz.ntmps74
  go_wp2_with (go_at_call 92; refine (audit_nil _).mono ?_; rintro e w1 ⟨rfl, hb⟩; obtain ⟨hc, hf⟩ := bcell hb; have hz : w.heap.size < w1.heap.size := (by have := hb.size; simp at this; omega))
  refine bodyPost_ret (v := .tuple #[.agg #[.slice none 0 0], .int .i64 6]) ?_ rfl ⟨rfl, ?_⟩
  · simp [results, Tryz.results74, go_sem, hc, hz]
  · have hB : Below w.heap.size w w1 := ((Below.refl _ _).alloc (Nat.le_refl _) _).trans (hb.mono (by simp))
    exact (hB.setCell (p := ⟨w.heap.size, 0, none⟩) (Nat.le_refl _) _).alloc (by simp [World.setCell]; omega) _

set_option maxRecDepth 100000 in
theorem format_live (g : Nat) (w : World) (h : LiveFlash w g) :
    Calls Tryz.prog 66 #[.pointer (some ⟨g, 0, none⟩), planOf 4 1 64, .slice none 0 0] w fun e w' => e = .returned (.int .i64 6) ∧ Below w.heap.size w w' := by
  have hg : g < w.heap.size := World.block_lt_of_cell? w _ h.1
  have L := Lib.hid h
  have R := fun w h => right_live g w h
  have HR := Lib.hid R
  clear h R
  unfold planOf planA at HR ⊢
  go_enter Tryz.func66, Tryz.ntmps66
  go_wp2_with (first | (go_at_call 73; refine (HR.out _ (live_alloc (live_alloc (live_alloc L.out _) _) _)).mono ?_; rintro e w1 ⟨rfl, hb1⟩; obtain ⟨hc1, hf1⟩ := bcell hb1; have hz1 : w.heap.size + 2 < w1.heap.size := (by have := hb1.size; simp at this; omega)) | (go_at_call 74; refine (Audit_nil _).mono ?_; rintro e w2 ⟨rfl, hb2⟩))
  go_ret
  have hB : Below w.heap.size w w1 := ((((Below.refl _ _).alloc (Nat.le_refl _) _).alloc (by simp only [size_alloc]; omega) _).alloc (by simp only [size_alloc]; omega) _).trans (hb1.mono (by simp only [size_alloc]; omega))
  exact ⟨rfl, (hB.trans (hb2.mono (by omega))).alloc (by have := hb2.size; omega) _⟩

set_option maxHeartbeats 1000000 in
set_option maxRecDepth 100000 in
theorem new_live (w : World) : Calls Tryz.prog 60 #[.agg #[.int .i64 4, .int .i64 1, .int .i64 64], .slice none 0 0, .int .i64 0] w fun e w' => e = .returned (.tuple #[.pointer none, .int .i64 6]) ∧ Below w.heap.size w w' := by
  have M := fun w => make_ok 4 1 64 w (by decide) (by decide) (by decide) (by decide) (by decide) (by decide)
  have HM := Lib.hid M
  have HF := Lib.hid format_live
  clear M
  unfold planV at HM
  unfold planOf planA at HF
  go_enter Tryz.func60, Tryz.ntmps60
  go_wp2_with (first | (go_at_call 24; refine (HM.out _).mono ?_; rintro e w1 ⟨rfl, hb1⟩; obtain ⟨hc1, hf1⟩ := bcell hb1; have hz1 : w.heap.size < w1.heap.size := (by have := hb1.size; simp at this; omega)) | (go_at_call 65; refine (flash_new_live _).mono ?_; unfold FlashTold; rintro e w2 ⟨g, rfl, hb2, hg, hl⟩; obtain ⟨hc2, hf2⟩ := bcell hb2; have hz2 : w1.heap.size < w2.heap.size := (by have := hb2.size; simp at this; omega)) | (go_at_call 66; refine (HF.out g _ (live_alloc hl _)).mono ?_; rintro e w3 ⟨rfl, hb3⟩))
  go_ret2
  have hB1 : Below w.heap.size w w1 := ((Below.refl _ _).alloc (Nat.le_refl _) _).trans (hb1.mono (by simp only [size_alloc]; omega))
  have hB2 : Below w.heap.size w w2 := (hB1.alloc (by omega) _).trans (hb2.mono (by simp only [size_alloc]; omega))
  exact ⟨rfl, (hB2.alloc (by omega) _).trans (hb3.mono (by simp only [size_alloc]; omega))⟩

theorem run_live (w : World) : Calls Tryz.prog 46 #[.agg #[.int .i64 4, .int .i64 1, .int .i64 64], .slice none 0 0, .int .i64 0, .slice none 0 0] w fun e w' => e = .returned (.tuple #[.slice none 0 0, .int .i64 6]) ∧ Below w.heap.size w w' := by
  go_enter Tryz.func46, Tryz.ntmps46
  go_wp2_with (go_at_call 60; refine (new_live _).mono ?_; rintro e w1 ⟨rfl, hb1⟩)
  go_ret2
  exact ⟨rfl, ((Below.refl _ _).alloc (Nat.le_refl _) _).trans (hb1.mono (by simp only [size_alloc]; omega))⟩

theorem live_any (w : World) : Calls Tryz.prog 15 #[] w fun e w' => e = .returned (.bool true) ∧ Below w.heap.size w w' := by
  go_enter Tryz.func15, Tryz.ntmps15
  go_wp2_with (first | (go_at_call 46; refine (run_live _).mono ?_; rintro e w1 ⟨rfl, hb1⟩) | (go_at_call 47; go_in))
  go_ret
  exact ⟨rfl, hb1⟩
end Go.Proofs.YtooonpmiglhjpaaGreatDoor
