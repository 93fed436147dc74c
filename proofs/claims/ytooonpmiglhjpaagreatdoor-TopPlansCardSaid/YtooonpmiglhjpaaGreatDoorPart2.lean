/-
  What part.Base, Page and Sector tell of the plan of a shape.
-/
import Derived.Test.YtooonpmiglhjpaaGreatDoorPart1
import Derived.Deep.QuietTactic
import Derived.BigQuiet
import Derived.Deep.RegionWith
namespace Go.Proofs.YtooonpmiglhjpaaGreatDoor
open Go.RowKit

theorem base_no (s p b k : Int) (w : World) (h : Shape s p b) (hk : k ≠ 0 ∧ k ≠ 1) :
    Calls Tryz.prog 28 #[planOf s p b, .int .i64 k] w fun e w' => e = .returned (.tuple #[.int .i64 0, .int .i64 1]) ∧ Below w.heap.size w w' := by
  have C := fun w => right_of s p b k 0 1 w h
  have hv : rightV k 0 1 = 1 := by unfold rightV; rw [if_pos hk]
  rw [hv] at C
  have H := Lib.hid C
  clear C h hk hv
  unfold planOf planA at H ⊢
  go_enter Tryz.func28, Tryz.ntmps28
  go_wp2_with (go_at_call 52; refine (H.out _).mono ?_; rintro e w1 ⟨rfl, hb⟩; obtain ⟨hc, hf⟩ := bcell hb)
  go_ret2
  exact ⟨rfl, ((Below.refl _ _).alloc (Nat.le_refl _) _).trans (hb.mono (by simp))⟩

theorem base_of (s p b k : Int) (w : World) (h : Shape s p b) (hk : k = 0 ∨ k = 1) :
    Calls Tryz.prog 28 #[planOf s p b, .int .i64 k] w fun e w' => e = .returned (.tuple #[.int .i64 ((2 + k * ((s - 2) / 2)) * p * b), .int .i64 0]) ∧ Below w.heap.size w w' := by
  have C := fun w => right_of s p b k 0 1 w h
  have hv : rightV k 0 1 = 0 := by unfold rightV; rw [if_neg (by omega), if_neg (by omega)]
  rw [hv] at C
  have H := Lib.hid C
  obtain ⟨h1, h2, h3, h4, h5, h6⟩ := h
  have m1 := mul_bd (by omega : (0:Int) ≤ 2 + (s - 2) / 2) (by omega : 2 + (s - 2) / 2 ≤ 101) (by omega : (0 : Int) ≤ p) h4
  have m2 := mul_bd m1.1 m1.2 (by omega : (0:Int) ≤ b) h6
  have m3 := mul_bd (by omega : (0:Int) ≤ 2 * p) (by omega : 2 * p ≤ 16) (by omega : (0 : Int) ≤ b) h6
  clear C hv
  unfold planOf planA at H ⊢
  rcases hk with rfl | rfl
  · rw [show (2 + 0 * ((s - 2) / 2)) * p * b = 2 * p * b by simp]
    go_enter Tryz.func28, Tryz.ntmps28
    go_wp2_with (go_at_call 52; refine (H.out _).mono ?_; rintro e w1 ⟨rfl, hb⟩; obtain ⟨hc, hf⟩ := bcell hb)
    go_quiet (fail)
    go_wp2
    go_ret2
    exact ⟨rfl, bdrewN (((Below.refl _ _).alloc (Nat.le_refl _) _).trans (hb.mono (by simp))) _⟩
  · rw [show (2 + 1 * ((s - 2) / 2)) * p * b = (2 + (s - 2) / 2) * p * b by rw [Int.one_mul]]
    go_enter Tryz.func28, Tryz.ntmps28
    go_wp2_with (go_at_call 52; refine (H.out _).mono ?_; rintro e w1 ⟨rfl, hb⟩; obtain ⟨hc, hf⟩ := bcell hb)
    go_quiet (fail)
    go_wp2
    go_ret2
    exact ⟨rfl, bdrewN (((Below.refl _ _).alloc (Nat.le_refl _) _).trans (hb.mono (by simp))) _⟩

theorem page_no (s p b k at_ : Int) (w : World) (h : Shape s p b) (v : Int) (hv : rightV k at_ ((s - 2) / 2 * p * b) = v) (h0 : (v != 0) = true) :
    Calls Tryz.prog 29 #[planOf s p b, .int .i64 k, .int .i64 at_] w fun e w' => e = .returned (.tuple #[.int .i64 0, .int .i64 0, .int .i64 v]) ∧ Below w.heap.size w w' := by
  have C := fun w => right_of s p b k at_ ((s - 2) / 2 * p * b) w h
  have D := fun w => size_of_ s p b w h
  rw [hv] at C
  have H := Lib.hid C
  have S := Lib.hid D
  clear C D h hv
  unfold planOf planA at H S ⊢
  go_enter Tryz.func29, Tryz.ntmps29
  go_wp2_with fail
  go_region_with (first | (go_at_call 25; refine (S.out _).mono ?_; rintro e w1 ⟨rfl, hb1⟩; obtain ⟨hc1, hf1⟩ := bcell hb1) | (go_at_call 52; refine (H.out _).mono ?_; rintro e w2 ⟨rfl, hb2⟩; obtain ⟨hc2, hf2⟩ := bcell hb2))
  all_goals
    go_wp2
    go_ret3
    exact ⟨rfl, ((bdrew ((Below.refl _ _).alloc (Nat.le_refl _) _)).trans (hb1.mono (by simp))).trans (hb2.mono (by have := hb1.size; simp at this; omega))⟩

set_option maxHeartbeats 1600000 in
theorem page_of (s p b k at_ : Int) (w : World) (h : Shape s p b) (hk : k = 0 ∨ k = 1) (h0 : 0 ≤ at_) (ha : at_ < (s - 2) / 2 * p * b) :
    Calls Tryz.prog 29 #[planOf s p b, .int .i64 k, .int .i64 at_] w fun e w' => e = .returned (.tuple #[.int .i64 ((2 + k * ((s - 2) / 2)) * p + at_ / b), .int .i64 (at_ % b), .int .i64 0]) ∧ Below w.heap.size w w' := by
  have C := fun w => right_of s p b k at_ ((s - 2) / 2 * p * b) w h
  have D := fun w => size_of_ s p b w h
  have hv : rightV k at_ ((s - 2) / 2 * p * b) = 0 := by unfold rightV; rw [if_neg (by omega), if_neg (by omega)]
  rw [hv] at C
  have H := Lib.hid C
  have S := Lib.hid D
  obtain ⟨h1, h2, h3, h4, h5, h6⟩ := h
  have m1 := mul_bd (by omega : (0:Int) ≤ 2 + (s - 2) / 2) (by omega : 2 + (s - 2) / 2 ≤ 101) (by omega : (0 : Int) ≤ p) h4
  have m0 := mul_bd (by omega : (0:Int) ≤ (s - 2) / 2) (by omega : (s - 2) / 2 ≤ 99) (by omega : (0 : Int) ≤ p) h4
  have m2 := mul_bd m0.1 m0.2 (by omega : (0:Int) ≤ b) h6
  have q0 : 0 ≤ at_ / b := Int.ediv_nonneg h0 (by omega)
  have q1 : at_ / b ≤ at_ := Int.ediv_le_self _ h0
  clear C D hv
  unfold planOf planA at H S ⊢
  rcases hk with rfl | rfl
  · rw [show (2 + 0 * ((s - 2) / 2)) * p = 2 * p by simp]
    go_enter Tryz.func29, Tryz.ntmps29
    go_wp2_with fail
    go_region_with (first | (go_at_call 25; refine (S.out _).mono ?_; rintro e w1 ⟨rfl, hb1⟩; obtain ⟨hc1, hf1⟩ := bcell hb1) | (go_at_call 52; refine (H.out _).mono ?_; rintro e w2 ⟨rfl, hb2⟩; obtain ⟨hc2, hf2⟩ := bcell hb2))
    all_goals
      have hz : w.heap.size < w1.heap.size := by have := hb1.size; simp at this; omega
      go_wp2
      go_quiet (fail)
      go_wp2
      go_ret3
      exact ⟨rfl, bdrewN (((bdrew ((Below.refl _ _).alloc (Nat.le_refl _) _)).trans (hb1.mono (by simp))).trans (hb2.mono (by have := hb1.size; simp at this; omega))) _⟩
  · rw [show (2 + 1 * ((s - 2) / 2)) * p = (2 + (s - 2) / 2) * p by rw [Int.one_mul]]
    go_enter Tryz.func29, Tryz.ntmps29
    go_wp2_with fail
    go_region_with (first | (go_at_call 25; refine (S.out _).mono ?_; rintro e w1 ⟨rfl, hb1⟩; obtain ⟨hc1, hf1⟩ := bcell hb1) | (go_at_call 52; refine (H.out _).mono ?_; rintro e w2 ⟨rfl, hb2⟩; obtain ⟨hc2, hf2⟩ := bcell hb2))
    all_goals
      have hz : w.heap.size < w1.heap.size := by have := hb1.size; simp at this; omega
      go_wp2
      go_quiet (fail)
      go_wp2
      go_ret3
      exact ⟨rfl, bdrewN (((bdrew ((Below.refl _ _).alloc (Nat.le_refl _) _)).trans (hb1.mono (by simp))).trans (hb2.mono (by have := hb1.size; simp at this; omega))) _⟩

theorem sector_no (s p b k at_ : Int) (w : World) (h : Shape s p b) (v : Int) (hv : rightV k at_ ((s - 2) / 2) = v) (h0 : (v != 0) = true) :
    Calls Tryz.prog 30 #[planOf s p b, .int .i64 k, .int .i64 at_] w fun e w' => e = .returned (.tuple #[.int .i64 0, .int .i64 v]) ∧ Below w.heap.size w w' := by
  have C := fun w => right_of s p b k at_ ((s - 2) / 2) w h
  rw [hv] at C
  have H := Lib.hid C
  clear C h hv
  unfold planOf planA at H ⊢
  go_enter Tryz.func30, Tryz.ntmps30
  go_wp2_with (go_at_call 52; refine (H.out _).mono ?_; rintro e w1 ⟨rfl, hb⟩; obtain ⟨hc, hf⟩ := bcell hb)
  go_ret2
  exact ⟨rfl, ((Below.refl _ _).alloc (Nat.le_refl _) _).trans (hb.mono (by simp))⟩

theorem sector_of (s p b k at_ : Int) (w : World) (h : Shape s p b) (hk : k = 0 ∨ k = 1) (h0 : 0 ≤ at_) (ha : at_ < (s - 2) / 2) :
    Calls Tryz.prog 30 #[planOf s p b, .int .i64 k, .int .i64 at_] w fun e w' => e = .returned (.tuple #[.int .i64 (2 + k * ((s - 2) / 2) + at_), .int .i64 0]) ∧ Below w.heap.size w w' := by
  have C := fun w => right_of s p b k at_ ((s - 2) / 2) w h
  have hv : rightV k at_ ((s - 2) / 2) = 0 := by unfold rightV; rw [if_neg (by omega), if_neg (by omega)]
  rw [hv] at C
  have H := Lib.hid C
  obtain ⟨h1, h2, h3, h4, h5, h6⟩ := h
  clear C hv
  unfold planOf planA at H ⊢
  rcases hk with rfl | rfl
  · rw [show 2 + 0 * ((s - 2) / 2) = 2 by simp]
    go_enter Tryz.func30, Tryz.ntmps30
    go_wp2_with (go_at_call 52; refine (H.out _).mono ?_; rintro e w1 ⟨rfl, hb⟩; obtain ⟨hc, hf⟩ := bcell hb)
    go_ret2
    exact ⟨rfl, ((Below.refl _ _).alloc (Nat.le_refl _) _).trans (hb.mono (by simp))⟩
  · rw [Int.one_mul]
    go_enter Tryz.func30, Tryz.ntmps30
    go_wp2_with (go_at_call 52; refine (H.out _).mono ?_; rintro e w1 ⟨rfl, hb⟩; obtain ⟨hc, hf⟩ := bcell hb)
    go_ret2
    exact ⟨rfl, ((Below.refl _ _).alloc (Nat.le_refl _) _).trans (hb.mono (by simp))⟩
end Go.Proofs.YtooonpmiglhjpaaGreatDoor
