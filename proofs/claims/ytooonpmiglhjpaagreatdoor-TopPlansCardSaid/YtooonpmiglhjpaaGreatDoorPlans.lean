/-
  The walk of TopPlans: whatever the five numbers, true; nothing that was there turns.
-/
import Derived.Test.YtooonpmiglhjpaaGreatDoorPart2
import Derived.Test.YtooonpmiglhjpaaGreatDoorLive
namespace Go.Proofs.YtooonpmiglhjpaaGreatDoor
open Go.RowKit

def szV (s p b x3 x4 x5 x6 x7 : Int) : Int := if chkV s x3 x4 x5 x6 x7 = 0 then (s - 2) / 2 * p * b else 0

theorem size_shape (s p b x3 x4 x5 x6 x7 : Int) (w : World) (h : Shape s p b) :
    Calls Tryz.prog 25 #[planA s p b x3 x4 x5 x6 x7] w fun e w' => e = .returned (.int .i64 (szV s p b x3 x4 x5 x6 x7)) ∧ Below w.heap.size w w' := by
  by_cases hx : [x3, x4, x5, x6, x7] = [0, 1, 2, 2 + (s - 2) / 2, (s - 2) / 2]
  · simp only [List.cons.injEq, and_true] at hx
    obtain ⟨rfl, rfl, rfl, rfl, rfl⟩ := hx
    have e : szV s p b 0 1 2 (2 + (s - 2) / 2) ((s - 2) / 2) = (s - 2) / 2 * p * b := by unfold szV; rw [if_pos (chkV_good s)]
    rw [e]
    exact size_of_ s p b w h
  · have hv : chkV s x3 x4 x5 x6 x7 = 1 := by unfold chkV; rw [if_neg hx]
    have e : szV s p b x3 x4 x5 x6 x7 = 0 := by unfold szV; rw [if_neg (by omega)]
    rw [e]
    exact size_no s p b x3 x4 x5 x6 x7 w h hv

/-- Go's 'x | 1' is not nought -/
theorem or_one_ne (x : Int) : bits .or .i64 x 1 ≠ 0 := by
  intro h
  have h1 : (BitVec.ofInt 64 x ||| BitVec.ofInt 64 1).getLsbD 0 = true := by simp
  unfold bits at h
  simp only at h
  rw [IntKind.wrap_i64] at h
  change ((((BitVec.ofInt 64 x ||| BitVec.ofInt 64 1).toNat : Nat) : Int) + 9223372036854775808) % 18446744073709551616 - 9223372036854775808 = 0 at h
  have h2 : (BitVec.ofInt 64 x ||| BitVec.ofInt 64 1).toNat < 2 ^ 64 := BitVec.isLt _
  have h3 : (BitVec.ofInt 64 x ||| BitVec.ofInt 64 1).toNat = 0 := by omega
  have h4 : (BitVec.ofInt 64 x ||| BitVec.ofInt 64 1) = 0#64 := BitVec.eq_of_toNat_eq (by rw [h3]; rfl)
  rw [h4] at h1
  simp at h1

def otherV (k : Int) : Int := if k = 0 then 1 else 0
theorem other_v (k : Int) (w : World) : Calls Tryz.prog 27 #[.int .i64 k] w fun e w' => e = .returned (.int .i64 (otherV k)) ∧ w = w' := other_any k w

set_option maxHeartbeats 4000000 in
set_option maxRecDepth 100000 in
theorem plans_bad (a0 a1 a2 a3 a4 : Int) (w : World) (h00 : 0 ≤ a0) (h01 : a0 ≤ 255) (h10 : 0 ≤ a1) (h11 : a1 ≤ 255) (h20 : 0 ≤ a2) (h21 : a2 ≤ 255)
    (hbad : a0 % 201 < 4 ∨ a1 % 9 < 1 ∨ 60 + a2 < 64) :
    Calls Tryz.prog 5 #[.int .u8 a0, .int .u8 a1, .int .u8 a2, .int .i8 a3, .int .i32 a4] w fun e w' => e = .returned (.bool true) ∧ Below w.heap.size w w' := by
  have M := fun w => make_bad (a0 % 201) (a1 % 9) (60 + a2) w hbad (by omega) (by omega) (by omega) (by omega)
  have S := fun w => size_bad 0 0 0 0 0 0 0 0 w (by decide) (by decide) (by decide) (by decide) (by decide)
  have HM := Lib.hid M
  have HS := Lib.hid S
  clear M S
  have heq := eql_plan
  have hpe : peq [0, 0, 0, 0, 0, 0, 0, 0] [0, 0, 0, 0, 0, 0, 0, 0] = true := peq_true rfl
  unfold planA at HS
  unfold planZ at HM
  go_enter Tryz.func5, Tryz.ntmps5
  go_wp2_with (first | (go_at_call 24; refine (HM.out _).mono ?_; rintro e w1 ⟨rfl, hb1⟩; obtain ⟨hc1, hf1⟩ := bcell hb1; have hz1 : w.heap.size < w1.heap.size := (by have := hb1.size; simp at this; omega)) | (go_at_call 25; refine (HS.out _).mono ?_; rintro e w2 ⟨rfl, hb2⟩) | (go_at_call 15; refine (live_any _).mono ?_; rintro e w3 ⟨rfl, hb3⟩))
  all_goals
    go_ret
    have hB1 : Below w.heap.size w w1 := ((Below.refl _ _).alloc (Nat.le_refl _) _).trans (hb1.mono (by simp only [size_alloc]; omega))
    have hB2 : Below w.heap.size w w2 := (hB1.alloc (by omega) _).trans (hb2.mono (by simp only [size_alloc]; omega))
    have hz2 : w1.heap.size < w2.heap.size := by have := hb2.size; simp at this; omega
    exact ⟨rfl, hB2.trans (hb3.mono (by omega))⟩

theorem base_0 (s p b : Int) (w : World) (h : Shape s p b) :
    Calls Tryz.prog 28 #[planOf s p b, .int .i64 0] w fun e w' => e = .returned (.tuple #[.int .i64 (2 * p * b), .int .i64 0]) ∧ Below w.heap.size w w' := by
  have C := base_of s p b 0 w h (.inl rfl)
  rwa [show (2 + 0 * ((s - 2) / 2)) * p * b = 2 * p * b by simp] at C
theorem base_1 (s p b : Int) (w : World) (h : Shape s p b) :
    Calls Tryz.prog 28 #[planOf s p b, .int .i64 1] w fun e w' => e = .returned (.tuple #[.int .i64 ((2 + (s - 2) / 2) * p * b), .int .i64 0]) ∧ Below w.heap.size w w' := by
  have C := base_of s p b 1 w h (.inr rfl)
  rwa [Int.one_mul] at C
theorem page_0 (s p b at_ : Int) (w : World) (h : Shape s p b) (h0 : 0 ≤ at_) (ha : at_ < (s - 2) / 2 * p * b) :
    Calls Tryz.prog 29 #[planOf s p b, .int .i64 0, .int .i64 at_] w fun e w' => e = .returned (.tuple #[.int .i64 (2 * p + at_ / b), .int .i64 (at_ % b), .int .i64 0]) ∧ Below w.heap.size w w' := by
  have C := page_of s p b 0 at_ w h (.inl rfl) h0 ha
  rwa [show (2 + 0 * ((s - 2) / 2)) * p = 2 * p by simp] at C
theorem page_1 (s p b at_ : Int) (w : World) (h : Shape s p b) (h0 : 0 ≤ at_) (ha : at_ < (s - 2) / 2 * p * b) :
    Calls Tryz.prog 29 #[planOf s p b, .int .i64 1, .int .i64 at_] w fun e w' => e = .returned (.tuple #[.int .i64 ((2 + (s - 2) / 2) * p + at_ / b), .int .i64 (at_ % b), .int .i64 0]) ∧ Below w.heap.size w w' := by
  have C := page_of s p b 1 at_ w h (.inr rfl) h0 ha
  rwa [Int.one_mul] at C
theorem sector_0 (s p b at_ : Int) (w : World) (h : Shape s p b) (h0 : 0 ≤ at_) (ha : at_ < (s - 2) / 2) :
    Calls Tryz.prog 30 #[planOf s p b, .int .i64 0, .int .i64 at_] w fun e w' => e = .returned (.tuple #[.int .i64 (2 + at_), .int .i64 0]) ∧ Below w.heap.size w w' := by
  have C := sector_of s p b 0 at_ w h (.inl rfl) h0 ha
  rwa [show 2 + 0 * ((s - 2) / 2) + at_ = 2 + at_ by simp] at C
theorem sector_1 (s p b at_ : Int) (w : World) (h : Shape s p b) (h0 : 0 ≤ at_) (ha : at_ < (s - 2) / 2) :
    Calls Tryz.prog 30 #[planOf s p b, .int .i64 1, .int .i64 at_] w fun e w' => e = .returned (.tuple #[.int .i64 (2 + (s - 2) / 2 + at_), .int .i64 0]) ∧ Below w.heap.size w w' := by
  have C := sector_of s p b 1 at_ w h (.inr rfl) h0 ha
  rwa [Int.one_mul] at C
end Go.Proofs.YtooonpmiglhjpaaGreatDoor
