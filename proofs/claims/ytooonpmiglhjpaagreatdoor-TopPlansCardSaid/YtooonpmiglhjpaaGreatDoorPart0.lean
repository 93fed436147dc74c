/-
  What flash.Check and part.Make tell of a shape.
-/
import Derived.Test.YtooonpmiglhjpaaGreatDoorBase
namespace Go.Proofs.YtooonpmiglhjpaaGreatDoor
open Go.RowKit

def betB (n lo hi : Int) : Bool := decide (lo ≤ n) && decide (n ≤ hi)
theorem betB_true {n lo hi : Int} (h : betB n lo hi = true) : lo ≤ n ∧ n ≤ hi := by simpa [betB] using h

theorem between_any (n lo hi : Int) (w : World) :
    Calls Tryz.prog 63 #[.int .i64 n, .int .i64 lo, .int .i64 hi] w fun e w' => e = .returned (.bool (betB n lo hi)) ∧ w = w' := by
  by_cases h : lo ≤ n
  · have e1 : betB n lo hi = decide (n ≤ hi) := by simp [betB, h]
    have E := Lib.hid e1
    clear e1
    go_enter Tryz.func63, Tryz.ntmps63
    go_wp2
    go_ret
    exact ⟨ret_bool E.out.symm, rfl⟩
  · have e1 : betB n lo hi = false := by simp [betB]; omega
    have E := Lib.hid e1
    clear e1
    have hd : decide (lo ≤ n) = false := by simpa using h
    go_enter Tryz.func63, Tryz.ntmps63
    go_wp2
    go_ret
    exact ⟨ret_bool E.out.symm, rfl⟩

/-- flash.Check -/
def fchk (a b c : Int) : Int := if betB a 1 4096 && betB b 1 1024 && betB c 16 65536 then (if 16777216 < a * b * c then 2 else 0) else 1

theorem fcheck_any (a b c : Int) (w : World) :
    Calls Tryz.prog 51 #[.agg #[.int .i64 a, .int .i64 b, .int .i64 c]] w fun e w' => e = .returned (.int .i64 (fchk a b c)) ∧ Below w.heap.size w w' := by
  have HB : Below w.heap.size w (w.alloc (.cells #[.int .i64 a, .int .i64 b, .int .i64 c] 62)) := (Below.refl _ _).alloc (Nat.le_refl _) _
  cases e1 : betB a 1 4096
  · have E : Hid (fchk a b c = 1) := by unfold fchk; rw [e1]; rfl
    go_enter Tryz.func51, Tryz.ntmps51
    go_wp2_with (go_at_call 63; refine (between_any _ _ _ _).mono ?_; rintro e w' ⟨rfl, rfl⟩)
    go_ret
    exact ⟨ret_int E.out.symm, HB⟩
  cases e2 : betB b 1 1024
  · have E : Hid (fchk a b c = 1) := by unfold fchk; rw [e1, e2]; rfl
    go_enter Tryz.func51, Tryz.ntmps51
    go_wp2_with (go_at_call 63; refine (between_any _ _ _ _).mono ?_; rintro e w' ⟨rfl, rfl⟩)
    go_ret
    exact ⟨ret_int E.out.symm, HB⟩
  cases e3 : betB c 16 65536
  · have E : Hid (fchk a b c = 1) := by unfold fchk; rw [e1, e2, e3]; rfl
    go_enter Tryz.func51, Tryz.ntmps51
    go_wp2_with (go_at_call 63; refine (between_any _ _ _ _).mono ?_; rintro e w' ⟨rfl, rfl⟩)
    go_ret
    exact ⟨ret_int E.out.symm, HB⟩
  have E : Hid (fchk a b c = if 16777216 < a * b * c then 2 else 0) := by unfold fchk; rw [e1, e2, e3]; rfl
  have b1 := betB_true e1
  have b2 := betB_true e2
  have b3 := betB_true e3
  have m1 := mul_bd (by omega : (0:Int) ≤ a) b1.2 (by omega : (0 : Int) ≤ b) b2.2
  have m2 := mul_bd m1.1 m1.2 (by omega : (0:Int) ≤ c) b3.2
  by_cases hl : 16777216 < a * b * c
  all_goals
    go_enter Tryz.func51, Tryz.ntmps51
    go_wp2_with (go_at_call 63; refine (between_any _ _ _ _).mono ?_; rintro e w' ⟨rfl, rfl⟩)
    go_ret
    exact ⟨ret_int (by rw [E.out]; simp [hl]), HB⟩
def planV (s p b n : Int) : Value := .agg #[.int .i64 s, .int .i64 p, .int .i64 b, .int .i64 0, .int .i64 1, .int .i64 2, .int .i64 (2 + n), .int .i64 n]
def planZ : Value := .agg #[.int .i64 0, .int .i64 0, .int .i64 0, .int .i64 0, .int .i64 0, .int .i64 0, .int .i64 0, .int .i64 0]

theorem fchk_ok {s p b : Int} (h1 : 1 ≤ s) (h2 : s ≤ 200) (h3 : 1 ≤ p) (h4 : p ≤ 8) (h5 : 60 ≤ b) (h6 : b ≤ 315) : fchk s p b = 0 := by
  have m1 := mul_bd (by omega : (0:Int) ≤ s) h2 (by omega : (0 : Int) ≤ p) h4
  have m2 := mul_bd m1.1 m1.2 (by omega : (0:Int) ≤ b) h6
  have e1 : betB s 1 4096 = true := by simp [betB]; omega
  have e2 : betB p 1 1024 = true := by simp [betB]; omega
  have e3 : betB b 16 65536 = true := by simp [betB]; omega
  unfold fchk
  rw [e1, e2, e3]
  simp
  omega

theorem make_ok (s p b : Int) (w : World) (h1 : 4 ≤ s) (h2 : s ≤ 200) (h3 : 1 ≤ p) (h4 : p ≤ 8) (h5 : 64 ≤ b) (h6 : b ≤ 315) :
    Calls Tryz.prog 24 #[.agg #[.int .i64 s, .int .i64 p, .int .i64 b]] w fun e w' => e = .returned (.tuple #[planV s p b ((s - 2) / 2), .int .i64 0]) ∧ Below w.heap.size w w' := by
  have h0 := fchk_ok (by omega) h2 h3 h4 (by omega : 60 ≤ b) h6
  have H0 := Lib.hid h0
  clear h0
  have m1 := mul_bd (by omega : (0:Int) ≤ p) h4 (by omega : (0 : Int) ≤ b) h6
  have m2 : 1 ≤ p * b := by
    have := Int.mul_le_mul h3 h5 (by omega) (by omega : (0:Int) ≤ p)
    omega
  have hq : 100 ≤ 8388608 / (p * b) := by
    rw [Int.le_ediv_iff_mul_le (by omega)]
    omega
  go_enter Tryz.func24, Tryz.ntmps24
  go_wp2_with (go_at_call 51; refine (fcheck_any _ _ _ _).mono ?_; rintro e w1 ⟨rfl, hb⟩; rw [H0.out]; obtain ⟨hc, hf⟩ := bcell hb; have hz : w.heap.size + 2 ≤ w1.heap.size := by have := hb.size; simp at this; omega)
  refine bodyPost_ret (v := .tuple #[planV s p b ((s - 2) / 2), .int .i64 0]) ?_ rfl ⟨rfl, ?_⟩
  · simp [results, Tryz.results24, go_sem, planV, hc]
  · have hB : Below w.heap.size w w1 := (((Below.refl _ _).alloc (Nat.le_refl _) _).alloc (by simp) _).trans (hb.mono (by simp; omega))
    exact (((((((hB.setCell (by simp) _).setCell (by simp) _).setCell (by simp) _).setCell (by simp) _).setCell (by simp) _).setCell (by simp) _).setCell (by simp) _).setCell (by simp) _

theorem make_bad (s p b : Int) (w : World) (h : s < 4 ∨ p < 1 ∨ b < 64) (h2 : s ≤ 200) (h4 : p ≤ 8) (h5 : 0 ≤ b) (h6 : b ≤ 315) :
    Calls Tryz.prog 24 #[.agg #[.int .i64 s, .int .i64 p, .int .i64 b]] w fun e w' => e = .returned (.tuple #[planZ, .int .i64 1]) ∧ Below w.heap.size w w' := by
  by_cases hv : 1 ≤ s ∧ 1 ≤ p ∧ 16 ≤ b
  · have h0 : fchk s p b = 0 := by
      have m1 := mul_bd (by omega : (0:Int) ≤ s) h2 (by omega : (0 : Int) ≤ p) h4
      have m2 := mul_bd m1.1 m1.2 (by omega : (0:Int) ≤ b) h6
      have e1 : betB s 1 4096 = true := by simp [betB]; omega
      have e2 : betB p 1 1024 = true := by simp [betB]; omega
      have e3 : betB b 16 65536 = true := by simp [betB]; omega
      unfold fchk
      rw [e1, e2, e3]
      simp
      omega
    have H0 := Lib.hid h0
    clear h0
    by_cases hs : s < 4
    · go_enter Tryz.func24, Tryz.ntmps24
      go_wp2_with (go_at_call 51; refine (fcheck_any _ _ _ _).mono ?_; rintro e w1 ⟨rfl, hb⟩; rw [H0.out]; obtain ⟨hc, hf⟩ := bcell hb; have hz : w.heap.size + 2 ≤ w1.heap.size := by have := hb.size; simp at this; omega)
      refine bodyPost_ret (v := .tuple #[planZ, .int .i64 1]) ?_ rfl ⟨rfl, ?_⟩
      · simp [results, Tryz.results24, go_sem, planZ, hc]
      · have hB : Below w.heap.size w w1 := (((Below.refl _ _).alloc (Nat.le_refl _) _).alloc (by simp) _).trans (hb.mono (by simp; omega))
        exact (((((((hB.setCell (by simp) _).setCell (by simp) _).setCell (by simp) _).setCell (by simp) _).setCell (by simp) _).setCell (by simp) _).setCell (by simp) _).setCell (by simp) _
    · go_enter Tryz.func24, Tryz.ntmps24
      go_wp2_with (go_at_call 51; refine (fcheck_any _ _ _ _).mono ?_; rintro e w1 ⟨rfl, hb⟩; rw [H0.out]; obtain ⟨hc, hf⟩ := bcell hb; have hz : w.heap.size + 2 ≤ w1.heap.size := by have := hb.size; simp at this; omega)
      refine bodyPost_ret (v := .tuple #[planZ, .int .i64 1]) ?_ rfl ⟨rfl, ?_⟩
      · simp [results, Tryz.results24, go_sem, planZ, hc]
      · have hB : Below w.heap.size w w1 := (((Below.refl _ _).alloc (Nat.le_refl _) _).alloc (by simp) _).trans (hb.mono (by simp; omega))
        exact (((((((hB.setCell (by simp) _).setCell (by simp) _).setCell (by simp) _).setCell (by simp) _).setCell (by simp) _).setCell (by simp) _).setCell (by simp) _).setCell (by simp) _
  · have h0 : fchk s p b = 1 := by
      unfold fchk
      rw [if_neg]
      simp [betB]
      omega
    have H0 := Lib.hid h0
    clear h0
    go_enter Tryz.func24, Tryz.ntmps24
    go_wp2_with (go_at_call 51; refine (fcheck_any _ _ _ _).mono ?_; rintro e w1 ⟨rfl, hb⟩; rw [H0.out]; obtain ⟨hc, hf⟩ := bcell hb; have hz : w.heap.size + 2 ≤ w1.heap.size := by have := hb.size; simp at this; omega)
    refine bodyPost_ret (v := .tuple #[planZ, .int .i64 1]) ?_ rfl ⟨rfl, ?_⟩
    · simp [results, Tryz.results24, go_sem, planZ, hc]
    · have hB : Below w.heap.size w w1 := (((Below.refl _ _).alloc (Nat.le_refl _) _).alloc (by simp) _).trans (hb.mono (by simp; omega))
      exact (((((((hB.setCell (by simp) _).setCell (by simp) _).setCell (by simp) _).setCell (by simp) _).setCell (by simp) _).setCell (by simp) _).setCell (by simp) _).setCell (by simp) _
end Go.Proofs.YtooonpmiglhjpaaGreatDoor
