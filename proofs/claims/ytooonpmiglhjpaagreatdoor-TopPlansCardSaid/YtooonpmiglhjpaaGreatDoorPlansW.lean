/-
  TopPlans: the walks put together.
-/
import Derived.Test.YtooonpmiglhjpaaGreatDoorPlansA
import Derived.Test.YtooonpmiglhjpaaGreatDoorPlansB
import Derived.Test.YtooonpmiglhjpaaGreatDoorPlansC
namespace Go.Proofs.YtooonpmiglhjpaaGreatDoor
open Go.RowKit

theorem wf_u8 {a : Int} (h : (Lit.int .u8 a).wf = true) : 0 ≤ a ∧ a ≤ 255 := by
  simp [Lit.wf, IntKind.min, IntKind.max, IntKind.bits, IntKind.signed] at h; omega
theorem wf_i8 {a : Int} (h : (Lit.int .i8 a).wf = true) : -128 ≤ a ∧ a ≤ 127 := by
  simp [Lit.wf, IntKind.min, IntKind.max, IntKind.bits, IntKind.signed] at h; omega
theorem wf_i32 {a : Int} (h : (Lit.int .i32 a).wf = true) : -2147483648 ≤ a ∧ a ≤ 2147483647 := by
  simp [Lit.wf, IntKind.min, IntKind.max, IntKind.bits, IntKind.signed] at h; omega

theorem topPlans_walk (a0 : Int) (w0 : (Lit.int .u8 a0).wf = true) (a1 : Int) (w1 : (Lit.int .u8 a1).wf = true) (a2 : Int) (w2 : (Lit.int .u8 a2).wf = true) (a3 : Int) (w3 : (Lit.int .i8 a3).wf = true) (a4 : Int) (w4 : (Lit.int .i32 a4).wf = true) (w : World) :
    Calls Tryz.prog 5 #[.int .u8 a0, .int .u8 a1, .int .u8 a2, .int .i8 a3, .int .i32 a4] w fun e w' => e = .returned (.bool true) ∧ Below w.heap.size w w' := by
  have b0 := wf_u8 w0
  have b1 := wf_u8 w1
  have b2 := wf_u8 w2
  have b3 := wf_i8 w3
  have b4 := wf_i32 w4
  by_cases hbad : a0 % 201 < 4 ∨ a1 % 9 < 1 ∨ 60 + a2 < 64
  · exact plans_bad a0 a1 a2 a3 a4 w b0.1 b0.2 b1.1 b1.2 b2.1 b2.2 hbad
  · have hS : Shape (a0 % 201) (a1 % 9) (60 + a2) := ⟨by omega, by omega, by omega, by omega, by omega, by omega⟩
    by_cases hk : a3 = 0 ∨ a3 = 1
    · have hsz : (a0 % 201 - 2) / 2 ≤ (a0 % 201 - 2) / 2 * (a1 % 9) * (60 + a2) := by
        have e1 : (a0 % 201 - 2) / 2 * 1 ≤ (a0 % 201 - 2) / 2 * (a1 % 9) := Int.mul_le_mul_of_nonneg_left (by omega) (by omega)
        have e2 : (a0 % 201 - 2) / 2 * (a1 % 9) * 1 ≤ (a0 % 201 - 2) / 2 * (a1 % 9) * (60 + a2) := Int.mul_le_mul_of_nonneg_left (by omega) (by omega)
        omega
      rcases hk with rfl | rfl
      · by_cases ha : a4 < 0
        · exact plans_low0 a0 a1 a2 a4 w b0.1 b0.2 b1.1 b1.2 b2.1 b2.2 b4.1 b4.2 hS ha
        · by_cases hp : a4 < (a0 % 201 - 2) / 2 * (a1 % 9) * (60 + a2)
          · by_cases hn : a4 < (a0 % 201 - 2) / 2
            · exact plans_in0 a0 a1 a2 a4 w b0.1 b0.2 b1.1 b1.2 b2.1 b2.2 b4.1 b4.2 hS (by omega) hn hp
            · exact plans_mid0 a0 a1 a2 a4 w b0.1 b0.2 b1.1 b1.2 b2.1 b2.2 b4.1 b4.2 hS (by omega) (by omega) hp
          · exact plans_high0 a0 a1 a2 a4 w b0.1 b0.2 b1.1 b1.2 b2.1 b2.2 b4.1 b4.2 hS (by omega) (by omega) (by omega)
      · by_cases ha : a4 < 0
        · exact plans_low1 a0 a1 a2 a4 w b0.1 b0.2 b1.1 b1.2 b2.1 b2.2 b4.1 b4.2 hS ha
        · by_cases hp : a4 < (a0 % 201 - 2) / 2 * (a1 % 9) * (60 + a2)
          · by_cases hn : a4 < (a0 % 201 - 2) / 2
            · exact plans_in1 a0 a1 a2 a4 w b0.1 b0.2 b1.1 b1.2 b2.1 b2.2 b4.1 b4.2 hS (by omega) hn hp
            · exact plans_mid1 a0 a1 a2 a4 w b0.1 b0.2 b1.1 b1.2 b2.1 b2.2 b4.1 b4.2 hS (by omega) (by omega) hp
          · exact plans_high1 a0 a1 a2 a4 w b0.1 b0.2 b1.1 b1.2 b2.1 b2.2 b4.1 b4.2 hS (by omega) (by omega) (by omega)
    · exact plans_kbad a0 a1 a2 a3 a4 w b0.1 b0.2 b1.1 b1.2 b2.1 b2.2 b3.1 b3.2 b4.1 b4.2 hS (by omega)
end Go.Proofs.YtooonpmiglhjpaaGreatDoor
