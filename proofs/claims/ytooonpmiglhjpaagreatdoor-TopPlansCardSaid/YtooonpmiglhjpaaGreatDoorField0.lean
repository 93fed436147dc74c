/-
  field.wide, within, copied, load: what they tell.
-/
import Derived.Test.YtooonpmiglhjpaaGreatDoorBase
import Derived.Deep.QuietTactic
import Derived.BigQuiet
namespace Go.Proofs.YtooonpmiglhjpaaGreatDoor
open Go.RowKit

/-- field.within -/
def withinB (n at_ k : Int) : Bool := decide (0 ≤ at_) && (decide (0 ≤ k) && (decide (k ≤ n) && decide (at_ ≤ n - k)))

theorem within_any (A : Option Addr) (n c : Nat) (at_ k : Int) (w : World) (hn : n ≤ 9223372036854775807) (h0 : 0 ≤ at_) :
    Calls Tryz.prog 64 #[.slice A n c, .int .i64 at_, .int .i64 k] w fun e w' => e = .returned (.bool (withinB n at_ k)) ∧ w = w' := by
  by_cases hk : 0 ≤ k
  · by_cases hkn : k ≤ n
    · have X : Hid (withinB n at_ k = decide (at_ ≤ n - k)) := by show _ = _; unfold withinB; rw [decide_eq_true h0, decide_eq_true hk, decide_eq_true hkn]; simp
      go_enter Tryz.func64, Tryz.ntmps64
      go_wp2
      go_ret
      exact ⟨ret_bool X.out.symm, rfl⟩
    · have X : Hid (withinB n at_ k = false) := by show _ = _; unfold withinB; rw [decide_eq_false hkn]; simp
      have hd : decide (k ≤ (n : Int)) = false := decide_eq_false hkn
      go_enter Tryz.func64, Tryz.ntmps64
      go_wp2
      go_ret
      exact ⟨ret_bool X.out.symm, rfl⟩
  · have X : Hid (withinB n at_ k = false) := by show _ = _; unfold withinB; rw [decide_eq_false hk]; simp
    have hd : decide (0 ≤ k) = false := decide_eq_false hk
    go_enter Tryz.func64, Tryz.ntmps64
    go_wp2
    go_ret
    exact ⟨ret_bool X.out.symm, rfl⟩

/-- field.wide -/
def wideB (k : Int) : Bool := k == 1 || k == 2 || k == 4 || k == 8

theorem wide_any (k : Int) (w : World) : Calls Tryz.prog 53 #[.int .i64 k] w fun e w' => e = .returned (.bool (wideB k)) ∧ w = w' := by
  by_cases h : k = 1 ∨ k = 2 ∨ k = 4 ∨ k = 8
  · rcases h with rfl | rfl | rfl | rfl
    all_goals
      go_enter Tryz.func53, Tryz.ntmps53
      go_wp2
      go_ret
      exact ⟨rfl, rfl⟩
  · have X : Hid (wideB k = false) := by show _ = _; unfold wideB; simp; omega
    have h1 : (k == 1) = false := by simp; omega
    have h2 : (k == 2) = false := by simp; omega
    have h4 : (k == 4) = false := by simp; omega
    have h8 : (k == 8) = false := by simp; omega
    clear h
    go_enter Tryz.func53, Tryz.ntmps53
    go_wp2
    go_ret
    exact ⟨ret_bool X.out.symm, rfl⟩
end Go.Proofs.YtooonpmiglhjpaaGreatDoor
