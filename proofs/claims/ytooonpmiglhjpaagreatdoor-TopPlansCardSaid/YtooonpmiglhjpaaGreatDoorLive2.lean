/-
  A reader of no bytes: what the steps of super.Decode come to.
-/
import Derived.Test.YtooonpmiglhjpaaGreatDoorField0
namespace Go.Proofs.YtooonpmiglhjpaaGreatDoor
open Go.RowKit

theorem copied_nil (w : World) : Calls Tryz.prog 57 #[.slice none 0 0] w fun e w' => e = .returned (.slice (some ⟨w.heap.size, 0, none⟩) 0 0) ∧ w' = w.alloc (.cells #[] 5) := by
  go_enter Tryz.func57, Tryz.ntmps57
  go_wp2
  go_ret
  exact ⟨rfl, rfl⟩

/-- a reader's block -/
def rdr (A : Option Addr) (e : Int) : Obj := .cells #[.slice A 0 0, .int .i64 0, .int .i64 e] 113

theorem new_reader_nil (w : World) : Calls Tryz.prog 39 #[.slice none 0 0] w fun e w' =>
    e = .returned (.pointer (some ⟨w.heap.size + 1, 0, none⟩)) ∧ w' = (w.alloc (.cells #[] 5)).alloc (rdr (some ⟨w.heap.size, 0, none⟩) 0) := by
  go_enter Tryz.func39, Tryz.ntmps39
  go_wp2_with (go_at_call 57; refine (copied_nil _).mono ?_; rintro e w1 ⟨rfl, rfl⟩)
  go_ret
  exact ⟨rfl, rfl⟩

/-- what is asked of a reader of no bytes: its cells -/
structure Rdr (w : World) (g : Nat) (A : Option Addr) (e : Int) : Prop where
  b : w.cell? ⟨g, 0, none⟩ = some (.slice A 0 0)
  at_ : w.cell? ⟨g, 1, none⟩ = some (.int .i64 0)
  e : w.cell? ⟨g, 2, none⟩ = some (.int .i64 e)
  fe : w.frozen? ⟨g, 2, none⟩ = false

set_option maxHeartbeats 400000 in
theorem take_first (g : Nat) (A : Option Addr) (w : World) (h : Rdr w g A 0) : Calls Tryz.prog 59 #[.pointer (some ⟨g, 0, none⟩), .int .i64 4] w fun e w' =>
    e = .returned (.slice none 0 0) ∧ ∃ n, w' = (w.setCell ⟨g, 2, none⟩ (.int .i64 6)).drewN n := by
  obtain ⟨hb, ha, he, hf⟩ := h
  have hw : withinB 0 0 4 = false := by decide
  go_enter Tryz.func59, Tryz.ntmps59
  go_wp2_with fail
  go_quiet ((go_at_call 64; exact Calls.quiet_of_same (by exact ((within_any _ _ _ _ _ _ (by omega) (by omega)).mono fun _ _ ⟨a, b⟩ => ⟨a, b.symm⟩))))
  go_wp2
  go_ret
  exact ⟨rfl, _, rfl⟩

theorem rdr_new (W : World) (A : Option Addr) (g : Nat) (hg : g = W.heap.size) : Rdr (W.alloc (rdr A 0)) g A 0 := by
  subst hg
  have h := heap_alloc_new W (rdr A 0)
  exact ⟨(cell_of_row _ _ 0 _ _ _ h).trans rfl, (cell_of_row _ _ 1 _ _ _ h).trans rfl, (cell_of_row _ _ 2 _ _ _ h).trans rfl, by unfold World.frozen?; rw [h]; simp [rdr]⟩

theorem bytes_first (g : Nat) (A : Option Addr) (w : World) (h : Rdr w g A 0) : Calls Tryz.prog 41 #[.pointer (some ⟨g, 0, none⟩), .int .i64 4] w fun e w' =>
    (∃ a, e = .returned (.slice a 0 0)) ∧ w.grownBy w' (some g) ∧ w'.cell? ⟨g, 1, none⟩ = some (.int .i64 0) ∧ w'.cell? ⟨g, 2, none⟩ = some (.int .i64 6) := by
  have H := Lib.hid h
  clear h
  go_enter Tryz.func41, Tryz.ntmps41
  go_wp2_with (first | (go_at_call 59; refine (take_first g A _ H.out).mono ?_; rintro e w1 ⟨rfl, n, rfl⟩) | (go_at_call 57; refine (copied_nil _).mono ?_; rintro e w1 ⟨rfl, rfl⟩))
  go_ret
  have hlt := World.block_lt_of_cell? w _ H.out.b
  refine ⟨⟨_, rfl⟩, g_alloc (g_drewN (g_set (World.grownBy.refl w _) (.inl rfl) _) n) _, cell_alloc ?_ _, cell_alloc ?_ _⟩
  · exact (World.cell?_setCell_other w ⟨g, 2, none⟩ ⟨g, 1, none⟩ (.int .i64 6) (by simp)).trans H.out.at_
  · exact World.cell?_setCell_same w ⟨g, 2, none⟩ _ H.out.e

theorem take_err (g : Nat) (k e0 : Int) (w : World) (he : w.cell? ⟨g, 2, none⟩ = some (.int .i64 e0)) (h0 : (e0 != 0) = true) : Calls Tryz.prog 59 #[.pointer (some ⟨g, 0, none⟩), .int .i64 k] w fun e w' =>
    e = .returned (.slice none 0 0) ∧ w = w' := by
  go_enter Tryz.func59, Tryz.ntmps59
  go_wp2
  go_ret
  exact ⟨rfl, rfl⟩

theorem load_nil (w : World) : Calls Tryz.prog 58 #[.slice none 0 0] w fun e w' => e = .returned (.int .u64 0) ∧ w = w' := by
  go_enter Tryz.func58, Tryz.ntmps58
  go_wp2
  refine wp_loop_rounds 1 ?_
  rw [rounds_succ]
  go_wp2
  go_ret
  exact ⟨rfl, rfl⟩

theorem num_err (g : Nat) (k e0 : Int) (w : World) (he : w.cell? ⟨g, 2, none⟩ = some (.int .i64 e0)) (h0 : (e0 != 0) = true) (hk : wideB k = true) : Calls Tryz.prog 40 #[.pointer (some ⟨g, 0, none⟩), .int .i64 k] w fun e w' =>
    e = .returned (.int .u64 0) ∧ w = w' := by
  have H := Lib.hid (take_err g k e0 w he h0)
  clear he h0
  go_enter Tryz.func40, Tryz.ntmps40
  go_wp2_with (first | (go_at_call 53; refine (wide_any _ _).mono ?_; rintro e w1 ⟨rfl, rfl⟩) | (go_at_call 59; refine H.out.mono ?_; rintro e w1 ⟨rfl, rfl⟩) | (go_at_call 58; refine (load_nil _).mono ?_; rintro e w1 ⟨rfl, rfl⟩))
  go_ret
  exact ⟨rfl, rfl⟩

theorem err_told (g : Nat) (a e0 : Int) (w : World) (ha : w.cell? ⟨g, 1, none⟩ = some (.int .i64 a)) (he : w.cell? ⟨g, 2, none⟩ = some (.int .i64 e0)) :
    Calls Tryz.prog 43 #[.pointer (some ⟨g, 0, none⟩)] w fun e w' => e = .returned (.tuple #[.int .i64 a, .int .i64 e0]) ∧ ∃ n, w' = w.drewN n := by
  go_enter Tryz.func43, Tryz.ntmps43
  go_wp2
  go_quiet (fail)
  go_wp2
  go_ret2
  exact ⟨rfl, _, rfl⟩
end Go.Proofs.YtooonpmiglhjpaaGreatDoor
