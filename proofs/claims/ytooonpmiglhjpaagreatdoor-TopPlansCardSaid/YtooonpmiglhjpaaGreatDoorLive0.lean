/-
  flash.New at the geometry of 'live': four sectors of one page of 64 bytes.
-/
import Derived.Test.YtooonpmiglhjpaaGreatDoorPart1
import Derived.Test.YtooonpmiglhjpaaGreatDoorFlash0
import Derived.Deep.RegionHeld3
import Derived.Deep.OwnRows
namespace Go.Proofs.YtooonpmiglhjpaaGreatDoor
open Go.RowKit

theorem info_u8 : (Tryz.prog.info? 5).map (fun i => (i.zero, i.size, i.bytes)) = some (some (.int .u8 0), 1, 1) := by kernel_rfl
theorem info_bool : (Tryz.prog.info? 4).map (fun i => (i.zero, i.size, i.bytes)) = some (some (.bool false), 1, 1) := by kernel_rfl
theorem info_int : (Tryz.prog.info? 3).map (fun i => (i.zero, i.size, i.bytes)) = some (some (.int .i64 0), 1, 8) := by kernel_rfl

theorem fchk_live : fchk 4 1 64 = 0 := by decide

def rowB : Obj := .cells (madeCells #[.int .u8 0] 256) 5
def rowD : Obj := .cells (madeCells #[.bool false] 4) 4
def rowW : Obj := .cells (madeCells #[.int .i64 0] 4) 3
theorem mkB (w : World) : (Instr.makeSlice 22 (.int .i64 256) (.int .i64 256)).run Tryz.prog w = .ok (.slice (some ⟨w.heap.size, 0, none⟩) 256 256) (w.alloc rowB) :=
  run_make_row' 22 5 (.int .u8 0) 1 Tryz.underlying22 info_u8 rfl .i64 .i64 256 (by decide) (by decide) w
theorem mkD (w : World) : (Instr.makeSlice 151 (.int .i64 4) (.int .i64 4)).run Tryz.prog w = .ok (.slice (some ⟨w.heap.size, 0, none⟩) 4 4) (w.alloc rowD) :=
  run_make_row' 151 4 (.bool false) 1 Tryz.underlying151 info_bool rfl .i64 .i64 4 (by decide) (by decide) w
theorem mkW (w : World) : (Instr.makeSlice 53 (.int .i64 4) (.int .i64 4)).run Tryz.prog w = .ok (.slice (some ⟨w.heap.size, 0, none⟩) 4 4) (w.alloc rowW) :=
  run_make_row' 53 3 (.int .i64 0) 8 Tryz.underlying53 info_int rfl .i64 .i64 4 (by decide) (by decide) w

/-- what of a flash the first steps of 'live' read -/
def LiveFlash (w : World) (g : Nat) : Prop := w.cell? ⟨g, 0, none⟩ = some (.int .i64 4) ∧ w.cell? ⟨g, 1, none⟩ = some (.int .i64 1) ∧ w.cell? ⟨g, 2, none⟩ = some (.int .i64 64)

def FlashTold (w : World) (e : Ending) (w' : World) : Prop := ∃ g, e = .returned (.tuple #[.pointer (some ⟨g, 0, none⟩), .int .i64 0]) ∧ Below w.heap.size w w' ∧ g < w'.heap.size ∧ LiveFlash w' g

theorem below_setCells {B g : Nat} (hg : B ≤ g) {a : World} : ∀ (vs : List Value) (o : Nat) (w : World), Below B a w → Below B a (w.setCells g o vs)
  | [], _, _, h => h
  | v :: vs, o, _, h => below_setCells hg vs (o + 1) _ (h.setCell (p := ⟨g, o, none⟩) hg v)

theorem size_setCells (g : Nat) : ∀ (vs : List Value) (o : Nat) (w : World), (w.setCells g o vs).heap.size = w.heap.size
  | [], _, _ => rfl
  | v :: vs, o, _ => by rw [World.setCells, size_setCells g vs]; simp [World.setCell]

/-- behind blank: block g alone has turned -/
def BlankTold (g : Nat) (w : World) (e : Ending) (w' : World) : Prop := e = .returned (.tuple #[]) ∧ (∀ B a, B ≤ g → Below B a w → Below B a w') ∧ (∀ b o, b ≠ g → w'.cell? ⟨b, o, none⟩ = w.cell? ⟨b, o, none⟩) ∧ w'.heap.size = w.heap.size

theorem blank_rowB (g : Nat) (w : World) (h : w.heap[g]? = some rowB) : Calls Tryz.prog 72 #[.slice (some ⟨g, 0, none⟩) 256 256] w (BlankTold g w) := by
  refine (blank_any g 0 256 256 w (by decide) (fun j hj => ?_) (fun j hj => ?_)).mono ?_
  · refine ⟨.int .u8 0, ?_⟩
    rw [Nat.zero_add, cell_of_row w g j _ _ _ h]
    simp [madeCells, hj, Nat.mod_one]
  · unfold World.frozen?
    rw [h]
    simp [rowB]
  · rintro e w' ⟨rfl, rfl⟩
    refine ⟨rfl, fun B a hB hb => below_setCells hB _ _ _ hb, fun b o hb => ?_, size_setCells _ _ _ _⟩
    exact World.cell?_setCells_out g _ 0 w _ (fun e => absurd e hb)

set_option maxHeartbeats 1000000 in
set_option maxRecDepth 100000 in
theorem flash_new_live (w : World) : Calls Tryz.prog 65 #[.agg #[.int .i64 4, .int .i64 1, .int .i64 64]] w (FlashTold w) := by
  have H0 := Lib.hid fchk_live
  have m1 := mkB
  have m2 := mkD
  have m3 := mkW
  go_enter Tryz.func65, Tryz.ntmps65
  go_wp2_with (go_at_call 51; refine (fcheck_any _ _ _ _).mono ?_; rintro e w1 ⟨rfl, hb⟩; rw [H0.out]; obtain ⟨hc, hf⟩ := bcell hb; have hz : w.heap.size < w1.heap.size := by have := hb.size; simp at this; omega)
  have c0 : w1.cell? ⟨w.heap.size, 0, none⟩ = some (.int .i64 4) := by rw [hc _ _ (by simp)]; simp
  have c1 : w1.cell? ⟨w.heap.size, 1, none⟩ = some (.int .i64 1) := by rw [hc _ _ (by simp)]; simp
  have c2 : w1.cell? ⟨w.heap.size, 2, none⟩ = some (.int .i64 64) := by rw [hc _ _ (by simp)]; simp
  have n0 := World.new_ne w1 _ c0
  have n1 := World.new_ne w1 _ c1
  have n2 := World.new_ne w1 _ c2
  have e1 : IntKind.i64.wrap 4 = 4 := by decide
  have e2 : IntKind.i64.wrap 256 = 256 := by decide
  go_region_held3 (fun w' => w'.cell? ⟨w.heap.size, 0, none⟩ = some (.int .i64 4) ∧ w'.cell? ⟨w.heap.size, 1, none⟩ = some (.int .i64 1) ∧ w'.cell? ⟨w.heap.size, 2, none⟩ = some (.int .i64 64)) ((refine ⟨?_, ?_, ?_⟩ <;> repeat (first | assumption | refine cell_drew ?_ | refine cell_alloc ?_ _))) ((fail))
  all_goals
    go_wp2_with (go_at_call 72; refine (blank_rowB _ _ ?_).mono ?_; (repeat (first | exact hat_new (by simp) | refine hat_drew ?_ | refine hat_old ?_ _)); unfold BlankTold; rintro e w2 ⟨rfl, hb2, hc2, hs2⟩)
  all_goals
    go_ret2
    have hB : Below w.heap.size w w1 := ((Below.refl _ _).alloc (Nat.le_refl _) _).trans (hb.mono (by simp))
    refine ⟨_, rfl, hb2 _ _ (by omega) (bdrew ((((hB.alloc (by omega) _).alloc (by simp; omega) _).alloc (by simp; omega) _).alloc (by simp; omega) _)), by rw [hs2]; simp, ?_, ?_, ?_⟩
    all_goals
      rw [hc2 _ _ (by omega)]
      exact (cell_of_row _ _ _ _ _ _ (hat_drew (hat_new (by simp)))).trans rfl
end Go.Proofs.YtooonpmiglhjpaaGreatDoor
