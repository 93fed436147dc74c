/-
  install.right at the flash and the plan of 'live': nothing is wrong.
-/
import Derived.Test.YtooonpmiglhjpaaGreatDoorLive0
import Derived.Test.YtooonpmiglhjpaaGreatDoorPart1
import Derived.Deep.RegionWith
import Derived.BigQuiet
namespace Go.Proofs.YtooonpmiglhjpaaGreatDoor
open Go.RowKit

theorem geometry_live (g : Nat) (w : World) (h : LiveFlash w g) :
    Calls Tryz.prog 91 #[.pointer (some ⟨g, 0, none⟩)] w fun e w' => e = .returned (.agg #[.int .i64 4, .int .i64 1, .int .i64 64]) ∧ Below w.heap.size w w' := by
  obtain ⟨h0, h1, h2⟩ := h
  have hg : g < w.heap.size := World.block_lt_of_cell? w _ h0
  go_enter Tryz.func91, Tryz.ntmps91
  go_wp2
  refine bodyPost_ret (v := .agg #[.int .i64 4, .int .i64 1, .int .i64 64]) ?_ rfl ⟨rfl, ?_⟩
  · simp [results, Tryz.results91, go_sem]
  · exact (Below.refl _ _).alloc (Nat.le_refl _) _

theorem live_below {w w' : World} {g : Nat} (hb : Below w.heap.size w w') (h : LiveFlash w g) : LiveFlash w' g := by
  have hg : g < w.heap.size := World.block_lt_of_cell? w _ h.1
  have hc := (bcell hb).1
  exact ⟨(hc g 0 hg).trans h.1, (hc g 1 hg).trans h.2.1, (hc g 2 hg).trans h.2.2⟩
theorem live_drew {w : World} {g : Nat} (h : LiveFlash w g) : LiveFlash w.drew g := h
theorem live_alloc {w : World} {g : Nat} (h : LiveFlash w g) (o : Obj) : LiveFlash (w.alloc o) g := ⟨cell_alloc h.1 o, cell_alloc h.2.1 o, cell_alloc h.2.2 o⟩

theorem shape_live : Shape 4 1 64 := ⟨by decide, by decide, by decide, by decide, by decide, by decide⟩

theorem neq_geo (w : World) (x0 y0 x1 y1 x2 y2 : Int) :
    (binOp .neq 62 (.agg #[.int .i64 x0, .int .i64 x1, .int .i64 x2]) (.agg #[.int .i64 y0, .int .i64 y1, .int .i64 y2])).run Tryz.prog w = .ok (.bool (!(x0 == y0 && (x1 == y1 && (x2 == y2 && true))))) w := by
  rw [run_neq_struct, eq_geo 9998]; rfl

set_option maxHeartbeats 1000000 in
set_option maxRecDepth 100000 in
theorem right_live (g : Nat) (w : World) (h : LiveFlash w g) :
    Calls Tryz.prog 73 #[.pointer (some ⟨g, 0, none⟩), planOf 4 1 64] w fun e w' => e = .returned (.int .i64 0) ∧ Below w.heap.size w w' := by
  have hg : g < w.heap.size := World.block_lt_of_cell? w _ h.1
  have C := fun w => check_of 4 1 64 w shape_live
  have K := Lib.hid C
  have HL := Lib.hid h
  clear C h
  have hne := neq_geo
  unfold planOf planA at K ⊢
  go_enter Tryz.func73, Tryz.ntmps73
  go_wp2_with fail
  go_region_with (first | (go_at_call 26; refine (K.out _).mono ?_; rintro e w1 ⟨rfl, hb1⟩; obtain ⟨hc1, hf1⟩ := bcell hb1; have hz : w.heap.size < w1.heap.size := (by have := hb1.size; simp at this; omega); have L1 := live_below hb1 (by first | exact live_drew (live_alloc HL.out _) | exact live_alloc (live_drew HL.out) _); have HL1 := Lib.hid L1; clear L1) | (go_at_call 91; refine (geometry_live g _ HL1.out).mono ?_; rintro e w2 ⟨rfl, hb2⟩; obtain ⟨hc2, hf2⟩ := bcell hb2))
  all_goals
    go_wp2
    go_ret
    exact ⟨rfl, ((bdrew ((Below.refl _ _).alloc (Nat.le_refl _) _)).trans (hb1.mono (by simp))).trans (hb2.mono (by have := hb1.size; simp at this; omega))⟩
end Go.Proofs.YtooonpmiglhjpaaGreatDoor
