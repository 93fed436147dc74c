/-
  auditor.parts of no bytes: it panics with bad{ErrForm}.
-/
import Derived.Test.YtooonpmiglhjpaaGreatDoorLive3
namespace Go.Proofs.YtooonpmiglhjpaaGreatDoor
open Go.RowKit

def badV : Value := .iface 198 (.agg #[.int .i64 6])

theorem must_bad (w : World) : Calls Tryz.prog 145 #[.int .i64 6] w fun e w' => e = .panicked [{ v := badV, recovered := false }] ∧ w = w' := by
  go_enter Tryz.func145, Tryz.ntmps145
  go_wp2
  exact ⟨rfl, rfl, rfl⟩

/-- an auditor of no bytes -/
def audCells : Array Value := #[.slice none 0 0, .int .i64 0, .int .i64 0, .int .i64 0, .int .i64 0, .int .i64 0, .int .i64 0, .int .i64 0, .int .i64 0, .int .i64 0, .int .i64 0, .int .i64 0, .int .i64 0, .int .i64 0, .int .i64 0, .int .i64 0, .slice none 0 0, .slice none 0 0, .slice none 0 0, .slice none 0 0, .slice none 0 0, .slice none 0 0, .slice none 0 0, .slice none 0 0, .slice none 0 0, .slice none 0 0, .slice none 0 0, .slice none 0 0]
def audB : Obj := .cells audCells 211

theorem hid_panic {P : Prop} (h : P) : Hid P := h

set_option maxHeartbeats 400000 in
set_option maxRecDepth 100000 in
theorem parts_bad (g : Nat) (w : World) (h : w.heap[g]? = some audB) : Calls Tryz.prog 111 #[.pointer (some ⟨g, 0, none⟩)] w fun e w' => e = .panicked [{ v := badV, recovered := false }] ∧ w.grownBy w' (some g) := by
  have hg : g < w.heap.size := (Array.getElem?_eq_some_iff.1 h).1
  have c0 : w.cell? ⟨g, 0, none⟩ = some (.slice none 0 0) := (cell_of_row _ _ _ _ _ _ h).trans rfl
  have H := Lib.hid h
  clear h
  go_enter Tryz.func111, Tryz.ntmps111
  go_wp2_with (first | (go_at_call 144; refine (decode_nil _).mono ?_; unfold superZ; rintro e w1 ⟨rfl, hb⟩; have hh := (hb.block g hg).trans H.out; have z1 : ∀ o, w1.cell? ⟨g, o, none⟩ = (audCells)[o]? := (fun o => cell_of_row _ _ _ _ _ _ hh); have z2 : ∀ o, w1.frozen? ⟨g, o, none⟩ = false := (fun o => by unfold World.frozen?; rw [hh]; simp [audB]); unfold audCells at z1; clear hh) | (go_at_call 145; refine (must_bad _).mono ?_; rintro e w1 ⟨rfl, rfl⟩))
  refine ⟨rfl, rfl, ?_⟩
  have hG : w.grownBy w1 (some g) := g_below hb _
  repeat (first | (with_reducible exact hG) | (with_reducible refine g_set ?_ (.inl rfl) _))
end Go.Proofs.YtooonpmiglhjpaaGreatDoor
