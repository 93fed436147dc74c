/-
  audit.audit of no bytes: the deferred closure catches bad{ErrForm}; audit.Audit answers ErrForm.
-/
import Derived.Test.YtooonpmiglhjpaaGreatDoorLive4
import Derived.Defers
import Derived.Recover
import Derived.RegionTactic
import Derived.BigRegion
namespace Go.Proofs.YtooonpmiglhjpaaGreatDoor
open Go.RowKit

theorem assert_bad (v : Value) (w : World) : (Instr.typeAssert (.iface 198 v) 20 198 true).run Tryz.prog w = .ok (.tuple #[v, .bool true]) w := by kernel_rfl

/-- the closure's end -/
def CatchTold (a t e_ : Nat) (older : List PanicEntry) (w : World) (e : Ending) (u' : FrameMode) (w' : World) : Prop :=
  e = .returned (.tuple #[]) ∧ u' = .panicking ({ v := badV, recovered := true } :: older) ∧ w'.cell? ⟨a, 0, none⟩ = some (.pointer none) ∧ w'.cell? ⟨t, 0, none⟩ = some (.slice none 0 0) ∧ w'.cell? ⟨e_, 0, none⟩ = some (.int .i64 6) ∧
    ∀ B x, B ≤ a → B ≤ t → B ≤ e_ → Below B x w → Below B x w'

theorem catch_bad (a t e_ : Nat) (va : Option Addr) (vt : Value) (ve : Int) (older : List PanicEntry) (w : World) (hat : a ≠ t) (hae : a ≠ e_) (hte : t ≠ e_)
    (ha : w.cell? ⟨a, 0, none⟩ = some (.pointer va)) (ht : w.cell? ⟨t, 0, none⟩ = some vt) (he : w.cell? ⟨e_, 0, none⟩ = some (.int .i64 ve))
    (fa : w.frozen? ⟨a, 0, none⟩ = false) (ft : w.frozen? ⟨t, 0, none⟩ = false) (fe : w.frozen? ⟨e_, 0, none⟩ = false) :
    CallsD Tryz.prog 110 #[.pointer (some ⟨a, 0, none⟩), .pointer (some ⟨t, 0, none⟩), .pointer (some ⟨e_, 0, none⟩)] (.panicking ({ v := badV, recovered := false } :: older)) w (CatchTold a t e_ older w) := by
  refine callsD_of_wpS Tryz.func110 rfl fun c₀ cs hu => ?_
  apply wpS_seq
  apply wpS_region
  unfold badV at hu
  simp [wpOpsS, go_sem, recoverD, hu, Tryz.ntmps110, Exit.thenS, Array.replicate]
  refine wpS_of_wp ?_
  generalize hQ : (fun (e : Exit) (a' : Act) (w' : World) => bodyPostS _ _ _ _ _ e a' _ w') = Q
  have HQ := Lib.hid hQ
  clear hQ
  have hta := assert_bad
  have la := World.block_lt_of_cell? w _ ha
  have lt_ := World.block_lt_of_cell? w _ ht
  have le := World.block_lt_of_cell? w _ he
  have hta' := Ne.symm hat
  have hae' := Ne.symm hae
  have hte' := Ne.symm hte
  go_wp2
  go_region
  rw [← HQ.out]
  refine ⟨rfl, _, rfl, .tuple #[], ?_, rfl, rfl, ?_, ?_, ?_, ?_⟩
  · simp [results, Tryz.results110]
  · exact cell_drew (cell_alloc (cell_far (cell_far (World.cell?_setCell_same w _ _ ha) hat _) hae _) _)
  · exact cell_drew (cell_alloc (cell_far (World.cell?_setCell_same _ _ _ (cell_far ht hta' _)) hte _) _)
  · exact cell_drew (cell_alloc (World.cell?_setCell_same _ _ _ (cell_far (cell_far he hae' _) hte' _)) _)
  · intro B x h1 h2 h3 hb
    exact bdrew ((((hb.setCell (p := ⟨a, 0, none⟩) h1 _).setCell (p := ⟨t, 0, none⟩) h2 _).setCell (p := ⟨e_, 0, none⟩) h3 _).alloc (by simp [World.setCell]; omega) _)

set_option maxHeartbeats 1000000 in
set_option maxRecDepth 100000 in
theorem audit_nil (w : World) : Calls Tryz.prog 92 #[.slice none 0 0] w fun e w' => e = .returned (.tuple #[.pointer none, .agg #[.slice none 0 0], .int .i64 6]) ∧ Below w.heap.size w w' := by
  have hmf : ∀ (fn : Fn) (first cap : Array Value) (w : World), (Instr.makeFunc fn first cap).run Tryz.prog w = .ok (.func fn first cap) w := fun _ _ _ _ => rfl
  go_enter_defers Tryz.func92, Tryz.ntmps92
  go_wp2_with (first | (go_at_call 111; refine (parts_bad _ _ (hat_new (by simp))).mono ?_; rintro e w1 ⟨rfl, hg⟩))
  obtain ⟨hc, hf⟩ := gcell hg
  have hz : w.heap.size + 3 < w1.heap.size := by have := hg.size; simp at this; omega
  refine leaves_cons (f := 110) (args := #[.pointer (some ⟨w.heap.size, 0, none⟩), .pointer (some ⟨w.heap.size + 1, 0, none⟩), .pointer (some ⟨w.heap.size + 1 + 1, 0, none⟩)]) (by simp) (by simp [go_sem]) ?_
  refine (catch_bad w.heap.size (w.heap.size + 1) (w.heap.size + 1 + 1) (some ⟨w.heap.size + 1 + 1 + 1, 0, none⟩) (.slice none 0 0) 0 [] w1 (by omega) (by omega) (by omega) ?_ ?_ ?_ ?_ ?_ ?_).mono ?_
  · rw [hc _ _ (by simp only [size_alloc]; omega) (by omega)]; simp [go_sem]
  · rw [hc _ _ (by simp only [size_alloc]; omega) (by omega)]; simp [go_sem]
  · rw [hc _ _ (by simp only [size_alloc]; omega) (by omega)]; simp [go_sem]
  · rw [hf _ _ (by simp only [size_alloc]; omega) (by omega)]; simp [go_sem]
  · rw [hf _ _ (by simp only [size_alloc]; omega) (by omega)]; simp [go_sem]
  · rw [hf _ _ (by simp only [size_alloc]; omega) (by omega)]; simp [go_sem]
  rintro e u' w2 ⟨rfl, rfl, k1, k2, k3, kb⟩
  have hB : Below w.heap.size w w1 := below_g (((((Below.refl _ _).alloc (Nat.le_refl _) _).alloc (by simp only [size_alloc]; omega) _).alloc (by simp only [size_alloc]; omega) _).alloc (by simp only [size_alloc]; omega) _) hg (by simp only [size_alloc]; omega) (by omega)
  have hB2 := kb _ _ (Nat.le_refl _) (by omega) (by omega) hB
  clear hc hf hg kb
  simp [Leaves, settle, results, Tryz.results92, go_sem, k1, k2, k3]
  exact hB2
end Go.Proofs.YtooonpmiglhjpaaGreatDoor
