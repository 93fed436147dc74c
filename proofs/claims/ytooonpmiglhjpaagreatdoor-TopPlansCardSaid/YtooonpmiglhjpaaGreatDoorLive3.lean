/-
  super.Decode of no bytes: ErrForm.
-/
import Derived.Test.YtooonpmiglhjpaaGreatDoorLive2
import Derived.Deep.LoopGhost
namespace Go.Proofs.YtooonpmiglhjpaaGreatDoor
open Go.RowKit

def superZ : Value := .agg #[.int .i64 0, .int .i64 0, .int .i64 0, .int .i64 0, .int .i64 0, .int .i64 0, .int .i64 0, .int .i64 0, .int .i64 0, .int .i64 0, .int .i64 0, .int .i64 0, .int .i64 0, .int .i64 0, .int .i64 0]

def zeroB : Obj := .cells #[.int .i64 0, .int .i64 0, .int .i64 0, .int .i64 0, .int .i64 0, .int .i64 0, .int .i64 0, .int .i64 0, .int .i64 0, .int .i64 0, .int .i64 0, .int .i64 0, .int .i64 0, .int .i64 0, .int .i64 0] 204

set_option maxHeartbeats 1000000 in
set_option maxRecDepth 100000 in
theorem decode_nil (w : World) : Calls Tryz.prog 144 #[.slice none 0 0] w fun e w' => e = .returned (.tuple #[superZ, .int .i64 6]) ∧ Below w.heap.size w w' := by
  have hw4 : wideB 4 = true := by decide
  have hw2 : wideB 2 = true := by decide
  go_enter Tryz.func144, Tryz.ntmps144
  go_wp2_with (first | (go_at_call 39; refine (new_reader_nil _).mono ?_; rintro e w1 ⟨rfl, rfl⟩) | (go_at_call 41; refine (bytes_first _ _ _ (rdr_new _ _ _ (by simp))).mono ?_; rintro e w2 ⟨⟨a2, rfl⟩, hg2, r1, r2⟩; obtain ⟨hc2, hf2⟩ := gcell hg2; have hz2 : w.heap.size + 2 < w2.heap.size := (by have := hg2.size; simp at this; omega)) | (go_at_call 40; refine (num_err _ _ 6 _ ?_ rfl (by assumption)).mono ?_; (focus (go_simp)); rintro e w3 ⟨rfl, rfl⟩))
  have hB : Below w.heap.size w w2 := below_g ((((Below.refl _ _).alloc (Nat.le_refl _) _).alloc (by simp only [size_alloc]; omega) _).alloc (by simp only [size_alloc]; omega) _) hg2 (by simp only [size_alloc]; omega) (by omega)
  have r1' := cell_alloc r1 zeroB
  have r2' := cell_alloc r2 zeroB
  have hB' := hB.alloc (Nat.le_of_lt (by omega)) zeroB
  have hH := heap_alloc_new w2 zeroB
  have hZ : (w2.alloc zeroB).heap[w.heap.size]? = some zeroB := hat_old ((hg2.block w.heap.size (by simp only [size_alloc]; omega) (by simp; omega)).trans (hat_old (hat_old (hat_new rfl) _) _)) _
  have P5 := Lib.hid hZ
  have P1 := Lib.hid r1'
  have P2 := Lib.hid r2'
  have P3 := Lib.hid hB'
  have P4 := Lib.hid hH
  clear r1' r2' hB' hH r1 r2 hZ
  go_loopw [9, 30] (fun _ i wr => ∃ k : Nat, k ≤ 6 ∧ i = .int .i64 k ∧ (∃ cs, wr.heap[w2.heap.size]? = some (.cells cs 204 (0, 0)) ∧ cs.size = 15) ∧ wr.cell? ⟨w.heap.size + 1 + 1, 1, none⟩ = some (.int .i64 0) ∧ wr.cell? ⟨w.heap.size + 1 + 1, 2, none⟩ = some (.int .i64 6) ∧ Below w.heap.size w wr ∧ wr.heap[w.heap.size]? = some zeroB) (fun _ i _ => 6 - (intOf i).toNat)
  case atStart => exact ⟨0, by decide, rfl, ⟨_, P4.out, rfl⟩, P1.out, P2.out, P3.out, P5.out⟩
  case round =>
    clear hc2 hf2
    obtain ⟨k, hk, rfl, ⟨cs, hH, hcs⟩, q1, q2, hb, hz⟩ := hrel
    have hS : w2.heap.size < wr.heap.size := (Array.getElem?_eq_some_iff.1 hH).1
    by_cases hlt : k < 6
    · have f1 : ∀ o, wr.frozen? ⟨w2.heap.size, o, none⟩ = false := fun o => by unfold World.frozen?; rw [hH]; simp
      have d1 : ∀ o, o < 15 → ∃ v, wr.cell? ⟨w2.heap.size, o, none⟩ = some v := fun o ho => ⟨cs[o]'(by omega), by rw [cell_of_row _ _ _ _ _ _ hH]; exact Array.getElem?_eq_getElem _⟩
      obtain ⟨v1, e1⟩ := d1 (3 + k * 2) (by omega)
      obtain ⟨v2, e2⟩ := d1 (3 + k * 2 + 1) (by omega)
      have H := Lib.hid hH
      have Hcs := Lib.hid hcs
      have Hz := Lib.hid hz
      clear d1 hH hcs hz
      go_wp2_with (go_at_call 40; refine (num_err _ _ 6 _ ?_ rfl (by assumption)).mono ?_; (focus (go_simp)); rintro e w3 ⟨rfl, rfl⟩)
      go_roundw
      case rel =>
        exact ⟨k + 1, by omega, by go_num, ⟨_, blk_set (blk_set H.out _ _) _ _, by simp [Hcs.out]⟩, cell_far (cell_far q1 (by simp; omega) _) (by simp; omega) _, cell_far (cell_far q2 (by simp; omega) _) (by simp; omega) _, (hb.setCell (by simp; omega) _).setCell (by simp; omega) _, blk_far (blk_far Hz.out (by simp; omega) _) (by simp; omega) _⟩
      case measure => simp [intOf]; omega
    · have hz' := hz
      unfold zeroB at hz'
      have z1 : ∀ o, wr.cell? ⟨w.heap.size, o, none⟩ = (#[.int .i64 0, .int .i64 0, .int .i64 0, .int .i64 0, .int .i64 0, .int .i64 0, .int .i64 0, .int .i64 0, .int .i64 0, .int .i64 0, .int .i64 0, .int .i64 0, .int .i64 0, .int .i64 0, .int .i64 0] : Array Value)[o]? := fun o => cell_of_row _ _ _ _ _ _ hz'
      have z2 : ∀ o, wr.frozen? ⟨w.heap.size, o, none⟩ = false := fun o => by unfold World.frozen?; rw [hz']; simp
      clear hH hcs hz hz'
      go_wp2_with (first | (go_at_call 40; refine (num_err _ _ 6 _ ?_ rfl (by assumption)).mono ?_; (focus (go_simp)); rintro e w3 ⟨rfl, rfl⟩) | (go_at_call 43; refine (err_told _ 0 6 _ (by assumption) (by assumption)).mono ?_; rintro e w3 ⟨rfl, n3, rfl⟩))
      refine bodyPost_ret (v := .tuple #[superZ, .int .i64 6]) ?_ rfl ⟨rfl, ?_⟩
      · simp [results, Tryz.results144, go_sem, superZ, z1]
      · repeat (first | (with_reducible exact hb) | (with_reducible refine bdrewN ?_ _) | (with_reducible refine Below.setCell ?_ (by simp) _))
end Go.Proofs.YtooonpmiglhjpaaGreatDoor
