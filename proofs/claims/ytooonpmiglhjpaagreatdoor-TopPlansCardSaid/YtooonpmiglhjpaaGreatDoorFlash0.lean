/-
  flash.blank writes 255 into each byte of a slice, and nothing else.
-/
import Derived.Test.YtooonpmiglhjpaaGreatDoorBase
import Derived.Lib.VarintMem
import Derived.Lib.EndianMore
import Derived.Laws.IdiomCopy
namespace Go.Proofs.YtooonpmiglhjpaaGreatDoor
open Go.RowKit

theorem setCells_snoc (g : Nat) (v : Value) : ∀ (vs : List Value) (o : Nat) (w : World), (w.setCells g o vs).setCell ⟨g, o + vs.length, none⟩ v = w.setCells g o (vs ++ [v])
  | [], _, _ => rfl
  | u :: r, o, w => by
    rw [World.setCells, List.cons_append, World.setCells, ← setCells_snoc g v r (o + 1) (w.setCell ⟨g, o, none⟩ u)]
    congr 2
    simp only [List.length_cons]
    omega

def ff : Value := .int .u8 255

set_option maxHeartbeats 400000 in
theorem blank_any (g off n cap : Nat) (w : World) (hn : n ≤ 9223372036854775807) (hc : ∀ j, j < n → ∃ v, w.cell? ⟨g, off + j, none⟩ = some v) (hf : ∀ j, j < n → w.frozen? ⟨g, off + j, none⟩ = false) :
    Calls Tryz.prog 72 #[.slice (some ⟨g, off, none⟩) n cap] w fun e w' => e = .returned (.tuple #[]) ∧ w' = w.setCells g off (List.replicate n ff) := by
  have HC := Lib.hid hc
  have HF := Lib.hid hf
  clear hc hf
  go_enter Tryz.func72, Tryz.ntmps72
  go_wp2
  go_loopw [2, 5] (fun _ i wr => ∃ k : Nat, k ≤ n ∧ i = .int .i64 k ∧ wr = w.setCells g off (List.replicate k ff)) (fun _ i _ => n - (intOf i).toNat)
  case atStart => exact ⟨0, Nat.zero_le _, rfl, rfl⟩
  case round =>
    obtain ⟨k, hk, rfl, hw⟩ := hrel
    have HW := Lib.hid hw
    clear hw
    by_cases hlt : k < n
    · have h1 : wr.cell? ⟨g, off + k, none⟩ = w.cell? ⟨g, off + k, none⟩ := by
        rw [HW.out]
        exact World.cell?_setCells_out g _ off w _ (fun _ _ => by right; simp)
      obtain ⟨v, hv⟩ := HC.out k hlt
      have h2 : wr.cell? ⟨g, off + k, none⟩ = some v := h1.trans hv
      have h3 : wr.frozen? ⟨g, off + k, none⟩ = false := by rw [HW.out, World.frozen?_setCells]; exact HF.out k hlt
      clear h1 hv
      go_wp2
      go_roundw
      case rel => exact ⟨k + 1, by omega, by go_num, by rw [HW.out, List.replicate_succ', ← setCells_snoc, List.length_replicate]; rfl⟩
      case measure => simp [intOf]; omega
    · go_wp2
      go_end0
      have : k = n := by omega
      exact ⟨rfl, by rw [HW.out, this]⟩
end Go.Proofs.YtooonpmiglhjpaaGreatDoor
