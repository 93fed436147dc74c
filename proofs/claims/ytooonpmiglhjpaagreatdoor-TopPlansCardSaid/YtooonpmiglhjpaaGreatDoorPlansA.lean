/-
  The walks of TopPlans where the shape has a plan.
-/
import Derived.Test.YtooonpmiglhjpaaGreatDoorPlans
namespace Go.Proofs.YtooonpmiglhjpaaGreatDoor
open Go.RowKit

set_option maxHeartbeats 4000000 in
set_option maxRecDepth 100000 in
theorem plans_kbad (a0 a1 a2 a3 a4 : Int) (w : World) (h00 : 0 ≤ a0) (h01 : a0 ≤ 255) (h10 : 0 ≤ a1) (h11 : a1 ≤ 255) (h20 : 0 ≤ a2) (h21 : a2 ≤ 255) (h30 : -128 ≤ a3) (h31 : a3 ≤ 127) (h40 : -2147483648 ≤ a4) (h41 : a4 ≤ 2147483647)
    (hS : Shape (a0 % 201) (a1 % 9) (60 + a2)) (hk : a3 ≠ 0 ∧ a3 ≠ 1) :
    Calls Tryz.prog 5 #[.int .u8 a0, .int .u8 a1, .int .u8 a2, .int .i8 a3, .int .i32 a4] w fun e w' => e = .returned (.bool true) ∧ Below w.heap.size w w' := by
  have M := fun w => make_ok (a0 % 201) (a1 % 9) (60 + a2) w hS.s4 hS.s200 hS.p1 hS.p8 hS.b64 hS.b315
  have C := fun x3 x4 x5 x6 x7 w => check_shape (a0 % 201) (a1 % 9) (60 + a2) x3 x4 x5 x6 x7 w hS
  have Z := fun x3 x4 x5 x6 x7 w => size_shape (a0 % 201) (a1 % 9) (60 + a2) x3 x4 x5 x6 x7 w hS
  have rv : ∀ at_ m, rightV a3 at_ m = 1 := fun at_ m => by unfold rightV; rw [if_pos hk]
  have Bs := fun w => base_no (a0 % 201) (a1 % 9) (60 + a2) a3 w hS hk
  have Pg := fun w => page_no (a0 % 201) (a1 % 9) (60 + a2) a3 a4 w hS 1 (rv _ _) rfl
  have Sc := fun w => sector_no (a0 % 201) (a1 % 9) (60 + a2) a3 a4 w hS 1 (rv _ _) rfl
  clear rv
  have HM := Lib.hid M
  have HC := Lib.hid C
  have HZ := Lib.hid Z
  have HBs := Lib.hid Bs
  have HPg := Lib.hid Pg
  have HSc := Lib.hid Sc
  clear M C Z Bs Pg Sc
  unfold planV at HM
  unfold planA at HC HZ
  unfold planOf planA at HBs HPg HSc
  have hne := neq_plan
  have hpe : ∀ l, peq l l = true := fun l => peq_true rfl
  have c0 := chkV_good (a0 % 201)
  have c1 := chkV_other (a0 % 201) ((a0 % 201 - 2) / 2 + 1) (by omega)
  have z0 : szV (a0 % 201) (a1 % 9) (60 + a2) 0 1 2 (2 + (a0 % 201 - 2) / 2) ((a0 % 201 - 2) / 2) = (a0 % 201 - 2) / 2 * (a1 % 9) * (60 + a2) := by unfold szV; rw [if_pos c0]
  have z1 : szV (a0 % 201) (a1 % 9) (60 + a2) 0 1 2 (2 + (a0 % 201 - 2) / 2) ((a0 % 201 - 2) / 2 + 1) = 0 := by unfold szV; rw [if_neg (by omega)]
  have o0 : otherV 0 = 1 := by decide
  have o1 : otherV (bits .or .i64 a3 1) = 0 := by unfold otherV; rw [if_neg (or_one_ne a3)]
  obtain ⟨hs1, hs2, hs3, hs4, hs5, hs6⟩ := hS
  have m1 := mul_bd (by omega : (0:Int) ≤ (a0 % 201 - 2) / 2) (by omega : (a0 % 201 - 2) / 2 ≤ 99) (by omega : (0 : Int) ≤ a1 % 9) hs4
  have m2 := mul_bd m1.1 m1.2 (by omega : (0:Int) ≤ 60 + a2) hs6
  have k0 : (a3 != 0) = true := by rw [bne_iff_ne]; omega
  have k1 : (a3 != 1) = true := by rw [bne_iff_ne]; omega
  clear hk
  go_enter Tryz.func5, Tryz.ntmps5
  go_wp2_with (first
    | (go_at_call 24; refine (HM.out _).mono ?_; rintro e w1 ⟨rfl, hb1⟩; obtain ⟨hc1, hf1⟩ := bcell hb1; have hz1 : w.heap.size < w1.heap.size := (by have := hb1.size; simp at this; omega); obtain ⟨hy1, hy2, hy3⟩ : w.heap.size < w1.heap.size + 1 ∧ w.heap.size < w1.heap.size + 1 + 1 ∧ w.heap.size < w1.heap.size + 1 + 1 + 1 := (by omega); have B1 : Below w.heap.size w w1 := ((Below.refl _ _).alloc (Nat.le_refl _) _).trans (hb1.mono (by simp only [size_alloc]; omega)); have HB := Lib.hid (((B1.alloc (by omega) (.cells #[.int .i64 (a0 % 201), .int .i64 (a1 % 9), .int .i64 (60 + a2), .int .i64 0, .int .i64 1, .int .i64 2, .int .i64 (2 + (a0 % 201 - 2) / 2), .int .i64 ((a0 % 201 - 2) / 2)] 65)).alloc (by simp only [size_alloc]; omega) (.cells #[.int .i64 (a0 % 201), .int .i64 (a1 % 9), .int .i64 (60 + a2), .int .i64 0, .int .i64 1, .int .i64 2, .int .i64 (2 + (a0 % 201 - 2) / 2), .int .i64 ((a0 % 201 - 2) / 2)] 65)).alloc (by simp only [size_alloc]; omega) (.cells #[.int .i64 (a0 % 201), .int .i64 (a1 % 9), .int .i64 (60 + a2), .int .i64 0, .int .i64 1, .int .i64 2, .int .i64 (2 + (a0 % 201 - 2) / 2), .int .i64 ((a0 % 201 - 2) / 2 + 1)] 65)); clear B1)
    | (go_at_call 26; refine (HC.out _ _ _ _ _ _).mono ?_; rintro e w2 ⟨rfl, hb⟩; obtain ⟨hc, hf⟩ := bcell hb; obtain ⟨hz, hza, hzb, hzc⟩ : w.heap.size < w2.heap.size ∧ w1.heap.size < w2.heap.size ∧ w1.heap.size + 1 < w2.heap.size ∧ w1.heap.size + 1 + 1 < w2.heap.size := (by have := hb.size; (try simp at this); omega); have HB := Lib.hid (HB.out.trans (hb.mono (by first | omega | (simp only [size_alloc]; omega)))); clear hb)
    | (go_at_call 25; refine (HZ.out _ _ _ _ _ _).mono ?_; rintro e w2 ⟨rfl, hb⟩; obtain ⟨hc, hf⟩ := bcell hb; obtain ⟨hz, hza, hzb, hzc⟩ : w.heap.size < w2.heap.size ∧ w1.heap.size < w2.heap.size ∧ w1.heap.size + 1 < w2.heap.size ∧ w1.heap.size + 1 + 1 < w2.heap.size := (by have := hb.size; (try simp at this); omega); have HB := Lib.hid (HB.out.trans (hb.mono (by omega))); clear hb)
    | (go_at_call 27; refine (other_v _ _).mono ?_; rintro e w2 ⟨rfl, rfl⟩)
    | (go_at_call 28; refine (HBs.out _).mono ?_; rintro e w2 ⟨rfl, hb⟩; obtain ⟨hc, hf⟩ := bcell hb; obtain ⟨hz, hza, hzb, hzc⟩ : w.heap.size < w2.heap.size ∧ w1.heap.size < w2.heap.size ∧ w1.heap.size + 1 < w2.heap.size ∧ w1.heap.size + 1 + 1 < w2.heap.size := (by have := hb.size; (try simp at this); omega); have HB := Lib.hid (HB.out.trans (hb.mono (by omega))); clear hb)
    | (go_at_call 29; refine (HPg.out _).mono ?_; rintro e w2 ⟨rfl, hb⟩; obtain ⟨hc, hf⟩ := bcell hb; obtain ⟨hz, hza, hzb, hzc⟩ : w.heap.size < w2.heap.size ∧ w1.heap.size < w2.heap.size ∧ w1.heap.size + 1 < w2.heap.size ∧ w1.heap.size + 1 + 1 < w2.heap.size := (by have := hb.size; (try simp at this); omega); have HB := Lib.hid (HB.out.trans (hb.mono (by omega))); clear hb)
    | (go_at_call 30; refine (HSc.out _).mono ?_; rintro e w2 ⟨rfl, hb⟩; obtain ⟨hc, hf⟩ := bcell hb; obtain ⟨hz, hza, hzb, hzc⟩ : w.heap.size < w2.heap.size ∧ w1.heap.size < w2.heap.size ∧ w1.heap.size + 1 < w2.heap.size ∧ w1.heap.size + 1 + 1 < w2.heap.size := (by have := hb.size; (try simp at this); omega); have HB := Lib.hid (HB.out.trans (hb.mono (by omega))); clear hb)
    | (go_at_call 15; refine (live_any _).mono ?_; rintro e w2 ⟨rfl, hb⟩; have HB := Lib.hid (HB.out.trans (hb.mono (by omega))); clear hb))
  all_goals
    go_ret
    exact ⟨rfl, HB.out⟩
end Go.Proofs.YtooonpmiglhjpaaGreatDoor
