/-
  What part.Check, Size, Base, Page, Sector and Other tell of a plan that is one, and of some that are none.
-/
import Derived.Test.YtooonpmiglhjpaaGreatDoorPart0
import Derived.Test.YtooonpmiglhjpaaGreatDoorEqs
namespace Go.Proofs.YtooonpmiglhjpaaGreatDoor
open Go.RowKit

theorem eq_geo (d : Nat) (w : World) (x0 y0 x1 y1 x2 y2 : Int) :
    (Op.equalIn (d + 2) 62 (.agg #[.int .i64 x0, .int .i64 x1, .int .i64 x2]) (.agg #[.int .i64 y0, .int .i64 y1, .int .i64 y2])).run Tryz.prog w = .ok (x0 == y0 && (x1 == y1 && (x2 == y2 && true))) w := by
  refine eqA_of Tryz.underlying62 (by kernel_rfl) ?_
  refine eqf_cons (by rfl) (by go_simp; rfl) (by go_simp; rfl) (by go_simp) ?_
  refine eqf_cons (by rfl) (by go_simp; rfl) (by go_simp; rfl) (by go_simp) ?_
  exact eqf_cons (by rfl) (by go_simp; rfl) (by go_simp; rfl) (by go_simp) eqf_nil

theorem info_int2 : Tryz.prog.info? 3 = some (Tryz.prog.info? 3).get! := by kernel_rfl
theorem eq_two (d : Nat) (w : World) (x0 y0 x1 y1 : Int) :
    (Op.equalIn (d + 2) 63 (.agg #[.int .i64 x0, .int .i64 x1]) (.agg #[.int .i64 y0, .int .i64 y1])).run Tryz.prog w = .ok (decide ([x0, x1] = [y0, y1])) w :=
  run_equalIn_arr Tryz.underlying63 info_int2 Tryz.underlying3 (by kernel_rfl) d [x0, x1] [y0, y1] rfl rfl w

set_option maxRecDepth 100000 in
theorem eq_plan (d : Nat) (w : World) (x0 y0 x1 y1 x2 y2 x3 y3 x4 y4 x5 y5 x6 y6 x7 y7 : Int) :
    (Op.equalIn (d + 3) 65 (.agg #[.int .i64 x0, .int .i64 x1, .int .i64 x2, .int .i64 x3, .int .i64 x4, .int .i64 x5, .int .i64 x6, .int .i64 x7])
      (.agg #[.int .i64 y0, .int .i64 y1, .int .i64 y2, .int .i64 y3, .int .i64 y4, .int .i64 y5, .int .i64 y6, .int .i64 y7])).run Tryz.prog w = .ok (decide ([x0, x1, x2, x3, x4, x5, x6, x7] = [y0, y1, y2, y3, y4, y5, y6, y7])) w := by
  have h : (Op.equalIn (d + 3) 65 (.agg #[.int .i64 x0, .int .i64 x1, .int .i64 x2, .int .i64 x3, .int .i64 x4, .int .i64 x5, .int .i64 x6, .int .i64 x7])
      (.agg #[.int .i64 y0, .int .i64 y1, .int .i64 y2, .int .i64 y3, .int .i64 y4, .int .i64 y5, .int .i64 y6, .int .i64 y7])).run Tryz.prog w = .ok ((x0 == y0 && (x1 == y1 && (x2 == y2 && true))) && (decide ([x3, x4] = [y3, y4]) && (decide ([x5, x6] = [y5, y6]) && (x7 == y7 && true)))) w := by
    refine eqA_of Tryz.underlying65 (by kernel_rfl) ?_
    refine eqf_cons (by rfl) (by go_simp) (by go_simp) (eq_geo d w _ _ _ _ _ _) ?_
    refine eqf_cons (by rfl) (by go_simp) (by go_simp) (eq_two d w _ _ _ _) ?_
    refine eqf_cons (by rfl) (by go_simp) (by go_simp) (eq_two d w _ _ _ _) ?_
    exact eqf_cons (by rfl) (by go_simp; rfl) (by go_simp; rfl) (by go_simp) eqf_nil
  rw [h]
  congr 1
  rw [Bool.eq_iff_iff]
  simp
  constructor
  · rintro ⟨⟨h0, h1, h2⟩, ⟨h3, h4⟩, ⟨h5, h6⟩, h7⟩; exact ⟨h0, h1, h2, h3, h4, h5, h6, h7⟩
  · rintro ⟨h0, h1, h2, h3, h4, h5, h6, h7⟩; exact ⟨⟨h0, h1, h2⟩, ⟨h3, h4⟩, ⟨h5, h6⟩, h7⟩

def peq (xs ys : List Int) : Bool := decide (xs = ys)
theorem peq_true {xs ys : List Int} (h : xs = ys) : peq xs ys = true := by simp [peq, h]
theorem peq_false {xs ys : List Int} (h : ¬ xs = ys) : peq xs ys = false := by simp [peq, h]

theorem neq_plan (w : World) (x0 y0 x1 y1 x2 y2 x3 y3 x4 y4 x5 y5 x6 y6 x7 y7 : Int) :
    (binOp .neq 65 (.agg #[.int .i64 x0, .int .i64 x1, .int .i64 x2, .int .i64 x3, .int .i64 x4, .int .i64 x5, .int .i64 x6, .int .i64 x7])
      (.agg #[.int .i64 y0, .int .i64 y1, .int .i64 y2, .int .i64 y3, .int .i64 y4, .int .i64 y5, .int .i64 y6, .int .i64 y7])).run Tryz.prog w = .ok (.bool (!peq [x0, x1, x2, x3, x4, x5, x6, x7] [y0, y1, y2, y3, y4, y5, y6, y7])) w := by
  rw [run_neq_struct, eq_plan 9997]; rfl
theorem eql_plan (w : World) (x0 y0 x1 y1 x2 y2 x3 y3 x4 y4 x5 y5 x6 y6 x7 y7 : Int) :
    (binOp .eql 65 (.agg #[.int .i64 x0, .int .i64 x1, .int .i64 x2, .int .i64 x3, .int .i64 x4, .int .i64 x5, .int .i64 x6, .int .i64 x7])
      (.agg #[.int .i64 y0, .int .i64 y1, .int .i64 y2, .int .i64 y3, .int .i64 y4, .int .i64 y5, .int .i64 y6, .int .i64 y7])).run Tryz.prog w = .ok (.bool (peq [x0, x1, x2, x3, x4, x5, x6, x7] [y0, y1, y2, y3, y4, y5, y6, y7])) w := by
  rw [run_eql_struct, eq_plan 9997]; rfl

/-- a shape that has a plan -/
structure Shape (s p b : Int) : Prop where
  s4 : 4 ≤ s
  s200 : s ≤ 200
  p1 : 1 ≤ p
  p8 : p ≤ 8
  b64 : 64 ≤ b
  b315 : b ≤ 315

/-- a plan's value -/
def planA (x0 x1 x2 x3 x4 x5 x6 x7 : Int) : Value := .agg #[.int .i64 x0, .int .i64 x1, .int .i64 x2, .int .i64 x3, .int .i64 x4, .int .i64 x5, .int .i64 x6, .int .i64 x7]

/-- what part.Check tells where the shape has a plan -/
def chkV (s x3 x4 x5 x6 x7 : Int) : Int := if [x3, x4, x5, x6, x7] = [0, 1, 2, 2 + (s - 2) / 2, (s - 2) / 2] then 0 else 1

set_option maxRecDepth 100000 in
/-- part.Check at a shape that has a plan: it is that plan, or ErrArg -/
theorem check_shape (s p b x3 x4 x5 x6 x7 : Int) (w : World) (h : Shape s p b) :
    Calls Tryz.prog 26 #[planA s p b x3 x4 x5 x6 x7] w fun e w' => e = .returned (.int .i64 (chkV s x3 x4 x5 x6 x7)) ∧ Below w.heap.size w w' := by
  obtain ⟨h1, h2, h3, h4, h5, h6⟩ := h
  unfold planA
  have hne := neq_plan
  by_cases hx : [x3, x4, x5, x6, x7] = [0, 1, 2, 2 + (s - 2) / 2, (s - 2) / 2]
  · have X := Lib.hid hx
    have hd : peq [s, p, b, 0, 1, 2, 2 + (s - 2) / 2, (s - 2) / 2] [s, p, b, x3, x4, x5, x6, x7] = true := peq_true (by simpa using hx.symm)
    clear hx
    go_enter Tryz.func26, Tryz.ntmps26
    go_wp2_with (go_at_call 24; refine (make_ok _ _ _ _ h1 h2 h3 h4 h5 h6).mono ?_; unfold planV; rintro e w1 ⟨rfl, hb⟩; obtain ⟨hc, hf⟩ := bcell hb; have hz : w.heap.size < w1.heap.size := by have := hb.size; simp at this; omega)
    go_ret
    have hB : Below w.heap.size w w1 := ((Below.refl _ _).alloc (Nat.le_refl _) _).trans (hb.mono (by simp))
    refine ⟨ret_int (by unfold chkV; rw [if_pos X.out]), ?_⟩
    exact hB.alloc (Nat.le_of_lt hz) _
  · have X := Lib.hid hx
    have hd : peq [s, p, b, 0, 1, 2, 2 + (s - 2) / 2, (s - 2) / 2] [s, p, b, x3, x4, x5, x6, x7] = false := peq_false (fun e => hx (by simpa using e.symm))
    clear hx
    go_enter Tryz.func26, Tryz.ntmps26
    go_wp2_with (go_at_call 24; refine (make_ok _ _ _ _ h1 h2 h3 h4 h5 h6).mono ?_; unfold planV; rintro e w1 ⟨rfl, hb⟩; obtain ⟨hc, hf⟩ := bcell hb; have hz : w.heap.size < w1.heap.size := by have := hb.size; simp at this; omega)
    go_ret
    have hB : Below w.heap.size w w1 := ((Below.refl _ _).alloc (Nat.le_refl _) _).trans (hb.mono (by simp))
    refine ⟨ret_int (by unfold chkV; rw [if_neg X.out]), ?_⟩
    exact hB.alloc (Nat.le_of_lt hz) _

theorem chkV_good (s : Int) : chkV s 0 1 2 (2 + (s - 2) / 2) ((s - 2) / 2) = 0 := by simp [chkV]
theorem chkV_other (s x : Int) (h : x ≠ (s - 2) / 2) : chkV s 0 1 2 (2 + (s - 2) / 2) x = 1 := by simp [chkV, h]

/-- part.Check where the shape has none -/
theorem check_bad (s p b x3 x4 x5 x6 x7 : Int) (w : World) (h : s < 4 ∨ p < 1 ∨ b < 64) (h2 : s ≤ 200) (h4 : p ≤ 8) (h5 : 0 ≤ b) (h6 : b ≤ 315) :
    Calls Tryz.prog 26 #[planA s p b x3 x4 x5 x6 x7] w fun e w' => e = .returned (.int .i64 1) ∧ Below w.heap.size w w' := by
  unfold planA
  have H := Lib.hid h
  clear h
  go_enter Tryz.func26, Tryz.ntmps26
  go_wp2_with (go_at_call 24; refine (make_bad _ _ _ _ H.out h2 h4 h5 h6).mono ?_; unfold planZ; rintro e w1 ⟨rfl, hb⟩; obtain ⟨hc, hf⟩ := bcell hb; have hz : w.heap.size < w1.heap.size := by have := hb.size; simp at this; omega)
  go_ret
  have hB : Below w.heap.size w w1 := ((Below.refl _ _).alloc (Nat.le_refl _) _).trans (hb.mono (by simp))
  refine ⟨rfl, ?_⟩
  exact hB.alloc (Nat.le_of_lt hz) _

theorem size_bad (s p b x3 x4 x5 x6 x7 : Int) (w : World) (h : s < 4 ∨ p < 1 ∨ b < 64) (h2 : s ≤ 200) (h4 : p ≤ 8) (h5 : 0 ≤ b) (h6 : b ≤ 315) :
    Calls Tryz.prog 25 #[planA s p b x3 x4 x5 x6 x7] w fun e w' => e = .returned (.int .i64 0) ∧ Below w.heap.size w w' := by
  have C := fun w => check_bad s p b x3 x4 x5 x6 x7 w h h2 h4 h5 h6
  have H := Lib.hid C
  clear C h
  unfold planA at H ⊢
  go_enter Tryz.func25, Tryz.ntmps25
  go_wp2_with (go_at_call 26; refine (H.out _).mono ?_; rintro e w1 ⟨rfl, hb⟩; obtain ⟨hc, hf⟩ := bcell hb)
  go_ret
  exact ⟨rfl, ((Below.refl _ _).alloc (Nat.le_refl _) _).trans (hb.mono (by simp))⟩

theorem size_no (s p b x3 x4 x5 x6 x7 : Int) (w : World) (h : Shape s p b) (hv : chkV s x3 x4 x5 x6 x7 = 1) :
    Calls Tryz.prog 25 #[planA s p b x3 x4 x5 x6 x7] w fun e w' => e = .returned (.int .i64 0) ∧ Below w.heap.size w w' := by
  have C := fun w => check_shape s p b x3 x4 x5 x6 x7 w h
  rw [hv] at C
  have H := Lib.hid C
  clear C hv h
  unfold planA at H ⊢
  go_enter Tryz.func25, Tryz.ntmps25
  go_wp2_with (go_at_call 26; refine (H.out _).mono ?_; rintro e w1 ⟨rfl, hb⟩; obtain ⟨hc, hf⟩ := bcell hb)
  go_ret
  exact ⟨rfl, ((Below.refl _ _).alloc (Nat.le_refl _) _).trans (hb.mono (by simp))⟩

/-- the plan of a shape -/
def planOf (s p b : Int) : Value := planA s p b 0 1 2 (2 + (s - 2) / 2) ((s - 2) / 2)

theorem check_of (s p b : Int) (w : World) (h : Shape s p b) :
    Calls Tryz.prog 26 #[planOf s p b] w fun e w' => e = .returned (.int .i64 0) ∧ Below w.heap.size w w' := by
  have C := check_shape s p b 0 1 2 (2 + (s - 2) / 2) ((s - 2) / 2) w h
  rw [chkV_good] at C
  exact C

theorem size_of_ (s p b : Int) (w : World) (h : Shape s p b) :
    Calls Tryz.prog 25 #[planOf s p b] w fun e w' => e = .returned (.int .i64 ((s - 2) / 2 * p * b)) ∧ Below w.heap.size w w' := by
  have C := fun w => check_of s p b w h
  have H := Lib.hid C
  obtain ⟨h1, h2, h3, h4, h5, h6⟩ := h
  have m1 := mul_bd (by omega : (0:Int) ≤ (s - 2) / 2) (by omega : (s - 2) / 2 ≤ 99) (by omega : (0 : Int) ≤ p) h4
  have m2 := mul_bd m1.1 m1.2 (by omega : (0:Int) ≤ b) h6
  clear C
  unfold planOf planA at H ⊢
  go_enter Tryz.func25, Tryz.ntmps25
  go_wp2_with (go_at_call 26; refine (H.out _).mono ?_; rintro e w1 ⟨rfl, hb⟩; obtain ⟨hc, hf⟩ := bcell hb)
  go_ret
  exact ⟨rfl, ((Below.refl _ _).alloc (Nat.le_refl _) _).trans (hb.mono (by simp))⟩

/-- what part.right tells of a plan that is one -/
def rightV (k at_ n : Int) : Int := if k ≠ 0 ∧ k ≠ 1 then 1 else if at_ < 0 ∨ n ≤ at_ then 9 else 0

theorem right_of (s p b k at_ n : Int) (w : World) (h : Shape s p b) :
    Calls Tryz.prog 52 #[planOf s p b, .int .i64 k, .int .i64 at_, .int .i64 n] w fun e w' => e = .returned (.int .i64 (rightV k at_ n)) ∧ Below w.heap.size w w' := by
  have C := fun w => check_of s p b w h
  have H := Lib.hid C
  clear C h
  unfold planOf planA at H ⊢
  by_cases hk : k = 0 ∨ k = 1
  · by_cases ha : at_ < 0
    · have X : Hid (rightV k at_ n = 9) := by show _ = _; unfold rightV; rw [if_neg (by omega), if_pos (by omega)]
      rcases hk with rfl | rfl
      all_goals
        go_enter Tryz.func52, Tryz.ntmps52
        go_wp2_with (go_at_call 26; refine (H.out _).mono ?_; rintro e w1 ⟨rfl, hb⟩; obtain ⟨hc, hf⟩ := bcell hb)
        go_ret
        exact ⟨ret_int X.out.symm, ((Below.refl _ _).alloc (Nat.le_refl _) _).trans (hb.mono (by simp))⟩
    · by_cases hn : n ≤ at_
      · have X : Hid (rightV k at_ n = 9) := by show _ = _; unfold rightV; rw [if_neg (by omega), if_pos (by omega)]
        rcases hk with rfl | rfl
        all_goals
          go_enter Tryz.func52, Tryz.ntmps52
          go_wp2_with (go_at_call 26; refine (H.out _).mono ?_; rintro e w1 ⟨rfl, hb⟩; obtain ⟨hc, hf⟩ := bcell hb)
          go_ret
          exact ⟨ret_int X.out.symm, ((Below.refl _ _).alloc (Nat.le_refl _) _).trans (hb.mono (by simp))⟩
      · have X : Hid (rightV k at_ n = 0) := by show _ = _; unfold rightV; rw [if_neg (by omega), if_neg (by omega)]
        rcases hk with rfl | rfl
        all_goals
          go_enter Tryz.func52, Tryz.ntmps52
          go_wp2_with (go_at_call 26; refine (H.out _).mono ?_; rintro e w1 ⟨rfl, hb⟩; obtain ⟨hc, hf⟩ := bcell hb)
          go_ret
          exact ⟨ret_int X.out.symm, ((Below.refl _ _).alloc (Nat.le_refl _) _).trans (hb.mono (by simp))⟩
  · have X : Hid (rightV k at_ n = 1) := by show _ = _; unfold rightV; rw [if_pos (by omega)]
    have k0 : (k != 0) = true := by rw [bne_iff_ne]; omega
    have k1 : (k != 1) = true := by rw [bne_iff_ne]; omega
    clear hk
    go_enter Tryz.func52, Tryz.ntmps52
    go_wp2_with (go_at_call 26; refine (H.out _).mono ?_; rintro e w1 ⟨rfl, hb⟩; obtain ⟨hc, hf⟩ := bcell hb)
    go_ret
    exact ⟨ret_int X.out.symm, ((Below.refl _ _).alloc (Nat.le_refl _) _).trans (hb.mono (by simp))⟩

theorem other_any (k : Int) (w : World) :
    Calls Tryz.prog 27 #[.int .i64 k] w fun e w' => e = .returned (.int .i64 (if k = 0 then 1 else 0)) ∧ w = w' := by
  by_cases h : k = 0
  · subst h
    go_enter Tryz.func27, Tryz.ntmps27
    go_wp2
    go_ret
    exact ⟨rfl, rfl⟩
  · have h0 : (k == 0) = false := by simpa using h
    rw [if_neg h]
    clear h
    go_enter Tryz.func27, Tryz.ntmps27
    go_wp2
    go_ret
    exact ⟨rfl, rfl⟩
end Go.Proofs.YtooonpmiglhjpaaGreatDoor
