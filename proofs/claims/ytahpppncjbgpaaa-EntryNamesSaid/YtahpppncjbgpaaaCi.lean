/- the references of data and records; where entries lie -/
import Derived.Test.YtahpppncjbgpaaaCh
import Derived.Test.YtahpppncjbgpaaaLn
namespace Go.Proofs.Ytahpppncjbgpaaa
open Go.RowKit Go.Shelf
set_option linter.unusedVariables false
set_option linter.unusedSimpArgs false

theorem bu_123_0 (x0 : Bool) : Try.prog.built 123 [(0, .bool x0)] = some [.bool x0, .bool false, .bool false, .bool false, .bool false, .int .i64 0, .int .i64 0].toArray := by kernel_rfl
theorem bu_123_1_2_5_6 (x0 : Bool) (x1 : Bool) (x2 : Int) (x3 : Int) : Try.prog.built 123 [(1, .bool x0), (2, .bool x1), (5, .int .i64 x2), (6, .int .i64 x3)] = some [.bool false, .bool x0, .bool x1, .bool false, .bool false, .int .i64 x2, .int .i64 x3].toArray := by kernel_rfl
theorem bu_123_1_5_6 (x0 : Bool) (x1 : Int) (x2 : Int) : Try.prog.built 123 [(1, .bool x0), (5, .int .i64 x1), (6, .int .i64 x2)] = some [.bool false, .bool x0, .bool false, .bool false, .bool false, .int .i64 x1, .int .i64 x2].toArray := by kernel_rfl
theorem bu_123_1 (x0 : Bool) : Try.prog.built 123 [(1, .bool x0)] = some [.bool false, .bool x0, .bool false, .bool false, .bool false, .int .i64 0, .int .i64 0].toArray := by kernel_rfl
theorem bu_123_3 (x0 : Bool) : Try.prog.built 123 [(3, .bool x0)] = some [.bool false, .bool false, .bool false, .bool x0, .bool false, .int .i64 0, .int .i64 0].toArray := by kernel_rfl
theorem bu_123_4 (x0 : Bool) : Try.prog.built 123 [(4, .bool x0)] = some [.bool false, .bool false, .bool false, .bool false, .bool x0, .int .i64 0, .int .i64 0].toArray := by kernel_rfl
theorem bu_54 : Try.prog.built 54 [] = some [.bool false, .int .u64 0, .int .u64 0].toArray := by kernel_rfl
theorem ent_63 : Enters Try.prog 63 := enters_of Try.func63 (by kernel_rfl) rfl
theorem ent_64 : Enters Try.prog 64 := enters_of Try.func64 (by kernel_rfl) rfl
theorem ent_65 : Enters Try.prog 65 := enters_of Try.func65 (by kernel_rfl) rfl
theorem ent_90 : Enters Try.prog 90 := enters_of Try.func90 (by kernel_rfl) rfl
theorem ent_91 : Enters Try.prog 91 := enters_of Try.func91 (by kernel_rfl) rfl
theorem ent_98 : Enters Try.prog 98 := enters_of Try.func98 (by kernel_rfl) rfl
theorem fa_123_0 : FA Try.prog 123 0 0 := fun b o w => by kernel_rfl
theorem fa_123_1 : FA Try.prog 123 1 1 := fun b o w => by kernel_rfl
theorem fa_123_2 : FA Try.prog 123 2 2 := fun b o w => by kernel_rfl
theorem fa_123_3 : FA Try.prog 123 3 3 := fun b o w => by kernel_rfl
theorem fa_123_4 : FA Try.prog 123 4 4 := fun b o w => by kernel_rfl
theorem fa_123_5 : FA Try.prog 123 5 5 := fun b o w => by kernel_rfl
theorem fa_123_6 : FA Try.prog 123 6 6 := fun b o w => by kernel_rfl
theorem fa_58_0 : FA Try.prog 58 0 0 := fun b o w => by kernel_rfl
theorem fa_58_1 : FA Try.prog 58 1 3 := fun b o w => by kernel_rfl
theorem fa_58_2 : FA Try.prog 58 2 4 := fun b o w => by kernel_rfl
theorem fa_58_3 : FA Try.prog 58 3 5 := fun b o w => by kernel_rfl
theorem fa_58_4 : FA Try.prog 58 4 10 := fun b o w => by kernel_rfl
theorem fa_58_5 : FA Try.prog 58 5 11 := fun b o w => by kernel_rfl
theorem fa_60_0 : FA Try.prog 60 0 0 := fun b o w => by kernel_rfl
theorem fa_60_1 : FA Try.prog 60 1 1 := fun b o w => by kernel_rfl
theorem fa_60_2 : FA Try.prog 60 2 2 := fun b o w => by kernel_rfl
theorem fa_60_3 : FA Try.prog 60 3 3 := fun b o w => by kernel_rfl
theorem ty_123 : TyI Try.prog 123 true 7 24 (.agg #[.bool false, .bool false, .bool false, .bool false, .bool false, .int .i64 0, .int .i64 0]) := TyI.mk' (by kernel_rfl) (fun _ => by kernel_rfl)
theorem ty_55 : TyI Try.prog 55 true 5 20 (.agg #[.int .u32 0, .int .u32 0, .int .u32 0, .int .u32 0, .int .u32 0]) := TyI.mk' (by kernel_rfl) (fun _ => by kernel_rfl)


/-- What a type has. -/
structure Hs where
  addr : Bool
  name : Bool
  mail : Bool
  texts : Bool
  raw : Bool
  nums : Int
  wide : Int
def hsC (h : Hs) : List Value := [.bool h.addr, .bool h.name, .bool h.mail, .bool h.texts, .bool h.raw, .int .i64 h.nums, .int .i64 h.wide]
def hasT (t : Int) : Hs :=
  if t = 1 ∨ t = 28 then ⟨true, false, false, false, false, 0, 0⟩
  else if t = 2 ∨ t = 5 ∨ t = 12 then ⟨false, true, false, false, false, 0, 0⟩
  else if t = 6 then ⟨false, true, true, false, false, 5, 4⟩
  else if t = 15 then ⟨false, true, false, false, false, 1, 2⟩
  else if t = 33 then ⟨false, true, false, false, false, 3, 2⟩
  else if t = 16 then ⟨false, false, false, true, false, 0, 0⟩
  else ⟨false, false, false, false, true, 0, 0⟩
theorem has_wide (t : Int) : 0 ≤ (hasT t).nums * (hasT t).wide ∧ (hasT t).nums * (hasT t).wide ≤ 20 := by
  unfold hasT
  repeat' split
  all_goals simp
def numD (d : Dt) : Nat → Int
  | 0 => d.n0
  | 1 => d.n1
  | 2 => d.n2
  | 3 => d.n3
  | _ => d.n4
theorem dt_num {d : Dt} {k : Nat} (h : k < 5) : (dtC d)[5 + k * 1]? = some (.int .u32 (numD d k)) := by
  match k, h with
  | 0, _ => rfl
  | 1, _ => rfl
  | 2, _ => rfl
  | 3, _ => rfl
  | 4, _ => rfl
  | n + 5, h => omega
def hasBad (h : Hs) (d : Dt) : Prop := (h.addr = false ∧ d.ad ≠ ad0) ∨ (h.name = false ∧ d.name ≠ []) ∨ (h.mail = false ∧ d.mail ≠ []) ∨ (h.raw = false ∧ d.raw ≠ []) ∨ h.texts = true
instance (h : Hs) (d : Dt) : Decidable (hasBad h d) := by unfold hasBad; infer_instance
def adBad (t : Int) (h : Hs) (d : Dt) : Prop := h.addr = true ∧ (addrCk d.ad ≠ 0 ∨ d.ad.six ≠ decide (t = 28))
instance (t : Int) (h : Hs) (d : Dt) : Decidable (adBad t h d) := by unfold adBad; infer_instance
def numOk (h : Hs) (d : Dt) (k : Nat) : Prop := ¬ (h.nums ≤ k ∧ numD d k ≠ 0) ∧ ¬ (h.wide = 2 ∧ 65535 < numD d k)
instance (h : Hs) (d : Dt) (k : Nat) : Decidable (numOk h d k) := by unfold numOk; infer_instance
def numsOk (h : Hs) (d : Dt) : Prop := ∀ k, k < 5 → numOk h d k
instance (h : Hs) (d : Dt) : Decidable (numsOk h d) := by unfold numsOk; exact Nat.decidableBallLT 5 _
def dn (d : Dt) : Int := if nameCk d.name = 0 then nameCk d.mail else nameCk d.name
/-- ref09.check. -/
def dataCk (t : Int) (d : Dt) : Int := if t < 0 ∨ 65535 < t then 2 else if hasBad (hasT t) d then 2 else if adBad t (hasT t) d then 2 else if numsOk (hasT t) d then dn d else 2
def sizeD (t : Int) (d : Dt) : Int := (hasT t).nums * (hasT t).wide + d.raw.length + (if (hasT t).name = true then (d.name.length : Int) + 1 else 0) + (if (hasT t).mail = true then (d.mail.length : Int) + 1 else 0) + (if t = 1 then 4 else 0) + (if t = 28 then 16 else 0)
/-- ref09.Check. -/
def dataCk2 (t : Int) (d : Dt) : Int := if dataCk t d = 0 ∧ 65535 < sizeD t d then 3 else dataCk t d
def sixteenI (n : Int) : Bool := decide (0 ≤ n) && decide (n ≤ 65535)
/-- ref10.Check. -/
def rcCk (r : Rc) : Int := if nameCk r.name ≠ 0 then nameCk r.name else if sixteenI r.ty = false ∨ sixteenI r.cl = false then 2 else dataCk2 r.ty r.dt
theorem not_true_of {b : Bool} (h : b = false) : ¬ b = true := by rw [h]; decide
theorem wild_guard {b : Bool} (h : ¬ b = true) : b = false := by cases b <;> simp_all


theorem c_ref09_has (t : Int) : Pure Try.prog 98 #[.int .i64 t] (.agg (hsC (hasT t)).toArray) := by
  intro w0
  refine calls_of_W (ok0 := no) (S := []) (args := [.int .i64 t]) 26 Try.func98 rfl rfl rfl (by simp) (by simp) ?_
  refine w_seq ?_
  refine w_region ?_
  refine o_alloc ty_123 rfl rfl (fun b1 => ?_)
  refine wl_nil ?_
  refine e_seq ?_
  refine w_seq ?_
  refine w_seq ?_
  refine w_region ?_
  refine o_y (y_move rfl) rfl rfl ?_
  refine wl_nil ?_
  refine e_seq ?_
  refine w_block ?_
  refine w_seq ?_
  refine w_seq ?_
  refine w_region ?_
  refine o_y (y_eql rfl rfl) rfl rfl ?_
  refine wl_splitp (t := 5) rfl (fun h2_0 => ?_) (fun h2_0 => ?_)
  · skip
    refine o_y (y_assign rfl) rfl rfl ?_
    refine wl_nil ?_
    refine e_seq ?_
    refine w_cond_t rfl ?_
    refine w_skip ?_
    refine e_seq ?_
    refine w_cond_t rfl ?_
    refine w_seq ?_
    refine w_region ?_
    refine o_y (y_build rfl (bu_123_0 _)) rfl rfl ?_
    refine o_store ty_123 rfl rfl rfl .z rfl rfl rfl rfl ?_
    refine wl_nil ?_
    refine e_seq ?_
    refine w_ret ?_
    refine e_blk_ret ?_
    refine e_seq_ret ?_
    refine e_rsr (rs := [.cell 2 123]) rfl (rs_cells 0 ty_123 rfl rfl rfl rfl rs_nil) rfl (fun w hw => ?_)
    have hq : hasT t = ⟨true, false, false, false, false, 0, 0⟩ := by simp [hasT, *]
    exact ⟨by rw [hq]; rfl, hw.base⟩
  · skip
    refine o_y (y_assign rfl) rfl rfl ?_
    refine wl_nil ?_
    refine e_seq ?_
    refine w_cond_f rfl ?_
    refine w_region ?_
    refine o_y (y_eql rfl rfl) rfl rfl ?_
    refine wl_splitp (t := 6) rfl (fun h3_0 => ?_) (fun h3_0 => ?_)
    · skip
      refine o_y (y_assign rfl) rfl rfl ?_
      refine wl_nil ?_
      refine e_seq ?_
      refine w_cond_t rfl ?_
      refine w_seq ?_
      refine w_region ?_
      refine o_y (y_build rfl (bu_123_0 _)) rfl rfl ?_
      refine o_store ty_123 rfl rfl rfl .z rfl rfl rfl rfl ?_
      refine wl_nil ?_
      refine e_seq ?_
      refine w_ret ?_
      refine e_blk_ret ?_
      refine e_seq_ret ?_
      refine e_rsr (rs := [.cell 2 123]) rfl (rs_cells 0 ty_123 rfl rfl rfl rfl rs_nil) rfl (fun w hw => ?_)
      have hq : hasT t = ⟨true, false, false, false, false, 0, 0⟩ := by simp [hasT, *]
      exact ⟨by rw [hq]; rfl, hw.base⟩
    · skip
      refine o_y (y_assign rfl) rfl rfl ?_
      refine wl_nil ?_
      refine e_seq ?_
      refine w_cond_f rfl ?_
      refine w_seq ?_
      refine w_seq ?_
      refine w_region ?_
      refine o_y (y_eql rfl rfl) rfl rfl ?_
      refine wl_splitp (t := 9) rfl (fun h5_0 => ?_) (fun h5_0 => ?_)
      · skip
        refine o_y (y_assign rfl) rfl rfl ?_
        refine wl_nil ?_
        refine e_seq ?_
        refine w_cond_t rfl ?_
        refine w_skip ?_
        refine e_seq ?_
        refine w_cond_t rfl ?_
        refine w_seq ?_
        refine w_region ?_
        refine o_y (y_build rfl (bu_123_1 _)) rfl rfl ?_
        refine o_store ty_123 rfl rfl rfl .z rfl rfl rfl rfl ?_
        refine wl_nil ?_
        refine e_seq ?_
        refine w_ret ?_
        refine e_blk_ret ?_
        refine e_seq_ret ?_
        refine e_rsr (rs := [.cell 2 123]) rfl (rs_cells 0 ty_123 rfl rfl rfl rfl rs_nil) rfl (fun w hw => ?_)
        have hq : hasT t = ⟨false, true, false, false, false, 0, 0⟩ := by simp [hasT, *]
        exact ⟨by rw [hq]; rfl, hw.base⟩
      · skip
        refine o_y (y_assign rfl) rfl rfl ?_
        refine wl_nil ?_
        refine e_seq ?_
        refine w_cond_f rfl ?_
        refine w_seq ?_
        refine w_region ?_
        refine o_y (y_eql rfl rfl) rfl rfl ?_
        refine wl_splitp (t := 10) rfl (fun h6_0 => ?_) (fun h6_0 => ?_)
        · skip
          refine o_y (y_assign rfl) rfl rfl ?_
          refine wl_nil ?_
          refine e_seq ?_
          refine w_cond_t rfl ?_
          refine w_skip ?_
          refine e_seq ?_
          refine w_cond_t rfl ?_
          refine w_seq ?_
          refine w_region ?_
          refine o_y (y_build rfl (bu_123_1 _)) rfl rfl ?_
          refine o_store ty_123 rfl rfl rfl .z rfl rfl rfl rfl ?_
          refine wl_nil ?_
          refine e_seq ?_
          refine w_ret ?_
          refine e_blk_ret ?_
          refine e_seq_ret ?_
          refine e_rsr (rs := [.cell 2 123]) rfl (rs_cells 0 ty_123 rfl rfl rfl rfl rs_nil) rfl (fun w hw => ?_)
          have hq : hasT t = ⟨false, true, false, false, false, 0, 0⟩ := by simp [hasT, *]
          exact ⟨by rw [hq]; rfl, hw.base⟩
        · skip
          refine o_y (y_assign rfl) rfl rfl ?_
          refine wl_nil ?_
          refine e_seq ?_
          refine w_cond_f rfl ?_
          refine w_region ?_
          refine o_y (y_eql rfl rfl) rfl rfl ?_
          refine wl_splitp (t := 11) rfl (fun h7_0 => ?_) (fun h7_0 => ?_)
          · skip
            refine o_y (y_assign rfl) rfl rfl ?_
            refine wl_nil ?_
            refine e_seq ?_
            refine w_cond_t rfl ?_
            refine w_seq ?_
            refine w_region ?_
            refine o_y (y_build rfl (bu_123_1 _)) rfl rfl ?_
            refine o_store ty_123 rfl rfl rfl .z rfl rfl rfl rfl ?_
            refine wl_nil ?_
            refine e_seq ?_
            refine w_ret ?_
            refine e_blk_ret ?_
            refine e_seq_ret ?_
            refine e_rsr (rs := [.cell 2 123]) rfl (rs_cells 0 ty_123 rfl rfl rfl rfl rs_nil) rfl (fun w hw => ?_)
            have hq : hasT t = ⟨false, true, false, false, false, 0, 0⟩ := by simp [hasT, *]
            exact ⟨by rw [hq]; rfl, hw.base⟩
          · skip
            refine o_y (y_assign rfl) rfl rfl ?_
            refine wl_nil ?_
            refine e_seq ?_
            refine w_cond_f rfl ?_
            refine w_seq ?_
            refine w_region ?_
            refine o_y (y_eql rfl rfl) rfl rfl ?_
            refine wl_splitp (t := 14) rfl (fun h9_0 => ?_) (fun h9_0 => ?_)
            · skip
              refine o_y (y_assign rfl) rfl rfl ?_
              refine wl_nil ?_
              refine e_seq ?_
              refine w_cond_t rfl ?_
              refine w_seq ?_
              refine w_region ?_
              refine o_y (y_build rfl (bu_123_1_2_5_6 _ _ _ _)) rfl rfl ?_
              refine o_store ty_123 rfl rfl rfl .z rfl rfl rfl rfl ?_
              refine wl_nil ?_
              refine e_seq ?_
              refine w_ret ?_
              refine e_blk_ret ?_
              refine e_seq_ret ?_
              refine e_rsr (rs := [.cell 2 123]) rfl (rs_cells 0 ty_123 rfl rfl rfl rfl rs_nil) rfl (fun w hw => ?_)
              have hq : hasT t = ⟨false, true, true, false, false, 5, 4⟩ := by simp [hasT, *]
              exact ⟨by rw [hq]; rfl, hw.base⟩
            · skip
              refine o_y (y_assign rfl) rfl rfl ?_
              refine wl_nil ?_
              refine e_seq ?_
              refine w_cond_f rfl ?_
              refine w_seq ?_
              refine w_region ?_
              refine o_y (y_eql rfl rfl) rfl rfl ?_
              refine wl_splitp (t := 17) rfl (fun h11_0 => ?_) (fun h11_0 => ?_)
              · skip
                refine o_y (y_assign rfl) rfl rfl ?_
                refine wl_nil ?_
                refine e_seq ?_
                refine w_cond_t rfl ?_
                refine w_seq ?_
                refine w_region ?_
                refine o_y (y_build rfl (bu_123_1_5_6 _ _ _)) rfl rfl ?_
                refine o_store ty_123 rfl rfl rfl .z rfl rfl rfl rfl ?_
                refine wl_nil ?_
                refine e_seq ?_
                refine w_ret ?_
                refine e_blk_ret ?_
                refine e_seq_ret ?_
                refine e_rsr (rs := [.cell 2 123]) rfl (rs_cells 0 ty_123 rfl rfl rfl rfl rs_nil) rfl (fun w hw => ?_)
                have hq : hasT t = ⟨false, true, false, false, false, 1, 2⟩ := by simp [hasT, *]
                exact ⟨by rw [hq]; rfl, hw.base⟩
              · skip
                refine o_y (y_assign rfl) rfl rfl ?_
                refine wl_nil ?_
                refine e_seq ?_
                refine w_cond_f rfl ?_
                refine w_seq ?_
                refine w_region ?_
                refine o_y (y_eql rfl rfl) rfl rfl ?_
                refine wl_splitp (t := 20) rfl (fun h13_0 => ?_) (fun h13_0 => ?_)
                · skip
                  refine o_y (y_assign rfl) rfl rfl ?_
                  refine wl_nil ?_
                  refine e_seq ?_
                  refine w_cond_t rfl ?_
                  refine w_seq ?_
                  refine w_region ?_
                  refine o_y (y_build rfl (bu_123_1_5_6 _ _ _)) rfl rfl ?_
                  refine o_store ty_123 rfl rfl rfl .z rfl rfl rfl rfl ?_
                  refine wl_nil ?_
                  refine e_seq ?_
                  refine w_ret ?_
                  refine e_blk_ret ?_
                  refine e_seq_ret ?_
                  refine e_rsr (rs := [.cell 2 123]) rfl (rs_cells 0 ty_123 rfl rfl rfl rfl rs_nil) rfl (fun w hw => ?_)
                  have hq : hasT t = ⟨false, true, false, false, false, 3, 2⟩ := by simp [hasT, *]
                  exact ⟨by rw [hq]; rfl, hw.base⟩
                · skip
                  refine o_y (y_assign rfl) rfl rfl ?_
                  refine wl_nil ?_
                  refine e_seq ?_
                  refine w_cond_f rfl ?_
                  refine w_seq ?_
                  refine w_region ?_
                  refine o_y (y_eql rfl rfl) rfl rfl ?_
                  refine wl_splitp (t := 23) rfl (fun h15_0 => ?_) (fun h15_0 => ?_)
                  · skip
                    refine o_y (y_assign rfl) rfl rfl ?_
                    refine wl_nil ?_
                    refine e_seq ?_
                    refine w_cond_t rfl ?_
                    refine w_seq ?_
                    refine w_region ?_
                    refine o_y (y_build rfl (bu_123_3 _)) rfl rfl ?_
                    refine o_store ty_123 rfl rfl rfl .z rfl rfl rfl rfl ?_
                    refine wl_nil ?_
                    refine e_seq ?_
                    refine w_ret ?_
                    refine e_blk_ret ?_
                    refine e_seq_ret ?_
                    refine e_rsr (rs := [.cell 2 123]) rfl (rs_cells 0 ty_123 rfl rfl rfl rfl rs_nil) rfl (fun w hw => ?_)
                    have hq : hasT t = ⟨false, false, false, true, false, 0, 0⟩ := by simp [hasT, *]
                    exact ⟨by rw [hq]; rfl, hw.base⟩
                  · skip
                    refine o_y (y_assign rfl) rfl rfl ?_
                    refine wl_nil ?_
                    refine e_seq ?_
                    refine w_cond_f rfl ?_
                    refine w_skip ?_
                    refine e_blk ?_
                    refine e_seq ?_
                    refine w_seq ?_
                    refine w_region ?_
                    refine o_y (y_build rfl (bu_123_4 _)) rfl rfl ?_
                    refine o_store ty_123 rfl rfl rfl .z rfl rfl rfl rfl ?_
                    refine wl_nil ?_
                    refine e_seq ?_
                    refine w_ret ?_
                    refine e_rsr (rs := [.cell 2 123]) rfl (rs_cells 0 ty_123 rfl rfl rfl rfl rs_nil) rfl (fun w hw => ?_)
                    have hq : hasT t = ⟨false, false, false, false, true, 0, 0⟩ := by simp [hasT, *]
                    exact ⟨by rw [hq]; rfl, hw.base⟩


theorem eqd_nums (a b : Dt) : EqD Try.prog 2 55 (.agg #[.int .u32 a.n0, .int .u32 a.n1, .int .u32 a.n2, .int .u32 a.n3, .int .u32 a.n4]) (.agg #[.int .u32 b.n0, .int .u32 b.n1, .int .u32 b.n2, .int .u32 b.n3, .int .u32 b.n4]) (decide (a.n0 = b.n0 ∧ a.n1 = b.n1 ∧ a.n2 = b.n2 ∧ a.n3 = b.n3 ∧ a.n4 = b.n4)) := by
  have h : EqD Try.prog 2 55 (.agg #[.int .u32 a.n0, .int .u32 a.n1, .int .u32 a.n2, .int .u32 a.n3, .int .u32 a.n4]) (.agg #[.int .u32 b.n0, .int .u32 b.n1, .int .u32 b.n2, .int .u32 b.n3, .int .u32 b.n4]) ((a.n0 == b.n0) && ((a.n1 == b.n1) && ((a.n2 == b.n2) && ((a.n3 == b.n3) && ((a.n4 == b.n4) && true))))) :=
    eqd_arr (n := 1) (c := 1) Try.underlying55 ty_46 (by kernel_rfl) (eqi_cons (v := .int .u32 a.n0) (u := .int .u32 b.n0) (fun _ => by kernel_rfl) (fun _ => by kernel_rfl) (eqd_int Try.underlying46) rfl (eqi_cons (v := .int .u32 a.n1) (u := .int .u32 b.n1) (fun _ => by kernel_rfl) (fun _ => by kernel_rfl) (eqd_int Try.underlying46) rfl (eqi_cons (v := .int .u32 a.n2) (u := .int .u32 b.n2) (fun _ => by kernel_rfl) (fun _ => by kernel_rfl) (eqd_int Try.underlying46) rfl (eqi_cons (v := .int .u32 a.n3) (u := .int .u32 b.n3) (fun _ => by kernel_rfl) (fun _ => by kernel_rfl) (eqd_int Try.underlying46) rfl (eqi_cons (v := .int .u32 a.n4) (u := .int .u32 b.n4) (fun _ => by kernel_rfl) (fun _ => by kernel_rfl) (eqd_int Try.underlying46) rfl eqi_nil)))))
  have e : ((a.n0 == b.n0) && ((a.n1 == b.n1) && ((a.n2 == b.n2) && ((a.n3 == b.n3) && ((a.n4 == b.n4) && true))))) = decide (a.n0 = b.n0 ∧ a.n1 = b.n1 ∧ a.n2 = b.n2 ∧ a.n3 = b.n3 ∧ a.n4 = b.n4) := by
    rw [Bool.eq_iff_iff]; simp
  rw [e] at h; exact h


set_option maxRecDepth 100000 in
theorem c_ref09_Same (a b : Dt) : Pure Try.prog 65 #[.agg (dtC a).toArray, .agg (dtC b).toArray] (.bool (decide (a = b))) := by
  intro w0
  refine calls_of_W (ok0 := no) (S := []) (args := [.agg (dtC a).toArray, .agg (dtC b).toArray]) 66 Try.func65 rfl rfl rfl (by simp) (by simp) ?_
  refine w_seq ?_
  refine w_region ?_
  refine o_box rfl rfl rfl (fun b1 => ?_)
  refine o_box rfl rfl rfl (fun b2 => ?_)
  refine o_y (y_assign rfl) rfl rfl ?_
  refine wl_nil ?_
  refine e_seq ?_
  refine w_seq ?_
  refine w_seq ?_
  refine w_region ?_
  refine o_y (y_field fa_58_0 rfl) rfl rfl ?_
  refine o_y (y_loadrs 1 ty_54 rfl rfl rfl rfl) rfl rfl ?_
  refine o_y (y_field fa_58_0 rfl) rfl rfl ?_
  refine o_y (y_loadrs 0 ty_54 rfl rfl rfl rfl) rfl rfl ?_
  refine o_y (y_nestd (by kernel_rfl) rfl rfl (eqd_ad _ _) rfl) rfl rfl ?_
  refine wl_splitp (t := 10) rfl (fun h1_4 => ?_) (fun h1_4 => ?_)
  · skip
    refine o_y (y_move rfl) rfl rfl ?_
    refine wl_gno rfl rfl rfl rfl ?_
    refine wl_gno rfl rfl rfl rfl ?_
    refine wl_gno rfl rfl rfl rfl ?_
    refine wl_gno rfl rfl rfl rfl ?_
    refine wl_gno rfl rfl rfl rfl ?_
    refine o_y (y_pick_t rfl rfl) rfl rfl ?_
    refine o_y (y_move rfl) rfl rfl ?_
    refine wl_gno rfl rfl rfl rfl ?_
    refine wl_gno rfl rfl rfl rfl ?_
    refine wl_gno rfl rfl rfl rfl ?_
    refine wl_gno rfl rfl rfl rfl ?_
    refine wl_gno rfl rfl rfl rfl ?_
    refine o_y (y_pick_t rfl rfl) rfl rfl ?_
    refine o_y (y_move rfl) rfl rfl ?_
    refine wl_gno rfl rfl rfl rfl ?_
    refine wl_gno rfl rfl rfl rfl ?_
    refine wl_gno rfl rfl rfl rfl ?_
    refine wl_gno rfl rfl rfl rfl ?_
    refine wl_gno rfl rfl rfl rfl ?_
    refine o_y (y_pick_t rfl rfl) rfl rfl ?_
    refine o_y (y_move rfl) rfl rfl ?_
    refine wl_gno rfl rfl rfl rfl ?_
    refine wl_gno rfl rfl rfl rfl ?_
    refine wl_gno rfl rfl rfl rfl ?_
    refine wl_gno rfl rfl rfl rfl ?_
    refine wl_gno rfl rfl rfl rfl ?_
    refine o_y (y_pick_t rfl rfl) rfl rfl ?_
    refine o_y (y_move rfl) rfl rfl ?_
    refine wl_gno rfl rfl rfl rfl ?_
    refine wl_gno rfl rfl rfl rfl ?_
    refine wl_gno rfl rfl rfl rfl ?_
    refine wl_gno rfl rfl rfl rfl ?_
    refine wl_gno rfl rfl rfl rfl ?_
    refine wl_gno rfl rfl rfl rfl ?_
    refine wl_gno rfl rfl rfl rfl ?_
    refine o_y (y_pick_t rfl rfl) rfl rfl ?_
    refine wl_nil ?_
    refine e_seq ?_
    refine w_cond_t rfl ?_
    refine w_seq ?_
    refine w_region ?_
    refine o_y (y_assign rfl) rfl rfl ?_
    refine wl_nil ?_
    refine e_seq ?_
    refine w_ret ?_
    refine e_seq_ret ?_
    refine e_ret (ts := [4]) rfl rfl rfl (fun w hw => ?_)
    refine ⟨?_, hw.base⟩
    show Ending.returned (.bool _) = _
    congr 2
    first
      | (have hne : a ≠ b := fun e => by
           subst e
           simp_all
         rw [decide_eq_false hne]
         done)
      | (have he : a = b := by
           cases a; cases b
           simp_all
         rw [decide_eq_true he]
         done)
      | (trace_state; fail)
  · skip
    refine o_y (y_move rfl) rfl rfl ?_
    refine wl_gyes rfl rfl ?_
    refine o_y (y_field fa_58_1 rfl) rfl rfl ?_
    refine wl_gyes rfl rfl ?_
    refine o_y (y_loadr 1 ty_22 rfl rfl rfl) rfl rfl ?_
    refine wl_gyes rfl rfl ?_
    refine o_y (y_field fa_58_1 rfl) rfl rfl ?_
    refine wl_gyes rfl rfl ?_
    refine o_y (y_loadr 0 ty_22 rfl rfl rfl) rfl rfl ?_
    refine wl_gyes rfl rfl ?_
    refine o_y (y_neqs rfl rfl) rfl rfl ?_
    refine wl_splitp (t := 16) rfl (fun h1_10 => ?_) (fun h1_10 => ?_)
    · skip
      refine o_y (y_pick_f rfl rfl) rfl rfl ?_
      refine o_y (y_move rfl) rfl rfl ?_
      refine wl_gno rfl rfl rfl rfl ?_
      refine wl_gno rfl rfl rfl rfl ?_
      refine wl_gno rfl rfl rfl rfl ?_
      refine wl_gno rfl rfl rfl rfl ?_
      refine wl_gno rfl rfl rfl rfl ?_
      refine o_y (y_pick_t rfl rfl) rfl rfl ?_
      refine o_y (y_move rfl) rfl rfl ?_
      refine wl_gno rfl rfl rfl rfl ?_
      refine wl_gno rfl rfl rfl rfl ?_
      refine wl_gno rfl rfl rfl rfl ?_
      refine wl_gno rfl rfl rfl rfl ?_
      refine wl_gno rfl rfl rfl rfl ?_
      refine o_y (y_pick_t rfl rfl) rfl rfl ?_
      refine o_y (y_move rfl) rfl rfl ?_
      refine wl_gno rfl rfl rfl rfl ?_
      refine wl_gno rfl rfl rfl rfl ?_
      refine wl_gno rfl rfl rfl rfl ?_
      refine wl_gno rfl rfl rfl rfl ?_
      refine wl_gno rfl rfl rfl rfl ?_
      refine o_y (y_pick_t rfl rfl) rfl rfl ?_
      refine o_y (y_move rfl) rfl rfl ?_
      refine wl_gno rfl rfl rfl rfl ?_
      refine wl_gno rfl rfl rfl rfl ?_
      refine wl_gno rfl rfl rfl rfl ?_
      refine wl_gno rfl rfl rfl rfl ?_
      refine wl_gno rfl rfl rfl rfl ?_
      refine wl_gno rfl rfl rfl rfl ?_
      refine wl_gno rfl rfl rfl rfl ?_
      refine o_y (y_pick_t rfl rfl) rfl rfl ?_
      refine wl_nil ?_
      refine e_seq ?_
      refine w_cond_t rfl ?_
      refine w_seq ?_
      refine w_region ?_
      refine o_y (y_assign rfl) rfl rfl ?_
      refine wl_nil ?_
      refine e_seq ?_
      refine w_ret ?_
      refine e_seq_ret ?_
      refine e_ret (ts := [4]) rfl rfl rfl (fun w hw => ?_)
      refine ⟨?_, hw.base⟩
      show Ending.returned (.bool _) = _
      congr 2
      first
        | (have hne : a ≠ b := fun e => by
             subst e
             simp_all
           rw [decide_eq_false hne]
           done)
        | (have he : a = b := by
             cases a; cases b
             simp_all
           rw [decide_eq_true he]
           done)
        | (trace_state; fail)
    · skip
      refine o_y (y_pick_f rfl rfl) rfl rfl ?_
      refine o_y (y_move rfl) rfl rfl ?_
      refine wl_gyes rfl rfl ?_
      refine o_y (y_field fa_58_2 rfl) rfl rfl ?_
      refine wl_gyes rfl rfl ?_
      refine o_y (y_loadr 1 ty_22 rfl rfl rfl) rfl rfl ?_
      refine wl_gyes rfl rfl ?_
      refine o_y (y_field fa_58_2 rfl) rfl rfl ?_
      refine wl_gyes rfl rfl ?_
      refine o_y (y_loadr 0 ty_22 rfl rfl rfl) rfl rfl ?_
      refine wl_gyes rfl rfl ?_
      refine o_y (y_neqs rfl rfl) rfl rfl ?_
      refine wl_splitp (t := 23) rfl (fun h1_17 => ?_) (fun h1_17 => ?_)
      · skip
        refine o_y (y_pick_f rfl rfl) rfl rfl ?_
        refine o_y (y_move rfl) rfl rfl ?_
        refine wl_gno rfl rfl rfl rfl ?_
        refine wl_gno rfl rfl rfl rfl ?_
        refine wl_gno rfl rfl rfl rfl ?_
        refine wl_gno rfl rfl rfl rfl ?_
        refine wl_gno rfl rfl rfl rfl ?_
        refine o_y (y_pick_t rfl rfl) rfl rfl ?_
        refine o_y (y_move rfl) rfl rfl ?_
        refine wl_gno rfl rfl rfl rfl ?_
        refine wl_gno rfl rfl rfl rfl ?_
        refine wl_gno rfl rfl rfl rfl ?_
        refine wl_gno rfl rfl rfl rfl ?_
        refine wl_gno rfl rfl rfl rfl ?_
        refine o_y (y_pick_t rfl rfl) rfl rfl ?_
        refine o_y (y_move rfl) rfl rfl ?_
        refine wl_gno rfl rfl rfl rfl ?_
        refine wl_gno rfl rfl rfl rfl ?_
        refine wl_gno rfl rfl rfl rfl ?_
        refine wl_gno rfl rfl rfl rfl ?_
        refine wl_gno rfl rfl rfl rfl ?_
        refine wl_gno rfl rfl rfl rfl ?_
        refine wl_gno rfl rfl rfl rfl ?_
        refine o_y (y_pick_t rfl rfl) rfl rfl ?_
        refine wl_nil ?_
        refine e_seq ?_
        refine w_cond_t rfl ?_
        refine w_seq ?_
        refine w_region ?_
        refine o_y (y_assign rfl) rfl rfl ?_
        refine wl_nil ?_
        refine e_seq ?_
        refine w_ret ?_
        refine e_seq_ret ?_
        refine e_ret (ts := [4]) rfl rfl rfl (fun w hw => ?_)
        refine ⟨?_, hw.base⟩
        show Ending.returned (.bool _) = _
        congr 2
        first
          | (have hne : a ≠ b := fun e => by
               subst e
               simp_all
             rw [decide_eq_false hne]
             done)
          | (have he : a = b := by
               cases a; cases b
               simp_all
             rw [decide_eq_true he]
             done)
          | (trace_state; fail)
      · skip
        refine o_y (y_pick_f rfl rfl) rfl rfl ?_
        refine o_y (y_move rfl) rfl rfl ?_
        refine wl_gyes rfl rfl ?_
        refine o_y (y_field fa_58_3 rfl) rfl rfl ?_
        refine wl_gyes rfl rfl ?_
        refine o_y (y_loadrs 1 ty_55 rfl rfl rfl rfl) rfl rfl ?_
        refine wl_gyes rfl rfl ?_
        refine o_y (y_field fa_58_3 rfl) rfl rfl ?_
        refine wl_gyes rfl rfl ?_
        refine o_y (y_loadrs 0 ty_55 rfl rfl rfl rfl) rfl rfl ?_
        refine wl_gyes rfl rfl ?_
        refine o_y (y_nestd (by kernel_rfl) rfl rfl (eqd_nums a b) rfl) rfl rfl ?_
        refine wl_splitp (t := 30) rfl (fun h1_24 => ?_) (fun h1_24 => ?_)
        · skip
          refine o_y (y_pick_f rfl rfl) rfl rfl ?_
          refine o_y (y_move rfl) rfl rfl ?_
          refine wl_gno rfl rfl rfl rfl ?_
          refine wl_gno rfl rfl rfl rfl ?_
          refine wl_gno rfl rfl rfl rfl ?_
          refine wl_gno rfl rfl rfl rfl ?_
          refine wl_gno rfl rfl rfl rfl ?_
          refine o_y (y_pick_t rfl rfl) rfl rfl ?_
          refine o_y (y_move rfl) rfl rfl ?_
          refine wl_gno rfl rfl rfl rfl ?_
          refine wl_gno rfl rfl rfl rfl ?_
          refine wl_gno rfl rfl rfl rfl ?_
          refine wl_gno rfl rfl rfl rfl ?_
          refine wl_gno rfl rfl rfl rfl ?_
          refine wl_gno rfl rfl rfl rfl ?_
          refine wl_gno rfl rfl rfl rfl ?_
          refine o_y (y_pick_t rfl rfl) rfl rfl ?_
          refine wl_nil ?_
          refine e_seq ?_
          refine w_cond_t rfl ?_
          refine w_seq ?_
          refine w_region ?_
          refine o_y (y_assign rfl) rfl rfl ?_
          refine wl_nil ?_
          refine e_seq ?_
          refine w_ret ?_
          refine e_seq_ret ?_
          refine e_ret (ts := [4]) rfl rfl rfl (fun w hw => ?_)
          refine ⟨?_, hw.base⟩
          show Ending.returned (.bool _) = _
          congr 2
          first
            | (have hne : a ≠ b := fun e => by
                 subst e
                 simp_all
               rw [decide_eq_false hne]
               done)
            | (have he : a = b := by
                 cases a; cases b
                 simp_all
               rw [decide_eq_true he]
               done)
            | (trace_state; fail)
        · skip
          refine o_y (y_pick_f rfl rfl) rfl rfl ?_
          refine o_y (y_move rfl) rfl rfl ?_
          refine wl_gyes rfl rfl ?_
          refine o_y (y_field fa_58_5 rfl) rfl rfl ?_
          refine wl_gyes rfl rfl ?_
          refine o_y (y_loadr 1 ty_9 rfl rfl rfl) rfl rfl ?_
          refine wl_gyes rfl rfl ?_
          refine o_y (y_field fa_58_5 rfl) rfl rfl ?_
          refine wl_gyes rfl rfl ?_
          refine o_y (y_loadr 0 ty_9 rfl rfl rfl) rfl rfl ?_
          refine wl_gyes rfl rfl ?_
          refine o_y (y_neqs rfl rfl) rfl rfl ?_
          refine wl_splitp (t := 37) rfl (fun h1_31 => ?_) (fun h1_31 => ?_)
          · skip
            refine o_y (y_pick_f rfl rfl) rfl rfl ?_
            refine o_y (y_move rfl) rfl rfl ?_
            refine wl_gno rfl rfl rfl rfl ?_
            refine wl_gno rfl rfl rfl rfl ?_
            refine wl_gno rfl rfl rfl rfl ?_
            refine wl_gno rfl rfl rfl rfl ?_
            refine wl_gno rfl rfl rfl rfl ?_
            refine wl_gno rfl rfl rfl rfl ?_
            refine wl_gno rfl rfl rfl rfl ?_
            refine o_y (y_pick_t rfl rfl) rfl rfl ?_
            refine wl_nil ?_
            refine e_seq ?_
            refine w_cond_t rfl ?_
            refine w_seq ?_
            refine w_region ?_
            refine o_y (y_assign rfl) rfl rfl ?_
            refine wl_nil ?_
            refine e_seq ?_
            refine w_ret ?_
            refine e_seq_ret ?_
            refine e_ret (ts := [4]) rfl rfl rfl (fun w hw => ?_)
            refine ⟨?_, hw.base⟩
            show Ending.returned (.bool _) = _
            congr 2
            first
              | (have hne : a ≠ b := fun e => by
                   subst e
                   simp_all
                 rw [decide_eq_false hne]
                 done)
              | (have he : a = b := by
                   cases a; cases b
                   simp_all
                 rw [decide_eq_true he]
                 done)
              | (trace_state; fail)
          · skip
            refine o_y (y_pick_f rfl rfl) rfl rfl ?_
            refine o_y (y_move rfl) rfl rfl ?_
            refine wl_gyes rfl rfl ?_
            refine o_y (y_field fa_58_4 rfl) rfl rfl ?_
            refine wl_gyes rfl rfl ?_
            refine o_y (y_loadr 1 ty_56 rfl rfl rfl) rfl rfl ?_
            refine wl_gyes rfl rfl ?_
            refine o_y (y_lenl Try.underlying56 rfl) rfl rfl ?_
            refine wl_gyes rfl rfl ?_
            refine o_y (y_field fa_58_4 rfl) rfl rfl ?_
            refine wl_gyes rfl rfl ?_
            refine o_y (y_loadr 0 ty_56 rfl rfl rfl) rfl rfl ?_
            refine wl_gyes rfl rfl ?_
            refine o_y (y_lenl Try.underlying56 rfl) rfl rfl ?_
            refine wl_gyes rfl rfl ?_
            refine o_y (y_neq rfl rfl) rfl rfl ?_
            refine wl_splitp (t := 46) rfl (fun h1_40 => ?_) (fun h1_40 => ?_)
            · skip
              refine o_y (y_pick_f rfl rfl) rfl rfl ?_
              refine wl_nil ?_
              refine e_seq ?_
              refine w_cond_t rfl ?_
              refine w_seq ?_
              refine w_region ?_
              refine o_y (y_assign rfl) rfl rfl ?_
              refine wl_nil ?_
              refine e_seq ?_
              refine w_ret ?_
              refine e_seq_ret ?_
              refine e_ret (ts := [4]) rfl rfl rfl (fun w hw => ?_)
              refine ⟨?_, hw.base⟩
              show Ending.returned (.bool _) = _
              congr 2
              first
                | (have hne : a ≠ b := fun e => by
                     subst e
                     simp_all
                   rw [decide_eq_false hne]
                   done)
                | (have he : a = b := by
                     cases a; cases b
                     simp_all
                   rw [decide_eq_true he]
                   done)
                | (trace_state; fail)
            · skip
              refine o_y (y_pick_f rfl rfl) rfl rfl ?_
              refine wl_nil ?_
              refine e_seq ?_
              refine w_cond_f rfl ?_
              refine w_skip ?_
              refine e_seq ?_
              refine w_seq ?_
              refine w_seq ?_
              refine w_region ?_
              refine o_y (y_assign rfl) rfl rfl ?_
              refine wl_nil ?_
              refine e_seq ?_
              refine w_block ?_
              refine w_loop0 (σ := Unit) [4, 5, 48, 49, 50, 51, 52, 53, 54, 55, 56, 57, 58, 59, 60, 61, 62, 63, 64, 65] (fun _ => True) (fun _ => 0) (fun _ => [(5, .int .i64 0)]) (()) ?_ ⟨rfl, trivial⟩ (fun _ hI => ?_)
              · trivial
              refine w_seq ?_
              refine w_seq ?_
              refine w_region ?_
              refine o_y (y_move rfl) rfl rfl ?_
              refine o_y (y_field fa_58_4 rfl) rfl rfl ?_
              refine o_y (y_loadr 1 ty_56 rfl rfl rfl) rfl rfl ?_
              refine o_y (y_lenl Try.underlying56 rfl) rfl rfl ?_
              refine o_y (y_lss rfl rfl) rfl rfl ?_
              refine wl_af (t := 52) rfl (by simp) ?_
              refine wl_nil ?_
              refine e_seq ?_
              refine w_cond_f rfl ?_
              refine w_exit ?_
              refine e_seq_exit ?_
              refine e_loop_exit ?_
              refine e_blk_hit ?_
              refine e_seq ?_
              refine w_seq ?_
              refine w_region ?_
              refine o_y (y_assign rfl) rfl rfl ?_
              refine wl_nil ?_
              refine e_seq ?_
              refine w_ret ?_
              refine e_ret (ts := [4]) rfl rfl rfl (fun w hw => ?_)
              refine ⟨?_, hw.base⟩
              show Ending.returned (.bool _) = _
              congr 2
              first
                | (have hne : a ≠ b := fun e => by
                     subst e
                     simp_all
                   rw [decide_eq_false hne]
                   done)
                | (have he : a = b := by
                     cases a; cases b
                     simp_all
                   rw [decide_eq_true he]
                   done)
                | (trace_state; fail)

theorem c_ref09_check (t : Int) (d : Dt) (h0 : 0 ≤ d.ad.lo) : Pure Try.prog 90 #[.int .i64 t, .agg (dtC d).toArray] (.int .i64 (dataCk t d)) := by
  intro w0
  refine calls_of_W (ok0 := no) (S := []) (args := [.int .i64 t, .agg (dtC d).toArray]) 135 Try.func90 rfl rfl rfl (by simp) (by simp) ?_
  refine w_seq ?_
  refine w_region ?_
  refine o_box rfl rfl rfl (fun b1 => ?_)
  refine o_y (y_assign rfl) rfl rfl ?_
  refine wl_nil ?_
  refine e_seq ?_
  refine w_seq ?_
  refine w_seq ?_
  refine w_region ?_
  refine o_y (y_move rfl) rfl rfl ?_
  refine o_y (y_lss rfl rfl) rfl rfl ?_
  refine wl_splitp (t := 10) rfl (fun h1_1 => ?_) (fun h1_1 => ?_)
  · skip
    refine o_y (y_move rfl) rfl rfl ?_
    refine wl_gno rfl rfl rfl rfl ?_
    refine wl_gno rfl rfl rfl rfl ?_
    refine o_y (y_pick_t rfl rfl) rfl rfl ?_
    refine wl_nil ?_
    refine e_seq ?_
    refine w_cond_t rfl ?_
    refine w_seq ?_
    refine w_region ?_
    refine o_y (y_assign rfl) rfl rfl ?_
    refine wl_nil ?_
    refine e_seq ?_
    refine w_ret ?_
    refine e_seq_ret ?_
    refine e_ret (ts := [4]) rfl rfl rfl (fun w hw => ?_)
    first
      | exact ⟨by rw [dataCk, if_pos (by omega)]; rfl, hw.base⟩
      | exact ⟨by rw [dataCk, if_neg (by omega), if_pos hB]; rfl, hw.base⟩
      | exact ⟨by rw [dataCk, if_neg (by omega), if_neg hB, if_pos hA]; rfl, hw.base⟩
      | exact ⟨by rw [dataCk, if_neg (by omega), if_neg hB, if_neg hA, if_neg hN]; rfl, hw.base⟩
      | exact ⟨by rw [dataCk, if_neg (by omega), if_neg hB, if_neg hA, if_pos hN]; rfl, hw.base⟩
      | (trace_state; fail)
  · skip
    refine o_y (y_move rfl) rfl rfl ?_
    refine wl_gyes rfl rfl ?_
    refine o_y (y_move rfl) rfl rfl ?_
    refine wl_gyes rfl rfl ?_
    refine o_y (y_gtr rfl rfl) rfl rfl ?_
    refine wl_splitp (t := 13) rfl (fun h1_4 => ?_) (fun h1_4 => ?_)
    · skip
      refine o_y (y_pick_f rfl rfl) rfl rfl ?_
      refine wl_nil ?_
      refine e_seq ?_
      refine w_cond_t rfl ?_
      refine w_seq ?_
      refine w_region ?_
      refine o_y (y_assign rfl) rfl rfl ?_
      refine wl_nil ?_
      refine e_seq ?_
      refine w_ret ?_
      refine e_seq_ret ?_
      refine e_ret (ts := [4]) rfl rfl rfl (fun w hw => ?_)
      first
        | exact ⟨by rw [dataCk, if_pos (by omega)]; rfl, hw.base⟩
        | exact ⟨by rw [dataCk, if_neg (by omega), if_pos hB]; rfl, hw.base⟩
        | exact ⟨by rw [dataCk, if_neg (by omega), if_neg hB, if_pos hA]; rfl, hw.base⟩
        | exact ⟨by rw [dataCk, if_neg (by omega), if_neg hB, if_neg hA, if_neg hN]; rfl, hw.base⟩
        | exact ⟨by rw [dataCk, if_neg (by omega), if_neg hB, if_neg hA, if_pos hN]; rfl, hw.base⟩
        | (trace_state; fail)
    · skip
      refine o_y (y_pick_f rfl rfl) rfl rfl ?_
      refine wl_nil ?_
      refine e_seq ?_
      refine w_cond_f rfl ?_
      refine w_skip ?_
      refine e_seq ?_
      refine w_seq ?_
      refine w_region ?_
      refine o_y (y_move rfl) rfl rfl ?_
      refine o_callp rfl ent_98 (c_ref09_has _) rfl ?_
      refine o_alloc ty_123 rfl rfl (fun b2 => ?_)
      refine o_store ty_123 rfl rfl rfl .z rfl rfl rfl rfl ?_
      refine wl_nil ?_
      refine e_seq ?_
      refine w_join (p := ¬ hasBad (hasT t) d) (fun hB => ?_) (fun J4 => ?_)
      · skip
        refine w_join (p := ¬ adBad t (hasT t) d) (fun hA => ?_) (fun J6 => ?_)
        · skip
          refine w_seq ?_
          refine w_seq ?_
          refine w_region ?_
          refine o_y (y_assign rfl) rfl rfl ?_
          refine wl_nil ?_
          refine e_seq ?_
          refine w_block ?_
          refine w_loop0 (σ := Nat) [4, 6, 81, 82, 83, 84, 85, 86, 87, 88, 89, 90, 91, 92, 93, 94, 95, 96, 97, 98, 99, 100, 101, 102, 103, 104, 105, 106, 107] (fun k => k ≤ 5 ∧ ∀ i, i < k → numOk (hasT t) d i) (fun k => 5 - k) (fun k => [(6, .int .i64 k)]) (0) ?_ ⟨rfl, trivial⟩ (fun k hI => ?_)
          · exact ⟨Nat.zero_le _, nofun⟩
          refine w_seq ?_
          refine w_seq ?_
          refine w_region ?_
          refine o_y (y_move rfl) rfl rfl ?_
          refine o_y (y_lss rfl rfl) rfl rfl ?_
          refine wl_splitp (t := 82) rfl (fun h9_1 => ?_) (fun h9_1 => ?_)
          · skip
            refine wl_nil ?_
            refine e_seq ?_
            refine w_cond_t rfl ?_
            refine w_skip ?_
            refine e_seq ?_
            refine w_join (p := numOk (hasT t) d k) (fun hK => ?_) (fun J11 => ?_)
            · skip
              refine w_region ?_
              refine o_y (y_move rfl) rfl rfl ?_
              refine o_y (y_addi rfl rfl (by omega) (by omega)) rfl rfl ?_
              refine o_y (y_assign rfl) rfl rfl ?_
              refine wl_nil ?_
              refine e_back (k + 1) ?_ ?_ ⟨rfl, trivial⟩ (by repeat (first | exact trivial | refine ⟨rfl, ?_⟩)) (fun w h => h)
              · exact ⟨by omega, all_succ hI.2 hK⟩
              · omega
            · skip
              refine w_seq ?_
              refine w_block ?_
              refine w_seq ?_
              refine w_region ?_
              refine o_y (y_move rfl) rfl rfl ?_
              refine o_y (y_field fa_123_5 rfl) rfl rfl ?_
              refine o_y (y_loadr 0 ty_3 rfl rfl rfl) rfl rfl ?_
              refine o_y (y_geq rfl rfl) rfl rfl ?_
              refine wl_splitp (t := 88) rfl (fun h11_3 => ?_) (fun h11_3 => ?_)
              · skip
                refine o_y (y_move rfl) rfl rfl ?_
                refine wl_gyes rfl rfl ?_
                refine o_y (y_move rfl) rfl rfl ?_
                refine wl_gyes rfl rfl ?_
                refine o_y (y_field fa_58_3 rfl) rfl rfl ?_
                refine wl_gyes rfl rfl ?_
                refine o_y (y_ixa  Try.underlying55 ty_46 rfl rfl rfl (by omega)) rfl rfl ?_
                refine wl_gyes rfl rfl ?_
                refine o_y (y_loadr 1 ty_46 rfl rfl (dt_num (by omega))) rfl rfl ?_
                refine wl_gyes rfl rfl ?_
                refine o_y (y_neq rfl rfl) rfl rfl ?_
                refine wl_splitp (t := 94) rfl (fun h11_9 => ?_) (fun h11_9 => ?_)
                · skip
                  refine o_y (y_pick_t rfl rfl) rfl rfl ?_
                  refine o_y (y_move rfl) rfl rfl ?_
                  refine wl_gno rfl rfl rfl rfl ?_
                  refine wl_gno rfl rfl rfl rfl ?_
                  refine wl_gno rfl rfl rfl rfl ?_
                  refine wl_gno rfl rfl rfl rfl ?_
                  refine wl_gnou rfl rfl rfl ?_
                  refine wl_gnou rfl rfl rfl ?_
                  refine wl_gnou rfl rfl rfl ?_
                  refine wl_gnou rfl rfl rfl ?_
                  refine wl_gnou rfl rfl rfl ?_
                  refine wl_gno rfl rfl rfl rfl ?_
                  refine o_y (y_pick_t rfl rfl) rfl rfl ?_
                  refine wl_nil ?_
                  refine e_seq ?_
                  refine w_cond_t rfl ?_
                  refine w_seq ?_
                  have hN : ¬ numsOk (hasT t) d := fun h => by
                    have := h k (by omega)
                    unfold numOk at this
                    omega
                  refine w_region ?_
                  refine o_y (y_assign rfl) rfl rfl ?_
                  refine wl_nil ?_
                  refine e_seq ?_
                  refine w_ret ?_
                  refine e_blk_ret ?_
                  refine e_seq_ret ?_
                  refine e_loop_ret ?_
                  refine e_blk_ret ?_
                  refine e_seq_ret ?_
                  refine e_ret (ts := [4]) rfl rfl rfl (fun w hw => ?_)
                  first
                    | exact ⟨by rw [dataCk, if_pos (by omega)]; rfl, hw.base⟩
                    | exact ⟨by rw [dataCk, if_neg (by omega), if_pos hB]; rfl, hw.base⟩
                    | exact ⟨by rw [dataCk, if_neg (by omega), if_neg hB, if_pos hA]; rfl, hw.base⟩
                    | exact ⟨by rw [dataCk, if_neg (by omega), if_neg hB, if_neg hA, if_neg hN]; rfl, hw.base⟩
                    | exact ⟨by rw [dataCk, if_neg (by omega), if_neg hB, if_neg hA, if_pos hN]; rfl, hw.base⟩
                    | (trace_state; fail)
                · skip
                  refine o_y (y_pick_t rfl rfl) rfl rfl ?_
                  refine o_y (y_move rfl) rfl rfl ?_
                  refine wl_gyes rfl rfl ?_
                  refine o_y (y_field fa_123_6 rfl) rfl rfl ?_
                  refine wl_gyes rfl rfl ?_
                  refine o_y (y_loadr 0 ty_3 rfl rfl rfl) rfl rfl ?_
                  refine wl_gyes rfl rfl ?_
                  refine o_y (y_eql rfl rfl) rfl rfl ?_
                  refine wl_splitp (t := 99) rfl (fun h11_14 => ?_) (fun h11_14 => ?_)
                  · skip
                    refine wl_gyes rfl rfl ?_
                    refine o_y (y_move rfl) rfl rfl ?_
                    refine wl_gyes rfl rfl ?_
                    refine o_y (y_move rfl) rfl rfl ?_
                    refine wl_gyes rfl rfl ?_
                    refine o_y (y_field fa_58_3 rfl) rfl rfl ?_
                    refine wl_gyes rfl rfl ?_
                    refine o_y (y_ixa  Try.underlying55 ty_46 rfl rfl rfl (by omega)) rfl rfl ?_
                    refine wl_gyes rfl rfl ?_
                    refine o_y (y_loadr 1 ty_46 rfl rfl (dt_num (by omega))) rfl rfl ?_
                    refine wl_gyes rfl rfl ?_
                    refine o_y (y_gtr rfl rfl) rfl rfl ?_
                    refine wl_splitp (t := 105) rfl (fun h11_20 => ?_) (fun h11_20 => ?_)
                    · skip
                      refine wl_gyes rfl rfl ?_
                      refine o_y (y_pick_t rfl rfl) rfl rfl ?_
                      refine o_y (y_pick_f rfl rfl) rfl rfl ?_
                      refine wl_nil ?_
                      refine e_seq ?_
                      refine w_cond_t rfl ?_
                      refine w_seq ?_
                      have hN : ¬ numsOk (hasT t) d := fun h => by
                        have := h k (by omega)
                        unfold numOk at this
                        omega
                      refine w_region ?_
                      refine o_y (y_assign rfl) rfl rfl ?_
                      refine wl_nil ?_
                      refine e_seq ?_
                      refine w_ret ?_
                      refine e_blk_ret ?_
                      refine e_seq_ret ?_
                      refine e_loop_ret ?_
                      refine e_blk_ret ?_
                      refine e_seq_ret ?_
                      refine e_ret (ts := [4]) rfl rfl rfl (fun w hw => ?_)
                      first
                        | exact ⟨by rw [dataCk, if_pos (by omega)]; rfl, hw.base⟩
                        | exact ⟨by rw [dataCk, if_neg (by omega), if_pos hB]; rfl, hw.base⟩
                        | exact ⟨by rw [dataCk, if_neg (by omega), if_neg hB, if_pos hA]; rfl, hw.base⟩
                        | exact ⟨by rw [dataCk, if_neg (by omega), if_neg hB, if_neg hA, if_neg hN]; rfl, hw.base⟩
                        | exact ⟨by rw [dataCk, if_neg (by omega), if_neg hB, if_neg hA, if_pos hN]; rfl, hw.base⟩
                        | (trace_state; fail)
                    · skip
                      refine wl_gyes rfl rfl ?_
                      refine o_y (y_pick_t rfl rfl) rfl rfl ?_
                      refine o_y (y_pick_f rfl rfl) rfl rfl ?_
                      refine wl_nil ?_
                      refine e_seq ?_
                      refine w_cond_f rfl ?_
                      refine w_skip ?_
                      refine e_blk ?_
                      refine e_seq ?_
                      exact J11 _ (by repeat (first | exact trivial | refine ⟨rfl, ?_⟩)) (⟨by omega, by omega⟩)
                  · skip
                    refine wl_gyes rfl rfl ?_
                    refine o_y (y_move rfl) rfl rfl ?_
                    refine wl_gno rfl rfl rfl rfl ?_
                    refine wl_gno rfl rfl rfl rfl ?_
                    refine wl_gno rfl rfl rfl rfl ?_
                    refine wl_gno rfl rfl rfl rfl ?_
                    refine wl_gno rfl rfl rfl rfl ?_
                    refine wl_gyes rfl rfl ?_
                    refine o_y (y_pick_f rfl rfl) rfl rfl ?_
                    refine o_y (y_pick_f rfl rfl) rfl rfl ?_
                    refine wl_nil ?_
                    refine e_seq ?_
                    refine w_cond_f rfl ?_
                    refine w_skip ?_
                    refine e_blk ?_
                    refine e_seq ?_
                    exact J11 _ (by repeat (first | exact trivial | refine ⟨rfl, ?_⟩)) (⟨by omega, by omega⟩)
              · skip
                refine o_y (y_move rfl) rfl rfl ?_
                refine wl_gno rfl rfl rfl rfl ?_
                refine wl_gno rfl rfl rfl rfl ?_
                refine wl_gno rfl rfl rfl rfl ?_
                refine wl_gno rfl rfl rfl rfl ?_
                refine wl_gno rfl rfl rfl rfl ?_
                refine o_y (y_pick_f rfl rfl) rfl rfl ?_
                refine o_y (y_move rfl) rfl rfl ?_
                refine wl_gyes rfl rfl ?_
                refine o_y (y_field fa_123_6 rfl) rfl rfl ?_
                refine wl_gyes rfl rfl ?_
                refine o_y (y_loadr 0 ty_3 rfl rfl rfl) rfl rfl ?_
                refine wl_gyes rfl rfl ?_
                refine o_y (y_eql rfl rfl) rfl rfl ?_
                refine wl_splitp (t := 99) rfl (fun h11_14 => ?_) (fun h11_14 => ?_)
                · skip
                  refine wl_gyes rfl rfl ?_
                  refine o_y (y_move rfl) rfl rfl ?_
                  refine wl_gyes rfl rfl ?_
                  refine o_y (y_move rfl) rfl rfl ?_
                  refine wl_gyes rfl rfl ?_
                  refine o_y (y_field fa_58_3 rfl) rfl rfl ?_
                  refine wl_gyes rfl rfl ?_
                  refine o_y (y_ixa  Try.underlying55 ty_46 rfl rfl rfl (by omega)) rfl rfl ?_
                  refine wl_gyes rfl rfl ?_
                  refine o_y (y_loadr 1 ty_46 rfl rfl (dt_num (by omega))) rfl rfl ?_
                  refine wl_gyes rfl rfl ?_
                  refine o_y (y_gtr rfl rfl) rfl rfl ?_
                  refine wl_splitp (t := 105) rfl (fun h11_20 => ?_) (fun h11_20 => ?_)
                  · skip
                    refine wl_gyes rfl rfl ?_
                    refine o_y (y_pick_t rfl rfl) rfl rfl ?_
                    refine o_y (y_pick_f rfl rfl) rfl rfl ?_
                    refine wl_nil ?_
                    refine e_seq ?_
                    refine w_cond_t rfl ?_
                    refine w_seq ?_
                    have hN : ¬ numsOk (hasT t) d := fun h => by
                      have := h k (by omega)
                      unfold numOk at this
                      omega
                    refine w_region ?_
                    refine o_y (y_assign rfl) rfl rfl ?_
                    refine wl_nil ?_
                    refine e_seq ?_
                    refine w_ret ?_
                    refine e_blk_ret ?_
                    refine e_seq_ret ?_
                    refine e_loop_ret ?_
                    refine e_blk_ret ?_
                    refine e_seq_ret ?_
                    refine e_ret (ts := [4]) rfl rfl rfl (fun w hw => ?_)
                    first
                      | exact ⟨by rw [dataCk, if_pos (by omega)]; rfl, hw.base⟩
                      | exact ⟨by rw [dataCk, if_neg (by omega), if_pos hB]; rfl, hw.base⟩
                      | exact ⟨by rw [dataCk, if_neg (by omega), if_neg hB, if_pos hA]; rfl, hw.base⟩
                      | exact ⟨by rw [dataCk, if_neg (by omega), if_neg hB, if_neg hA, if_neg hN]; rfl, hw.base⟩
                      | exact ⟨by rw [dataCk, if_neg (by omega), if_neg hB, if_neg hA, if_pos hN]; rfl, hw.base⟩
                      | (trace_state; fail)
                  · skip
                    refine wl_gyes rfl rfl ?_
                    refine o_y (y_pick_t rfl rfl) rfl rfl ?_
                    refine o_y (y_pick_f rfl rfl) rfl rfl ?_
                    refine wl_nil ?_
                    refine e_seq ?_
                    refine w_cond_f rfl ?_
                    refine w_skip ?_
                    refine e_blk ?_
                    refine e_seq ?_
                    exact J11 _ (by repeat (first | exact trivial | refine ⟨rfl, ?_⟩)) (⟨by omega, by omega⟩)
                · skip
                  refine wl_gyes rfl rfl ?_
                  refine o_y (y_move rfl) rfl rfl ?_
                  refine wl_gno rfl rfl rfl rfl ?_
                  refine wl_gno rfl rfl rfl rfl ?_
                  refine wl_gno rfl rfl rfl rfl ?_
                  refine wl_gno rfl rfl rfl rfl ?_
                  refine wl_gno rfl rfl rfl rfl ?_
                  refine wl_gyes rfl rfl ?_
                  refine o_y (y_pick_f rfl rfl) rfl rfl ?_
                  refine o_y (y_pick_f rfl rfl) rfl rfl ?_
                  refine wl_nil ?_
                  refine e_seq ?_
                  refine w_cond_f rfl ?_
                  refine w_skip ?_
                  refine e_blk ?_
                  refine e_seq ?_
                  exact J11 _ (by repeat (first | exact trivial | refine ⟨rfl, ?_⟩)) (⟨by omega, by omega⟩)
          · skip
            refine wl_nil ?_
            refine e_seq ?_
            refine w_cond_f rfl ?_
            refine w_exit ?_
            refine e_seq_exit ?_
            refine e_loop_exit ?_
            refine e_blk_hit ?_
            refine e_seq ?_
            refine w_seq ?_
            have hN : numsOk (hasT t) d := fun i hi => hI.2 i (by omega)
            refine w_region ?_
            refine o_y (y_field fa_58_1 rfl) rfl rfl ?_
            refine o_y (y_loadr 1 ty_22 rfl rfl rfl) rfl rfl ?_
            refine o_callp rfl ent_35 (c_ref02_Check _) rfl ?_
            refine o_y (y_assign rfl) rfl rfl ?_
            refine wl_nil ?_
            refine e_seq ?_
            refine w_seq ?_
            refine w_seq ?_
            refine w_region ?_
            refine o_y (y_move rfl) rfl rfl ?_
            refine o_y (y_eql rfl rfl) rfl rfl ?_
            refine wl_splitp (t := 112) rfl (fun h14_1 => ?_) (fun h14_1 => ?_)
            · skip
              refine wl_nil ?_
              refine e_seq ?_
              refine w_cond_t rfl ?_
              refine w_region ?_
              refine o_y (y_field fa_58_2 rfl) rfl rfl ?_
              refine o_y (y_loadr 1 ty_22 rfl rfl rfl) rfl rfl ?_
              refine o_callp rfl ent_35 (c_ref02_Check _) rfl ?_
              refine o_y (y_assign rfl) rfl rfl ?_
              refine wl_nil ?_
              refine e_seq ?_
              refine w_seq ?_
              refine w_seq ?_
              refine w_region ?_
              refine o_y (y_assign rfl) rfl rfl ?_
              refine wl_nil ?_
              refine e_seq ?_
              refine w_block ?_
              refine w_loop0 (σ := Unit) [7, 8, 116, 117, 118, 119, 120, 121, 122, 123, 124, 125, 126, 127, 128, 129, 130, 131, 132, 133] (fun _ => True) (fun _ => 0) (fun _ => [(7, .int .i64 (dn d)), (8, .int .i64 0)]) (()) ?_ ⟨lk rfl (by rw [dn]; first | rw [if_pos h14_1] | rw [if_neg h14_1]), rfl, trivial⟩ (fun _ hI => ?_)
              · trivial
              refine w_seq ?_
              refine w_seq ?_
              refine w_region ?_
              refine o_y (y_move rfl) rfl rfl ?_
              refine o_y (y_field fa_58_4 rfl) rfl rfl ?_
              refine o_y (y_loadr 1 ty_56 rfl rfl rfl) rfl rfl ?_
              refine o_y (y_lenl Try.underlying56 rfl) rfl rfl ?_
              refine o_y (y_lss rfl rfl) rfl rfl ?_
              refine wl_af (t := 120) rfl (by simp) ?_
              refine o_y (y_move rfl) rfl rfl ?_
              refine wl_gno rfl rfl rfl rfl ?_
              refine wl_gno rfl rfl rfl rfl ?_
              refine o_y (y_pick_f rfl rfl) rfl rfl ?_
              refine wl_nil ?_
              refine e_seq ?_
              refine w_cond_f rfl ?_
              refine w_exit ?_
              refine e_seq_exit ?_
              refine e_loop_exit ?_
              refine e_blk_hit ?_
              refine e_seq ?_
              refine w_seq ?_
              refine w_region ?_
              refine o_y (y_move rfl) rfl rfl ?_
              refine o_y (y_assign rfl) rfl rfl ?_
              refine wl_nil ?_
              refine e_seq ?_
              refine w_ret ?_
              refine e_ret (ts := [4]) rfl rfl rfl (fun w hw => ?_)
              first
                | exact ⟨by rw [dataCk, if_pos (by omega)]; rfl, hw.base⟩
                | exact ⟨by rw [dataCk, if_neg (by omega), if_pos hB]; rfl, hw.base⟩
                | exact ⟨by rw [dataCk, if_neg (by omega), if_neg hB, if_pos hA]; rfl, hw.base⟩
                | exact ⟨by rw [dataCk, if_neg (by omega), if_neg hB, if_neg hA, if_neg hN]; rfl, hw.base⟩
                | exact ⟨by rw [dataCk, if_neg (by omega), if_neg hB, if_neg hA, if_pos hN]; rfl, hw.base⟩
                | (trace_state; fail)
            · skip
              refine wl_nil ?_
              refine e_seq ?_
              refine w_cond_f rfl ?_
              refine w_skip ?_
              refine e_seq ?_
              refine w_seq ?_
              refine w_seq ?_
              refine w_region ?_
              refine o_y (y_assign rfl) rfl rfl ?_
              refine wl_nil ?_
              refine e_seq ?_
              refine w_block ?_
              refine w_loop0 (σ := Unit) [7, 8, 116, 117, 118, 119, 120, 121, 122, 123, 124, 125, 126, 127, 128, 129, 130, 131, 132, 133] (fun _ => True) (fun _ => 0) (fun _ => [(7, .int .i64 (dn d)), (8, .int .i64 0)]) (()) ?_ ⟨lk rfl (by rw [dn]; first | rw [if_pos h14_1] | rw [if_neg h14_1]), rfl, trivial⟩ (fun _ hI => ?_)
              · trivial
              refine w_seq ?_
              refine w_seq ?_
              refine w_region ?_
              refine o_y (y_move rfl) rfl rfl ?_
              refine o_y (y_field fa_58_4 rfl) rfl rfl ?_
              refine o_y (y_loadr 1 ty_56 rfl rfl rfl) rfl rfl ?_
              refine o_y (y_lenl Try.underlying56 rfl) rfl rfl ?_
              refine o_y (y_lss rfl rfl) rfl rfl ?_
              refine wl_af (t := 120) rfl (by simp) ?_
              refine o_y (y_move rfl) rfl rfl ?_
              refine wl_gno rfl rfl rfl rfl ?_
              refine wl_gno rfl rfl rfl rfl ?_
              refine o_y (y_pick_f rfl rfl) rfl rfl ?_
              refine wl_nil ?_
              refine e_seq ?_
              refine w_cond_f rfl ?_
              refine w_exit ?_
              refine e_seq_exit ?_
              refine e_loop_exit ?_
              refine e_blk_hit ?_
              refine e_seq ?_
              refine w_seq ?_
              refine w_region ?_
              refine o_y (y_move rfl) rfl rfl ?_
              refine o_y (y_assign rfl) rfl rfl ?_
              refine wl_nil ?_
              refine e_seq ?_
              refine w_ret ?_
              refine e_ret (ts := [4]) rfl rfl rfl (fun w hw => ?_)
              first
                | exact ⟨by rw [dataCk, if_pos (by omega)]; rfl, hw.base⟩
                | exact ⟨by rw [dataCk, if_neg (by omega), if_pos hB]; rfl, hw.base⟩
                | exact ⟨by rw [dataCk, if_neg (by omega), if_neg hB, if_pos hA]; rfl, hw.base⟩
                | exact ⟨by rw [dataCk, if_neg (by omega), if_neg hB, if_neg hA, if_neg hN]; rfl, hw.base⟩
                | exact ⟨by rw [dataCk, if_neg (by omega), if_neg hB, if_neg hA, if_pos hN]; rfl, hw.base⟩
                | (trace_state; fail)
        · skip
          refine w_seq ?_
          refine w_seq ?_
          refine w_region ?_
          refine o_y (y_field fa_123_0 rfl) rfl rfl ?_
          refine o_y (y_loadr 0 ty_4 rfl rfl rfl) rfl rfl ?_
          refine wl_splitb (t := 66) rfl (fun h6_1 => ?_) (fun h6_1 => ?_)
          · skip
            refine o_y (y_move rfl) rfl rfl ?_
            refine wl_gyes rfl rfl ?_
            refine o_y (y_field fa_58_0 rfl) rfl rfl ?_
            refine wl_gyes rfl rfl ?_
            refine o_y (y_loadrs 1 ty_54 rfl rfl rfl rfl) rfl rfl ?_
            refine wl_gyes rfl rfl ?_
            refine o_callp rfl ent_79 (c_ref04_Check _ h0) rfl ?_
            refine wl_gyes rfl rfl ?_
            refine o_y (y_neq rfl rfl) rfl rfl ?_
            refine wl_splitp (t := 71) rfl (fun h6_6 => ?_) (fun h6_6 => ?_)
            · skip
              refine wl_gyes rfl rfl ?_
              refine o_y (y_move rfl) rfl rfl ?_
              refine wl_gno rfl rfl rfl rfl ?_
              refine wl_gno rfl rfl rfl rfl ?_
              refine wl_gno rfl rfl rfl rfl ?_
              refine wl_gno rfl rfl rfl rfl ?_
              refine wl_gno rfl rfl rfl rfl ?_
              refine wl_gno rfl rfl rfl rfl ?_
              refine wl_gyes rfl rfl ?_
              refine o_y (y_pick_t rfl rfl) rfl rfl ?_
              refine o_y (y_pick_t rfl rfl) rfl rfl ?_
              refine wl_nil ?_
              refine e_seq ?_
              refine w_cond_t rfl ?_
              refine w_seq ?_
              have hA : adBad t (hasT t) d := by simp_all [adBad]
              refine w_region ?_
              refine o_y (y_assign rfl) rfl rfl ?_
              refine wl_nil ?_
              refine e_seq ?_
              refine w_ret ?_
              refine e_seq_ret ?_
              refine e_ret (ts := [4]) rfl rfl rfl (fun w hw => ?_)
              first
                | exact ⟨by rw [dataCk, if_pos (by omega)]; rfl, hw.base⟩
                | exact ⟨by rw [dataCk, if_neg (by omega), if_pos hB]; rfl, hw.base⟩
                | exact ⟨by rw [dataCk, if_neg (by omega), if_neg hB, if_pos hA]; rfl, hw.base⟩
                | exact ⟨by rw [dataCk, if_neg (by omega), if_neg hB, if_neg hA, if_neg hN]; rfl, hw.base⟩
                | exact ⟨by rw [dataCk, if_neg (by omega), if_neg hB, if_neg hA, if_pos hN]; rfl, hw.base⟩
                | (trace_state; fail)
            · skip
              refine wl_gyes rfl rfl ?_
              refine o_y (y_move rfl) rfl rfl ?_
              refine wl_gyes rfl rfl ?_
              refine o_y (y_field fa_58_0 rfl) rfl rfl ?_
              refine wl_gyes rfl rfl ?_
              refine o_y (y_field fa_54_0 rfl) rfl rfl ?_
              refine wl_gyes rfl rfl ?_
              refine o_y (y_loadr 1 ty_4 rfl rfl rfl) rfl rfl ?_
              refine wl_gyes rfl rfl ?_
              refine o_y (y_move rfl) rfl rfl ?_
              refine wl_gyes rfl rfl ?_
              refine o_y (y_eql rfl rfl) rfl rfl ?_
              refine wl_gyes rfl rfl ?_
              refine o_y (y_neqb Try.underlying4 rfl rfl) rfl rfl ?_
              refine wl_splitp (t := 78) rfl (fun h6_13 => ?_) (fun h6_13 => ?_)
              · skip
                refine wl_gyes rfl rfl ?_
                refine o_y (y_pick_f rfl rfl) rfl rfl ?_
                refine o_y (y_pick_t rfl rfl) rfl rfl ?_
                refine wl_nil ?_
                refine e_seq ?_
                refine w_cond_t rfl ?_
                refine w_seq ?_
                have hA : adBad t (hasT t) d := by simp_all [adBad]
                refine w_region ?_
                refine o_y (y_assign rfl) rfl rfl ?_
                refine wl_nil ?_
                refine e_seq ?_
                refine w_ret ?_
                refine e_seq_ret ?_
                refine e_ret (ts := [4]) rfl rfl rfl (fun w hw => ?_)
                first
                  | exact ⟨by rw [dataCk, if_pos (by omega)]; rfl, hw.base⟩
                  | exact ⟨by rw [dataCk, if_neg (by omega), if_pos hB]; rfl, hw.base⟩
                  | exact ⟨by rw [dataCk, if_neg (by omega), if_neg hB, if_pos hA]; rfl, hw.base⟩
                  | exact ⟨by rw [dataCk, if_neg (by omega), if_neg hB, if_neg hA, if_neg hN]; rfl, hw.base⟩
                  | exact ⟨by rw [dataCk, if_neg (by omega), if_neg hB, if_neg hA, if_pos hN]; rfl, hw.base⟩
                  | (trace_state; fail)
              · skip
                refine wl_gyes rfl rfl ?_
                refine o_y (y_pick_f rfl rfl) rfl rfl ?_
                refine o_y (y_pick_t rfl rfl) rfl rfl ?_
                refine wl_nil ?_
                refine e_seq ?_
                refine w_cond_f rfl ?_
                refine w_skip ?_
                refine e_seq ?_
                exact J6 _ (by repeat (first | exact trivial | refine ⟨rfl, ?_⟩)) (by simp_all [adBad])
          · skip
            refine o_y (y_move rfl) rfl rfl ?_
            refine wl_gno rfl rfl rfl rfl ?_
            refine wl_gno rfl rfl rfl rfl ?_
            refine wl_gno rfl rfl rfl rfl ?_
            refine wl_gno rfl rfl rfl rfl ?_
            refine wl_gno rfl rfl rfl rfl ?_
            refine wl_gnou rfl rfl rfl ?_
            refine wl_gnou rfl rfl rfl ?_
            refine wl_gnou rfl rfl rfl ?_
            refine wl_gnou rfl rfl rfl ?_
            refine wl_gnou rfl rfl rfl ?_
            refine wl_gnou rfl rfl rfl ?_
            refine wl_gno rfl rfl rfl rfl ?_
            refine o_y (y_pick_f rfl rfl) rfl rfl ?_
            refine wl_nil ?_
            refine e_seq ?_
            refine w_cond_f rfl ?_
            refine w_skip ?_
            refine e_seq ?_
            exact J6 _ (by repeat (first | exact trivial | refine ⟨rfl, ?_⟩)) (by simp_all [adBad])
      · skip
        refine w_seq ?_
        refine w_seq ?_
        refine w_region ?_
        refine o_y (y_field fa_123_0 rfl) rfl rfl ?_
        refine o_y (y_loadr 0 ty_4 rfl rfl rfl) rfl rfl ?_
        refine wl_splitb (t := 18) rfl (fun h4_1 => ?_) (fun h4_1 => ?_)
        · skip
          refine o_y (y_not rfl) rfl rfl ?_
          refine o_y (y_move rfl) rfl rfl ?_
          refine wl_gno rfl rfl rfl rfl ?_
          refine wl_gno rfl rfl rfl rfl ?_
          refine wl_gno rfl rfl rfl rfl ?_
          refine wl_gno rfl rfl rfl rfl ?_
          refine o_y (y_pick_f rfl rfl) rfl rfl ?_
          refine o_y (y_move rfl) rfl rfl ?_
          refine wl_gyes rfl rfl ?_
          refine o_y (y_field fa_123_1 rfl) rfl rfl ?_
          refine wl_gyes rfl rfl ?_
          refine o_y (y_loadr 0 ty_4 rfl rfl rfl) rfl rfl ?_
          refine wl_splitb (t := 28) rfl (fun h4_11 => ?_) (fun h4_11 => ?_)
          · skip
            refine wl_gyes rfl rfl ?_
            refine o_y (y_not rfl) rfl rfl ?_
            refine wl_gyes rfl rfl ?_
            refine o_y (y_move rfl) rfl rfl ?_
            refine wl_gno rfl rfl rfl rfl ?_
            refine wl_gno rfl rfl rfl rfl ?_
            refine wl_gno rfl rfl rfl rfl ?_
            refine wl_gyes rfl rfl ?_
            refine o_y (y_pick_f rfl rfl) rfl rfl ?_
            refine o_y (y_pick_f rfl rfl) rfl rfl ?_
            refine o_y (y_move rfl) rfl rfl ?_
            refine wl_gyes rfl rfl ?_
            refine o_y (y_field fa_123_2 rfl) rfl rfl ?_
            refine wl_gyes rfl rfl ?_
            refine o_y (y_loadr 0 ty_4 rfl rfl rfl) rfl rfl ?_
            refine wl_splitb (t := 38) rfl (fun h4_21 => ?_) (fun h4_21 => ?_)
            · skip
              refine wl_gyes rfl rfl ?_
              refine o_y (y_not rfl) rfl rfl ?_
              refine wl_gyes rfl rfl ?_
              refine o_y (y_move rfl) rfl rfl ?_
              refine wl_gno rfl rfl rfl rfl ?_
              refine wl_gno rfl rfl rfl rfl ?_
              refine wl_gno rfl rfl rfl rfl ?_
              refine wl_gyes rfl rfl ?_
              refine o_y (y_pick_f rfl rfl) rfl rfl ?_
              refine o_y (y_pick_f rfl rfl) rfl rfl ?_
              refine o_y (y_move rfl) rfl rfl ?_
              refine wl_gyes rfl rfl ?_
              refine o_y (y_field fa_123_4 rfl) rfl rfl ?_
              refine wl_gyes rfl rfl ?_
              refine o_y (y_loadr 0 ty_4 rfl rfl rfl) rfl rfl ?_
              refine wl_splitb (t := 48) rfl (fun h4_31 => ?_) (fun h4_31 => ?_)
              · skip
                refine wl_gyes rfl rfl ?_
                refine o_y (y_not rfl) rfl rfl ?_
                refine wl_gyes rfl rfl ?_
                refine o_y (y_move rfl) rfl rfl ?_
                refine wl_gno rfl rfl rfl rfl ?_
                refine wl_gno rfl rfl rfl rfl ?_
                refine wl_gno rfl rfl rfl rfl ?_
                refine wl_gyes rfl rfl ?_
                refine o_y (y_pick_f rfl rfl) rfl rfl ?_
                refine o_y (y_pick_f rfl rfl) rfl rfl ?_
                refine o_y (y_move rfl) rfl rfl ?_
                refine wl_gyes rfl rfl ?_
                refine o_y (y_field fa_123_3 rfl) rfl rfl ?_
                refine wl_gyes rfl rfl ?_
                refine o_y (y_loadr 0 ty_4 rfl rfl rfl) rfl rfl ?_
                refine wl_gyes rfl rfl ?_
                refine o_y (y_field fa_58_4 rfl) rfl rfl ?_
                refine wl_gyes rfl rfl ?_
                refine o_y (y_loadr 1 ty_56 rfl rfl rfl) rfl rfl ?_
                refine wl_gyes rfl rfl ?_
                refine o_y (y_lenl Try.underlying56 rfl) rfl rfl ?_
                refine wl_gyes rfl rfl ?_
                refine o_y (y_gtr rfl rfl) rfl rfl ?_
                refine wl_gyes rfl rfl ?_
                refine o_y (y_neqb Try.underlying4 rfl rfl) rfl rfl ?_
                refine wl_splitp (t := 63) rfl (fun h4_46 => ?_) (fun h4_46 => ?_)
                · skip
                  refine o_y (y_pick_f rfl rfl) rfl rfl ?_
                  refine wl_nil ?_
                  refine e_seq ?_
                  refine w_cond_t rfl ?_
                  refine w_seq ?_
                  have hB : hasBad (hasT t) d := by simp_all [hasBad]
                  refine w_region ?_
                  refine o_y (y_assign rfl) rfl rfl ?_
                  refine wl_nil ?_
                  refine e_seq ?_
                  refine w_ret ?_
                  refine e_seq_ret ?_
                  refine e_ret (ts := [4]) rfl rfl rfl (fun w hw => ?_)
                  first
                    | exact ⟨by rw [dataCk, if_pos (by omega)]; rfl, hw.base⟩
                    | exact ⟨by rw [dataCk, if_neg (by omega), if_pos hB]; rfl, hw.base⟩
                    | exact ⟨by rw [dataCk, if_neg (by omega), if_neg hB, if_pos hA]; rfl, hw.base⟩
                    | exact ⟨by rw [dataCk, if_neg (by omega), if_neg hB, if_neg hA, if_neg hN]; rfl, hw.base⟩
                    | exact ⟨by rw [dataCk, if_neg (by omega), if_neg hB, if_neg hA, if_pos hN]; rfl, hw.base⟩
                    | (trace_state; fail)
                · skip
                  refine o_y (y_pick_f rfl rfl) rfl rfl ?_
                  refine wl_nil ?_
                  refine e_seq ?_
                  refine w_cond_f rfl ?_
                  refine w_skip ?_
                  refine e_seq ?_
                  exact J4 _ (by repeat (first | exact trivial | refine ⟨rfl, ?_⟩)) (by simp_all [hasBad])
              · skip
                refine wl_gyes rfl rfl ?_
                refine o_y (y_not rfl) rfl rfl ?_
                refine wl_gyes rfl rfl ?_
                refine o_y (y_move rfl) rfl rfl ?_
                refine wl_gyes rfl rfl ?_
                refine o_y (y_field fa_58_5 rfl) rfl rfl ?_
                refine wl_gyes rfl rfl ?_
                refine o_y (y_loadr 1 ty_9 rfl rfl rfl) rfl rfl ?_
                refine wl_gyes rfl rfl ?_
                refine o_y (y_neqs rfl rfl) rfl rfl ?_
                refine wl_splitp (t := 53) rfl (fun h4_36 => ?_) (fun h4_36 => ?_)
                · skip
                  refine wl_gyes rfl rfl ?_
                  refine o_y (y_pick_t rfl rfl) rfl rfl ?_
                  refine o_y (y_pick_f rfl rfl) rfl rfl ?_
                  refine o_y (y_move rfl) rfl rfl ?_
                  refine wl_gno rfl rfl rfl rfl ?_
                  refine wl_gno rfl rfl rfl rfl ?_
                  refine wl_gno rfl rfl rfl rfl ?_
                  refine wl_gno rfl rfl rfl rfl ?_
                  refine wl_gno rfl rfl rfl rfl ?_
                  refine wl_gno rfl rfl rfl rfl ?_
                  refine wl_gno rfl rfl rfl rfl ?_
                  refine o_y (y_pick_t rfl rfl) rfl rfl ?_
                  refine wl_nil ?_
                  refine e_seq ?_
                  refine w_cond_t rfl ?_
                  refine w_seq ?_
                  have hB : hasBad (hasT t) d := by simp_all [hasBad]
                  refine w_region ?_
                  refine o_y (y_assign rfl) rfl rfl ?_
                  refine wl_nil ?_
                  refine e_seq ?_
                  refine w_ret ?_
                  refine e_seq_ret ?_
                  refine e_ret (ts := [4]) rfl rfl rfl (fun w hw => ?_)
                  first
                    | exact ⟨by rw [dataCk, if_pos (by omega)]; rfl, hw.base⟩
                    | exact ⟨by rw [dataCk, if_neg (by omega), if_pos hB]; rfl, hw.base⟩
                    | exact ⟨by rw [dataCk, if_neg (by omega), if_neg hB, if_pos hA]; rfl, hw.base⟩
                    | exact ⟨by rw [dataCk, if_neg (by omega), if_neg hB, if_neg hA, if_neg hN]; rfl, hw.base⟩
                    | exact ⟨by rw [dataCk, if_neg (by omega), if_neg hB, if_neg hA, if_pos hN]; rfl, hw.base⟩
                    | (trace_state; fail)
                · skip
                  refine wl_gyes rfl rfl ?_
                  refine o_y (y_pick_t rfl rfl) rfl rfl ?_
                  refine o_y (y_pick_f rfl rfl) rfl rfl ?_
                  refine o_y (y_move rfl) rfl rfl ?_
                  refine wl_gyes rfl rfl ?_
                  refine o_y (y_field fa_123_3 rfl) rfl rfl ?_
                  refine wl_gyes rfl rfl ?_
                  refine o_y (y_loadr 0 ty_4 rfl rfl rfl) rfl rfl ?_
                  refine wl_gyes rfl rfl ?_
                  refine o_y (y_field fa_58_4 rfl) rfl rfl ?_
                  refine wl_gyes rfl rfl ?_
                  refine o_y (y_loadr 1 ty_56 rfl rfl rfl) rfl rfl ?_
                  refine wl_gyes rfl rfl ?_
                  refine o_y (y_lenl Try.underlying56 rfl) rfl rfl ?_
                  refine wl_gyes rfl rfl ?_
                  refine o_y (y_gtr rfl rfl) rfl rfl ?_
                  refine wl_gyes rfl rfl ?_
                  refine o_y (y_neqb Try.underlying4 rfl rfl) rfl rfl ?_
                  refine wl_splitp (t := 63) rfl (fun h4_46 => ?_) (fun h4_46 => ?_)
                  · skip
                    refine o_y (y_pick_f rfl rfl) rfl rfl ?_
                    refine wl_nil ?_
                    refine e_seq ?_
                    refine w_cond_t rfl ?_
                    refine w_seq ?_
                    have hB : hasBad (hasT t) d := by simp_all [hasBad]
                    refine w_region ?_
                    refine o_y (y_assign rfl) rfl rfl ?_
                    refine wl_nil ?_
                    refine e_seq ?_
                    refine w_ret ?_
                    refine e_seq_ret ?_
                    refine e_ret (ts := [4]) rfl rfl rfl (fun w hw => ?_)
                    first
                      | exact ⟨by rw [dataCk, if_pos (by omega)]; rfl, hw.base⟩
                      | exact ⟨by rw [dataCk, if_neg (by omega), if_pos hB]; rfl, hw.base⟩
                      | exact ⟨by rw [dataCk, if_neg (by omega), if_neg hB, if_pos hA]; rfl, hw.base⟩
                      | exact ⟨by rw [dataCk, if_neg (by omega), if_neg hB, if_neg hA, if_neg hN]; rfl, hw.base⟩
                      | exact ⟨by rw [dataCk, if_neg (by omega), if_neg hB, if_neg hA, if_pos hN]; rfl, hw.base⟩
                      | (trace_state; fail)
                  · skip
                    refine o_y (y_pick_f rfl rfl) rfl rfl ?_
                    refine wl_nil ?_
                    refine e_seq ?_
                    refine w_cond_f rfl ?_
                    refine w_skip ?_
                    refine e_seq ?_
                    exact J4 _ (by repeat (first | exact trivial | refine ⟨rfl, ?_⟩)) (by simp_all [hasBad])
            · skip
              refine wl_gyes rfl rfl ?_
              refine o_y (y_not rfl) rfl rfl ?_
              refine wl_gyes rfl rfl ?_
              refine o_y (y_move rfl) rfl rfl ?_
              refine wl_gyes rfl rfl ?_
              refine o_y (y_field fa_58_2 rfl) rfl rfl ?_
              refine wl_gyes rfl rfl ?_
              refine o_y (y_loadr 1 ty_22 rfl rfl rfl) rfl rfl ?_
              refine wl_gyes rfl rfl ?_
              refine o_y (y_neqs rfl rfl) rfl rfl ?_
              refine wl_splitp (t := 43) rfl (fun h4_26 => ?_) (fun h4_26 => ?_)
              · skip
                refine wl_gyes rfl rfl ?_
                refine o_y (y_pick_t rfl rfl) rfl rfl ?_
                refine o_y (y_pick_f rfl rfl) rfl rfl ?_
                refine o_y (y_move rfl) rfl rfl ?_
                refine wl_gno rfl rfl rfl rfl ?_
                refine wl_gno rfl rfl rfl rfl ?_
                refine wl_gno rfl rfl rfl rfl ?_
                refine wl_gno rfl rfl rfl rfl ?_
                refine wl_gnou rfl rfl rfl ?_
                refine wl_gnou rfl rfl rfl ?_
                refine wl_gnou rfl rfl rfl ?_
                refine wl_gno rfl rfl rfl rfl ?_
                refine o_y (y_pick_t rfl rfl) rfl rfl ?_
                refine o_y (y_move rfl) rfl rfl ?_
                refine wl_gno rfl rfl rfl rfl ?_
                refine wl_gno rfl rfl rfl rfl ?_
                refine wl_gno rfl rfl rfl rfl ?_
                refine wl_gno rfl rfl rfl rfl ?_
                refine wl_gno rfl rfl rfl rfl ?_
                refine wl_gno rfl rfl rfl rfl ?_
                refine wl_gno rfl rfl rfl rfl ?_
                refine o_y (y_pick_t rfl rfl) rfl rfl ?_
                refine wl_nil ?_
                refine e_seq ?_
                refine w_cond_t rfl ?_
                refine w_seq ?_
                have hB : hasBad (hasT t) d := by simp_all [hasBad]
                refine w_region ?_
                refine o_y (y_assign rfl) rfl rfl ?_
                refine wl_nil ?_
                refine e_seq ?_
                refine w_ret ?_
                refine e_seq_ret ?_
                refine e_ret (ts := [4]) rfl rfl rfl (fun w hw => ?_)
                first
                  | exact ⟨by rw [dataCk, if_pos (by omega)]; rfl, hw.base⟩
                  | exact ⟨by rw [dataCk, if_neg (by omega), if_pos hB]; rfl, hw.base⟩
                  | exact ⟨by rw [dataCk, if_neg (by omega), if_neg hB, if_pos hA]; rfl, hw.base⟩
                  | exact ⟨by rw [dataCk, if_neg (by omega), if_neg hB, if_neg hA, if_neg hN]; rfl, hw.base⟩
                  | exact ⟨by rw [dataCk, if_neg (by omega), if_neg hB, if_neg hA, if_pos hN]; rfl, hw.base⟩
                  | (trace_state; fail)
              · skip
                refine wl_gyes rfl rfl ?_
                refine o_y (y_pick_t rfl rfl) rfl rfl ?_
                refine o_y (y_pick_f rfl rfl) rfl rfl ?_
                refine o_y (y_move rfl) rfl rfl ?_
                refine wl_gyes rfl rfl ?_
                refine o_y (y_field fa_123_4 rfl) rfl rfl ?_
                refine wl_gyes rfl rfl ?_
                refine o_y (y_loadr 0 ty_4 rfl rfl rfl) rfl rfl ?_
                refine wl_splitb (t := 48) rfl (fun h4_31 => ?_) (fun h4_31 => ?_)
                · skip
                  refine wl_gyes rfl rfl ?_
                  refine o_y (y_not rfl) rfl rfl ?_
                  refine wl_gyes rfl rfl ?_
                  refine o_y (y_move rfl) rfl rfl ?_
                  refine wl_gno rfl rfl rfl rfl ?_
                  refine wl_gno rfl rfl rfl rfl ?_
                  refine wl_gno rfl rfl rfl rfl ?_
                  refine wl_gyes rfl rfl ?_
                  refine o_y (y_pick_f rfl rfl) rfl rfl ?_
                  refine o_y (y_pick_f rfl rfl) rfl rfl ?_
                  refine o_y (y_move rfl) rfl rfl ?_
                  refine wl_gyes rfl rfl ?_
                  refine o_y (y_field fa_123_3 rfl) rfl rfl ?_
                  refine wl_gyes rfl rfl ?_
                  refine o_y (y_loadr 0 ty_4 rfl rfl rfl) rfl rfl ?_
                  refine wl_gyes rfl rfl ?_
                  refine o_y (y_field fa_58_4 rfl) rfl rfl ?_
                  refine wl_gyes rfl rfl ?_
                  refine o_y (y_loadr 1 ty_56 rfl rfl rfl) rfl rfl ?_
                  refine wl_gyes rfl rfl ?_
                  refine o_y (y_lenl Try.underlying56 rfl) rfl rfl ?_
                  refine wl_gyes rfl rfl ?_
                  refine o_y (y_gtr rfl rfl) rfl rfl ?_
                  refine wl_gyes rfl rfl ?_
                  refine o_y (y_neqb Try.underlying4 rfl rfl) rfl rfl ?_
                  refine wl_splitp (t := 63) rfl (fun h4_46 => ?_) (fun h4_46 => ?_)
                  · skip
                    refine o_y (y_pick_f rfl rfl) rfl rfl ?_
                    refine wl_nil ?_
                    refine e_seq ?_
                    refine w_cond_t rfl ?_
                    refine w_seq ?_
                    have hB : hasBad (hasT t) d := by simp_all [hasBad]
                    refine w_region ?_
                    refine o_y (y_assign rfl) rfl rfl ?_
                    refine wl_nil ?_
                    refine e_seq ?_
                    refine w_ret ?_
                    refine e_seq_ret ?_
                    refine e_ret (ts := [4]) rfl rfl rfl (fun w hw => ?_)
                    first
                      | exact ⟨by rw [dataCk, if_pos (by omega)]; rfl, hw.base⟩
                      | exact ⟨by rw [dataCk, if_neg (by omega), if_pos hB]; rfl, hw.base⟩
                      | exact ⟨by rw [dataCk, if_neg (by omega), if_neg hB, if_pos hA]; rfl, hw.base⟩
                      | exact ⟨by rw [dataCk, if_neg (by omega), if_neg hB, if_neg hA, if_neg hN]; rfl, hw.base⟩
                      | exact ⟨by rw [dataCk, if_neg (by omega), if_neg hB, if_neg hA, if_pos hN]; rfl, hw.base⟩
                      | (trace_state; fail)
                  · skip
                    refine o_y (y_pick_f rfl rfl) rfl rfl ?_
                    refine wl_nil ?_
                    refine e_seq ?_
                    refine w_cond_f rfl ?_
                    refine w_skip ?_
                    refine e_seq ?_
                    exact J4 _ (by repeat (first | exact trivial | refine ⟨rfl, ?_⟩)) (by simp_all [hasBad])
                · skip
                  refine wl_gyes rfl rfl ?_
                  refine o_y (y_not rfl) rfl rfl ?_
                  refine wl_gyes rfl rfl ?_
                  refine o_y (y_move rfl) rfl rfl ?_
                  refine wl_gyes rfl rfl ?_
                  refine o_y (y_field fa_58_5 rfl) rfl rfl ?_
                  refine wl_gyes rfl rfl ?_
                  refine o_y (y_loadr 1 ty_9 rfl rfl rfl) rfl rfl ?_
                  refine wl_gyes rfl rfl ?_
                  refine o_y (y_neqs rfl rfl) rfl rfl ?_
                  refine wl_splitp (t := 53) rfl (fun h4_36 => ?_) (fun h4_36 => ?_)
                  · skip
                    refine wl_gyes rfl rfl ?_
                    refine o_y (y_pick_t rfl rfl) rfl rfl ?_
                    refine o_y (y_pick_f rfl rfl) rfl rfl ?_
                    refine o_y (y_move rfl) rfl rfl ?_
                    refine wl_gno rfl rfl rfl rfl ?_
                    refine wl_gno rfl rfl rfl rfl ?_
                    refine wl_gno rfl rfl rfl rfl ?_
                    refine wl_gno rfl rfl rfl rfl ?_
                    refine wl_gno rfl rfl rfl rfl ?_
                    refine wl_gno rfl rfl rfl rfl ?_
                    refine wl_gno rfl rfl rfl rfl ?_
                    refine o_y (y_pick_t rfl rfl) rfl rfl ?_
                    refine wl_nil ?_
                    refine e_seq ?_
                    refine w_cond_t rfl ?_
                    refine w_seq ?_
                    have hB : hasBad (hasT t) d := by simp_all [hasBad]
                    refine w_region ?_
                    refine o_y (y_assign rfl) rfl rfl ?_
                    refine wl_nil ?_
                    refine e_seq ?_
                    refine w_ret ?_
                    refine e_seq_ret ?_
                    refine e_ret (ts := [4]) rfl rfl rfl (fun w hw => ?_)
                    first
                      | exact ⟨by rw [dataCk, if_pos (by omega)]; rfl, hw.base⟩
                      | exact ⟨by rw [dataCk, if_neg (by omega), if_pos hB]; rfl, hw.base⟩
                      | exact ⟨by rw [dataCk, if_neg (by omega), if_neg hB, if_pos hA]; rfl, hw.base⟩
                      | exact ⟨by rw [dataCk, if_neg (by omega), if_neg hB, if_neg hA, if_neg hN]; rfl, hw.base⟩
                      | exact ⟨by rw [dataCk, if_neg (by omega), if_neg hB, if_neg hA, if_pos hN]; rfl, hw.base⟩
                      | (trace_state; fail)
                  · skip
                    refine wl_gyes rfl rfl ?_
                    refine o_y (y_pick_t rfl rfl) rfl rfl ?_
                    refine o_y (y_pick_f rfl rfl) rfl rfl ?_
                    refine o_y (y_move rfl) rfl rfl ?_
                    refine wl_gyes rfl rfl ?_
                    refine o_y (y_field fa_123_3 rfl) rfl rfl ?_
                    refine wl_gyes rfl rfl ?_
                    refine o_y (y_loadr 0 ty_4 rfl rfl rfl) rfl rfl ?_
                    refine wl_gyes rfl rfl ?_
                    refine o_y (y_field fa_58_4 rfl) rfl rfl ?_
                    refine wl_gyes rfl rfl ?_
                    refine o_y (y_loadr 1 ty_56 rfl rfl rfl) rfl rfl ?_
                    refine wl_gyes rfl rfl ?_
                    refine o_y (y_lenl Try.underlying56 rfl) rfl rfl ?_
                    refine wl_gyes rfl rfl ?_
                    refine o_y (y_gtr rfl rfl) rfl rfl ?_
                    refine wl_gyes rfl rfl ?_
                    refine o_y (y_neqb Try.underlying4 rfl rfl) rfl rfl ?_
                    refine wl_splitp (t := 63) rfl (fun h4_46 => ?_) (fun h4_46 => ?_)
                    · skip
                      refine o_y (y_pick_f rfl rfl) rfl rfl ?_
                      refine wl_nil ?_
                      refine e_seq ?_
                      refine w_cond_t rfl ?_
                      refine w_seq ?_
                      have hB : hasBad (hasT t) d := by simp_all [hasBad]
                      refine w_region ?_
                      refine o_y (y_assign rfl) rfl rfl ?_
                      refine wl_nil ?_
                      refine e_seq ?_
                      refine w_ret ?_
                      refine e_seq_ret ?_
                      refine e_ret (ts := [4]) rfl rfl rfl (fun w hw => ?_)
                      first
                        | exact ⟨by rw [dataCk, if_pos (by omega)]; rfl, hw.base⟩
                        | exact ⟨by rw [dataCk, if_neg (by omega), if_pos hB]; rfl, hw.base⟩
                        | exact ⟨by rw [dataCk, if_neg (by omega), if_neg hB, if_pos hA]; rfl, hw.base⟩
                        | exact ⟨by rw [dataCk, if_neg (by omega), if_neg hB, if_neg hA, if_neg hN]; rfl, hw.base⟩
                        | exact ⟨by rw [dataCk, if_neg (by omega), if_neg hB, if_neg hA, if_pos hN]; rfl, hw.base⟩
                        | (trace_state; fail)
                    · skip
                      refine o_y (y_pick_f rfl rfl) rfl rfl ?_
                      refine wl_nil ?_
                      refine e_seq ?_
                      refine w_cond_f rfl ?_
                      refine w_skip ?_
                      refine e_seq ?_
                      exact J4 _ (by repeat (first | exact trivial | refine ⟨rfl, ?_⟩)) (by simp_all [hasBad])
          · skip
            refine wl_gyes rfl rfl ?_
            refine o_y (y_not rfl) rfl rfl ?_
            refine wl_gyes rfl rfl ?_
            refine o_y (y_move rfl) rfl rfl ?_
            refine wl_gyes rfl rfl ?_
            refine o_y (y_field fa_58_1 rfl) rfl rfl ?_
            refine wl_gyes rfl rfl ?_
            refine o_y (y_loadr 1 ty_22 rfl rfl rfl) rfl rfl ?_
            refine wl_gyes rfl rfl ?_
            refine o_y (y_neqs rfl rfl) rfl rfl ?_
            refine wl_splitp (t := 33) rfl (fun h4_16 => ?_) (fun h4_16 => ?_)
            · skip
              refine wl_gyes rfl rfl ?_
              refine o_y (y_pick_t rfl rfl) rfl rfl ?_
              refine o_y (y_pick_f rfl rfl) rfl rfl ?_
              refine o_y (y_move rfl) rfl rfl ?_
              refine wl_gno rfl rfl rfl rfl ?_
              refine wl_gno rfl rfl rfl rfl ?_
              refine wl_gno rfl rfl rfl rfl ?_
              refine wl_gno rfl rfl rfl rfl ?_
              refine wl_gnou rfl rfl rfl ?_
              refine wl_gnou rfl rfl rfl ?_
              refine wl_gnou rfl rfl rfl ?_
              refine wl_gno rfl rfl rfl rfl ?_
              refine o_y (y_pick_t rfl rfl) rfl rfl ?_
              refine o_y (y_move rfl) rfl rfl ?_
              refine wl_gno rfl rfl rfl rfl ?_
              refine wl_gno rfl rfl rfl rfl ?_
              refine wl_gno rfl rfl rfl rfl ?_
              refine wl_gno rfl rfl rfl rfl ?_
              refine wl_gnou rfl rfl rfl ?_
              refine wl_gnou rfl rfl rfl ?_
              refine wl_gnou rfl rfl rfl ?_
              refine wl_gno rfl rfl rfl rfl ?_
              refine o_y (y_pick_t rfl rfl) rfl rfl ?_
              refine o_y (y_move rfl) rfl rfl ?_
              refine wl_gno rfl rfl rfl rfl ?_
              refine wl_gno rfl rfl rfl rfl ?_
              refine wl_gno rfl rfl rfl rfl ?_
              refine wl_gno rfl rfl rfl rfl ?_
              refine wl_gno rfl rfl rfl rfl ?_
              refine wl_gno rfl rfl rfl rfl ?_
              refine wl_gno rfl rfl rfl rfl ?_
              refine o_y (y_pick_t rfl rfl) rfl rfl ?_
              refine wl_nil ?_
              refine e_seq ?_
              refine w_cond_t rfl ?_
              refine w_seq ?_
              have hB : hasBad (hasT t) d := by simp_all [hasBad]
              refine w_region ?_
              refine o_y (y_assign rfl) rfl rfl ?_
              refine wl_nil ?_
              refine e_seq ?_
              refine w_ret ?_
              refine e_seq_ret ?_
              refine e_ret (ts := [4]) rfl rfl rfl (fun w hw => ?_)
              first
                | exact ⟨by rw [dataCk, if_pos (by omega)]; rfl, hw.base⟩
                | exact ⟨by rw [dataCk, if_neg (by omega), if_pos hB]; rfl, hw.base⟩
                | exact ⟨by rw [dataCk, if_neg (by omega), if_neg hB, if_pos hA]; rfl, hw.base⟩
                | exact ⟨by rw [dataCk, if_neg (by omega), if_neg hB, if_neg hA, if_neg hN]; rfl, hw.base⟩
                | exact ⟨by rw [dataCk, if_neg (by omega), if_neg hB, if_neg hA, if_pos hN]; rfl, hw.base⟩
                | (trace_state; fail)
            · skip
              refine wl_gyes rfl rfl ?_
              refine o_y (y_pick_t rfl rfl) rfl rfl ?_
              refine o_y (y_pick_f rfl rfl) rfl rfl ?_
              refine o_y (y_move rfl) rfl rfl ?_
              refine wl_gyes rfl rfl ?_
              refine o_y (y_field fa_123_2 rfl) rfl rfl ?_
              refine wl_gyes rfl rfl ?_
              refine o_y (y_loadr 0 ty_4 rfl rfl rfl) rfl rfl ?_
              refine wl_splitb (t := 38) rfl (fun h4_21 => ?_) (fun h4_21 => ?_)
              · skip
                refine wl_gyes rfl rfl ?_
                refine o_y (y_not rfl) rfl rfl ?_
                refine wl_gyes rfl rfl ?_
                refine o_y (y_move rfl) rfl rfl ?_
                refine wl_gno rfl rfl rfl rfl ?_
                refine wl_gno rfl rfl rfl rfl ?_
                refine wl_gno rfl rfl rfl rfl ?_
                refine wl_gyes rfl rfl ?_
                refine o_y (y_pick_f rfl rfl) rfl rfl ?_
                refine o_y (y_pick_f rfl rfl) rfl rfl ?_
                refine o_y (y_move rfl) rfl rfl ?_
                refine wl_gyes rfl rfl ?_
                refine o_y (y_field fa_123_4 rfl) rfl rfl ?_
                refine wl_gyes rfl rfl ?_
                refine o_y (y_loadr 0 ty_4 rfl rfl rfl) rfl rfl ?_
                refine wl_splitb (t := 48) rfl (fun h4_31 => ?_) (fun h4_31 => ?_)
                · skip
                  refine wl_gyes rfl rfl ?_
                  refine o_y (y_not rfl) rfl rfl ?_
                  refine wl_gyes rfl rfl ?_
                  refine o_y (y_move rfl) rfl rfl ?_
                  refine wl_gno rfl rfl rfl rfl ?_
                  refine wl_gno rfl rfl rfl rfl ?_
                  refine wl_gno rfl rfl rfl rfl ?_
                  refine wl_gyes rfl rfl ?_
                  refine o_y (y_pick_f rfl rfl) rfl rfl ?_
                  refine o_y (y_pick_f rfl rfl) rfl rfl ?_
                  refine o_y (y_move rfl) rfl rfl ?_
                  refine wl_gyes rfl rfl ?_
                  refine o_y (y_field fa_123_3 rfl) rfl rfl ?_
                  refine wl_gyes rfl rfl ?_
                  refine o_y (y_loadr 0 ty_4 rfl rfl rfl) rfl rfl ?_
                  refine wl_gyes rfl rfl ?_
                  refine o_y (y_field fa_58_4 rfl) rfl rfl ?_
                  refine wl_gyes rfl rfl ?_
                  refine o_y (y_loadr 1 ty_56 rfl rfl rfl) rfl rfl ?_
                  refine wl_gyes rfl rfl ?_
                  refine o_y (y_lenl Try.underlying56 rfl) rfl rfl ?_
                  refine wl_gyes rfl rfl ?_
                  refine o_y (y_gtr rfl rfl) rfl rfl ?_
                  refine wl_gyes rfl rfl ?_
                  refine o_y (y_neqb Try.underlying4 rfl rfl) rfl rfl ?_
                  refine wl_splitp (t := 63) rfl (fun h4_46 => ?_) (fun h4_46 => ?_)
                  · skip
                    refine o_y (y_pick_f rfl rfl) rfl rfl ?_
                    refine wl_nil ?_
                    refine e_seq ?_
                    refine w_cond_t rfl ?_
                    refine w_seq ?_
                    have hB : hasBad (hasT t) d := by simp_all [hasBad]
                    refine w_region ?_
                    refine o_y (y_assign rfl) rfl rfl ?_
                    refine wl_nil ?_
                    refine e_seq ?_
                    refine w_ret ?_
                    refine e_seq_ret ?_
                    refine e_ret (ts := [4]) rfl rfl rfl (fun w hw => ?_)
                    first
                      | exact ⟨by rw [dataCk, if_pos (by omega)]; rfl, hw.base⟩
                      | exact ⟨by rw [dataCk, if_neg (by omega), if_pos hB]; rfl, hw.base⟩
                      | exact ⟨by rw [dataCk, if_neg (by omega), if_neg hB, if_pos hA]; rfl, hw.base⟩
                      | exact ⟨by rw [dataCk, if_neg (by omega), if_neg hB, if_neg hA, if_neg hN]; rfl, hw.base⟩
                      | exact ⟨by rw [dataCk, if_neg (by omega), if_neg hB, if_neg hA, if_pos hN]; rfl, hw.base⟩
                      | (trace_state; fail)
                  · skip
                    refine o_y (y_pick_f rfl rfl) rfl rfl ?_
                    refine wl_nil ?_
                    refine e_seq ?_
                    refine w_cond_f rfl ?_
                    refine w_skip ?_
                    refine e_seq ?_
                    exact J4 _ (by repeat (first | exact trivial | refine ⟨rfl, ?_⟩)) (by simp_all [hasBad])
                · skip
                  refine wl_gyes rfl rfl ?_
                  refine o_y (y_not rfl) rfl rfl ?_
                  refine wl_gyes rfl rfl ?_
                  refine o_y (y_move rfl) rfl rfl ?_
                  refine wl_gyes rfl rfl ?_
                  refine o_y (y_field fa_58_5 rfl) rfl rfl ?_
                  refine wl_gyes rfl rfl ?_
                  refine o_y (y_loadr 1 ty_9 rfl rfl rfl) rfl rfl ?_
                  refine wl_gyes rfl rfl ?_
                  refine o_y (y_neqs rfl rfl) rfl rfl ?_
                  refine wl_splitp (t := 53) rfl (fun h4_36 => ?_) (fun h4_36 => ?_)
                  · skip
                    refine wl_gyes rfl rfl ?_
                    refine o_y (y_pick_t rfl rfl) rfl rfl ?_
                    refine o_y (y_pick_f rfl rfl) rfl rfl ?_
                    refine o_y (y_move rfl) rfl rfl ?_
                    refine wl_gno rfl rfl rfl rfl ?_
                    refine wl_gno rfl rfl rfl rfl ?_
                    refine wl_gno rfl rfl rfl rfl ?_
                    refine wl_gno rfl rfl rfl rfl ?_
                    refine wl_gno rfl rfl rfl rfl ?_
                    refine wl_gno rfl rfl rfl rfl ?_
                    refine wl_gno rfl rfl rfl rfl ?_
                    refine o_y (y_pick_t rfl rfl) rfl rfl ?_
                    refine wl_nil ?_
                    refine e_seq ?_
                    refine w_cond_t rfl ?_
                    refine w_seq ?_
                    have hB : hasBad (hasT t) d := by simp_all [hasBad]
                    refine w_region ?_
                    refine o_y (y_assign rfl) rfl rfl ?_
                    refine wl_nil ?_
                    refine e_seq ?_
                    refine w_ret ?_
                    refine e_seq_ret ?_
                    refine e_ret (ts := [4]) rfl rfl rfl (fun w hw => ?_)
                    first
                      | exact ⟨by rw [dataCk, if_pos (by omega)]; rfl, hw.base⟩
                      | exact ⟨by rw [dataCk, if_neg (by omega), if_pos hB]; rfl, hw.base⟩
                      | exact ⟨by rw [dataCk, if_neg (by omega), if_neg hB, if_pos hA]; rfl, hw.base⟩
                      | exact ⟨by rw [dataCk, if_neg (by omega), if_neg hB, if_neg hA, if_neg hN]; rfl, hw.base⟩
                      | exact ⟨by rw [dataCk, if_neg (by omega), if_neg hB, if_neg hA, if_pos hN]; rfl, hw.base⟩
                      | (trace_state; fail)
                  · skip
                    refine wl_gyes rfl rfl ?_
                    refine o_y (y_pick_t rfl rfl) rfl rfl ?_
                    refine o_y (y_pick_f rfl rfl) rfl rfl ?_
                    refine o_y (y_move rfl) rfl rfl ?_
                    refine wl_gyes rfl rfl ?_
                    refine o_y (y_field fa_123_3 rfl) rfl rfl ?_
                    refine wl_gyes rfl rfl ?_
                    refine o_y (y_loadr 0 ty_4 rfl rfl rfl) rfl rfl ?_
                    refine wl_gyes rfl rfl ?_
                    refine o_y (y_field fa_58_4 rfl) rfl rfl ?_
                    refine wl_gyes rfl rfl ?_
                    refine o_y (y_loadr 1 ty_56 rfl rfl rfl) rfl rfl ?_
                    refine wl_gyes rfl rfl ?_
                    refine o_y (y_lenl Try.underlying56 rfl) rfl rfl ?_
                    refine wl_gyes rfl rfl ?_
                    refine o_y (y_gtr rfl rfl) rfl rfl ?_
                    refine wl_gyes rfl rfl ?_
                    refine o_y (y_neqb Try.underlying4 rfl rfl) rfl rfl ?_
                    refine wl_splitp (t := 63) rfl (fun h4_46 => ?_) (fun h4_46 => ?_)
                    · skip
                      refine o_y (y_pick_f rfl rfl) rfl rfl ?_
                      refine wl_nil ?_
                      refine e_seq ?_
                      refine w_cond_t rfl ?_
                      refine w_seq ?_
                      have hB : hasBad (hasT t) d := by simp_all [hasBad]
                      refine w_region ?_
                      refine o_y (y_assign rfl) rfl rfl ?_
                      refine wl_nil ?_
                      refine e_seq ?_
                      refine w_ret ?_
                      refine e_seq_ret ?_
                      refine e_ret (ts := [4]) rfl rfl rfl (fun w hw => ?_)
                      first
                        | exact ⟨by rw [dataCk, if_pos (by omega)]; rfl, hw.base⟩
                        | exact ⟨by rw [dataCk, if_neg (by omega), if_pos hB]; rfl, hw.base⟩
                        | exact ⟨by rw [dataCk, if_neg (by omega), if_neg hB, if_pos hA]; rfl, hw.base⟩
                        | exact ⟨by rw [dataCk, if_neg (by omega), if_neg hB, if_neg hA, if_neg hN]; rfl, hw.base⟩
                        | exact ⟨by rw [dataCk, if_neg (by omega), if_neg hB, if_neg hA, if_pos hN]; rfl, hw.base⟩
                        | (trace_state; fail)
                    · skip
                      refine o_y (y_pick_f rfl rfl) rfl rfl ?_
                      refine wl_nil ?_
                      refine e_seq ?_
                      refine w_cond_f rfl ?_
                      refine w_skip ?_
                      refine e_seq ?_
                      exact J4 _ (by repeat (first | exact trivial | refine ⟨rfl, ?_⟩)) (by simp_all [hasBad])
              · skip
                refine wl_gyes rfl rfl ?_
                refine o_y (y_not rfl) rfl rfl ?_
                refine wl_gyes rfl rfl ?_
                refine o_y (y_move rfl) rfl rfl ?_
                refine wl_gyes rfl rfl ?_
                refine o_y (y_field fa_58_2 rfl) rfl rfl ?_
                refine wl_gyes rfl rfl ?_
                refine o_y (y_loadr 1 ty_22 rfl rfl rfl) rfl rfl ?_
                refine wl_gyes rfl rfl ?_
                refine o_y (y_neqs rfl rfl) rfl rfl ?_
                refine wl_splitp (t := 43) rfl (fun h4_26 => ?_) (fun h4_26 => ?_)
                · skip
                  refine wl_gyes rfl rfl ?_
                  refine o_y (y_pick_t rfl rfl) rfl rfl ?_
                  refine o_y (y_pick_f rfl rfl) rfl rfl ?_
                  refine o_y (y_move rfl) rfl rfl ?_
                  refine wl_gno rfl rfl rfl rfl ?_
                  refine wl_gno rfl rfl rfl rfl ?_
                  refine wl_gno rfl rfl rfl rfl ?_
                  refine wl_gno rfl rfl rfl rfl ?_
                  refine wl_gnou rfl rfl rfl ?_
                  refine wl_gnou rfl rfl rfl ?_
                  refine wl_gnou rfl rfl rfl ?_
                  refine wl_gno rfl rfl rfl rfl ?_
                  refine o_y (y_pick_t rfl rfl) rfl rfl ?_
                  refine o_y (y_move rfl) rfl rfl ?_
                  refine wl_gno rfl rfl rfl rfl ?_
                  refine wl_gno rfl rfl rfl rfl ?_
                  refine wl_gno rfl rfl rfl rfl ?_
                  refine wl_gno rfl rfl rfl rfl ?_
                  refine wl_gno rfl rfl rfl rfl ?_
                  refine wl_gno rfl rfl rfl rfl ?_
                  refine wl_gno rfl rfl rfl rfl ?_
                  refine o_y (y_pick_t rfl rfl) rfl rfl ?_
                  refine wl_nil ?_
                  refine e_seq ?_
                  refine w_cond_t rfl ?_
                  refine w_seq ?_
                  have hB : hasBad (hasT t) d := by simp_all [hasBad]
                  refine w_region ?_
                  refine o_y (y_assign rfl) rfl rfl ?_
                  refine wl_nil ?_
                  refine e_seq ?_
                  refine w_ret ?_
                  refine e_seq_ret ?_
                  refine e_ret (ts := [4]) rfl rfl rfl (fun w hw => ?_)
                  first
                    | exact ⟨by rw [dataCk, if_pos (by omega)]; rfl, hw.base⟩
                    | exact ⟨by rw [dataCk, if_neg (by omega), if_pos hB]; rfl, hw.base⟩
                    | exact ⟨by rw [dataCk, if_neg (by omega), if_neg hB, if_pos hA]; rfl, hw.base⟩
                    | exact ⟨by rw [dataCk, if_neg (by omega), if_neg hB, if_neg hA, if_neg hN]; rfl, hw.base⟩
                    | exact ⟨by rw [dataCk, if_neg (by omega), if_neg hB, if_neg hA, if_pos hN]; rfl, hw.base⟩
                    | (trace_state; fail)
                · skip
                  refine wl_gyes rfl rfl ?_
                  refine o_y (y_pick_t rfl rfl) rfl rfl ?_
                  refine o_y (y_pick_f rfl rfl) rfl rfl ?_
                  refine o_y (y_move rfl) rfl rfl ?_
                  refine wl_gyes rfl rfl ?_
                  refine o_y (y_field fa_123_4 rfl) rfl rfl ?_
                  refine wl_gyes rfl rfl ?_
                  refine o_y (y_loadr 0 ty_4 rfl rfl rfl) rfl rfl ?_
                  refine wl_splitb (t := 48) rfl (fun h4_31 => ?_) (fun h4_31 => ?_)
                  · skip
                    refine wl_gyes rfl rfl ?_
                    refine o_y (y_not rfl) rfl rfl ?_
                    refine wl_gyes rfl rfl ?_
                    refine o_y (y_move rfl) rfl rfl ?_
                    refine wl_gno rfl rfl rfl rfl ?_
                    refine wl_gno rfl rfl rfl rfl ?_
                    refine wl_gno rfl rfl rfl rfl ?_
                    refine wl_gyes rfl rfl ?_
                    refine o_y (y_pick_f rfl rfl) rfl rfl ?_
                    refine o_y (y_pick_f rfl rfl) rfl rfl ?_
                    refine o_y (y_move rfl) rfl rfl ?_
                    refine wl_gyes rfl rfl ?_
                    refine o_y (y_field fa_123_3 rfl) rfl rfl ?_
                    refine wl_gyes rfl rfl ?_
                    refine o_y (y_loadr 0 ty_4 rfl rfl rfl) rfl rfl ?_
                    refine wl_gyes rfl rfl ?_
                    refine o_y (y_field fa_58_4 rfl) rfl rfl ?_
                    refine wl_gyes rfl rfl ?_
                    refine o_y (y_loadr 1 ty_56 rfl rfl rfl) rfl rfl ?_
                    refine wl_gyes rfl rfl ?_
                    refine o_y (y_lenl Try.underlying56 rfl) rfl rfl ?_
                    refine wl_gyes rfl rfl ?_
                    refine o_y (y_gtr rfl rfl) rfl rfl ?_
                    refine wl_gyes rfl rfl ?_
                    refine o_y (y_neqb Try.underlying4 rfl rfl) rfl rfl ?_
                    refine wl_splitp (t := 63) rfl (fun h4_46 => ?_) (fun h4_46 => ?_)
                    · skip
                      refine o_y (y_pick_f rfl rfl) rfl rfl ?_
                      refine wl_nil ?_
                      refine e_seq ?_
                      refine w_cond_t rfl ?_
                      refine w_seq ?_
                      have hB : hasBad (hasT t) d := by simp_all [hasBad]
                      refine w_region ?_
                      refine o_y (y_assign rfl) rfl rfl ?_
                      refine wl_nil ?_
                      refine e_seq ?_
                      refine w_ret ?_
                      refine e_seq_ret ?_
                      refine e_ret (ts := [4]) rfl rfl rfl (fun w hw => ?_)
                      first
                        | exact ⟨by rw [dataCk, if_pos (by omega)]; rfl, hw.base⟩
                        | exact ⟨by rw [dataCk, if_neg (by omega), if_pos hB]; rfl, hw.base⟩
                        | exact ⟨by rw [dataCk, if_neg (by omega), if_neg hB, if_pos hA]; rfl, hw.base⟩
                        | exact ⟨by rw [dataCk, if_neg (by omega), if_neg hB, if_neg hA, if_neg hN]; rfl, hw.base⟩
                        | exact ⟨by rw [dataCk, if_neg (by omega), if_neg hB, if_neg hA, if_pos hN]; rfl, hw.base⟩
                        | (trace_state; fail)
                    · skip
                      refine o_y (y_pick_f rfl rfl) rfl rfl ?_
                      refine wl_nil ?_
                      refine e_seq ?_
                      refine w_cond_f rfl ?_
                      refine w_skip ?_
                      refine e_seq ?_
                      exact J4 _ (by repeat (first | exact trivial | refine ⟨rfl, ?_⟩)) (by simp_all [hasBad])
                  · skip
                    refine wl_gyes rfl rfl ?_
                    refine o_y (y_not rfl) rfl rfl ?_
                    refine wl_gyes rfl rfl ?_
                    refine o_y (y_move rfl) rfl rfl ?_
                    refine wl_gyes rfl rfl ?_
                    refine o_y (y_field fa_58_5 rfl) rfl rfl ?_
                    refine wl_gyes rfl rfl ?_
                    refine o_y (y_loadr 1 ty_9 rfl rfl rfl) rfl rfl ?_
                    refine wl_gyes rfl rfl ?_
                    refine o_y (y_neqs rfl rfl) rfl rfl ?_
                    refine wl_splitp (t := 53) rfl (fun h4_36 => ?_) (fun h4_36 => ?_)
                    · skip
                      refine wl_gyes rfl rfl ?_
                      refine o_y (y_pick_t rfl rfl) rfl rfl ?_
                      refine o_y (y_pick_f rfl rfl) rfl rfl ?_
                      refine o_y (y_move rfl) rfl rfl ?_
                      refine wl_gno rfl rfl rfl rfl ?_
                      refine wl_gno rfl rfl rfl rfl ?_
                      refine wl_gno rfl rfl rfl rfl ?_
                      refine wl_gno rfl rfl rfl rfl ?_
                      refine wl_gno rfl rfl rfl rfl ?_
                      refine wl_gno rfl rfl rfl rfl ?_
                      refine wl_gno rfl rfl rfl rfl ?_
                      refine o_y (y_pick_t rfl rfl) rfl rfl ?_
                      refine wl_nil ?_
                      refine e_seq ?_
                      refine w_cond_t rfl ?_
                      refine w_seq ?_
                      have hB : hasBad (hasT t) d := by simp_all [hasBad]
                      refine w_region ?_
                      refine o_y (y_assign rfl) rfl rfl ?_
                      refine wl_nil ?_
                      refine e_seq ?_
                      refine w_ret ?_
                      refine e_seq_ret ?_
                      refine e_ret (ts := [4]) rfl rfl rfl (fun w hw => ?_)
                      first
                        | exact ⟨by rw [dataCk, if_pos (by omega)]; rfl, hw.base⟩
                        | exact ⟨by rw [dataCk, if_neg (by omega), if_pos hB]; rfl, hw.base⟩
                        | exact ⟨by rw [dataCk, if_neg (by omega), if_neg hB, if_pos hA]; rfl, hw.base⟩
                        | exact ⟨by rw [dataCk, if_neg (by omega), if_neg hB, if_neg hA, if_neg hN]; rfl, hw.base⟩
                        | exact ⟨by rw [dataCk, if_neg (by omega), if_neg hB, if_neg hA, if_pos hN]; rfl, hw.base⟩
                        | (trace_state; fail)
                    · skip
                      refine wl_gyes rfl rfl ?_
                      refine o_y (y_pick_t rfl rfl) rfl rfl ?_
                      refine o_y (y_pick_f rfl rfl) rfl rfl ?_
                      refine o_y (y_move rfl) rfl rfl ?_
                      refine wl_gyes rfl rfl ?_
                      refine o_y (y_field fa_123_3 rfl) rfl rfl ?_
                      refine wl_gyes rfl rfl ?_
                      refine o_y (y_loadr 0 ty_4 rfl rfl rfl) rfl rfl ?_
                      refine wl_gyes rfl rfl ?_
                      refine o_y (y_field fa_58_4 rfl) rfl rfl ?_
                      refine wl_gyes rfl rfl ?_
                      refine o_y (y_loadr 1 ty_56 rfl rfl rfl) rfl rfl ?_
                      refine wl_gyes rfl rfl ?_
                      refine o_y (y_lenl Try.underlying56 rfl) rfl rfl ?_
                      refine wl_gyes rfl rfl ?_
                      refine o_y (y_gtr rfl rfl) rfl rfl ?_
                      refine wl_gyes rfl rfl ?_
                      refine o_y (y_neqb Try.underlying4 rfl rfl) rfl rfl ?_
                      refine wl_splitp (t := 63) rfl (fun h4_46 => ?_) (fun h4_46 => ?_)
                      · skip
                        refine o_y (y_pick_f rfl rfl) rfl rfl ?_
                        refine wl_nil ?_
                        refine e_seq ?_
                        refine w_cond_t rfl ?_
                        refine w_seq ?_
                        have hB : hasBad (hasT t) d := by simp_all [hasBad]
                        refine w_region ?_
                        refine o_y (y_assign rfl) rfl rfl ?_
                        refine wl_nil ?_
                        refine e_seq ?_
                        refine w_ret ?_
                        refine e_seq_ret ?_
                        refine e_ret (ts := [4]) rfl rfl rfl (fun w hw => ?_)
                        first
                          | exact ⟨by rw [dataCk, if_pos (by omega)]; rfl, hw.base⟩
                          | exact ⟨by rw [dataCk, if_neg (by omega), if_pos hB]; rfl, hw.base⟩
                          | exact ⟨by rw [dataCk, if_neg (by omega), if_neg hB, if_pos hA]; rfl, hw.base⟩
                          | exact ⟨by rw [dataCk, if_neg (by omega), if_neg hB, if_neg hA, if_neg hN]; rfl, hw.base⟩
                          | exact ⟨by rw [dataCk, if_neg (by omega), if_neg hB, if_neg hA, if_pos hN]; rfl, hw.base⟩
                          | (trace_state; fail)
                      · skip
                        refine o_y (y_pick_f rfl rfl) rfl rfl ?_
                        refine wl_nil ?_
                        refine e_seq ?_
                        refine w_cond_f rfl ?_
                        refine w_skip ?_
                        refine e_seq ?_
                        exact J4 _ (by repeat (first | exact trivial | refine ⟨rfl, ?_⟩)) (by simp_all [hasBad])
        · skip
          refine o_y (y_not rfl) rfl rfl ?_
          refine o_y (y_move rfl) rfl rfl ?_
          refine wl_gyes rfl rfl ?_
          refine o_y (y_field fa_58_0 rfl) rfl rfl ?_
          refine wl_gyes rfl rfl ?_
          refine o_y (y_loadrs 1 ty_54 rfl rfl rfl rfl) rfl rfl ?_
          refine wl_gyes rfl rfl ?_
          refine o_y (y_build rfl (bu_54)) rfl rfl ?_
          refine wl_gyes rfl rfl ?_
          refine o_y (y_nestd (by kernel_rfl) rfl rfl (eqd_ad d.ad ad0) rfl) rfl rfl ?_
          refine wl_splitp (t := 24) rfl (fun h4_7 => ?_) (fun h4_7 => ?_)
          · skip
            refine o_y (y_pick_t rfl rfl) rfl rfl ?_
            refine o_y (y_move rfl) rfl rfl ?_
            refine wl_gno rfl rfl rfl rfl ?_
            refine wl_gno rfl rfl rfl rfl ?_
            refine wl_gno rfl rfl rfl rfl ?_
            refine wl_gno rfl rfl rfl rfl ?_
            refine wl_gnou rfl rfl rfl ?_
            refine wl_gnou rfl rfl rfl ?_
            refine wl_gnou rfl rfl rfl ?_
            refine wl_gno rfl rfl rfl rfl ?_
            refine o_y (y_pick_t rfl rfl) rfl rfl ?_
            refine o_y (y_move rfl) rfl rfl ?_
            refine wl_gno rfl rfl rfl rfl ?_
            refine wl_gno rfl rfl rfl rfl ?_
            refine wl_gno rfl rfl rfl rfl ?_
            refine wl_gno rfl rfl rfl rfl ?_
            refine wl_gnou rfl rfl rfl ?_
            refine wl_gnou rfl rfl rfl ?_
            refine wl_gnou rfl rfl rfl ?_
            refine wl_gno rfl rfl rfl rfl ?_
            refine o_y (y_pick_t rfl rfl) rfl rfl ?_
            refine o_y (y_move rfl) rfl rfl ?_
            refine wl_gno rfl rfl rfl rfl ?_
            refine wl_gno rfl rfl rfl rfl ?_
            refine wl_gno rfl rfl rfl rfl ?_
            refine wl_gno rfl rfl rfl rfl ?_
            refine wl_gnou rfl rfl rfl ?_
            refine wl_gnou rfl rfl rfl ?_
            refine wl_gnou rfl rfl rfl ?_
            refine wl_gno rfl rfl rfl rfl ?_
            refine o_y (y_pick_t rfl rfl) rfl rfl ?_
            refine o_y (y_move rfl) rfl rfl ?_
            refine wl_gno rfl rfl rfl rfl ?_
            refine wl_gno rfl rfl rfl rfl ?_
            refine wl_gno rfl rfl rfl rfl ?_
            refine wl_gno rfl rfl rfl rfl ?_
            refine wl_gno rfl rfl rfl rfl ?_
            refine wl_gno rfl rfl rfl rfl ?_
            refine wl_gno rfl rfl rfl rfl ?_
            refine o_y (y_pick_t rfl rfl) rfl rfl ?_
            refine wl_nil ?_
            refine e_seq ?_
            refine w_cond_t rfl ?_
            refine w_seq ?_
            have hB : hasBad (hasT t) d := by simp_all [hasBad]
            refine w_region ?_
            refine o_y (y_assign rfl) rfl rfl ?_
            refine wl_nil ?_
            refine e_seq ?_
            refine w_ret ?_
            refine e_seq_ret ?_
            refine e_ret (ts := [4]) rfl rfl rfl (fun w hw => ?_)
            first
              | exact ⟨by rw [dataCk, if_pos (by omega)]; rfl, hw.base⟩
              | exact ⟨by rw [dataCk, if_neg (by omega), if_pos hB]; rfl, hw.base⟩
              | exact ⟨by rw [dataCk, if_neg (by omega), if_neg hB, if_pos hA]; rfl, hw.base⟩
              | exact ⟨by rw [dataCk, if_neg (by omega), if_neg hB, if_neg hA, if_neg hN]; rfl, hw.base⟩
              | exact ⟨by rw [dataCk, if_neg (by omega), if_neg hB, if_neg hA, if_pos hN]; rfl, hw.base⟩
              | (trace_state; fail)
          · skip
            refine o_y (y_pick_t rfl rfl) rfl rfl ?_
            refine o_y (y_move rfl) rfl rfl ?_
            refine wl_gyes rfl rfl ?_
            refine o_y (y_field fa_123_1 rfl) rfl rfl ?_
            refine wl_gyes rfl rfl ?_
            refine o_y (y_loadr 0 ty_4 rfl rfl rfl) rfl rfl ?_
            refine wl_splitb (t := 28) rfl (fun h4_11 => ?_) (fun h4_11 => ?_)
            · skip
              refine wl_gyes rfl rfl ?_
              refine o_y (y_not rfl) rfl rfl ?_
              refine wl_gyes rfl rfl ?_
              refine o_y (y_move rfl) rfl rfl ?_
              refine wl_gno rfl rfl rfl rfl ?_
              refine wl_gno rfl rfl rfl rfl ?_
              refine wl_gno rfl rfl rfl rfl ?_
              refine wl_gyes rfl rfl ?_
              refine o_y (y_pick_f rfl rfl) rfl rfl ?_
              refine o_y (y_pick_f rfl rfl) rfl rfl ?_
              refine o_y (y_move rfl) rfl rfl ?_
              refine wl_gyes rfl rfl ?_
              refine o_y (y_field fa_123_2 rfl) rfl rfl ?_
              refine wl_gyes rfl rfl ?_
              refine o_y (y_loadr 0 ty_4 rfl rfl rfl) rfl rfl ?_
              refine wl_splitb (t := 38) rfl (fun h4_21 => ?_) (fun h4_21 => ?_)
              · skip
                refine wl_gyes rfl rfl ?_
                refine o_y (y_not rfl) rfl rfl ?_
                refine wl_gyes rfl rfl ?_
                refine o_y (y_move rfl) rfl rfl ?_
                refine wl_gno rfl rfl rfl rfl ?_
                refine wl_gno rfl rfl rfl rfl ?_
                refine wl_gno rfl rfl rfl rfl ?_
                refine wl_gyes rfl rfl ?_
                refine o_y (y_pick_f rfl rfl) rfl rfl ?_
                refine o_y (y_pick_f rfl rfl) rfl rfl ?_
                refine o_y (y_move rfl) rfl rfl ?_
                refine wl_gyes rfl rfl ?_
                refine o_y (y_field fa_123_4 rfl) rfl rfl ?_
                refine wl_gyes rfl rfl ?_
                refine o_y (y_loadr 0 ty_4 rfl rfl rfl) rfl rfl ?_
                refine wl_splitb (t := 48) rfl (fun h4_31 => ?_) (fun h4_31 => ?_)
                · skip
                  refine wl_gyes rfl rfl ?_
                  refine o_y (y_not rfl) rfl rfl ?_
                  refine wl_gyes rfl rfl ?_
                  refine o_y (y_move rfl) rfl rfl ?_
                  refine wl_gno rfl rfl rfl rfl ?_
                  refine wl_gno rfl rfl rfl rfl ?_
                  refine wl_gno rfl rfl rfl rfl ?_
                  refine wl_gyes rfl rfl ?_
                  refine o_y (y_pick_f rfl rfl) rfl rfl ?_
                  refine o_y (y_pick_f rfl rfl) rfl rfl ?_
                  refine o_y (y_move rfl) rfl rfl ?_
                  refine wl_gyes rfl rfl ?_
                  refine o_y (y_field fa_123_3 rfl) rfl rfl ?_
                  refine wl_gyes rfl rfl ?_
                  refine o_y (y_loadr 0 ty_4 rfl rfl rfl) rfl rfl ?_
                  refine wl_gyes rfl rfl ?_
                  refine o_y (y_field fa_58_4 rfl) rfl rfl ?_
                  refine wl_gyes rfl rfl ?_
                  refine o_y (y_loadr 1 ty_56 rfl rfl rfl) rfl rfl ?_
                  refine wl_gyes rfl rfl ?_
                  refine o_y (y_lenl Try.underlying56 rfl) rfl rfl ?_
                  refine wl_gyes rfl rfl ?_
                  refine o_y (y_gtr rfl rfl) rfl rfl ?_
                  refine wl_gyes rfl rfl ?_
                  refine o_y (y_neqb Try.underlying4 rfl rfl) rfl rfl ?_
                  refine wl_splitp (t := 63) rfl (fun h4_46 => ?_) (fun h4_46 => ?_)
                  · skip
                    refine o_y (y_pick_f rfl rfl) rfl rfl ?_
                    refine wl_nil ?_
                    refine e_seq ?_
                    refine w_cond_t rfl ?_
                    refine w_seq ?_
                    have hB : hasBad (hasT t) d := by simp_all [hasBad]
                    refine w_region ?_
                    refine o_y (y_assign rfl) rfl rfl ?_
                    refine wl_nil ?_
                    refine e_seq ?_
                    refine w_ret ?_
                    refine e_seq_ret ?_
                    refine e_ret (ts := [4]) rfl rfl rfl (fun w hw => ?_)
                    first
                      | exact ⟨by rw [dataCk, if_pos (by omega)]; rfl, hw.base⟩
                      | exact ⟨by rw [dataCk, if_neg (by omega), if_pos hB]; rfl, hw.base⟩
                      | exact ⟨by rw [dataCk, if_neg (by omega), if_neg hB, if_pos hA]; rfl, hw.base⟩
                      | exact ⟨by rw [dataCk, if_neg (by omega), if_neg hB, if_neg hA, if_neg hN]; rfl, hw.base⟩
                      | exact ⟨by rw [dataCk, if_neg (by omega), if_neg hB, if_neg hA, if_pos hN]; rfl, hw.base⟩
                      | (trace_state; fail)
                  · skip
                    refine o_y (y_pick_f rfl rfl) rfl rfl ?_
                    refine wl_nil ?_
                    refine e_seq ?_
                    refine w_cond_f rfl ?_
                    refine w_skip ?_
                    refine e_seq ?_
                    exact J4 _ (by repeat (first | exact trivial | refine ⟨rfl, ?_⟩)) (by simp_all [hasBad])
                · skip
                  refine wl_gyes rfl rfl ?_
                  refine o_y (y_not rfl) rfl rfl ?_
                  refine wl_gyes rfl rfl ?_
                  refine o_y (y_move rfl) rfl rfl ?_
                  refine wl_gyes rfl rfl ?_
                  refine o_y (y_field fa_58_5 rfl) rfl rfl ?_
                  refine wl_gyes rfl rfl ?_
                  refine o_y (y_loadr 1 ty_9 rfl rfl rfl) rfl rfl ?_
                  refine wl_gyes rfl rfl ?_
                  refine o_y (y_neqs rfl rfl) rfl rfl ?_
                  refine wl_splitp (t := 53) rfl (fun h4_36 => ?_) (fun h4_36 => ?_)
                  · skip
                    refine wl_gyes rfl rfl ?_
                    refine o_y (y_pick_t rfl rfl) rfl rfl ?_
                    refine o_y (y_pick_f rfl rfl) rfl rfl ?_
                    refine o_y (y_move rfl) rfl rfl ?_
                    refine wl_gno rfl rfl rfl rfl ?_
                    refine wl_gno rfl rfl rfl rfl ?_
                    refine wl_gno rfl rfl rfl rfl ?_
                    refine wl_gno rfl rfl rfl rfl ?_
                    refine wl_gno rfl rfl rfl rfl ?_
                    refine wl_gno rfl rfl rfl rfl ?_
                    refine wl_gno rfl rfl rfl rfl ?_
                    refine o_y (y_pick_t rfl rfl) rfl rfl ?_
                    refine wl_nil ?_
                    refine e_seq ?_
                    refine w_cond_t rfl ?_
                    refine w_seq ?_
                    have hB : hasBad (hasT t) d := by simp_all [hasBad]
                    refine w_region ?_
                    refine o_y (y_assign rfl) rfl rfl ?_
                    refine wl_nil ?_
                    refine e_seq ?_
                    refine w_ret ?_
                    refine e_seq_ret ?_
                    refine e_ret (ts := [4]) rfl rfl rfl (fun w hw => ?_)
                    first
                      | exact ⟨by rw [dataCk, if_pos (by omega)]; rfl, hw.base⟩
                      | exact ⟨by rw [dataCk, if_neg (by omega), if_pos hB]; rfl, hw.base⟩
                      | exact ⟨by rw [dataCk, if_neg (by omega), if_neg hB, if_pos hA]; rfl, hw.base⟩
                      | exact ⟨by rw [dataCk, if_neg (by omega), if_neg hB, if_neg hA, if_neg hN]; rfl, hw.base⟩
                      | exact ⟨by rw [dataCk, if_neg (by omega), if_neg hB, if_neg hA, if_pos hN]; rfl, hw.base⟩
                      | (trace_state; fail)
                  · skip
                    refine wl_gyes rfl rfl ?_
                    refine o_y (y_pick_t rfl rfl) rfl rfl ?_
                    refine o_y (y_pick_f rfl rfl) rfl rfl ?_
                    refine o_y (y_move rfl) rfl rfl ?_
                    refine wl_gyes rfl rfl ?_
                    refine o_y (y_field fa_123_3 rfl) rfl rfl ?_
                    refine wl_gyes rfl rfl ?_
                    refine o_y (y_loadr 0 ty_4 rfl rfl rfl) rfl rfl ?_
                    refine wl_gyes rfl rfl ?_
                    refine o_y (y_field fa_58_4 rfl) rfl rfl ?_
                    refine wl_gyes rfl rfl ?_
                    refine o_y (y_loadr 1 ty_56 rfl rfl rfl) rfl rfl ?_
                    refine wl_gyes rfl rfl ?_
                    refine o_y (y_lenl Try.underlying56 rfl) rfl rfl ?_
                    refine wl_gyes rfl rfl ?_
                    refine o_y (y_gtr rfl rfl) rfl rfl ?_
                    refine wl_gyes rfl rfl ?_
                    refine o_y (y_neqb Try.underlying4 rfl rfl) rfl rfl ?_
                    refine wl_splitp (t := 63) rfl (fun h4_46 => ?_) (fun h4_46 => ?_)
                    · skip
                      refine o_y (y_pick_f rfl rfl) rfl rfl ?_
                      refine wl_nil ?_
                      refine e_seq ?_
                      refine w_cond_t rfl ?_
                      refine w_seq ?_
                      have hB : hasBad (hasT t) d := by simp_all [hasBad]
                      refine w_region ?_
                      refine o_y (y_assign rfl) rfl rfl ?_
                      refine wl_nil ?_
                      refine e_seq ?_
                      refine w_ret ?_
                      refine e_seq_ret ?_
                      refine e_ret (ts := [4]) rfl rfl rfl (fun w hw => ?_)
                      first
                        | exact ⟨by rw [dataCk, if_pos (by omega)]; rfl, hw.base⟩
                        | exact ⟨by rw [dataCk, if_neg (by omega), if_pos hB]; rfl, hw.base⟩
                        | exact ⟨by rw [dataCk, if_neg (by omega), if_neg hB, if_pos hA]; rfl, hw.base⟩
                        | exact ⟨by rw [dataCk, if_neg (by omega), if_neg hB, if_neg hA, if_neg hN]; rfl, hw.base⟩
                        | exact ⟨by rw [dataCk, if_neg (by omega), if_neg hB, if_neg hA, if_pos hN]; rfl, hw.base⟩
                        | (trace_state; fail)
                    · skip
                      refine o_y (y_pick_f rfl rfl) rfl rfl ?_
                      refine wl_nil ?_
                      refine e_seq ?_
                      refine w_cond_f rfl ?_
                      refine w_skip ?_
                      refine e_seq ?_
                      exact J4 _ (by repeat (first | exact trivial | refine ⟨rfl, ?_⟩)) (by simp_all [hasBad])
              · skip
                refine wl_gyes rfl rfl ?_
                refine o_y (y_not rfl) rfl rfl ?_
                refine wl_gyes rfl rfl ?_
                refine o_y (y_move rfl) rfl rfl ?_
                refine wl_gyes rfl rfl ?_
                refine o_y (y_field fa_58_2 rfl) rfl rfl ?_
                refine wl_gyes rfl rfl ?_
                refine o_y (y_loadr 1 ty_22 rfl rfl rfl) rfl rfl ?_
                refine wl_gyes rfl rfl ?_
                refine o_y (y_neqs rfl rfl) rfl rfl ?_
                refine wl_splitp (t := 43) rfl (fun h4_26 => ?_) (fun h4_26 => ?_)
                · skip
                  refine wl_gyes rfl rfl ?_
                  refine o_y (y_pick_t rfl rfl) rfl rfl ?_
                  refine o_y (y_pick_f rfl rfl) rfl rfl ?_
                  refine o_y (y_move rfl) rfl rfl ?_
                  refine wl_gno rfl rfl rfl rfl ?_
                  refine wl_gno rfl rfl rfl rfl ?_
                  refine wl_gno rfl rfl rfl rfl ?_
                  refine wl_gno rfl rfl rfl rfl ?_
                  refine wl_gnou rfl rfl rfl ?_
                  refine wl_gnou rfl rfl rfl ?_
                  refine wl_gnou rfl rfl rfl ?_
                  refine wl_gno rfl rfl rfl rfl ?_
                  refine o_y (y_pick_t rfl rfl) rfl rfl ?_
                  refine o_y (y_move rfl) rfl rfl ?_
                  refine wl_gno rfl rfl rfl rfl ?_
                  refine wl_gno rfl rfl rfl rfl ?_
                  refine wl_gno rfl rfl rfl rfl ?_
                  refine wl_gno rfl rfl rfl rfl ?_
                  refine wl_gno rfl rfl rfl rfl ?_
                  refine wl_gno rfl rfl rfl rfl ?_
                  refine wl_gno rfl rfl rfl rfl ?_
                  refine o_y (y_pick_t rfl rfl) rfl rfl ?_
                  refine wl_nil ?_
                  refine e_seq ?_
                  refine w_cond_t rfl ?_
                  refine w_seq ?_
                  have hB : hasBad (hasT t) d := by simp_all [hasBad]
                  refine w_region ?_
                  refine o_y (y_assign rfl) rfl rfl ?_
                  refine wl_nil ?_
                  refine e_seq ?_
                  refine w_ret ?_
                  refine e_seq_ret ?_
                  refine e_ret (ts := [4]) rfl rfl rfl (fun w hw => ?_)
                  first
                    | exact ⟨by rw [dataCk, if_pos (by omega)]; rfl, hw.base⟩
                    | exact ⟨by rw [dataCk, if_neg (by omega), if_pos hB]; rfl, hw.base⟩
                    | exact ⟨by rw [dataCk, if_neg (by omega), if_neg hB, if_pos hA]; rfl, hw.base⟩
                    | exact ⟨by rw [dataCk, if_neg (by omega), if_neg hB, if_neg hA, if_neg hN]; rfl, hw.base⟩
                    | exact ⟨by rw [dataCk, if_neg (by omega), if_neg hB, if_neg hA, if_pos hN]; rfl, hw.base⟩
                    | (trace_state; fail)
                · skip
                  refine wl_gyes rfl rfl ?_
                  refine o_y (y_pick_t rfl rfl) rfl rfl ?_
                  refine o_y (y_pick_f rfl rfl) rfl rfl ?_
                  refine o_y (y_move rfl) rfl rfl ?_
                  refine wl_gyes rfl rfl ?_
                  refine o_y (y_field fa_123_4 rfl) rfl rfl ?_
                  refine wl_gyes rfl rfl ?_
                  refine o_y (y_loadr 0 ty_4 rfl rfl rfl) rfl rfl ?_
                  refine wl_splitb (t := 48) rfl (fun h4_31 => ?_) (fun h4_31 => ?_)
                  · skip
                    refine wl_gyes rfl rfl ?_
                    refine o_y (y_not rfl) rfl rfl ?_
                    refine wl_gyes rfl rfl ?_
                    refine o_y (y_move rfl) rfl rfl ?_
                    refine wl_gno rfl rfl rfl rfl ?_
                    refine wl_gno rfl rfl rfl rfl ?_
                    refine wl_gno rfl rfl rfl rfl ?_
                    refine wl_gyes rfl rfl ?_
                    refine o_y (y_pick_f rfl rfl) rfl rfl ?_
                    refine o_y (y_pick_f rfl rfl) rfl rfl ?_
                    refine o_y (y_move rfl) rfl rfl ?_
                    refine wl_gyes rfl rfl ?_
                    refine o_y (y_field fa_123_3 rfl) rfl rfl ?_
                    refine wl_gyes rfl rfl ?_
                    refine o_y (y_loadr 0 ty_4 rfl rfl rfl) rfl rfl ?_
                    refine wl_gyes rfl rfl ?_
                    refine o_y (y_field fa_58_4 rfl) rfl rfl ?_
                    refine wl_gyes rfl rfl ?_
                    refine o_y (y_loadr 1 ty_56 rfl rfl rfl) rfl rfl ?_
                    refine wl_gyes rfl rfl ?_
                    refine o_y (y_lenl Try.underlying56 rfl) rfl rfl ?_
                    refine wl_gyes rfl rfl ?_
                    refine o_y (y_gtr rfl rfl) rfl rfl ?_
                    refine wl_gyes rfl rfl ?_
                    refine o_y (y_neqb Try.underlying4 rfl rfl) rfl rfl ?_
                    refine wl_splitp (t := 63) rfl (fun h4_46 => ?_) (fun h4_46 => ?_)
                    · skip
                      refine o_y (y_pick_f rfl rfl) rfl rfl ?_
                      refine wl_nil ?_
                      refine e_seq ?_
                      refine w_cond_t rfl ?_
                      refine w_seq ?_
                      have hB : hasBad (hasT t) d := by simp_all [hasBad]
                      refine w_region ?_
                      refine o_y (y_assign rfl) rfl rfl ?_
                      refine wl_nil ?_
                      refine e_seq ?_
                      refine w_ret ?_
                      refine e_seq_ret ?_
                      refine e_ret (ts := [4]) rfl rfl rfl (fun w hw => ?_)
                      first
                        | exact ⟨by rw [dataCk, if_pos (by omega)]; rfl, hw.base⟩
                        | exact ⟨by rw [dataCk, if_neg (by omega), if_pos hB]; rfl, hw.base⟩
                        | exact ⟨by rw [dataCk, if_neg (by omega), if_neg hB, if_pos hA]; rfl, hw.base⟩
                        | exact ⟨by rw [dataCk, if_neg (by omega), if_neg hB, if_neg hA, if_neg hN]; rfl, hw.base⟩
                        | exact ⟨by rw [dataCk, if_neg (by omega), if_neg hB, if_neg hA, if_pos hN]; rfl, hw.base⟩
                        | (trace_state; fail)
                    · skip
                      refine o_y (y_pick_f rfl rfl) rfl rfl ?_
                      refine wl_nil ?_
                      refine e_seq ?_
                      refine w_cond_f rfl ?_
                      refine w_skip ?_
                      refine e_seq ?_
                      exact J4 _ (by repeat (first | exact trivial | refine ⟨rfl, ?_⟩)) (by simp_all [hasBad])
                  · skip
                    refine wl_gyes rfl rfl ?_
                    refine o_y (y_not rfl) rfl rfl ?_
                    refine wl_gyes rfl rfl ?_
                    refine o_y (y_move rfl) rfl rfl ?_
                    refine wl_gyes rfl rfl ?_
                    refine o_y (y_field fa_58_5 rfl) rfl rfl ?_
                    refine wl_gyes rfl rfl ?_
                    refine o_y (y_loadr 1 ty_9 rfl rfl rfl) rfl rfl ?_
                    refine wl_gyes rfl rfl ?_
                    refine o_y (y_neqs rfl rfl) rfl rfl ?_
                    refine wl_splitp (t := 53) rfl (fun h4_36 => ?_) (fun h4_36 => ?_)
                    · skip
                      refine wl_gyes rfl rfl ?_
                      refine o_y (y_pick_t rfl rfl) rfl rfl ?_
                      refine o_y (y_pick_f rfl rfl) rfl rfl ?_
                      refine o_y (y_move rfl) rfl rfl ?_
                      refine wl_gno rfl rfl rfl rfl ?_
                      refine wl_gno rfl rfl rfl rfl ?_
                      refine wl_gno rfl rfl rfl rfl ?_
                      refine wl_gno rfl rfl rfl rfl ?_
                      refine wl_gno rfl rfl rfl rfl ?_
                      refine wl_gno rfl rfl rfl rfl ?_
                      refine wl_gno rfl rfl rfl rfl ?_
                      refine o_y (y_pick_t rfl rfl) rfl rfl ?_
                      refine wl_nil ?_
                      refine e_seq ?_
                      refine w_cond_t rfl ?_
                      refine w_seq ?_
                      have hB : hasBad (hasT t) d := by simp_all [hasBad]
                      refine w_region ?_
                      refine o_y (y_assign rfl) rfl rfl ?_
                      refine wl_nil ?_
                      refine e_seq ?_
                      refine w_ret ?_
                      refine e_seq_ret ?_
                      refine e_ret (ts := [4]) rfl rfl rfl (fun w hw => ?_)
                      first
                        | exact ⟨by rw [dataCk, if_pos (by omega)]; rfl, hw.base⟩
                        | exact ⟨by rw [dataCk, if_neg (by omega), if_pos hB]; rfl, hw.base⟩
                        | exact ⟨by rw [dataCk, if_neg (by omega), if_neg hB, if_pos hA]; rfl, hw.base⟩
                        | exact ⟨by rw [dataCk, if_neg (by omega), if_neg hB, if_neg hA, if_neg hN]; rfl, hw.base⟩
                        | exact ⟨by rw [dataCk, if_neg (by omega), if_neg hB, if_neg hA, if_pos hN]; rfl, hw.base⟩
                        | (trace_state; fail)
                    · skip
                      refine wl_gyes rfl rfl ?_
                      refine o_y (y_pick_t rfl rfl) rfl rfl ?_
                      refine o_y (y_pick_f rfl rfl) rfl rfl ?_
                      refine o_y (y_move rfl) rfl rfl ?_
                      refine wl_gyes rfl rfl ?_
                      refine o_y (y_field fa_123_3 rfl) rfl rfl ?_
                      refine wl_gyes rfl rfl ?_
                      refine o_y (y_loadr 0 ty_4 rfl rfl rfl) rfl rfl ?_
                      refine wl_gyes rfl rfl ?_
                      refine o_y (y_field fa_58_4 rfl) rfl rfl ?_
                      refine wl_gyes rfl rfl ?_
                      refine o_y (y_loadr 1 ty_56 rfl rfl rfl) rfl rfl ?_
                      refine wl_gyes rfl rfl ?_
                      refine o_y (y_lenl Try.underlying56 rfl) rfl rfl ?_
                      refine wl_gyes rfl rfl ?_
                      refine o_y (y_gtr rfl rfl) rfl rfl ?_
                      refine wl_gyes rfl rfl ?_
                      refine o_y (y_neqb Try.underlying4 rfl rfl) rfl rfl ?_
                      refine wl_splitp (t := 63) rfl (fun h4_46 => ?_) (fun h4_46 => ?_)
                      · skip
                        refine o_y (y_pick_f rfl rfl) rfl rfl ?_
                        refine wl_nil ?_
                        refine e_seq ?_
                        refine w_cond_t rfl ?_
                        refine w_seq ?_
                        have hB : hasBad (hasT t) d := by simp_all [hasBad]
                        refine w_region ?_
                        refine o_y (y_assign rfl) rfl rfl ?_
                        refine wl_nil ?_
                        refine e_seq ?_
                        refine w_ret ?_
                        refine e_seq_ret ?_
                        refine e_ret (ts := [4]) rfl rfl rfl (fun w hw => ?_)
                        first
                          | exact ⟨by rw [dataCk, if_pos (by omega)]; rfl, hw.base⟩
                          | exact ⟨by rw [dataCk, if_neg (by omega), if_pos hB]; rfl, hw.base⟩
                          | exact ⟨by rw [dataCk, if_neg (by omega), if_neg hB, if_pos hA]; rfl, hw.base⟩
                          | exact ⟨by rw [dataCk, if_neg (by omega), if_neg hB, if_neg hA, if_neg hN]; rfl, hw.base⟩
                          | exact ⟨by rw [dataCk, if_neg (by omega), if_neg hB, if_neg hA, if_pos hN]; rfl, hw.base⟩
                          | (trace_state; fail)
                      · skip
                        refine o_y (y_pick_f rfl rfl) rfl rfl ?_
                        refine wl_nil ?_
                        refine e_seq ?_
                        refine w_cond_f rfl ?_
                        refine w_skip ?_
                        refine e_seq ?_
                        exact J4 _ (by repeat (first | exact trivial | refine ⟨rfl, ?_⟩)) (by simp_all [hasBad])
            · skip
              refine wl_gyes rfl rfl ?_
              refine o_y (y_not rfl) rfl rfl ?_
              refine wl_gyes rfl rfl ?_
              refine o_y (y_move rfl) rfl rfl ?_
              refine wl_gyes rfl rfl ?_
              refine o_y (y_field fa_58_1 rfl) rfl rfl ?_
              refine wl_gyes rfl rfl ?_
              refine o_y (y_loadr 1 ty_22 rfl rfl rfl) rfl rfl ?_
              refine wl_gyes rfl rfl ?_
              refine o_y (y_neqs rfl rfl) rfl rfl ?_
              refine wl_splitp (t := 33) rfl (fun h4_16 => ?_) (fun h4_16 => ?_)
              · skip
                refine wl_gyes rfl rfl ?_
                refine o_y (y_pick_t rfl rfl) rfl rfl ?_
                refine o_y (y_pick_f rfl rfl) rfl rfl ?_
                refine o_y (y_move rfl) rfl rfl ?_
                refine wl_gno rfl rfl rfl rfl ?_
                refine wl_gno rfl rfl rfl rfl ?_
                refine wl_gno rfl rfl rfl rfl ?_
                refine wl_gno rfl rfl rfl rfl ?_
                refine wl_gnou rfl rfl rfl ?_
                refine wl_gnou rfl rfl rfl ?_
                refine wl_gnou rfl rfl rfl ?_
                refine wl_gno rfl rfl rfl rfl ?_
                refine o_y (y_pick_t rfl rfl) rfl rfl ?_
                refine o_y (y_move rfl) rfl rfl ?_
                refine wl_gno rfl rfl rfl rfl ?_
                refine wl_gno rfl rfl rfl rfl ?_
                refine wl_gno rfl rfl rfl rfl ?_
                refine wl_gno rfl rfl rfl rfl ?_
                refine wl_gnou rfl rfl rfl ?_
                refine wl_gnou rfl rfl rfl ?_
                refine wl_gnou rfl rfl rfl ?_
                refine wl_gno rfl rfl rfl rfl ?_
                refine o_y (y_pick_t rfl rfl) rfl rfl ?_
                refine o_y (y_move rfl) rfl rfl ?_
                refine wl_gno rfl rfl rfl rfl ?_
                refine wl_gno rfl rfl rfl rfl ?_
                refine wl_gno rfl rfl rfl rfl ?_
                refine wl_gno rfl rfl rfl rfl ?_
                refine wl_gno rfl rfl rfl rfl ?_
                refine wl_gno rfl rfl rfl rfl ?_
                refine wl_gno rfl rfl rfl rfl ?_
                refine o_y (y_pick_t rfl rfl) rfl rfl ?_
                refine wl_nil ?_
                refine e_seq ?_
                refine w_cond_t rfl ?_
                refine w_seq ?_
                have hB : hasBad (hasT t) d := by simp_all [hasBad]
                refine w_region ?_
                refine o_y (y_assign rfl) rfl rfl ?_
                refine wl_nil ?_
                refine e_seq ?_
                refine w_ret ?_
                refine e_seq_ret ?_
                refine e_ret (ts := [4]) rfl rfl rfl (fun w hw => ?_)
                first
                  | exact ⟨by rw [dataCk, if_pos (by omega)]; rfl, hw.base⟩
                  | exact ⟨by rw [dataCk, if_neg (by omega), if_pos hB]; rfl, hw.base⟩
                  | exact ⟨by rw [dataCk, if_neg (by omega), if_neg hB, if_pos hA]; rfl, hw.base⟩
                  | exact ⟨by rw [dataCk, if_neg (by omega), if_neg hB, if_neg hA, if_neg hN]; rfl, hw.base⟩
                  | exact ⟨by rw [dataCk, if_neg (by omega), if_neg hB, if_neg hA, if_pos hN]; rfl, hw.base⟩
                  | (trace_state; fail)
              · skip
                refine wl_gyes rfl rfl ?_
                refine o_y (y_pick_t rfl rfl) rfl rfl ?_
                refine o_y (y_pick_f rfl rfl) rfl rfl ?_
                refine o_y (y_move rfl) rfl rfl ?_
                refine wl_gyes rfl rfl ?_
                refine o_y (y_field fa_123_2 rfl) rfl rfl ?_
                refine wl_gyes rfl rfl ?_
                refine o_y (y_loadr 0 ty_4 rfl rfl rfl) rfl rfl ?_
                refine wl_splitb (t := 38) rfl (fun h4_21 => ?_) (fun h4_21 => ?_)
                · skip
                  refine wl_gyes rfl rfl ?_
                  refine o_y (y_not rfl) rfl rfl ?_
                  refine wl_gyes rfl rfl ?_
                  refine o_y (y_move rfl) rfl rfl ?_
                  refine wl_gno rfl rfl rfl rfl ?_
                  refine wl_gno rfl rfl rfl rfl ?_
                  refine wl_gno rfl rfl rfl rfl ?_
                  refine wl_gyes rfl rfl ?_
                  refine o_y (y_pick_f rfl rfl) rfl rfl ?_
                  refine o_y (y_pick_f rfl rfl) rfl rfl ?_
                  refine o_y (y_move rfl) rfl rfl ?_
                  refine wl_gyes rfl rfl ?_
                  refine o_y (y_field fa_123_4 rfl) rfl rfl ?_
                  refine wl_gyes rfl rfl ?_
                  refine o_y (y_loadr 0 ty_4 rfl rfl rfl) rfl rfl ?_
                  refine wl_splitb (t := 48) rfl (fun h4_31 => ?_) (fun h4_31 => ?_)
                  · skip
                    refine wl_gyes rfl rfl ?_
                    refine o_y (y_not rfl) rfl rfl ?_
                    refine wl_gyes rfl rfl ?_
                    refine o_y (y_move rfl) rfl rfl ?_
                    refine wl_gno rfl rfl rfl rfl ?_
                    refine wl_gno rfl rfl rfl rfl ?_
                    refine wl_gno rfl rfl rfl rfl ?_
                    refine wl_gyes rfl rfl ?_
                    refine o_y (y_pick_f rfl rfl) rfl rfl ?_
                    refine o_y (y_pick_f rfl rfl) rfl rfl ?_
                    refine o_y (y_move rfl) rfl rfl ?_
                    refine wl_gyes rfl rfl ?_
                    refine o_y (y_field fa_123_3 rfl) rfl rfl ?_
                    refine wl_gyes rfl rfl ?_
                    refine o_y (y_loadr 0 ty_4 rfl rfl rfl) rfl rfl ?_
                    refine wl_gyes rfl rfl ?_
                    refine o_y (y_field fa_58_4 rfl) rfl rfl ?_
                    refine wl_gyes rfl rfl ?_
                    refine o_y (y_loadr 1 ty_56 rfl rfl rfl) rfl rfl ?_
                    refine wl_gyes rfl rfl ?_
                    refine o_y (y_lenl Try.underlying56 rfl) rfl rfl ?_
                    refine wl_gyes rfl rfl ?_
                    refine o_y (y_gtr rfl rfl) rfl rfl ?_
                    refine wl_gyes rfl rfl ?_
                    refine o_y (y_neqb Try.underlying4 rfl rfl) rfl rfl ?_
                    refine wl_splitp (t := 63) rfl (fun h4_46 => ?_) (fun h4_46 => ?_)
                    · skip
                      refine o_y (y_pick_f rfl rfl) rfl rfl ?_
                      refine wl_nil ?_
                      refine e_seq ?_
                      refine w_cond_t rfl ?_
                      refine w_seq ?_
                      have hB : hasBad (hasT t) d := by simp_all [hasBad]
                      refine w_region ?_
                      refine o_y (y_assign rfl) rfl rfl ?_
                      refine wl_nil ?_
                      refine e_seq ?_
                      refine w_ret ?_
                      refine e_seq_ret ?_
                      refine e_ret (ts := [4]) rfl rfl rfl (fun w hw => ?_)
                      first
                        | exact ⟨by rw [dataCk, if_pos (by omega)]; rfl, hw.base⟩
                        | exact ⟨by rw [dataCk, if_neg (by omega), if_pos hB]; rfl, hw.base⟩
                        | exact ⟨by rw [dataCk, if_neg (by omega), if_neg hB, if_pos hA]; rfl, hw.base⟩
                        | exact ⟨by rw [dataCk, if_neg (by omega), if_neg hB, if_neg hA, if_neg hN]; rfl, hw.base⟩
                        | exact ⟨by rw [dataCk, if_neg (by omega), if_neg hB, if_neg hA, if_pos hN]; rfl, hw.base⟩
                        | (trace_state; fail)
                    · skip
                      refine o_y (y_pick_f rfl rfl) rfl rfl ?_
                      refine wl_nil ?_
                      refine e_seq ?_
                      refine w_cond_f rfl ?_
                      refine w_skip ?_
                      refine e_seq ?_
                      exact J4 _ (by repeat (first | exact trivial | refine ⟨rfl, ?_⟩)) (by simp_all [hasBad])
                  · skip
                    refine wl_gyes rfl rfl ?_
                    refine o_y (y_not rfl) rfl rfl ?_
                    refine wl_gyes rfl rfl ?_
                    refine o_y (y_move rfl) rfl rfl ?_
                    refine wl_gyes rfl rfl ?_
                    refine o_y (y_field fa_58_5 rfl) rfl rfl ?_
                    refine wl_gyes rfl rfl ?_
                    refine o_y (y_loadr 1 ty_9 rfl rfl rfl) rfl rfl ?_
                    refine wl_gyes rfl rfl ?_
                    refine o_y (y_neqs rfl rfl) rfl rfl ?_
                    refine wl_splitp (t := 53) rfl (fun h4_36 => ?_) (fun h4_36 => ?_)
                    · skip
                      refine wl_gyes rfl rfl ?_
                      refine o_y (y_pick_t rfl rfl) rfl rfl ?_
                      refine o_y (y_pick_f rfl rfl) rfl rfl ?_
                      refine o_y (y_move rfl) rfl rfl ?_
                      refine wl_gno rfl rfl rfl rfl ?_
                      refine wl_gno rfl rfl rfl rfl ?_
                      refine wl_gno rfl rfl rfl rfl ?_
                      refine wl_gno rfl rfl rfl rfl ?_
                      refine wl_gno rfl rfl rfl rfl ?_
                      refine wl_gno rfl rfl rfl rfl ?_
                      refine wl_gno rfl rfl rfl rfl ?_
                      refine o_y (y_pick_t rfl rfl) rfl rfl ?_
                      refine wl_nil ?_
                      refine e_seq ?_
                      refine w_cond_t rfl ?_
                      refine w_seq ?_
                      have hB : hasBad (hasT t) d := by simp_all [hasBad]
                      refine w_region ?_
                      refine o_y (y_assign rfl) rfl rfl ?_
                      refine wl_nil ?_
                      refine e_seq ?_
                      refine w_ret ?_
                      refine e_seq_ret ?_
                      refine e_ret (ts := [4]) rfl rfl rfl (fun w hw => ?_)
                      first
                        | exact ⟨by rw [dataCk, if_pos (by omega)]; rfl, hw.base⟩
                        | exact ⟨by rw [dataCk, if_neg (by omega), if_pos hB]; rfl, hw.base⟩
                        | exact ⟨by rw [dataCk, if_neg (by omega), if_neg hB, if_pos hA]; rfl, hw.base⟩
                        | exact ⟨by rw [dataCk, if_neg (by omega), if_neg hB, if_neg hA, if_neg hN]; rfl, hw.base⟩
                        | exact ⟨by rw [dataCk, if_neg (by omega), if_neg hB, if_neg hA, if_pos hN]; rfl, hw.base⟩
                        | (trace_state; fail)
                    · skip
                      refine wl_gyes rfl rfl ?_
                      refine o_y (y_pick_t rfl rfl) rfl rfl ?_
                      refine o_y (y_pick_f rfl rfl) rfl rfl ?_
                      refine o_y (y_move rfl) rfl rfl ?_
                      refine wl_gyes rfl rfl ?_
                      refine o_y (y_field fa_123_3 rfl) rfl rfl ?_
                      refine wl_gyes rfl rfl ?_
                      refine o_y (y_loadr 0 ty_4 rfl rfl rfl) rfl rfl ?_
                      refine wl_gyes rfl rfl ?_
                      refine o_y (y_field fa_58_4 rfl) rfl rfl ?_
                      refine wl_gyes rfl rfl ?_
                      refine o_y (y_loadr 1 ty_56 rfl rfl rfl) rfl rfl ?_
                      refine wl_gyes rfl rfl ?_
                      refine o_y (y_lenl Try.underlying56 rfl) rfl rfl ?_
                      refine wl_gyes rfl rfl ?_
                      refine o_y (y_gtr rfl rfl) rfl rfl ?_
                      refine wl_gyes rfl rfl ?_
                      refine o_y (y_neqb Try.underlying4 rfl rfl) rfl rfl ?_
                      refine wl_splitp (t := 63) rfl (fun h4_46 => ?_) (fun h4_46 => ?_)
                      · skip
                        refine o_y (y_pick_f rfl rfl) rfl rfl ?_
                        refine wl_nil ?_
                        refine e_seq ?_
                        refine w_cond_t rfl ?_
                        refine w_seq ?_
                        have hB : hasBad (hasT t) d := by simp_all [hasBad]
                        refine w_region ?_
                        refine o_y (y_assign rfl) rfl rfl ?_
                        refine wl_nil ?_
                        refine e_seq ?_
                        refine w_ret ?_
                        refine e_seq_ret ?_
                        refine e_ret (ts := [4]) rfl rfl rfl (fun w hw => ?_)
                        first
                          | exact ⟨by rw [dataCk, if_pos (by omega)]; rfl, hw.base⟩
                          | exact ⟨by rw [dataCk, if_neg (by omega), if_pos hB]; rfl, hw.base⟩
                          | exact ⟨by rw [dataCk, if_neg (by omega), if_neg hB, if_pos hA]; rfl, hw.base⟩
                          | exact ⟨by rw [dataCk, if_neg (by omega), if_neg hB, if_neg hA, if_neg hN]; rfl, hw.base⟩
                          | exact ⟨by rw [dataCk, if_neg (by omega), if_neg hB, if_neg hA, if_pos hN]; rfl, hw.base⟩
                          | (trace_state; fail)
                      · skip
                        refine o_y (y_pick_f rfl rfl) rfl rfl ?_
                        refine wl_nil ?_
                        refine e_seq ?_
                        refine w_cond_f rfl ?_
                        refine w_skip ?_
                        refine e_seq ?_
                        exact J4 _ (by repeat (first | exact trivial | refine ⟨rfl, ?_⟩)) (by simp_all [hasBad])
                · skip
                  refine wl_gyes rfl rfl ?_
                  refine o_y (y_not rfl) rfl rfl ?_
                  refine wl_gyes rfl rfl ?_
                  refine o_y (y_move rfl) rfl rfl ?_
                  refine wl_gyes rfl rfl ?_
                  refine o_y (y_field fa_58_2 rfl) rfl rfl ?_
                  refine wl_gyes rfl rfl ?_
                  refine o_y (y_loadr 1 ty_22 rfl rfl rfl) rfl rfl ?_
                  refine wl_gyes rfl rfl ?_
                  refine o_y (y_neqs rfl rfl) rfl rfl ?_
                  refine wl_splitp (t := 43) rfl (fun h4_26 => ?_) (fun h4_26 => ?_)
                  · skip
                    refine wl_gyes rfl rfl ?_
                    refine o_y (y_pick_t rfl rfl) rfl rfl ?_
                    refine o_y (y_pick_f rfl rfl) rfl rfl ?_
                    refine o_y (y_move rfl) rfl rfl ?_
                    refine wl_gno rfl rfl rfl rfl ?_
                    refine wl_gno rfl rfl rfl rfl ?_
                    refine wl_gno rfl rfl rfl rfl ?_
                    refine wl_gno rfl rfl rfl rfl ?_
                    refine wl_gnou rfl rfl rfl ?_
                    refine wl_gnou rfl rfl rfl ?_
                    refine wl_gnou rfl rfl rfl ?_
                    refine wl_gno rfl rfl rfl rfl ?_
                    refine o_y (y_pick_t rfl rfl) rfl rfl ?_
                    refine o_y (y_move rfl) rfl rfl ?_
                    refine wl_gno rfl rfl rfl rfl ?_
                    refine wl_gno rfl rfl rfl rfl ?_
                    refine wl_gno rfl rfl rfl rfl ?_
                    refine wl_gno rfl rfl rfl rfl ?_
                    refine wl_gno rfl rfl rfl rfl ?_
                    refine wl_gno rfl rfl rfl rfl ?_
                    refine wl_gno rfl rfl rfl rfl ?_
                    refine o_y (y_pick_t rfl rfl) rfl rfl ?_
                    refine wl_nil ?_
                    refine e_seq ?_
                    refine w_cond_t rfl ?_
                    refine w_seq ?_
                    have hB : hasBad (hasT t) d := by simp_all [hasBad]
                    refine w_region ?_
                    refine o_y (y_assign rfl) rfl rfl ?_
                    refine wl_nil ?_
                    refine e_seq ?_
                    refine w_ret ?_
                    refine e_seq_ret ?_
                    refine e_ret (ts := [4]) rfl rfl rfl (fun w hw => ?_)
                    first
                      | exact ⟨by rw [dataCk, if_pos (by omega)]; rfl, hw.base⟩
                      | exact ⟨by rw [dataCk, if_neg (by omega), if_pos hB]; rfl, hw.base⟩
                      | exact ⟨by rw [dataCk, if_neg (by omega), if_neg hB, if_pos hA]; rfl, hw.base⟩
                      | exact ⟨by rw [dataCk, if_neg (by omega), if_neg hB, if_neg hA, if_neg hN]; rfl, hw.base⟩
                      | exact ⟨by rw [dataCk, if_neg (by omega), if_neg hB, if_neg hA, if_pos hN]; rfl, hw.base⟩
                      | (trace_state; fail)
                  · skip
                    refine wl_gyes rfl rfl ?_
                    refine o_y (y_pick_t rfl rfl) rfl rfl ?_
                    refine o_y (y_pick_f rfl rfl) rfl rfl ?_
                    refine o_y (y_move rfl) rfl rfl ?_
                    refine wl_gyes rfl rfl ?_
                    refine o_y (y_field fa_123_4 rfl) rfl rfl ?_
                    refine wl_gyes rfl rfl ?_
                    refine o_y (y_loadr 0 ty_4 rfl rfl rfl) rfl rfl ?_
                    refine wl_splitb (t := 48) rfl (fun h4_31 => ?_) (fun h4_31 => ?_)
                    · skip
                      refine wl_gyes rfl rfl ?_
                      refine o_y (y_not rfl) rfl rfl ?_
                      refine wl_gyes rfl rfl ?_
                      refine o_y (y_move rfl) rfl rfl ?_
                      refine wl_gno rfl rfl rfl rfl ?_
                      refine wl_gno rfl rfl rfl rfl ?_
                      refine wl_gno rfl rfl rfl rfl ?_
                      refine wl_gyes rfl rfl ?_
                      refine o_y (y_pick_f rfl rfl) rfl rfl ?_
                      refine o_y (y_pick_f rfl rfl) rfl rfl ?_
                      refine o_y (y_move rfl) rfl rfl ?_
                      refine wl_gyes rfl rfl ?_
                      refine o_y (y_field fa_123_3 rfl) rfl rfl ?_
                      refine wl_gyes rfl rfl ?_
                      refine o_y (y_loadr 0 ty_4 rfl rfl rfl) rfl rfl ?_
                      refine wl_gyes rfl rfl ?_
                      refine o_y (y_field fa_58_4 rfl) rfl rfl ?_
                      refine wl_gyes rfl rfl ?_
                      refine o_y (y_loadr 1 ty_56 rfl rfl rfl) rfl rfl ?_
                      refine wl_gyes rfl rfl ?_
                      refine o_y (y_lenl Try.underlying56 rfl) rfl rfl ?_
                      refine wl_gyes rfl rfl ?_
                      refine o_y (y_gtr rfl rfl) rfl rfl ?_
                      refine wl_gyes rfl rfl ?_
                      refine o_y (y_neqb Try.underlying4 rfl rfl) rfl rfl ?_
                      refine wl_splitp (t := 63) rfl (fun h4_46 => ?_) (fun h4_46 => ?_)
                      · skip
                        refine o_y (y_pick_f rfl rfl) rfl rfl ?_
                        refine wl_nil ?_
                        refine e_seq ?_
                        refine w_cond_t rfl ?_
                        refine w_seq ?_
                        have hB : hasBad (hasT t) d := by simp_all [hasBad]
                        refine w_region ?_
                        refine o_y (y_assign rfl) rfl rfl ?_
                        refine wl_nil ?_
                        refine e_seq ?_
                        refine w_ret ?_
                        refine e_seq_ret ?_
                        refine e_ret (ts := [4]) rfl rfl rfl (fun w hw => ?_)
                        first
                          | exact ⟨by rw [dataCk, if_pos (by omega)]; rfl, hw.base⟩
                          | exact ⟨by rw [dataCk, if_neg (by omega), if_pos hB]; rfl, hw.base⟩
                          | exact ⟨by rw [dataCk, if_neg (by omega), if_neg hB, if_pos hA]; rfl, hw.base⟩
                          | exact ⟨by rw [dataCk, if_neg (by omega), if_neg hB, if_neg hA, if_neg hN]; rfl, hw.base⟩
                          | exact ⟨by rw [dataCk, if_neg (by omega), if_neg hB, if_neg hA, if_pos hN]; rfl, hw.base⟩
                          | (trace_state; fail)
                      · skip
                        refine o_y (y_pick_f rfl rfl) rfl rfl ?_
                        refine wl_nil ?_
                        refine e_seq ?_
                        refine w_cond_f rfl ?_
                        refine w_skip ?_
                        refine e_seq ?_
                        exact J4 _ (by repeat (first | exact trivial | refine ⟨rfl, ?_⟩)) (by simp_all [hasBad])
                    · skip
                      refine wl_gyes rfl rfl ?_
                      refine o_y (y_not rfl) rfl rfl ?_
                      refine wl_gyes rfl rfl ?_
                      refine o_y (y_move rfl) rfl rfl ?_
                      refine wl_gyes rfl rfl ?_
                      refine o_y (y_field fa_58_5 rfl) rfl rfl ?_
                      refine wl_gyes rfl rfl ?_
                      refine o_y (y_loadr 1 ty_9 rfl rfl rfl) rfl rfl ?_
                      refine wl_gyes rfl rfl ?_
                      refine o_y (y_neqs rfl rfl) rfl rfl ?_
                      refine wl_splitp (t := 53) rfl (fun h4_36 => ?_) (fun h4_36 => ?_)
                      · skip
                        refine wl_gyes rfl rfl ?_
                        refine o_y (y_pick_t rfl rfl) rfl rfl ?_
                        refine o_y (y_pick_f rfl rfl) rfl rfl ?_
                        refine o_y (y_move rfl) rfl rfl ?_
                        refine wl_gno rfl rfl rfl rfl ?_
                        refine wl_gno rfl rfl rfl rfl ?_
                        refine wl_gno rfl rfl rfl rfl ?_
                        refine wl_gno rfl rfl rfl rfl ?_
                        refine wl_gno rfl rfl rfl rfl ?_
                        refine wl_gno rfl rfl rfl rfl ?_
                        refine wl_gno rfl rfl rfl rfl ?_
                        refine o_y (y_pick_t rfl rfl) rfl rfl ?_
                        refine wl_nil ?_
                        refine e_seq ?_
                        refine w_cond_t rfl ?_
                        refine w_seq ?_
                        have hB : hasBad (hasT t) d := by simp_all [hasBad]
                        refine w_region ?_
                        refine o_y (y_assign rfl) rfl rfl ?_
                        refine wl_nil ?_
                        refine e_seq ?_
                        refine w_ret ?_
                        refine e_seq_ret ?_
                        refine e_ret (ts := [4]) rfl rfl rfl (fun w hw => ?_)
                        first
                          | exact ⟨by rw [dataCk, if_pos (by omega)]; rfl, hw.base⟩
                          | exact ⟨by rw [dataCk, if_neg (by omega), if_pos hB]; rfl, hw.base⟩
                          | exact ⟨by rw [dataCk, if_neg (by omega), if_neg hB, if_pos hA]; rfl, hw.base⟩
                          | exact ⟨by rw [dataCk, if_neg (by omega), if_neg hB, if_neg hA, if_neg hN]; rfl, hw.base⟩
                          | exact ⟨by rw [dataCk, if_neg (by omega), if_neg hB, if_neg hA, if_pos hN]; rfl, hw.base⟩
                          | (trace_state; fail)
                      · skip
                        refine wl_gyes rfl rfl ?_
                        refine o_y (y_pick_t rfl rfl) rfl rfl ?_
                        refine o_y (y_pick_f rfl rfl) rfl rfl ?_
                        refine o_y (y_move rfl) rfl rfl ?_
                        refine wl_gyes rfl rfl ?_
                        refine o_y (y_field fa_123_3 rfl) rfl rfl ?_
                        refine wl_gyes rfl rfl ?_
                        refine o_y (y_loadr 0 ty_4 rfl rfl rfl) rfl rfl ?_
                        refine wl_gyes rfl rfl ?_
                        refine o_y (y_field fa_58_4 rfl) rfl rfl ?_
                        refine wl_gyes rfl rfl ?_
                        refine o_y (y_loadr 1 ty_56 rfl rfl rfl) rfl rfl ?_
                        refine wl_gyes rfl rfl ?_
                        refine o_y (y_lenl Try.underlying56 rfl) rfl rfl ?_
                        refine wl_gyes rfl rfl ?_
                        refine o_y (y_gtr rfl rfl) rfl rfl ?_
                        refine wl_gyes rfl rfl ?_
                        refine o_y (y_neqb Try.underlying4 rfl rfl) rfl rfl ?_
                        refine wl_splitp (t := 63) rfl (fun h4_46 => ?_) (fun h4_46 => ?_)
                        · skip
                          refine o_y (y_pick_f rfl rfl) rfl rfl ?_
                          refine wl_nil ?_
                          refine e_seq ?_
                          refine w_cond_t rfl ?_
                          refine w_seq ?_
                          have hB : hasBad (hasT t) d := by simp_all [hasBad]
                          refine w_region ?_
                          refine o_y (y_assign rfl) rfl rfl ?_
                          refine wl_nil ?_
                          refine e_seq ?_
                          refine w_ret ?_
                          refine e_seq_ret ?_
                          refine e_ret (ts := [4]) rfl rfl rfl (fun w hw => ?_)
                          first
                            | exact ⟨by rw [dataCk, if_pos (by omega)]; rfl, hw.base⟩
                            | exact ⟨by rw [dataCk, if_neg (by omega), if_pos hB]; rfl, hw.base⟩
                            | exact ⟨by rw [dataCk, if_neg (by omega), if_neg hB, if_pos hA]; rfl, hw.base⟩
                            | exact ⟨by rw [dataCk, if_neg (by omega), if_neg hB, if_neg hA, if_neg hN]; rfl, hw.base⟩
                            | exact ⟨by rw [dataCk, if_neg (by omega), if_neg hB, if_neg hA, if_pos hN]; rfl, hw.base⟩
                            | (trace_state; fail)
                        · skip
                          refine o_y (y_pick_f rfl rfl) rfl rfl ?_
                          refine wl_nil ?_
                          refine e_seq ?_
                          refine w_cond_f rfl ?_
                          refine w_skip ?_
                          refine e_seq ?_
                          exact J4 _ (by repeat (first | exact trivial | refine ⟨rfl, ?_⟩)) (by simp_all [hasBad])

theorem c_ref09_size (t : Int) (d : Dt) (hl : d.name.length + d.mail.length + d.raw.length ≤ 1000000000) : Pure Try.prog 91 #[.int .i64 t, .agg (dtC d).toArray] (.int .i64 (sizeD t d)) := by
  intro w0
  have hmw := has_wide t
  refine calls_of_W (ok0 := no) (S := []) (args := [.int .i64 t, .agg (dtC d).toArray]) 60 Try.func91 rfl rfl rfl (by simp) (by simp) ?_
  refine w_seq ?_
  refine w_region ?_
  refine o_box rfl rfl rfl (fun b1 => ?_)
  refine o_y (y_assign rfl) rfl rfl ?_
  refine wl_nil ?_
  refine e_seq ?_
  refine w_seq ?_
  refine w_region ?_
  refine o_y (y_move rfl) rfl rfl ?_
  refine o_callp rfl ent_98 (c_ref09_has _) rfl ?_
  refine o_alloc ty_123 rfl rfl (fun b2 => ?_)
  refine o_store ty_123 rfl rfl rfl .z rfl rfl rfl rfl ?_
  refine wl_nil ?_
  refine e_seq ?_
  refine w_seq ?_
  refine w_region ?_
  refine o_y (y_field fa_123_5 rfl) rfl rfl ?_
  refine o_y (y_loadr 0 ty_3 rfl rfl rfl) rfl rfl ?_
  refine o_y (y_field fa_123_6 rfl) rfl rfl ?_
  refine o_y (y_loadr 0 ty_3 rfl rfl rfl) rfl rfl ?_
  refine o_y (y_muli rfl rfl (by omega) (by omega)) rfl rfl ?_
  refine o_y (y_field fa_58_5 rfl) rfl rfl ?_
  refine o_y (y_loadr 1 ty_9 rfl rfl rfl) rfl rfl ?_
  refine o_y (y_lens Try.underlying9 rfl) rfl rfl ?_
  refine o_y (y_addi rfl rfl (by omega) (by omega)) rfl rfl ?_
  refine o_y (y_assign rfl) rfl rfl ?_
  refine wl_nil ?_
  refine e_seq ?_
  refine w_seq ?_
  refine w_seq ?_
  refine w_region ?_
  refine o_y (y_field fa_123_1 rfl) rfl rfl ?_
  refine o_y (y_loadr 0 ty_4 rfl rfl rfl) rfl rfl ?_
  refine wl_splitb (t := 20) rfl (fun h3_1 => ?_) (fun h3_1 => ?_)
  · skip
    refine wl_nil ?_
    refine e_seq ?_
    refine w_cond_t rfl ?_
    refine w_region ?_
    refine o_y (y_move rfl) rfl rfl ?_
    refine o_y (y_field fa_58_1 rfl) rfl rfl ?_
    refine o_y (y_loadr 1 ty_22 rfl rfl rfl) rfl rfl ?_
    refine o_y (y_lens Try.underlying22 rfl) rfl rfl ?_
    refine o_y (y_addi rfl rfl (by omega) (by omega)) rfl rfl ?_
    refine o_y (y_addi rfl rfl (by omega) (by omega)) rfl rfl ?_
    refine o_y (y_assign rfl) rfl rfl ?_
    refine wl_nil ?_
    refine e_seq ?_
    refine w_seq ?_
    refine w_seq ?_
    refine w_region ?_
    refine o_y (y_field fa_123_2 rfl) rfl rfl ?_
    refine o_y (y_loadr 0 ty_4 rfl rfl rfl) rfl rfl ?_
    refine wl_splitb (t := 28) rfl (fun h5_1 => ?_) (fun h5_1 => ?_)
    · skip
      refine wl_nil ?_
      refine e_seq ?_
      refine w_cond_t rfl ?_
      refine w_region ?_
      refine o_y (y_move rfl) rfl rfl ?_
      refine o_y (y_field fa_58_2 rfl) rfl rfl ?_
      refine o_y (y_loadr 1 ty_22 rfl rfl rfl) rfl rfl ?_
      refine o_y (y_lens Try.underlying22 rfl) rfl rfl ?_
      refine o_y (y_addi rfl rfl (by omega) (by omega)) rfl rfl ?_
      refine o_y (y_addi rfl rfl (by omega) (by omega)) rfl rfl ?_
      refine o_y (y_assign rfl) rfl rfl ?_
      refine wl_nil ?_
      refine e_seq ?_
      refine w_seq ?_
      refine w_seq ?_
      refine w_region ?_
      refine o_y (y_move rfl) rfl rfl ?_
      refine o_y (y_eql rfl rfl) rfl rfl ?_
      refine wl_splitp (t := 36) rfl (fun h7_1 => ?_) (fun h7_1 => ?_)
      · skip
        refine wl_nil ?_
        refine e_seq ?_
        refine w_cond_t rfl ?_
        refine w_region ?_
        refine o_y (y_move rfl) rfl rfl ?_
        refine o_y (y_addi rfl rfl (by omega) (by omega)) rfl rfl ?_
        refine o_y (y_assign rfl) rfl rfl ?_
        refine wl_nil ?_
        refine e_seq ?_
        refine w_seq ?_
        refine w_seq ?_
        refine w_region ?_
        refine o_y (y_move rfl) rfl rfl ?_
        refine o_y (y_eql rfl rfl) rfl rfl ?_
        refine wl_splitp (t := 40) rfl (fun h9_1 => ?_) (fun h9_1 => ?_)
        · skip
          refine wl_nil ?_
          refine e_seq ?_
          refine w_cond_t rfl ?_
          refine w_region ?_
          refine o_y (y_move rfl) rfl rfl ?_
          refine o_y (y_addi rfl rfl (by omega) (by omega)) rfl rfl ?_
          refine o_y (y_assign rfl) rfl rfl ?_
          refine wl_nil ?_
          refine e_seq ?_
          refine w_seq ?_
          refine w_seq ?_
          refine w_region ?_
          refine o_y (y_assign rfl) rfl rfl ?_
          refine wl_nil ?_
          refine e_seq ?_
          refine w_block ?_
          refine w_loop0 (σ := Unit) [6, 7, 43, 44, 45, 46, 47, 48, 49, 50, 51, 52, 53, 54, 55, 56, 57, 58] (fun _ => True) (fun _ => 0) (fun _ => [(6, .int .i64 (sizeD t d)), (7, .int .i64 0)]) (()) ?_ ⟨lk rfl (by congr 1; rw [sizeD, if_pos h3_1, if_pos h5_1, if_pos h7_1, if_pos h9_1]; omega), rfl, trivial⟩ (fun _ hI => ?_)
          · trivial
          refine w_seq ?_
          refine w_seq ?_
          refine w_region ?_
          refine o_y (y_move rfl) rfl rfl ?_
          refine o_y (y_field fa_58_4 rfl) rfl rfl ?_
          refine o_y (y_loadr 1 ty_56 rfl rfl rfl) rfl rfl ?_
          refine o_y (y_lenl Try.underlying56 rfl) rfl rfl ?_
          refine o_y (y_lss rfl rfl) rfl rfl ?_
          refine wl_af (t := 47) rfl (by simp) ?_
          refine wl_nil ?_
          refine e_seq ?_
          refine w_cond_f rfl ?_
          refine w_exit ?_
          refine e_seq_exit ?_
          refine e_loop_exit ?_
          refine e_blk_hit ?_
          refine e_seq ?_
          refine w_seq ?_
          refine w_region ?_
          refine o_y (y_move rfl) rfl rfl ?_
          refine o_y (y_assign rfl) rfl rfl ?_
          refine wl_nil ?_
          refine e_seq ?_
          refine w_ret ?_
          refine e_ret (ts := [4]) rfl rfl rfl (fun w hw => ?_)
          exact ⟨rfl, hw.base⟩
        · skip
          refine wl_nil ?_
          refine e_seq ?_
          refine w_cond_f rfl ?_
          refine w_skip ?_
          refine e_seq ?_
          refine w_seq ?_
          refine w_seq ?_
          refine w_region ?_
          refine o_y (y_assign rfl) rfl rfl ?_
          refine wl_nil ?_
          refine e_seq ?_
          refine w_block ?_
          refine w_loop0 (σ := Unit) [6, 7, 43, 44, 45, 46, 47, 48, 49, 50, 51, 52, 53, 54, 55, 56, 57, 58] (fun _ => True) (fun _ => 0) (fun _ => [(6, .int .i64 (sizeD t d)), (7, .int .i64 0)]) (()) ?_ ⟨lk rfl (by congr 1; rw [sizeD, if_pos h3_1, if_pos h5_1, if_pos h7_1, if_neg h9_1]; omega), rfl, trivial⟩ (fun _ hI => ?_)
          · trivial
          refine w_seq ?_
          refine w_seq ?_
          refine w_region ?_
          refine o_y (y_move rfl) rfl rfl ?_
          refine o_y (y_field fa_58_4 rfl) rfl rfl ?_
          refine o_y (y_loadr 1 ty_56 rfl rfl rfl) rfl rfl ?_
          refine o_y (y_lenl Try.underlying56 rfl) rfl rfl ?_
          refine o_y (y_lss rfl rfl) rfl rfl ?_
          refine wl_af (t := 47) rfl (by simp) ?_
          refine wl_nil ?_
          refine e_seq ?_
          refine w_cond_f rfl ?_
          refine w_exit ?_
          refine e_seq_exit ?_
          refine e_loop_exit ?_
          refine e_blk_hit ?_
          refine e_seq ?_
          refine w_seq ?_
          refine w_region ?_
          refine o_y (y_move rfl) rfl rfl ?_
          refine o_y (y_assign rfl) rfl rfl ?_
          refine wl_nil ?_
          refine e_seq ?_
          refine w_ret ?_
          refine e_ret (ts := [4]) rfl rfl rfl (fun w hw => ?_)
          exact ⟨rfl, hw.base⟩
      · skip
        refine wl_nil ?_
        refine e_seq ?_
        refine w_cond_f rfl ?_
        refine w_skip ?_
        refine e_seq ?_
        refine w_seq ?_
        refine w_seq ?_
        refine w_region ?_
        refine o_y (y_move rfl) rfl rfl ?_
        refine o_y (y_eql rfl rfl) rfl rfl ?_
        refine wl_splitp (t := 40) rfl (fun h9_1 => ?_) (fun h9_1 => ?_)
        · skip
          refine wl_nil ?_
          refine e_seq ?_
          refine w_cond_t rfl ?_
          refine w_region ?_
          refine o_y (y_move rfl) rfl rfl ?_
          refine o_y (y_addi rfl rfl (by omega) (by omega)) rfl rfl ?_
          refine o_y (y_assign rfl) rfl rfl ?_
          refine wl_nil ?_
          refine e_seq ?_
          refine w_seq ?_
          refine w_seq ?_
          refine w_region ?_
          refine o_y (y_assign rfl) rfl rfl ?_
          refine wl_nil ?_
          refine e_seq ?_
          refine w_block ?_
          refine w_loop0 (σ := Unit) [6, 7, 43, 44, 45, 46, 47, 48, 49, 50, 51, 52, 53, 54, 55, 56, 57, 58] (fun _ => True) (fun _ => 0) (fun _ => [(6, .int .i64 (sizeD t d)), (7, .int .i64 0)]) (()) ?_ ⟨lk rfl (by congr 1; rw [sizeD, if_pos h3_1, if_pos h5_1, if_neg h7_1, if_pos h9_1]; omega), rfl, trivial⟩ (fun _ hI => ?_)
          · trivial
          refine w_seq ?_
          refine w_seq ?_
          refine w_region ?_
          refine o_y (y_move rfl) rfl rfl ?_
          refine o_y (y_field fa_58_4 rfl) rfl rfl ?_
          refine o_y (y_loadr 1 ty_56 rfl rfl rfl) rfl rfl ?_
          refine o_y (y_lenl Try.underlying56 rfl) rfl rfl ?_
          refine o_y (y_lss rfl rfl) rfl rfl ?_
          refine wl_af (t := 47) rfl (by simp) ?_
          refine wl_nil ?_
          refine e_seq ?_
          refine w_cond_f rfl ?_
          refine w_exit ?_
          refine e_seq_exit ?_
          refine e_loop_exit ?_
          refine e_blk_hit ?_
          refine e_seq ?_
          refine w_seq ?_
          refine w_region ?_
          refine o_y (y_move rfl) rfl rfl ?_
          refine o_y (y_assign rfl) rfl rfl ?_
          refine wl_nil ?_
          refine e_seq ?_
          refine w_ret ?_
          refine e_ret (ts := [4]) rfl rfl rfl (fun w hw => ?_)
          exact ⟨rfl, hw.base⟩
        · skip
          refine wl_nil ?_
          refine e_seq ?_
          refine w_cond_f rfl ?_
          refine w_skip ?_
          refine e_seq ?_
          refine w_seq ?_
          refine w_seq ?_
          refine w_region ?_
          refine o_y (y_assign rfl) rfl rfl ?_
          refine wl_nil ?_
          refine e_seq ?_
          refine w_block ?_
          refine w_loop0 (σ := Unit) [6, 7, 43, 44, 45, 46, 47, 48, 49, 50, 51, 52, 53, 54, 55, 56, 57, 58] (fun _ => True) (fun _ => 0) (fun _ => [(6, .int .i64 (sizeD t d)), (7, .int .i64 0)]) (()) ?_ ⟨lk rfl (by congr 1; rw [sizeD, if_pos h3_1, if_pos h5_1, if_neg h7_1, if_neg h9_1]; omega), rfl, trivial⟩ (fun _ hI => ?_)
          · trivial
          refine w_seq ?_
          refine w_seq ?_
          refine w_region ?_
          refine o_y (y_move rfl) rfl rfl ?_
          refine o_y (y_field fa_58_4 rfl) rfl rfl ?_
          refine o_y (y_loadr 1 ty_56 rfl rfl rfl) rfl rfl ?_
          refine o_y (y_lenl Try.underlying56 rfl) rfl rfl ?_
          refine o_y (y_lss rfl rfl) rfl rfl ?_
          refine wl_af (t := 47) rfl (by simp) ?_
          refine wl_nil ?_
          refine e_seq ?_
          refine w_cond_f rfl ?_
          refine w_exit ?_
          refine e_seq_exit ?_
          refine e_loop_exit ?_
          refine e_blk_hit ?_
          refine e_seq ?_
          refine w_seq ?_
          refine w_region ?_
          refine o_y (y_move rfl) rfl rfl ?_
          refine o_y (y_assign rfl) rfl rfl ?_
          refine wl_nil ?_
          refine e_seq ?_
          refine w_ret ?_
          refine e_ret (ts := [4]) rfl rfl rfl (fun w hw => ?_)
          exact ⟨rfl, hw.base⟩
    · skip
      refine wl_nil ?_
      refine e_seq ?_
      refine w_cond_f rfl ?_
      refine w_skip ?_
      refine e_seq ?_
      refine w_seq ?_
      refine w_seq ?_
      refine w_region ?_
      refine o_y (y_move rfl) rfl rfl ?_
      refine o_y (y_eql rfl rfl) rfl rfl ?_
      refine wl_splitp (t := 36) rfl (fun h7_1 => ?_) (fun h7_1 => ?_)
      · skip
        refine wl_nil ?_
        refine e_seq ?_
        refine w_cond_t rfl ?_
        refine w_region ?_
        refine o_y (y_move rfl) rfl rfl ?_
        refine o_y (y_addi rfl rfl (by omega) (by omega)) rfl rfl ?_
        refine o_y (y_assign rfl) rfl rfl ?_
        refine wl_nil ?_
        refine e_seq ?_
        refine w_seq ?_
        refine w_seq ?_
        refine w_region ?_
        refine o_y (y_move rfl) rfl rfl ?_
        refine o_y (y_eql rfl rfl) rfl rfl ?_
        refine wl_splitp (t := 40) rfl (fun h9_1 => ?_) (fun h9_1 => ?_)
        · skip
          refine wl_nil ?_
          refine e_seq ?_
          refine w_cond_t rfl ?_
          refine w_region ?_
          refine o_y (y_move rfl) rfl rfl ?_
          refine o_y (y_addi rfl rfl (by omega) (by omega)) rfl rfl ?_
          refine o_y (y_assign rfl) rfl rfl ?_
          refine wl_nil ?_
          refine e_seq ?_
          refine w_seq ?_
          refine w_seq ?_
          refine w_region ?_
          refine o_y (y_assign rfl) rfl rfl ?_
          refine wl_nil ?_
          refine e_seq ?_
          refine w_block ?_
          refine w_loop0 (σ := Unit) [6, 7, 43, 44, 45, 46, 47, 48, 49, 50, 51, 52, 53, 54, 55, 56, 57, 58] (fun _ => True) (fun _ => 0) (fun _ => [(6, .int .i64 (sizeD t d)), (7, .int .i64 0)]) (()) ?_ ⟨lk rfl (by congr 1; rw [sizeD, if_pos h3_1, if_neg (not_true_of h5_1), if_pos h7_1, if_pos h9_1]; omega), rfl, trivial⟩ (fun _ hI => ?_)
          · trivial
          refine w_seq ?_
          refine w_seq ?_
          refine w_region ?_
          refine o_y (y_move rfl) rfl rfl ?_
          refine o_y (y_field fa_58_4 rfl) rfl rfl ?_
          refine o_y (y_loadr 1 ty_56 rfl rfl rfl) rfl rfl ?_
          refine o_y (y_lenl Try.underlying56 rfl) rfl rfl ?_
          refine o_y (y_lss rfl rfl) rfl rfl ?_
          refine wl_af (t := 47) rfl (by simp) ?_
          refine wl_nil ?_
          refine e_seq ?_
          refine w_cond_f rfl ?_
          refine w_exit ?_
          refine e_seq_exit ?_
          refine e_loop_exit ?_
          refine e_blk_hit ?_
          refine e_seq ?_
          refine w_seq ?_
          refine w_region ?_
          refine o_y (y_move rfl) rfl rfl ?_
          refine o_y (y_assign rfl) rfl rfl ?_
          refine wl_nil ?_
          refine e_seq ?_
          refine w_ret ?_
          refine e_ret (ts := [4]) rfl rfl rfl (fun w hw => ?_)
          exact ⟨rfl, hw.base⟩
        · skip
          refine wl_nil ?_
          refine e_seq ?_
          refine w_cond_f rfl ?_
          refine w_skip ?_
          refine e_seq ?_
          refine w_seq ?_
          refine w_seq ?_
          refine w_region ?_
          refine o_y (y_assign rfl) rfl rfl ?_
          refine wl_nil ?_
          refine e_seq ?_
          refine w_block ?_
          refine w_loop0 (σ := Unit) [6, 7, 43, 44, 45, 46, 47, 48, 49, 50, 51, 52, 53, 54, 55, 56, 57, 58] (fun _ => True) (fun _ => 0) (fun _ => [(6, .int .i64 (sizeD t d)), (7, .int .i64 0)]) (()) ?_ ⟨lk rfl (by congr 1; rw [sizeD, if_pos h3_1, if_neg (not_true_of h5_1), if_pos h7_1, if_neg h9_1]; omega), rfl, trivial⟩ (fun _ hI => ?_)
          · trivial
          refine w_seq ?_
          refine w_seq ?_
          refine w_region ?_
          refine o_y (y_move rfl) rfl rfl ?_
          refine o_y (y_field fa_58_4 rfl) rfl rfl ?_
          refine o_y (y_loadr 1 ty_56 rfl rfl rfl) rfl rfl ?_
          refine o_y (y_lenl Try.underlying56 rfl) rfl rfl ?_
          refine o_y (y_lss rfl rfl) rfl rfl ?_
          refine wl_af (t := 47) rfl (by simp) ?_
          refine wl_nil ?_
          refine e_seq ?_
          refine w_cond_f rfl ?_
          refine w_exit ?_
          refine e_seq_exit ?_
          refine e_loop_exit ?_
          refine e_blk_hit ?_
          refine e_seq ?_
          refine w_seq ?_
          refine w_region ?_
          refine o_y (y_move rfl) rfl rfl ?_
          refine o_y (y_assign rfl) rfl rfl ?_
          refine wl_nil ?_
          refine e_seq ?_
          refine w_ret ?_
          refine e_ret (ts := [4]) rfl rfl rfl (fun w hw => ?_)
          exact ⟨rfl, hw.base⟩
      · skip
        refine wl_nil ?_
        refine e_seq ?_
        refine w_cond_f rfl ?_
        refine w_skip ?_
        refine e_seq ?_
        refine w_seq ?_
        refine w_seq ?_
        refine w_region ?_
        refine o_y (y_move rfl) rfl rfl ?_
        refine o_y (y_eql rfl rfl) rfl rfl ?_
        refine wl_splitp (t := 40) rfl (fun h9_1 => ?_) (fun h9_1 => ?_)
        · skip
          refine wl_nil ?_
          refine e_seq ?_
          refine w_cond_t rfl ?_
          refine w_region ?_
          refine o_y (y_move rfl) rfl rfl ?_
          refine o_y (y_addi rfl rfl (by omega) (by omega)) rfl rfl ?_
          refine o_y (y_assign rfl) rfl rfl ?_
          refine wl_nil ?_
          refine e_seq ?_
          refine w_seq ?_
          refine w_seq ?_
          refine w_region ?_
          refine o_y (y_assign rfl) rfl rfl ?_
          refine wl_nil ?_
          refine e_seq ?_
          refine w_block ?_
          refine w_loop0 (σ := Unit) [6, 7, 43, 44, 45, 46, 47, 48, 49, 50, 51, 52, 53, 54, 55, 56, 57, 58] (fun _ => True) (fun _ => 0) (fun _ => [(6, .int .i64 (sizeD t d)), (7, .int .i64 0)]) (()) ?_ ⟨lk rfl (by congr 1; rw [sizeD, if_pos h3_1, if_neg (not_true_of h5_1), if_neg h7_1, if_pos h9_1]; omega), rfl, trivial⟩ (fun _ hI => ?_)
          · trivial
          refine w_seq ?_
          refine w_seq ?_
          refine w_region ?_
          refine o_y (y_move rfl) rfl rfl ?_
          refine o_y (y_field fa_58_4 rfl) rfl rfl ?_
          refine o_y (y_loadr 1 ty_56 rfl rfl rfl) rfl rfl ?_
          refine o_y (y_lenl Try.underlying56 rfl) rfl rfl ?_
          refine o_y (y_lss rfl rfl) rfl rfl ?_
          refine wl_af (t := 47) rfl (by simp) ?_
          refine wl_nil ?_
          refine e_seq ?_
          refine w_cond_f rfl ?_
          refine w_exit ?_
          refine e_seq_exit ?_
          refine e_loop_exit ?_
          refine e_blk_hit ?_
          refine e_seq ?_
          refine w_seq ?_
          refine w_region ?_
          refine o_y (y_move rfl) rfl rfl ?_
          refine o_y (y_assign rfl) rfl rfl ?_
          refine wl_nil ?_
          refine e_seq ?_
          refine w_ret ?_
          refine e_ret (ts := [4]) rfl rfl rfl (fun w hw => ?_)
          exact ⟨rfl, hw.base⟩
        · skip
          refine wl_nil ?_
          refine e_seq ?_
          refine w_cond_f rfl ?_
          refine w_skip ?_
          refine e_seq ?_
          refine w_seq ?_
          refine w_seq ?_
          refine w_region ?_
          refine o_y (y_assign rfl) rfl rfl ?_
          refine wl_nil ?_
          refine e_seq ?_
          refine w_block ?_
          refine w_loop0 (σ := Unit) [6, 7, 43, 44, 45, 46, 47, 48, 49, 50, 51, 52, 53, 54, 55, 56, 57, 58] (fun _ => True) (fun _ => 0) (fun _ => [(6, .int .i64 (sizeD t d)), (7, .int .i64 0)]) (()) ?_ ⟨lk rfl (by congr 1; rw [sizeD, if_pos h3_1, if_neg (not_true_of h5_1), if_neg h7_1, if_neg h9_1]; omega), rfl, trivial⟩ (fun _ hI => ?_)
          · trivial
          refine w_seq ?_
          refine w_seq ?_
          refine w_region ?_
          refine o_y (y_move rfl) rfl rfl ?_
          refine o_y (y_field fa_58_4 rfl) rfl rfl ?_
          refine o_y (y_loadr 1 ty_56 rfl rfl rfl) rfl rfl ?_
          refine o_y (y_lenl Try.underlying56 rfl) rfl rfl ?_
          refine o_y (y_lss rfl rfl) rfl rfl ?_
          refine wl_af (t := 47) rfl (by simp) ?_
          refine wl_nil ?_
          refine e_seq ?_
          refine w_cond_f rfl ?_
          refine w_exit ?_
          refine e_seq_exit ?_
          refine e_loop_exit ?_
          refine e_blk_hit ?_
          refine e_seq ?_
          refine w_seq ?_
          refine w_region ?_
          refine o_y (y_move rfl) rfl rfl ?_
          refine o_y (y_assign rfl) rfl rfl ?_
          refine wl_nil ?_
          refine e_seq ?_
          refine w_ret ?_
          refine e_ret (ts := [4]) rfl rfl rfl (fun w hw => ?_)
          exact ⟨rfl, hw.base⟩
  · skip
    refine wl_nil ?_
    refine e_seq ?_
    refine w_cond_f rfl ?_
    refine w_skip ?_
    refine e_seq ?_
    refine w_seq ?_
    refine w_seq ?_
    refine w_region ?_
    refine o_y (y_field fa_123_2 rfl) rfl rfl ?_
    refine o_y (y_loadr 0 ty_4 rfl rfl rfl) rfl rfl ?_
    refine wl_splitb (t := 28) rfl (fun h5_1 => ?_) (fun h5_1 => ?_)
    · skip
      refine wl_nil ?_
      refine e_seq ?_
      refine w_cond_t rfl ?_
      refine w_region ?_
      refine o_y (y_move rfl) rfl rfl ?_
      refine o_y (y_field fa_58_2 rfl) rfl rfl ?_
      refine o_y (y_loadr 1 ty_22 rfl rfl rfl) rfl rfl ?_
      refine o_y (y_lens Try.underlying22 rfl) rfl rfl ?_
      refine o_y (y_addi rfl rfl (by omega) (by omega)) rfl rfl ?_
      refine o_y (y_addi rfl rfl (by omega) (by omega)) rfl rfl ?_
      refine o_y (y_assign rfl) rfl rfl ?_
      refine wl_nil ?_
      refine e_seq ?_
      refine w_seq ?_
      refine w_seq ?_
      refine w_region ?_
      refine o_y (y_move rfl) rfl rfl ?_
      refine o_y (y_eql rfl rfl) rfl rfl ?_
      refine wl_splitp (t := 36) rfl (fun h7_1 => ?_) (fun h7_1 => ?_)
      · skip
        refine wl_nil ?_
        refine e_seq ?_
        refine w_cond_t rfl ?_
        refine w_region ?_
        refine o_y (y_move rfl) rfl rfl ?_
        refine o_y (y_addi rfl rfl (by omega) (by omega)) rfl rfl ?_
        refine o_y (y_assign rfl) rfl rfl ?_
        refine wl_nil ?_
        refine e_seq ?_
        refine w_seq ?_
        refine w_seq ?_
        refine w_region ?_
        refine o_y (y_move rfl) rfl rfl ?_
        refine o_y (y_eql rfl rfl) rfl rfl ?_
        refine wl_splitp (t := 40) rfl (fun h9_1 => ?_) (fun h9_1 => ?_)
        · skip
          refine wl_nil ?_
          refine e_seq ?_
          refine w_cond_t rfl ?_
          refine w_region ?_
          refine o_y (y_move rfl) rfl rfl ?_
          refine o_y (y_addi rfl rfl (by omega) (by omega)) rfl rfl ?_
          refine o_y (y_assign rfl) rfl rfl ?_
          refine wl_nil ?_
          refine e_seq ?_
          refine w_seq ?_
          refine w_seq ?_
          refine w_region ?_
          refine o_y (y_assign rfl) rfl rfl ?_
          refine wl_nil ?_
          refine e_seq ?_
          refine w_block ?_
          refine w_loop0 (σ := Unit) [6, 7, 43, 44, 45, 46, 47, 48, 49, 50, 51, 52, 53, 54, 55, 56, 57, 58] (fun _ => True) (fun _ => 0) (fun _ => [(6, .int .i64 (sizeD t d)), (7, .int .i64 0)]) (()) ?_ ⟨lk rfl (by congr 1; rw [sizeD, if_neg (not_true_of h3_1), if_pos h5_1, if_pos h7_1, if_pos h9_1]; omega), rfl, trivial⟩ (fun _ hI => ?_)
          · trivial
          refine w_seq ?_
          refine w_seq ?_
          refine w_region ?_
          refine o_y (y_move rfl) rfl rfl ?_
          refine o_y (y_field fa_58_4 rfl) rfl rfl ?_
          refine o_y (y_loadr 1 ty_56 rfl rfl rfl) rfl rfl ?_
          refine o_y (y_lenl Try.underlying56 rfl) rfl rfl ?_
          refine o_y (y_lss rfl rfl) rfl rfl ?_
          refine wl_af (t := 47) rfl (by simp) ?_
          refine wl_nil ?_
          refine e_seq ?_
          refine w_cond_f rfl ?_
          refine w_exit ?_
          refine e_seq_exit ?_
          refine e_loop_exit ?_
          refine e_blk_hit ?_
          refine e_seq ?_
          refine w_seq ?_
          refine w_region ?_
          refine o_y (y_move rfl) rfl rfl ?_
          refine o_y (y_assign rfl) rfl rfl ?_
          refine wl_nil ?_
          refine e_seq ?_
          refine w_ret ?_
          refine e_ret (ts := [4]) rfl rfl rfl (fun w hw => ?_)
          exact ⟨rfl, hw.base⟩
        · skip
          refine wl_nil ?_
          refine e_seq ?_
          refine w_cond_f rfl ?_
          refine w_skip ?_
          refine e_seq ?_
          refine w_seq ?_
          refine w_seq ?_
          refine w_region ?_
          refine o_y (y_assign rfl) rfl rfl ?_
          refine wl_nil ?_
          refine e_seq ?_
          refine w_block ?_
          refine w_loop0 (σ := Unit) [6, 7, 43, 44, 45, 46, 47, 48, 49, 50, 51, 52, 53, 54, 55, 56, 57, 58] (fun _ => True) (fun _ => 0) (fun _ => [(6, .int .i64 (sizeD t d)), (7, .int .i64 0)]) (()) ?_ ⟨lk rfl (by congr 1; rw [sizeD, if_neg (not_true_of h3_1), if_pos h5_1, if_pos h7_1, if_neg h9_1]; omega), rfl, trivial⟩ (fun _ hI => ?_)
          · trivial
          refine w_seq ?_
          refine w_seq ?_
          refine w_region ?_
          refine o_y (y_move rfl) rfl rfl ?_
          refine o_y (y_field fa_58_4 rfl) rfl rfl ?_
          refine o_y (y_loadr 1 ty_56 rfl rfl rfl) rfl rfl ?_
          refine o_y (y_lenl Try.underlying56 rfl) rfl rfl ?_
          refine o_y (y_lss rfl rfl) rfl rfl ?_
          refine wl_af (t := 47) rfl (by simp) ?_
          refine wl_nil ?_
          refine e_seq ?_
          refine w_cond_f rfl ?_
          refine w_exit ?_
          refine e_seq_exit ?_
          refine e_loop_exit ?_
          refine e_blk_hit ?_
          refine e_seq ?_
          refine w_seq ?_
          refine w_region ?_
          refine o_y (y_move rfl) rfl rfl ?_
          refine o_y (y_assign rfl) rfl rfl ?_
          refine wl_nil ?_
          refine e_seq ?_
          refine w_ret ?_
          refine e_ret (ts := [4]) rfl rfl rfl (fun w hw => ?_)
          exact ⟨rfl, hw.base⟩
      · skip
        refine wl_nil ?_
        refine e_seq ?_
        refine w_cond_f rfl ?_
        refine w_skip ?_
        refine e_seq ?_
        refine w_seq ?_
        refine w_seq ?_
        refine w_region ?_
        refine o_y (y_move rfl) rfl rfl ?_
        refine o_y (y_eql rfl rfl) rfl rfl ?_
        refine wl_splitp (t := 40) rfl (fun h9_1 => ?_) (fun h9_1 => ?_)
        · skip
          refine wl_nil ?_
          refine e_seq ?_
          refine w_cond_t rfl ?_
          refine w_region ?_
          refine o_y (y_move rfl) rfl rfl ?_
          refine o_y (y_addi rfl rfl (by omega) (by omega)) rfl rfl ?_
          refine o_y (y_assign rfl) rfl rfl ?_
          refine wl_nil ?_
          refine e_seq ?_
          refine w_seq ?_
          refine w_seq ?_
          refine w_region ?_
          refine o_y (y_assign rfl) rfl rfl ?_
          refine wl_nil ?_
          refine e_seq ?_
          refine w_block ?_
          refine w_loop0 (σ := Unit) [6, 7, 43, 44, 45, 46, 47, 48, 49, 50, 51, 52, 53, 54, 55, 56, 57, 58] (fun _ => True) (fun _ => 0) (fun _ => [(6, .int .i64 (sizeD t d)), (7, .int .i64 0)]) (()) ?_ ⟨lk rfl (by congr 1; rw [sizeD, if_neg (not_true_of h3_1), if_pos h5_1, if_neg h7_1, if_pos h9_1]; omega), rfl, trivial⟩ (fun _ hI => ?_)
          · trivial
          refine w_seq ?_
          refine w_seq ?_
          refine w_region ?_
          refine o_y (y_move rfl) rfl rfl ?_
          refine o_y (y_field fa_58_4 rfl) rfl rfl ?_
          refine o_y (y_loadr 1 ty_56 rfl rfl rfl) rfl rfl ?_
          refine o_y (y_lenl Try.underlying56 rfl) rfl rfl ?_
          refine o_y (y_lss rfl rfl) rfl rfl ?_
          refine wl_af (t := 47) rfl (by simp) ?_
          refine wl_nil ?_
          refine e_seq ?_
          refine w_cond_f rfl ?_
          refine w_exit ?_
          refine e_seq_exit ?_
          refine e_loop_exit ?_
          refine e_blk_hit ?_
          refine e_seq ?_
          refine w_seq ?_
          refine w_region ?_
          refine o_y (y_move rfl) rfl rfl ?_
          refine o_y (y_assign rfl) rfl rfl ?_
          refine wl_nil ?_
          refine e_seq ?_
          refine w_ret ?_
          refine e_ret (ts := [4]) rfl rfl rfl (fun w hw => ?_)
          exact ⟨rfl, hw.base⟩
        · skip
          refine wl_nil ?_
          refine e_seq ?_
          refine w_cond_f rfl ?_
          refine w_skip ?_
          refine e_seq ?_
          refine w_seq ?_
          refine w_seq ?_
          refine w_region ?_
          refine o_y (y_assign rfl) rfl rfl ?_
          refine wl_nil ?_
          refine e_seq ?_
          refine w_block ?_
          refine w_loop0 (σ := Unit) [6, 7, 43, 44, 45, 46, 47, 48, 49, 50, 51, 52, 53, 54, 55, 56, 57, 58] (fun _ => True) (fun _ => 0) (fun _ => [(6, .int .i64 (sizeD t d)), (7, .int .i64 0)]) (()) ?_ ⟨lk rfl (by congr 1; rw [sizeD, if_neg (not_true_of h3_1), if_pos h5_1, if_neg h7_1, if_neg h9_1]; omega), rfl, trivial⟩ (fun _ hI => ?_)
          · trivial
          refine w_seq ?_
          refine w_seq ?_
          refine w_region ?_
          refine o_y (y_move rfl) rfl rfl ?_
          refine o_y (y_field fa_58_4 rfl) rfl rfl ?_
          refine o_y (y_loadr 1 ty_56 rfl rfl rfl) rfl rfl ?_
          refine o_y (y_lenl Try.underlying56 rfl) rfl rfl ?_
          refine o_y (y_lss rfl rfl) rfl rfl ?_
          refine wl_af (t := 47) rfl (by simp) ?_
          refine wl_nil ?_
          refine e_seq ?_
          refine w_cond_f rfl ?_
          refine w_exit ?_
          refine e_seq_exit ?_
          refine e_loop_exit ?_
          refine e_blk_hit ?_
          refine e_seq ?_
          refine w_seq ?_
          refine w_region ?_
          refine o_y (y_move rfl) rfl rfl ?_
          refine o_y (y_assign rfl) rfl rfl ?_
          refine wl_nil ?_
          refine e_seq ?_
          refine w_ret ?_
          refine e_ret (ts := [4]) rfl rfl rfl (fun w hw => ?_)
          exact ⟨rfl, hw.base⟩
    · skip
      refine wl_nil ?_
      refine e_seq ?_
      refine w_cond_f rfl ?_
      refine w_skip ?_
      refine e_seq ?_
      refine w_seq ?_
      refine w_seq ?_
      refine w_region ?_
      refine o_y (y_move rfl) rfl rfl ?_
      refine o_y (y_eql rfl rfl) rfl rfl ?_
      refine wl_splitp (t := 36) rfl (fun h7_1 => ?_) (fun h7_1 => ?_)
      · skip
        refine wl_nil ?_
        refine e_seq ?_
        refine w_cond_t rfl ?_
        refine w_region ?_
        refine o_y (y_move rfl) rfl rfl ?_
        refine o_y (y_addi rfl rfl (by omega) (by omega)) rfl rfl ?_
        refine o_y (y_assign rfl) rfl rfl ?_
        refine wl_nil ?_
        refine e_seq ?_
        refine w_seq ?_
        refine w_seq ?_
        refine w_region ?_
        refine o_y (y_move rfl) rfl rfl ?_
        refine o_y (y_eql rfl rfl) rfl rfl ?_
        refine wl_splitp (t := 40) rfl (fun h9_1 => ?_) (fun h9_1 => ?_)
        · skip
          refine wl_nil ?_
          refine e_seq ?_
          refine w_cond_t rfl ?_
          refine w_region ?_
          refine o_y (y_move rfl) rfl rfl ?_
          refine o_y (y_addi rfl rfl (by omega) (by omega)) rfl rfl ?_
          refine o_y (y_assign rfl) rfl rfl ?_
          refine wl_nil ?_
          refine e_seq ?_
          refine w_seq ?_
          refine w_seq ?_
          refine w_region ?_
          refine o_y (y_assign rfl) rfl rfl ?_
          refine wl_nil ?_
          refine e_seq ?_
          refine w_block ?_
          refine w_loop0 (σ := Unit) [6, 7, 43, 44, 45, 46, 47, 48, 49, 50, 51, 52, 53, 54, 55, 56, 57, 58] (fun _ => True) (fun _ => 0) (fun _ => [(6, .int .i64 (sizeD t d)), (7, .int .i64 0)]) (()) ?_ ⟨lk rfl (by congr 1; rw [sizeD, if_neg (not_true_of h3_1), if_neg (not_true_of h5_1), if_pos h7_1, if_pos h9_1]; omega), rfl, trivial⟩ (fun _ hI => ?_)
          · trivial
          refine w_seq ?_
          refine w_seq ?_
          refine w_region ?_
          refine o_y (y_move rfl) rfl rfl ?_
          refine o_y (y_field fa_58_4 rfl) rfl rfl ?_
          refine o_y (y_loadr 1 ty_56 rfl rfl rfl) rfl rfl ?_
          refine o_y (y_lenl Try.underlying56 rfl) rfl rfl ?_
          refine o_y (y_lss rfl rfl) rfl rfl ?_
          refine wl_af (t := 47) rfl (by simp) ?_
          refine wl_nil ?_
          refine e_seq ?_
          refine w_cond_f rfl ?_
          refine w_exit ?_
          refine e_seq_exit ?_
          refine e_loop_exit ?_
          refine e_blk_hit ?_
          refine e_seq ?_
          refine w_seq ?_
          refine w_region ?_
          refine o_y (y_move rfl) rfl rfl ?_
          refine o_y (y_assign rfl) rfl rfl ?_
          refine wl_nil ?_
          refine e_seq ?_
          refine w_ret ?_
          refine e_ret (ts := [4]) rfl rfl rfl (fun w hw => ?_)
          exact ⟨rfl, hw.base⟩
        · skip
          refine wl_nil ?_
          refine e_seq ?_
          refine w_cond_f rfl ?_
          refine w_skip ?_
          refine e_seq ?_
          refine w_seq ?_
          refine w_seq ?_
          refine w_region ?_
          refine o_y (y_assign rfl) rfl rfl ?_
          refine wl_nil ?_
          refine e_seq ?_
          refine w_block ?_
          refine w_loop0 (σ := Unit) [6, 7, 43, 44, 45, 46, 47, 48, 49, 50, 51, 52, 53, 54, 55, 56, 57, 58] (fun _ => True) (fun _ => 0) (fun _ => [(6, .int .i64 (sizeD t d)), (7, .int .i64 0)]) (()) ?_ ⟨lk rfl (by congr 1; rw [sizeD, if_neg (not_true_of h3_1), if_neg (not_true_of h5_1), if_pos h7_1, if_neg h9_1]; omega), rfl, trivial⟩ (fun _ hI => ?_)
          · trivial
          refine w_seq ?_
          refine w_seq ?_
          refine w_region ?_
          refine o_y (y_move rfl) rfl rfl ?_
          refine o_y (y_field fa_58_4 rfl) rfl rfl ?_
          refine o_y (y_loadr 1 ty_56 rfl rfl rfl) rfl rfl ?_
          refine o_y (y_lenl Try.underlying56 rfl) rfl rfl ?_
          refine o_y (y_lss rfl rfl) rfl rfl ?_
          refine wl_af (t := 47) rfl (by simp) ?_
          refine wl_nil ?_
          refine e_seq ?_
          refine w_cond_f rfl ?_
          refine w_exit ?_
          refine e_seq_exit ?_
          refine e_loop_exit ?_
          refine e_blk_hit ?_
          refine e_seq ?_
          refine w_seq ?_
          refine w_region ?_
          refine o_y (y_move rfl) rfl rfl ?_
          refine o_y (y_assign rfl) rfl rfl ?_
          refine wl_nil ?_
          refine e_seq ?_
          refine w_ret ?_
          refine e_ret (ts := [4]) rfl rfl rfl (fun w hw => ?_)
          exact ⟨rfl, hw.base⟩
      · skip
        refine wl_nil ?_
        refine e_seq ?_
        refine w_cond_f rfl ?_
        refine w_skip ?_
        refine e_seq ?_
        refine w_seq ?_
        refine w_seq ?_
        refine w_region ?_
        refine o_y (y_move rfl) rfl rfl ?_
        refine o_y (y_eql rfl rfl) rfl rfl ?_
        refine wl_splitp (t := 40) rfl (fun h9_1 => ?_) (fun h9_1 => ?_)
        · skip
          refine wl_nil ?_
          refine e_seq ?_
          refine w_cond_t rfl ?_
          refine w_region ?_
          refine o_y (y_move rfl) rfl rfl ?_
          refine o_y (y_addi rfl rfl (by omega) (by omega)) rfl rfl ?_
          refine o_y (y_assign rfl) rfl rfl ?_
          refine wl_nil ?_
          refine e_seq ?_
          refine w_seq ?_
          refine w_seq ?_
          refine w_region ?_
          refine o_y (y_assign rfl) rfl rfl ?_
          refine wl_nil ?_
          refine e_seq ?_
          refine w_block ?_
          refine w_loop0 (σ := Unit) [6, 7, 43, 44, 45, 46, 47, 48, 49, 50, 51, 52, 53, 54, 55, 56, 57, 58] (fun _ => True) (fun _ => 0) (fun _ => [(6, .int .i64 (sizeD t d)), (7, .int .i64 0)]) (()) ?_ ⟨lk rfl (by congr 1; rw [sizeD, if_neg (not_true_of h3_1), if_neg (not_true_of h5_1), if_neg h7_1, if_pos h9_1]; omega), rfl, trivial⟩ (fun _ hI => ?_)
          · trivial
          refine w_seq ?_
          refine w_seq ?_
          refine w_region ?_
          refine o_y (y_move rfl) rfl rfl ?_
          refine o_y (y_field fa_58_4 rfl) rfl rfl ?_
          refine o_y (y_loadr 1 ty_56 rfl rfl rfl) rfl rfl ?_
          refine o_y (y_lenl Try.underlying56 rfl) rfl rfl ?_
          refine o_y (y_lss rfl rfl) rfl rfl ?_
          refine wl_af (t := 47) rfl (by simp) ?_
          refine wl_nil ?_
          refine e_seq ?_
          refine w_cond_f rfl ?_
          refine w_exit ?_
          refine e_seq_exit ?_
          refine e_loop_exit ?_
          refine e_blk_hit ?_
          refine e_seq ?_
          refine w_seq ?_
          refine w_region ?_
          refine o_y (y_move rfl) rfl rfl ?_
          refine o_y (y_assign rfl) rfl rfl ?_
          refine wl_nil ?_
          refine e_seq ?_
          refine w_ret ?_
          refine e_ret (ts := [4]) rfl rfl rfl (fun w hw => ?_)
          exact ⟨rfl, hw.base⟩
        · skip
          refine wl_nil ?_
          refine e_seq ?_
          refine w_cond_f rfl ?_
          refine w_skip ?_
          refine e_seq ?_
          refine w_seq ?_
          refine w_seq ?_
          refine w_region ?_
          refine o_y (y_assign rfl) rfl rfl ?_
          refine wl_nil ?_
          refine e_seq ?_
          refine w_block ?_
          refine w_loop0 (σ := Unit) [6, 7, 43, 44, 45, 46, 47, 48, 49, 50, 51, 52, 53, 54, 55, 56, 57, 58] (fun _ => True) (fun _ => 0) (fun _ => [(6, .int .i64 (sizeD t d)), (7, .int .i64 0)]) (()) ?_ ⟨lk rfl (by congr 1; rw [sizeD, if_neg (not_true_of h3_1), if_neg (not_true_of h5_1), if_neg h7_1, if_neg h9_1]; omega), rfl, trivial⟩ (fun _ hI => ?_)
          · trivial
          refine w_seq ?_
          refine w_seq ?_
          refine w_region ?_
          refine o_y (y_move rfl) rfl rfl ?_
          refine o_y (y_field fa_58_4 rfl) rfl rfl ?_
          refine o_y (y_loadr 1 ty_56 rfl rfl rfl) rfl rfl ?_
          refine o_y (y_lenl Try.underlying56 rfl) rfl rfl ?_
          refine o_y (y_lss rfl rfl) rfl rfl ?_
          refine wl_af (t := 47) rfl (by simp) ?_
          refine wl_nil ?_
          refine e_seq ?_
          refine w_cond_f rfl ?_
          refine w_exit ?_
          refine e_seq_exit ?_
          refine e_loop_exit ?_
          refine e_blk_hit ?_
          refine e_seq ?_
          refine w_seq ?_
          refine w_region ?_
          refine o_y (y_move rfl) rfl rfl ?_
          refine o_y (y_assign rfl) rfl rfl ?_
          refine wl_nil ?_
          refine e_seq ?_
          refine w_ret ?_
          refine e_ret (ts := [4]) rfl rfl rfl (fun w hw => ?_)
          exact ⟨rfl, hw.base⟩

theorem c_ref09_Check (t : Int) (d : Dt) (h0 : 0 ≤ d.ad.lo) (hl : d.name.length + d.mail.length + d.raw.length ≤ 1000000000) : Pure Try.prog 64 #[.int .i64 t, .agg (dtC d).toArray] (.int .i64 (dataCk2 t d)) := by
  intro w0
  refine calls_of_W (ok0 := no) (S := []) (args := [.int .i64 t, .agg (dtC d).toArray]) 18 Try.func64 rfl rfl rfl (by simp) (by simp) ?_
  refine w_seq ?_
  refine w_region ?_
  refine o_box rfl rfl rfl (fun b1 => ?_)
  refine o_y (y_assign rfl) rfl rfl ?_
  refine wl_nil ?_
  refine e_seq ?_
  refine w_seq ?_
  refine w_region ?_
  refine o_y (y_move rfl) rfl rfl ?_
  refine o_y (y_loadrs 0 ty_58 rfl rfl rfl rfl) rfl rfl ?_
  refine o_callp rfl ent_90 (c_ref09_check _ _ h0) rfl ?_
  refine o_y (y_assign rfl) rfl rfl ?_
  refine wl_nil ?_
  refine e_seq ?_
  refine w_seq ?_
  refine w_seq ?_
  refine w_region ?_
  refine o_y (y_move rfl) rfl rfl ?_
  refine o_y (y_eql rfl rfl) rfl rfl ?_
  refine wl_splitp (t := 10) rfl (fun h2_1 => ?_) (fun h2_1 => ?_)
  · skip
    refine o_y (y_move rfl) rfl rfl ?_
    refine wl_gyes rfl rfl ?_
    refine o_y (y_move rfl) rfl rfl ?_
    refine wl_gyes rfl rfl ?_
    refine o_y (y_loadrs 0 ty_58 rfl rfl rfl rfl) rfl rfl ?_
    refine wl_gyes rfl rfl ?_
    refine o_callp rfl ent_91 (c_ref09_size _ _ hl) rfl ?_
    refine wl_gyes rfl rfl ?_
    refine o_y (y_gtr rfl rfl) rfl rfl ?_
    refine wl_splitp (t := 15) rfl (fun h2_6 => ?_) (fun h2_6 => ?_)
    · skip
      refine o_y (y_pick_t rfl rfl) rfl rfl ?_
      refine wl_nil ?_
      refine e_seq ?_
      refine w_cond_t rfl ?_
      refine w_region ?_
      refine o_y (y_assign rfl) rfl rfl ?_
      refine wl_nil ?_
      refine e_seq ?_
      refine w_seq ?_
      refine w_region ?_
      refine o_y (y_move rfl) rfl rfl ?_
      refine o_y (y_assign rfl) rfl rfl ?_
      refine wl_nil ?_
      refine e_seq ?_
      refine w_ret ?_
      refine e_ret (ts := [4]) rfl rfl rfl (fun w hw => ?_)
      refine ⟨?_, hw.base⟩
      show Ending.returned (.int _ _) = _
      congr 2
      first
        | (rw [dataCk2, if_pos (by simp_all)]
           done)
        | (rw [dataCk2, if_neg (by omega)]
           done)
        | (trace_state; fail)
    · skip
      refine o_y (y_pick_t rfl rfl) rfl rfl ?_
      refine wl_nil ?_
      refine e_seq ?_
      refine w_cond_f rfl ?_
      refine w_skip ?_
      refine e_seq ?_
      refine w_seq ?_
      refine w_region ?_
      refine o_y (y_move rfl) rfl rfl ?_
      refine o_y (y_assign rfl) rfl rfl ?_
      refine wl_nil ?_
      refine e_seq ?_
      refine w_ret ?_
      refine e_ret (ts := [4]) rfl rfl rfl (fun w hw => ?_)
      refine ⟨?_, hw.base⟩
      show Ending.returned (.int _ _) = _
      congr 2
      first
        | (rw [dataCk2, if_pos (by simp_all)]
           done)
        | (rw [dataCk2, if_neg (by omega)]
           done)
        | (trace_state; fail)
  · skip
    refine o_y (y_move rfl) rfl rfl ?_
    refine wl_gno rfl rfl rfl rfl ?_
    refine wl_gno rfl rfl rfl rfl ?_
    refine wl_gno rfl rfl rfl rfl ?_
    refine wl_gno rfl rfl rfl rfl ?_
    refine o_y (y_pick_f rfl rfl) rfl rfl ?_
    refine wl_nil ?_
    refine e_seq ?_
    refine w_cond_f rfl ?_
    refine w_skip ?_
    refine e_seq ?_
    refine w_seq ?_
    refine w_region ?_
    refine o_y (y_move rfl) rfl rfl ?_
    refine o_y (y_assign rfl) rfl rfl ?_
    refine wl_nil ?_
    refine e_seq ?_
    refine w_ret ?_
    refine e_ret (ts := [4]) rfl rfl rfl (fun w hw => ?_)
    refine ⟨?_, hw.base⟩
    show Ending.returned (.int _ _) = _
    congr 2
    first
      | (rw [dataCk2, if_pos (by simp_all)]
         done)
      | (rw [dataCk2, if_neg (by omega)]
         done)
      | (trace_state; fail)

theorem c_sixteen (n : Int) : Pure Try.prog 63 #[.int .i64 n] (.bool (sixteenI n)) := by
  intro w0
  refine calls_of_W (ok0 := no) (S := []) (args := [.int .i64 n]) 9 Try.func63 rfl rfl rfl (by simp) (by simp) ?_
  refine w_seq ?_
  refine w_region ?_
  refine o_y (y_assign rfl) rfl rfl ?_
  refine wl_nil ?_
  refine e_seq ?_
  refine w_seq ?_
  refine w_region ?_
  refine o_y (y_move rfl) rfl rfl ?_
  refine o_y (y_geq rfl rfl) rfl rfl ?_
  refine wl_splitp (t := 4) rfl (fun h1_1 => ?_) (fun h1_1 => ?_)
  · skip
    refine o_y (y_move rfl) rfl rfl ?_
    refine wl_gyes rfl rfl ?_
    refine o_y (y_move rfl) rfl rfl ?_
    refine wl_gyes rfl rfl ?_
    refine o_y (y_leq rfl rfl) rfl rfl ?_
    refine o_y (y_pick_t rfl rfl) rfl rfl ?_
    refine o_y (y_assign rfl) rfl rfl ?_
    refine wl_nil ?_
    refine e_seq ?_
    refine w_ret ?_
    refine e_ret (ts := [2]) rfl rfl rfl (fun w hw => ?_)
    refine ⟨?_, hw.base⟩
    show Ending.returned (.bool _) = _
    congr 2
    rw [Bool.eq_iff_iff]
    simp only [sixteenI, Bool.and_eq_true, decide_eq_true_eq]
    first | (simp; omega) | omega | (trace_state; fail)
  · skip
    refine o_y (y_move rfl) rfl rfl ?_
    refine wl_gno rfl rfl rfl rfl ?_
    refine wl_gno rfl rfl rfl rfl ?_
    refine o_y (y_pick_f rfl rfl) rfl rfl ?_
    refine o_y (y_assign rfl) rfl rfl ?_
    refine wl_nil ?_
    refine e_seq ?_
    refine w_ret ?_
    refine e_ret (ts := [2]) rfl rfl rfl (fun w hw => ?_)
    refine ⟨?_, hw.base⟩
    show Ending.returned (.bool _) = _
    congr 2
    rw [Bool.eq_iff_iff]
    simp only [sixteenI, Bool.and_eq_true, decide_eq_true_eq]
    first | (simp; omega) | omega | (trace_state; fail)

theorem c_ref10_Check (r : Rc) (h0 : 0 ≤ r.dt.ad.lo) (hl : r.dt.name.length + r.dt.mail.length + r.dt.raw.length ≤ 1000000000) : Pure Try.prog 32 #[.agg (rcC r).toArray] (.int .i64 (rcCk r)) := by
  intro w0
  refine calls_of_W (ok0 := no) (S := []) (args := [.agg (rcC r).toArray]) 29 Try.func32 rfl rfl rfl (by simp) (by simp) ?_
  refine w_seq ?_
  refine w_region ?_
  refine o_box rfl rfl rfl (fun b1 => ?_)
  refine o_y (y_assign rfl) rfl rfl ?_
  refine wl_nil ?_
  refine e_seq ?_
  refine w_seq ?_
  refine w_region ?_
  refine o_y (y_field fa_60_0 rfl) rfl rfl ?_
  refine o_y (y_loadr 0 ty_22 rfl rfl rfl) rfl rfl ?_
  refine o_callp rfl ent_35 (c_ref02_Check _) rfl ?_
  refine o_y (y_assign rfl) rfl rfl ?_
  refine wl_nil ?_
  refine e_seq ?_
  refine w_seq ?_
  refine w_seq ?_
  refine w_region ?_
  refine o_y (y_move rfl) rfl rfl ?_
  refine o_y (y_eql rfl rfl) rfl rfl ?_
  refine wl_splitp (t := 8) rfl (fun h2_1 => ?_) (fun h2_1 => ?_)
  · skip
    refine o_y (y_move rfl) rfl rfl ?_
    refine wl_gyes rfl rfl ?_
    refine o_y (y_field fa_60_1 rfl) rfl rfl ?_
    refine wl_gyes rfl rfl ?_
    refine o_y (y_loadr 0 ty_3 rfl rfl rfl) rfl rfl ?_
    refine wl_gyes rfl rfl ?_
    refine o_callp rfl ent_63 (c_sixteen _) rfl ?_
    refine wl_splitb (t := 12) rfl (fun h2_5 => ?_) (fun h2_5 => ?_)
    · skip
      refine wl_gyes rfl rfl ?_
      refine o_y (y_not rfl) rfl rfl ?_
      refine wl_gyes rfl rfl ?_
      refine o_y (y_move rfl) rfl rfl ?_
      refine wl_gyes rfl rfl ?_
      refine o_y (y_field fa_60_2 rfl) rfl rfl ?_
      refine wl_gyes rfl rfl ?_
      refine o_y (y_loadr 0 ty_3 rfl rfl rfl) rfl rfl ?_
      refine wl_gyes rfl rfl ?_
      refine o_callp rfl ent_63 (c_sixteen _) rfl ?_
      refine wl_splitb (t := 17) rfl (fun h2_10 => ?_) (fun h2_10 => ?_)
      · skip
        refine wl_gyes rfl rfl ?_
        refine o_y (y_not rfl) rfl rfl ?_
        refine wl_gyes rfl rfl ?_
        refine o_y (y_pick_f rfl rfl) rfl rfl ?_
        refine o_y (y_pick_t rfl rfl) rfl rfl ?_
        refine wl_nil ?_
        refine e_seq ?_
        refine w_cond_f rfl ?_
        refine w_skip ?_
        refine e_seq ?_
        refine w_seq ?_
        refine w_seq ?_
        refine w_region ?_
        refine o_y (y_move rfl) rfl rfl ?_
        refine o_y (y_eql rfl rfl) rfl rfl ?_
        refine wl_splitp (t := 22) rfl (fun h4_1 => ?_) (fun h4_1 => ?_)
        · skip
          refine wl_nil ?_
          refine e_seq ?_
          refine w_cond_t rfl ?_
          refine w_region ?_
          refine o_y (y_field fa_60_1 rfl) rfl rfl ?_
          refine o_y (y_loadr 0 ty_3 rfl rfl rfl) rfl rfl ?_
          refine o_y (y_field fa_60_4 rfl) rfl rfl ?_
          refine o_y (y_loadrs 0 ty_58 rfl rfl rfl rfl) rfl rfl ?_
          refine o_callp rfl ent_64 (c_ref09_Check r.ty r.dt h0 hl) rfl ?_
          refine o_y (y_assign rfl) rfl rfl ?_
          refine wl_nil ?_
          refine e_seq ?_
          refine w_seq ?_
          refine w_region ?_
          refine o_y (y_move rfl) rfl rfl ?_
          refine o_y (y_assign rfl) rfl rfl ?_
          refine wl_nil ?_
          refine e_seq ?_
          refine w_ret ?_
          refine e_ret (ts := [2]) rfl rfl rfl (fun w hw => ?_)
          refine ⟨?_, hw.base⟩
          show Ending.returned (.int _ _) = _
          congr 2
          first
            | (exfalso
               omega)
            | (simp [rcCk, *]
               done)
            | (trace_state; fail)
        · skip
          refine wl_nil ?_
          refine e_seq ?_
          refine w_cond_f rfl ?_
          refine w_skip ?_
          refine e_seq ?_
          refine w_seq ?_
          refine w_region ?_
          refine o_y (y_move rfl) rfl rfl ?_
          refine o_y (y_assign rfl) rfl rfl ?_
          refine wl_nil ?_
          refine e_seq ?_
          refine w_ret ?_
          refine e_ret (ts := [2]) rfl rfl rfl (fun w hw => ?_)
          refine ⟨?_, hw.base⟩
          show Ending.returned (.int _ _) = _
          congr 2
          first
            | (exfalso
               omega)
            | (simp [rcCk, *]
               done)
            | (trace_state; fail)
      · skip
        refine wl_gyes rfl rfl ?_
        refine o_y (y_not rfl) rfl rfl ?_
        refine wl_gyes rfl rfl ?_
        refine o_y (y_pick_f rfl rfl) rfl rfl ?_
        refine o_y (y_pick_t rfl rfl) rfl rfl ?_
        refine wl_nil ?_
        refine e_seq ?_
        refine w_cond_t rfl ?_
        refine w_region ?_
        refine o_y (y_assign rfl) rfl rfl ?_
        refine wl_nil ?_
        refine e_seq ?_
        refine w_seq ?_
        refine w_seq ?_
        refine w_region ?_
        refine o_y (y_move rfl) rfl rfl ?_
        refine o_y (y_eql rfl rfl) rfl rfl ?_
        refine wl_splitp (t := 22) rfl (fun h4_1 => ?_) (fun h4_1 => ?_)
        · skip
          refine wl_nil ?_
          refine e_seq ?_
          refine w_cond_t rfl ?_
          refine w_region ?_
          refine o_y (y_field fa_60_1 rfl) rfl rfl ?_
          refine o_y (y_loadr 0 ty_3 rfl rfl rfl) rfl rfl ?_
          refine o_y (y_field fa_60_4 rfl) rfl rfl ?_
          refine o_y (y_loadrs 0 ty_58 rfl rfl rfl rfl) rfl rfl ?_
          refine o_callp rfl ent_64 (c_ref09_Check r.ty r.dt h0 hl) rfl ?_
          refine o_y (y_assign rfl) rfl rfl ?_
          refine wl_nil ?_
          refine e_seq ?_
          refine w_seq ?_
          refine w_region ?_
          refine o_y (y_move rfl) rfl rfl ?_
          refine o_y (y_assign rfl) rfl rfl ?_
          refine wl_nil ?_
          refine e_seq ?_
          refine w_ret ?_
          refine e_ret (ts := [2]) rfl rfl rfl (fun w hw => ?_)
          refine ⟨?_, hw.base⟩
          show Ending.returned (.int _ _) = _
          congr 2
          first
            | (exfalso
               omega)
            | (simp [rcCk, *]
               done)
            | (trace_state; fail)
        · skip
          refine wl_nil ?_
          refine e_seq ?_
          refine w_cond_f rfl ?_
          refine w_skip ?_
          refine e_seq ?_
          refine w_seq ?_
          refine w_region ?_
          refine o_y (y_move rfl) rfl rfl ?_
          refine o_y (y_assign rfl) rfl rfl ?_
          refine wl_nil ?_
          refine e_seq ?_
          refine w_ret ?_
          refine e_ret (ts := [2]) rfl rfl rfl (fun w hw => ?_)
          refine ⟨?_, hw.base⟩
          show Ending.returned (.int _ _) = _
          congr 2
          first
            | (exfalso
               omega)
            | (simp [rcCk, *]
               done)
            | (trace_state; fail)
    · skip
      refine wl_gyes rfl rfl ?_
      refine o_y (y_not rfl) rfl rfl ?_
      refine wl_gyes rfl rfl ?_
      refine o_y (y_move rfl) rfl rfl ?_
      refine wl_gno rfl rfl rfl rfl ?_
      refine wl_gno rfl rfl rfl rfl ?_
      refine wl_gno rfl rfl rfl rfl ?_
      refine wl_gno rfl rfl rfl rfl ?_
      refine wl_gyes rfl rfl ?_
      refine o_y (y_pick_t rfl rfl) rfl rfl ?_
      refine o_y (y_pick_t rfl rfl) rfl rfl ?_
      refine wl_nil ?_
      refine e_seq ?_
      refine w_cond_t rfl ?_
      refine w_region ?_
      refine o_y (y_assign rfl) rfl rfl ?_
      refine wl_nil ?_
      refine e_seq ?_
      refine w_seq ?_
      refine w_seq ?_
      refine w_region ?_
      refine o_y (y_move rfl) rfl rfl ?_
      refine o_y (y_eql rfl rfl) rfl rfl ?_
      refine wl_splitp (t := 22) rfl (fun h4_1 => ?_) (fun h4_1 => ?_)
      · skip
        refine wl_nil ?_
        refine e_seq ?_
        refine w_cond_t rfl ?_
        refine w_region ?_
        refine o_y (y_field fa_60_1 rfl) rfl rfl ?_
        refine o_y (y_loadr 0 ty_3 rfl rfl rfl) rfl rfl ?_
        refine o_y (y_field fa_60_4 rfl) rfl rfl ?_
        refine o_y (y_loadrs 0 ty_58 rfl rfl rfl rfl) rfl rfl ?_
        refine o_callp rfl ent_64 (c_ref09_Check r.ty r.dt h0 hl) rfl ?_
        refine o_y (y_assign rfl) rfl rfl ?_
        refine wl_nil ?_
        refine e_seq ?_
        refine w_seq ?_
        refine w_region ?_
        refine o_y (y_move rfl) rfl rfl ?_
        refine o_y (y_assign rfl) rfl rfl ?_
        refine wl_nil ?_
        refine e_seq ?_
        refine w_ret ?_
        refine e_ret (ts := [2]) rfl rfl rfl (fun w hw => ?_)
        refine ⟨?_, hw.base⟩
        show Ending.returned (.int _ _) = _
        congr 2
        first
          | (exfalso
             omega)
          | (simp [rcCk, *]
             done)
          | (trace_state; fail)
      · skip
        refine wl_nil ?_
        refine e_seq ?_
        refine w_cond_f rfl ?_
        refine w_skip ?_
        refine e_seq ?_
        refine w_seq ?_
        refine w_region ?_
        refine o_y (y_move rfl) rfl rfl ?_
        refine o_y (y_assign rfl) rfl rfl ?_
        refine wl_nil ?_
        refine e_seq ?_
        refine w_ret ?_
        refine e_ret (ts := [2]) rfl rfl rfl (fun w hw => ?_)
        refine ⟨?_, hw.base⟩
        show Ending.returned (.int _ _) = _
        congr 2
        first
          | (exfalso
             omega)
          | (simp [rcCk, *]
             done)
          | (trace_state; fail)
  · skip
    refine o_y (y_move rfl) rfl rfl ?_
    refine wl_gno rfl rfl rfl rfl ?_
    refine wl_gno rfl rfl rfl rfl ?_
    refine wl_gno rfl rfl rfl rfl ?_
    refine wl_gno rfl rfl rfl rfl ?_
    refine wl_gno rfl rfl rfl rfl ?_
    refine wl_gnou rfl rfl rfl ?_
    refine wl_gnou rfl rfl rfl ?_
    refine wl_gnou rfl rfl rfl ?_
    refine wl_gnou rfl rfl rfl ?_
    refine wl_gno rfl rfl rfl rfl ?_
    refine o_y (y_pick_f rfl rfl) rfl rfl ?_
    refine wl_nil ?_
    refine e_seq ?_
    refine w_cond_f rfl ?_
    refine w_skip ?_
    refine e_seq ?_
    refine w_seq ?_
    refine w_seq ?_
    refine w_region ?_
    refine o_y (y_move rfl) rfl rfl ?_
    refine o_y (y_eql rfl rfl) rfl rfl ?_
    refine wl_splitp (t := 22) rfl (fun h4_1 => ?_) (fun h4_1 => ?_)
    · skip
      refine wl_nil ?_
      refine e_seq ?_
      refine w_cond_t rfl ?_
      refine w_region ?_
      refine o_y (y_field fa_60_1 rfl) rfl rfl ?_
      refine o_y (y_loadr 0 ty_3 rfl rfl rfl) rfl rfl ?_
      refine o_y (y_field fa_60_4 rfl) rfl rfl ?_
      refine o_y (y_loadrs 0 ty_58 rfl rfl rfl rfl) rfl rfl ?_
      refine o_callp rfl ent_64 (c_ref09_Check r.ty r.dt h0 hl) rfl ?_
      refine o_y (y_assign rfl) rfl rfl ?_
      refine wl_nil ?_
      refine e_seq ?_
      refine w_seq ?_
      refine w_region ?_
      refine o_y (y_move rfl) rfl rfl ?_
      refine o_y (y_assign rfl) rfl rfl ?_
      refine wl_nil ?_
      refine e_seq ?_
      refine w_ret ?_
      refine e_ret (ts := [2]) rfl rfl rfl (fun w hw => ?_)
      refine ⟨?_, hw.base⟩
      show Ending.returned (.int _ _) = _
      congr 2
      first
        | (exfalso
           omega)
        | (simp [rcCk, *]
           done)
        | (trace_state; fail)
    · skip
      refine wl_nil ?_
      refine e_seq ?_
      refine w_cond_f rfl ?_
      refine w_skip ?_
      refine e_seq ?_
      refine w_seq ?_
      refine w_region ?_
      refine o_y (y_move rfl) rfl rfl ?_
      refine o_y (y_assign rfl) rfl rfl ?_
      refine wl_nil ?_
      refine e_seq ?_
      refine w_ret ?_
      refine e_ret (ts := [2]) rfl rfl rfl (fun w hw => ?_)
      refine ⟨?_, hw.base⟩
      show Ending.returned (.int _ _) = _
      congr 2
      first
        | (exfalso
           omega)
        | (simp [rcCk, *]
           done)
        | (trace_state; fail)

theorem c_ref10_Same (a b : Rc) : Pure Try.prog 33 #[.agg (rcC a).toArray, .agg (rcC b).toArray] (.bool (decide (a = b))) := by
  intro w0
  refine calls_of_W (ok0 := no) (S := []) (args := [.agg (rcC a).toArray, .agg (rcC b).toArray]) 38 Try.func33 rfl rfl rfl (by simp) (by simp) ?_
  refine w_seq ?_
  refine w_region ?_
  refine o_box rfl rfl rfl (fun b1 => ?_)
  refine o_box rfl rfl rfl (fun b2 => ?_)
  refine o_y (y_assign rfl) rfl rfl ?_
  refine wl_nil ?_
  refine e_seq ?_
  refine w_seq ?_
  refine w_region ?_
  refine o_y (y_field fa_60_0 rfl) rfl rfl ?_
  refine o_y (y_loadr 1 ty_22 rfl rfl rfl) rfl rfl ?_
  refine o_y (y_field fa_60_0 rfl) rfl rfl ?_
  refine o_y (y_loadr 0 ty_22 rfl rfl rfl) rfl rfl ?_
  refine o_y (y_eqls rfl rfl) rfl rfl ?_
  refine wl_splitp (t := 9) rfl (fun h1_4 => ?_) (fun h1_4 => ?_)
  · skip
    refine o_y (y_move rfl) rfl rfl ?_
    refine wl_gyes rfl rfl ?_
    refine o_y (y_field fa_60_1 rfl) rfl rfl ?_
    refine wl_gyes rfl rfl ?_
    refine o_y (y_loadr 1 ty_3 rfl rfl rfl) rfl rfl ?_
    refine wl_gyes rfl rfl ?_
    refine o_y (y_field fa_60_1 rfl) rfl rfl ?_
    refine wl_gyes rfl rfl ?_
    refine o_y (y_loadr 0 ty_3 rfl rfl rfl) rfl rfl ?_
    refine wl_gyes rfl rfl ?_
    refine o_y (y_eql rfl rfl) rfl rfl ?_
    refine wl_splitp (t := 15) rfl (fun h1_10 => ?_) (fun h1_10 => ?_)
    · skip
      refine o_y (y_pick_t rfl rfl) rfl rfl ?_
      refine o_y (y_move rfl) rfl rfl ?_
      refine wl_gyes rfl rfl ?_
      refine o_y (y_field fa_60_2 rfl) rfl rfl ?_
      refine wl_gyes rfl rfl ?_
      refine o_y (y_loadr 1 ty_3 rfl rfl rfl) rfl rfl ?_
      refine wl_gyes rfl rfl ?_
      refine o_y (y_field fa_60_2 rfl) rfl rfl ?_
      refine wl_gyes rfl rfl ?_
      refine o_y (y_loadr 0 ty_3 rfl rfl rfl) rfl rfl ?_
      refine wl_gyes rfl rfl ?_
      refine o_y (y_eql rfl rfl) rfl rfl ?_
      refine wl_splitp (t := 22) rfl (fun h1_17 => ?_) (fun h1_17 => ?_)
      · skip
        refine o_y (y_pick_t rfl rfl) rfl rfl ?_
        refine o_y (y_move rfl) rfl rfl ?_
        refine wl_gyes rfl rfl ?_
        refine o_y (y_field fa_60_3 rfl) rfl rfl ?_
        refine wl_gyes rfl rfl ?_
        refine o_y (y_loadr 1 ty_46 rfl rfl rfl) rfl rfl ?_
        refine wl_gyes rfl rfl ?_
        refine o_y (y_field fa_60_3 rfl) rfl rfl ?_
        refine wl_gyes rfl rfl ?_
        refine o_y (y_loadr 0 ty_46 rfl rfl rfl) rfl rfl ?_
        refine wl_gyes rfl rfl ?_
        refine o_y (y_eql rfl rfl) rfl rfl ?_
        refine wl_splitp (t := 29) rfl (fun h1_24 => ?_) (fun h1_24 => ?_)
        · skip
          refine o_y (y_pick_t rfl rfl) rfl rfl ?_
          refine o_y (y_move rfl) rfl rfl ?_
          refine wl_gyes rfl rfl ?_
          refine o_y (y_field fa_60_4 rfl) rfl rfl ?_
          refine wl_gyes rfl rfl ?_
          refine o_y (y_loadrs 1 ty_58 rfl rfl rfl rfl) rfl rfl ?_
          refine wl_gyes rfl rfl ?_
          refine o_y (y_field fa_60_4 rfl) rfl rfl ?_
          refine wl_gyes rfl rfl ?_
          refine o_y (y_loadrs 0 ty_58 rfl rfl rfl rfl) rfl rfl ?_
          refine wl_gyes rfl rfl ?_
          refine o_callp rfl ent_65 (c_ref09_Same a.dt b.dt) rfl ?_
          refine o_y (y_pick_t rfl rfl) rfl rfl ?_
          refine o_y (y_assign rfl) rfl rfl ?_
          refine wl_nil ?_
          refine e_seq ?_
          refine w_ret ?_
          refine e_ret (ts := [4]) rfl rfl rfl (fun w hw => ?_)
          refine ⟨?_, hw.base⟩
          show Ending.returned (.bool _) = _
          congr 2
          first
            | (have hne : a ≠ b := fun e => by
                 subst e
                 simp_all
               rw [decide_eq_false hne]
               done)
            | (rw [decide_eq_decide]
               cases a; cases b
               simp_all
               done)
            | (trace_state; fail)
        · skip
          refine o_y (y_pick_t rfl rfl) rfl rfl ?_
          refine o_y (y_move rfl) rfl rfl ?_
          refine wl_gno rfl rfl rfl rfl ?_
          refine wl_gno rfl rfl rfl rfl ?_
          refine wl_gno rfl rfl rfl rfl ?_
          refine wl_gno rfl rfl rfl rfl ?_
          refine wl_gno rfl rfl rfl rfl ?_
          refine o_y (y_pick_f rfl rfl) rfl rfl ?_
          refine o_y (y_assign rfl) rfl rfl ?_
          refine wl_nil ?_
          refine e_seq ?_
          refine w_ret ?_
          refine e_ret (ts := [4]) rfl rfl rfl (fun w hw => ?_)
          refine ⟨?_, hw.base⟩
          show Ending.returned (.bool _) = _
          congr 2
          first
            | (have hne : a ≠ b := fun e => by
                 subst e
                 simp_all
               rw [decide_eq_false hne]
               done)
            | (rw [decide_eq_decide]
               cases a; cases b
               simp_all
               done)
            | (trace_state; fail)
      · skip
        refine o_y (y_pick_t rfl rfl) rfl rfl ?_
        refine o_y (y_move rfl) rfl rfl ?_
        refine wl_gno rfl rfl rfl rfl ?_
        refine wl_gno rfl rfl rfl rfl ?_
        refine wl_gno rfl rfl rfl rfl ?_
        refine wl_gno rfl rfl rfl rfl ?_
        refine wl_gno rfl rfl rfl rfl ?_
        refine o_y (y_pick_f rfl rfl) rfl rfl ?_
        refine o_y (y_move rfl) rfl rfl ?_
        refine wl_gno rfl rfl rfl rfl ?_
        refine wl_gno rfl rfl rfl rfl ?_
        refine wl_gno rfl rfl rfl rfl ?_
        refine wl_gno rfl rfl rfl rfl ?_
        refine wl_gno rfl rfl rfl rfl ?_
        refine o_y (y_pick_f rfl rfl) rfl rfl ?_
        refine o_y (y_assign rfl) rfl rfl ?_
        refine wl_nil ?_
        refine e_seq ?_
        refine w_ret ?_
        refine e_ret (ts := [4]) rfl rfl rfl (fun w hw => ?_)
        refine ⟨?_, hw.base⟩
        show Ending.returned (.bool _) = _
        congr 2
        first
          | (have hne : a ≠ b := fun e => by
               subst e
               simp_all
             rw [decide_eq_false hne]
             done)
          | (rw [decide_eq_decide]
             cases a; cases b
             simp_all
             done)
          | (trace_state; fail)
    · skip
      refine o_y (y_pick_t rfl rfl) rfl rfl ?_
      refine o_y (y_move rfl) rfl rfl ?_
      refine wl_gno rfl rfl rfl rfl ?_
      refine wl_gno rfl rfl rfl rfl ?_
      refine wl_gno rfl rfl rfl rfl ?_
      refine wl_gno rfl rfl rfl rfl ?_
      refine wl_gno rfl rfl rfl rfl ?_
      refine o_y (y_pick_f rfl rfl) rfl rfl ?_
      refine o_y (y_move rfl) rfl rfl ?_
      refine wl_gno rfl rfl rfl rfl ?_
      refine wl_gno rfl rfl rfl rfl ?_
      refine wl_gno rfl rfl rfl rfl ?_
      refine wl_gno rfl rfl rfl rfl ?_
      refine wl_gno rfl rfl rfl rfl ?_
      refine o_y (y_pick_f rfl rfl) rfl rfl ?_
      refine o_y (y_move rfl) rfl rfl ?_
      refine wl_gno rfl rfl rfl rfl ?_
      refine wl_gno rfl rfl rfl rfl ?_
      refine wl_gno rfl rfl rfl rfl ?_
      refine wl_gno rfl rfl rfl rfl ?_
      refine wl_gno rfl rfl rfl rfl ?_
      refine o_y (y_pick_f rfl rfl) rfl rfl ?_
      refine o_y (y_assign rfl) rfl rfl ?_
      refine wl_nil ?_
      refine e_seq ?_
      refine w_ret ?_
      refine e_ret (ts := [4]) rfl rfl rfl (fun w hw => ?_)
      refine ⟨?_, hw.base⟩
      show Ending.returned (.bool _) = _
      congr 2
      first
        | (have hne : a ≠ b := fun e => by
             subst e
             simp_all
           rw [decide_eq_false hne]
           done)
        | (rw [decide_eq_decide]
           cases a; cases b
           simp_all
           done)
        | (trace_state; fail)
  · skip
    refine o_y (y_move rfl) rfl rfl ?_
    refine wl_gno rfl rfl rfl rfl ?_
    refine wl_gno rfl rfl rfl rfl ?_
    refine wl_gno rfl rfl rfl rfl ?_
    refine wl_gno rfl rfl rfl rfl ?_
    refine wl_gno rfl rfl rfl rfl ?_
    refine o_y (y_pick_f rfl rfl) rfl rfl ?_
    refine o_y (y_move rfl) rfl rfl ?_
    refine wl_gno rfl rfl rfl rfl ?_
    refine wl_gno rfl rfl rfl rfl ?_
    refine wl_gno rfl rfl rfl rfl ?_
    refine wl_gno rfl rfl rfl rfl ?_
    refine wl_gno rfl rfl rfl rfl ?_
    refine o_y (y_pick_f rfl rfl) rfl rfl ?_
    refine o_y (y_move rfl) rfl rfl ?_
    refine wl_gno rfl rfl rfl rfl ?_
    refine wl_gno rfl rfl rfl rfl ?_
    refine wl_gno rfl rfl rfl rfl ?_
    refine wl_gno rfl rfl rfl rfl ?_
    refine wl_gno rfl rfl rfl rfl ?_
    refine o_y (y_pick_f rfl rfl) rfl rfl ?_
    refine o_y (y_move rfl) rfl rfl ?_
    refine wl_gno rfl rfl rfl rfl ?_
    refine wl_gno rfl rfl rfl rfl ?_
    refine wl_gno rfl rfl rfl rfl ?_
    refine wl_gno rfl rfl rfl rfl ?_
    refine wl_gno rfl rfl rfl rfl ?_
    refine o_y (y_pick_f rfl rfl) rfl rfl ?_
    refine o_y (y_assign rfl) rfl rfl ?_
    refine wl_nil ?_
    refine e_seq ?_
    refine w_ret ?_
    refine e_ret (ts := [4]) rfl rfl rfl (fun w hw => ?_)
    refine ⟨?_, hw.base⟩
    show Ending.returned (.bool _) = _
    congr 2
    first
      | (have hne : a ≠ b := fun e => by
           subst e
           simp_all
         rw [decide_eq_false hne]
         done)
      | (rw [decide_eq_decide]
         cases a; cases b
         simp_all
         done)
      | (trace_state; fail)
end Go.Proofs.Ytahpppncjbgpaaa
