import Derived.Test.YtnpdgmoeoidppaaGreatRows
import Derived.Test.YtnpdgmoeoidppaaGreatVuQh
import Derived.Test.YtnpdgmoeoidppaaGreatCmQh
import Derived.SizedLaws
/- VipsFills: its row holds: whatever the input, the law answers true and the input reads as it did -/
namespace Go.Proofs.YtnpdgmoeoidppaaGreat
open Go.RowKit Go.Shelf
set_option linter.unusedVariables false

open Go.ChangeShapes Go.WideShapes Go.ChangeAt
set_option maxRecDepth 100000 in
theorem vipsFills_lifted (os : Os) (started : os.Started) (H : Type) (enc : TypeId × Value → H) :
    ReturnsInHanded {} Tryz.checked os 4 .any (Rows.vipsFillsSpec.pre6 enc Tryz.prog Tryz.f4 Rows.vipsFillsRow.domain false) (Rows.vipsFillsSpec.post enc Tryz.prog Tryz.f4 false true false false) := by
  refine returnsInHanded_of_change_sized (C := Tryz.checked) (by kernel_rfl) started (by kernel_rfl) Tryz.func4
    (ChangeSpec.witness6 (enc := enc) (C := Tryz.checked) false ⟨#[], #[.agg #[.bool false, .int .u64 0, .int .u64 0, .int .i64 0, .slice none 0 0]], []⟩ 8 (by kernel_rfl) (by kernel_rfl) (by kernel_rfl) (by kernel_rfl)) ?_
  intro W base args ds gs before hval0 hW hcnd hsz0 _
  have hval : ∀ (j : Nat) t v, Tryz.f4.params[j]? = some t → args[j]? = some v → Value.okWide Tryz.prog W .any base t v := hval0
  have hW' := hW
  obtain ⟨p, q, hA0, hV, rfl, hfz, hnd⟩ := hW
  have hA : DataW.TrodAll enc Tryz.prog W 0 (fun _ => true) true Tryz.f4.params.toList args.toList ds p := hA0
  rw [Tryz.params4] at hA hval
  obtain ⟨v0, d0, rfl, rfl, h0⟩ := trodAll_one hA
  obtain ⟨rfl, rfl⟩ := trodVars_none hV
  obtain ⟨⟨rg, res, A, c⟩, rfl, hr0, ho0⟩ := op_agg Tryz.underlying67 (hval 0 67 v0 rfl rfl) h0 dc_pl
  have h9 := op_fsize (i := 1) (off := 4) Tryz.underlying67 h0 (by kernel_rfl) (by kernel_rfl) Tryz.underlying65 rfl (fun z hz => of_decide_eq_true (List.all_eq_true.1 hsz0 z (DataW.weights_mem_each (j := 0) rfl rfl z hz)))
  have h8 : Tryz.prog.bytesOf 64 = 32 := by kernel_rfl
  have h7 : reachBytes = 140737488351232 := rfl
  rw [h8, h7] at h9
  have h6 : res.length * 32 ≤ 140737488351232 := h9
  have hlb : res.length ≤ 4398046510976 := by omega
  refine bC (c_VipsFills rg res A c ho0.1 ho0.2.2 ho0.2.1 hlb W (aW (hr0 _ (.head _)) bf)) fun e W' ⟨_, he, hw, _⟩ => ?_
  subst he
  exact ⟨_, rfl, law_post (by kernel_rfl) (by kernel_rfl) rfl hW' rfl (by kernel_rfl) Tryz.underlying4 hw⟩
theorem vipsFills_holds : Rows.VipsFillsSaid :=
  OpenClaim.holds_of_wide 4 Tryz.f4 rfl rfl rfl rfl rfl rfl rfl ⟨rfl, rfl, rfl, rfl, rfl⟩ rfl rfl rfl rfl rfl (by kernel_rfl) Tryz.func4 (by kernel_rfl)
    (of_decide_eq_true (by kernel_rfl)) (by unfold Func.isWrapper; first | (rw [if_pos (by decide +kernel)]; kernel_rfl) | (rw [if_neg (by decide +kernel)]; exact ⟨rfl, rfl⟩))
    (fun os started H enc _ => vipsFills_lifted os started H enc)
#print axioms vipsFills_holds
end Go.Proofs.YtnpdgmoeoidppaaGreat
