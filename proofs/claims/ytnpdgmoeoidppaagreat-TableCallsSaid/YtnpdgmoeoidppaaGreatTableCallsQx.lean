import Derived.Test.YtnpdgmoeoidppaaGreatRows
import Derived.Test.YtnpdgmoeoidppaaGreatUkQx
import Derived.Test.YtnpdgmoeoidppaaGreatClQx
/- TableCalls: its row holds: whatever the input, the law answers true and the input reads as it did -/
namespace Go.Proofs.YtnpdgmoeoidppaaGreat
open Go.RowKit Go.Shelf
set_option linter.unusedVariables false

open Go.ChangeShapes Go.WideShapes Go.ChangeAt
set_option maxRecDepth 100000 in
theorem tableCalls_lifted (os : Os) (started : os.Started) (H : Type) (enc : TypeId × Value → H) :
    ReturnsInHanded {} Tryz.checked os 8 .any (Rows.tableCallsSpec.pre6 enc Tryz.prog Tryz.f8 Rows.tableCallsRow.domain false) (Rows.tableCallsSpec.post enc Tryz.prog Tryz.f8 false true false false) := by
  refine returnsInHanded_of_change (C := Tryz.checked) (by kernel_rfl) started (by kernel_rfl) Tryz.func8
    (ChangeSpec.witness6 (enc := enc) (C := Tryz.checked) false ⟨#[], #[.agg #[.int .i64 0, .slice none 0 0], .agg #[.int .i64 0, .slice none 0 0], .agg #[.bool false, .int .i64 0, .int .i64 0, .slice none 0 0, .slice none 0 0], .string .empty], []⟩ 8 (by kernel_rfl) (by kernel_rfl) (by kernel_rfl) (by kernel_rfl)) ?_
  intro W base args ds gs before hval0 hW hcnd _
  have hval : ∀ (j : Nat) t v, Tryz.f8.params[j]? = some t → args[j]? = some v → Value.okWide Tryz.prog W .any base t v := hval0
  have hW' := hW
  obtain ⟨p, q, hA0, hV, rfl, hfz, hnd⟩ := hW
  have hA : DataW.TrodAll enc Tryz.prog W 0 (fun _ => true) true Tryz.f8.params.toList args.toList ds p := hA0
  rw [Tryz.params8] at hA hval
  obtain ⟨v0, v1, v2, v3, d0, d1, d2, d3, p0, p1, p2, p3, rfl, rfl, rfl, h0, h1, h2, h3⟩ := trodAll_four hA
  obtain ⟨rfl, rfl⟩ := trodVars_none hV
  obtain ⟨⟨v, l, F, d⟩, rfl, hr0, ho0⟩ := op_agg Tryz.underlying24 (hval 0 24 v0 rfl rfl) h0 dc_tb
  obtain ⟨⟨w2, l2, F2, d2⟩, rfl, hr1, ho1⟩ := op_agg Tryz.underlying24 (hval 1 24 v1 rfl rfl) h1 dc_tb
  obtain ⟨⟨full, bs, ver, ⟨put, P, pc⟩, drop, D, dc⟩, rfl, hr2, ho2⟩ := op_agg Tryz.underlying103 (hval 2 103 v2 rfl rfl) h2 dc_push
  obtain ⟨n, rfl, hnl⟩ := op_str Tryz.underlying26 (hval 3 26 v3 rfl rfl)
  refine cN (c_TableCalls v l F d w2 l2 F2 d2 full bs ver put P pc drop D dc n hnl ho0.2 ho0.1 ho1.2 ho1.1 ho2.1.2 ho2.1.1 ho2.2 (op_fcap (ts := [3, 22]) Tryz.underlying24 (hval 0 24 _ rfl rfl) 1 (by kernel_rfl) (by kernel_rfl) Tryz.underlying22 rfl) (op_fcap (ts := [3, 22]) Tryz.underlying24 (hval 1 24 _ rfl rfl) 1 (by kernel_rfl) (by kernel_rfl) Tryz.underlying22 rfl) W (az (hr0 _ (.head _)) (az (hr0 _ (.tail _ (.head _))) (az (hr1 _ (.head _)) (az (hr1 _ (.tail _ (.head _))) (az (hr2 _ (.head _)) (az (hr2 _ (.tail _ (.head _))) (az (hr2 _ (.tail _ (.tail _ (.head _)))) aY)))))))) fun e W' ⟨_, he, hw, _⟩ => ?_
  subst he
  exact ⟨_, rfl, law_post (by kernel_rfl) (by kernel_rfl) rfl hW' rfl (by kernel_rfl) Tryz.underlying4 hw⟩
theorem tableCalls_holds : Rows.TableCallsSaid :=
  OpenClaim.holds_of_wide 8 Tryz.f8 rfl rfl rfl rfl rfl rfl rfl ⟨rfl, rfl, rfl, rfl, rfl⟩ rfl rfl rfl rfl rfl (by kernel_rfl) Tryz.func8 (by kernel_rfl)
    (of_decide_eq_true (by kernel_rfl)) (by unfold Func.isWrapper; first | (rw [if_pos (by decide +kernel)]; kernel_rfl) | (rw [if_neg (by decide +kernel)]; exact ⟨rfl, rfl⟩))
    (fun os started H enc _ => tableCalls_lifted os started H enc)
#print axioms tableCalls_holds
end Go.Proofs.YtnpdgmoeoidppaaGreat
