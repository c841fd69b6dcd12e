/- the first candidate that an index finds; its law -/
import Derived.Test.YtckfjfnkombelaaIcQO
namespace Go.Proofs.Ytckfjfnkombelaa
open Go.RowKit Go.Shelf
set_option linter.unusedVariables false
set_option linter.unusedSimpArgs false

theorem ent_24 : Enters Try.prog 24 := enters_of Try.func24 (by kernel_rfl) rfl
theorem ent_25 : Enters Try.prog 25 := enters_of Try.func25 (by kernel_rfl) rfl
theorem ent_32 : Enters Try.prog 32 := enters_of Try.func32 (by kernel_rfl) rfl
theorem ty_43 : TyI Try.prog 43 false 1 8 (.pointer none) := TyI.mk' (by kernel_rfl) (fun _ => by kernel_rfl)

set_option maxRecDepth 100000 in
theorem c_index_Newbad (v : Int) (l : List Le) (A : Option Addr) (c : Nat) (hok : TbOk l) (hlen : l.length ≤ 1000000000) (h0 : tabCk v l ≠ 0) (H : Option Addr) (h k : Nat) : RC Try.prog 25 #[.agg (tbC v A l.length c).toArray, .slice H h k] [Ch.rd A 7 elC l, Ch.rall (l.flatMap elR)] (α := Unit) (fun _ => .tuple #[.pointer none, .int .i64 (tabCk v l)]) (fun _ => []) := by
  refine rc_of_W (args := [.agg (tbC v A l.length c).toArray, .slice H h k]) 142 Try.func25 rfl rfl rfl (fun w0 => ?_)
  refine w_seq ?_
  refine w_region ?_
  refine o_box rfl rfl rfl (fun b1 => ?_)
  refine o_y (y_assign rfl) rfl rfl ?_
  refine o_y (y_assign rfl) rfl rfl ?_
  refine wl_nil ?_
  refine e_seq ?_
  refine w_seq ?_
  refine w_seq ?_
  refine w_region ?_
  refine o_y (y_loadrs 0 ty_41 rfl rfl rfl rfl) rfl rfl ?_
  refine o_callq rfl ent_64 rfl (c_table_Check _ _ _ _ hok (by omega)) (fun w hw => (rd_cons (rd_S 0 rfl hw) (rd_cons (rd_S 1 rfl hw) rd_nil))) ?_
  refine o_y (y_assign rfl) rfl rfl ?_
  refine wl_nil ?_
  refine e_seq ?_
  refine w_seq ?_
  refine w_region ?_
  refine o_y (y_move rfl) rfl rfl ?_
  refine o_y (y_neq rfl rfl) rfl rfl ?_
  refine wl_at (t := 21) rfl h0 ?_
  refine wl_nil ?_
  refine e_seq ?_
  refine w_cond_t rfl ?_
  refine w_seq ?_
  refine w_region ?_
  refine o_y (y_move rfl) rfl rfl ?_
  refine o_y (y_assign rfl) rfl rfl ?_
  refine o_y (y_assign rfl) rfl rfl ?_
  refine wl_nil ?_
  refine e_seq ?_
  refine w_ret ?_
  refine e_seq_ret ?_
  refine e_ret (ts := [4, 5]) rfl rfl rfl (fun w hw => ?_)
  exact ⟨(), rfl, hw.base, (hw.weak (List.nil_sublist _) (fun s hs => hs)).toNews⟩

theorem dc_le {w : World} : Dc Try.prog w 50 (α := Le) (elC) (elR) (fun x => EnOk x.e) := fun H enc base sp hd fuel cs x h => by
  obtain ⟨xs, n, rfl, _, hcl, hxl, hf⟩ := DataW.trod_struct Try.underlying50 h
  have hcl2 : cs.length = 7 := hcl.trans (by kernel_rfl)
  obtain ⟨x0, c0, r0, o0⟩ := dc_field hxl hf 0 (ft := 25) (off := 0) (k := 1) (by kernel_rfl) (by kernel_rfl) (dc_str Try.underlying25)
  obtain ⟨x1, c1, r1, o1⟩ := dc_field hxl hf 1 (ft := 3) (off := 1) (k := 1) (by kernel_rfl) (by kernel_rfl) (dc_int Try.underlying3)
  obtain ⟨x2, c2, r2, o2⟩ := dc_field hxl hf 2 (ft := 9) (off := 2) (k := 1) (by kernel_rfl) (by kernel_rfl) (dc_str Try.underlying9)
  obtain ⟨⟨x3, A, c⟩, c3, r3, o3⟩ := dc_field hxl hf 3 (ft := 46) (off := 3) (k := 1) (by kernel_rfl) (by kernel_rfl) dc_ads
  obtain ⟨x4, c4, r4, o4⟩ := dc_field hxl hf 4 (ft := 25) (off := 4) (k := 1) (by kernel_rfl) (by kernel_rfl) (dc_str Try.underlying25)
  obtain ⟨⟨x5, B, d⟩, c5, r5, o5⟩ := dc_field hxl hf 5 (ft := 47) (off := 5) (k := 1) (by kernel_rfl) (by kernel_rfl) dc_ints
  obtain ⟨x6, c6, r6, o6⟩ := dc_field hxl hf 6 (ft := 48) (off := 6) (k := 1) (by kernel_rfl) (by kernel_rfl) (dc_int Try.underlying48)
  have hcs := cut0 (cutc c0 (cutc c1 (cutc c2 (cutc c3 (cutc c4 (cutc c5 (cutc c6 (cutn hcl2) rfl) rfl) rfl) rfl) rfl) rfl) rfl)
  exact ⟨⟨⟨x0, x1, x2, x3, x4, x5, x6⟩, A, c, B, d⟩, hcs, rd_cons (r3 _ List.mem_cons_self) (rd_cons (r5 _ List.mem_cons_self) nofun), o0, o1, o2, o3.2, o3.1, o4, o5.2, o5.1, o6⟩

theorem dc_ents {w : World} : Dc Try.prog w 39 (fun p : List Le × Option Addr × Nat => [.slice p.2.1 p.1.length p.2.2]) (fun p => Ch.rd p.2.1 7 elC p.1 :: p.1.flatMap elR) (fun p => p.1.length ≤ 9223372036854775807 ∧ ∀ x ∈ p.1, EnOk x.e) := dc_slice Try.underlying39 (by kernel_rfl) (by decide) enc_le dc_le

theorem dc_tb {w : World} : Dc Try.prog w 41 (α := Int × List Le × Option Addr × Nat) (fun q => tbC q.1 q.2.2.1 q.2.1.length q.2.2.2) (fun q => [Ch.rd q.2.2.1 7 elC q.2.1, Ch.rall (q.2.1.flatMap elR)]) (fun q => q.2.1.length ≤ 9223372036854775807 ∧ ∀ x ∈ q.2.1, EnOk x.e) := fun H enc base sp hd fuel cs x h => by
  obtain ⟨xs, n, rfl, _, hcl, hxl, hf⟩ := DataW.trod_struct Try.underlying41 h
  have hcl2 : cs.length = 2 := hcl.trans (by kernel_rfl)
  obtain ⟨x0, c0, r0, o0⟩ := dc_field hxl hf 0 (ft := 3) (off := 0) (k := 1) (by kernel_rfl) (by kernel_rfl) (dc_int Try.underlying3)
  obtain ⟨⟨x1, A, c⟩, c1, r1, o1⟩ := dc_field hxl hf 1 (ft := 39) (off := 1) (k := 1) (by kernel_rfl) (by kernel_rfl) dc_ents
  have hcs := cut0 (cutc c0 (cutc c1 (cutn hcl2) rfl) rfl)
  exact ⟨(x0, x1, A, c), hcs, rd_cons (r1 _ List.mem_cons_self) (rd_cons (rd_rall (fun s hs => r1 s (.tail _ hs))) nofun), o1⟩
end Go.Proofs.Ytckfjfnkombelaa
