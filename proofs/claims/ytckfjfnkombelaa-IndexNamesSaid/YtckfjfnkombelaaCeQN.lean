/- names that are the same; the laws of sums -/
import Derived.Test.YtckfjfnkombelaaCdQN
import Derived.Test.YtckfjfnkombelaaPbQN
namespace Go.Proofs.Ytckfjfnkombelaa
open Go.RowKit Go.Shelf
set_option linter.unusedVariables false
set_option linter.unusedSimpArgs false

theorem ent_135 : Enters Try.prog 135 := enters_of Try.func135 (by kernel_rfl) rfl
theorem ent_141 : Enters Try.prog 141 := enters_of Try.func141 (by kernel_rfl) rfl

theorem c_CompareString (s t : Str) : Pure Try.prog 141 #[.string (ba s), .string (ba t)] (.int .i64 (cmpS s t)) := by
  intro w0
  refine calls_of_W (ok0 := no) (S := []) (args := [.string (ba s), .string (ba t)]) 8 Try.func141 rfl rfl rfl (by simp) (by simp) ?_
  refine w_seq ?_
  refine w_region ?_
  refine o_y (y_assign rfl) rfl rfl ?_
  refine wl_nil ?_
  refine e_seq ?_
  refine w_seq ?_
  refine w_region ?_
  refine o_y (y_move rfl) rfl rfl ?_
  refine o_y (y_move rfl) rfl rfl ?_
  refine o_ext rfl (fun w => by rw [run_callFunc_extern Try.func144 (by kernel_rfl) (by kernel_rfl) (by kernel_rfl) (e := Extern.BytealgCompare.compare) (by kernel_rfl), run_cmp]; rfl) rfl ?_
  refine o_y (y_assign rfl) rfl rfl ?_
  refine wl_nil ?_
  refine e_seq ?_
  refine w_ret ?_
  refine e_ret (ts := [4]) rfl rfl rfl (fun w hw => ?_)
  exact ⟨rfl, hw.base⟩

theorem c_strings_Compare (s t : Str) : Pure Try.prog 135 #[.string (ba s), .string (ba t)] (.int .i64 (cmpS s t)) := by
  intro w0
  refine calls_of_W (ok0 := no) (S := []) (args := [.string (ba s), .string (ba t)]) 8 Try.func135 rfl rfl rfl (by simp) (by simp) ?_
  refine w_seq ?_
  refine w_region ?_
  refine o_y (y_assign rfl) rfl rfl ?_
  refine wl_nil ?_
  refine e_seq ?_
  refine w_seq ?_
  refine w_region ?_
  refine o_y (y_move rfl) rfl rfl ?_
  refine o_y (y_move rfl) rfl rfl ?_
  refine o_callp rfl ent_141 (c_CompareString _ _) rfl ?_
  refine o_y (y_assign rfl) rfl rfl ?_
  refine wl_nil ?_
  refine e_seq ?_
  refine w_ret ?_
  refine e_ret (ts := [4]) rfl rfl rfl (fun w hw => ?_)
  exact ⟨rfl, hw.base⟩

theorem c_label_Compare (s t : Str) (hs : s.length ≤ 1000000000000) (ht : t.length ≤ 1000000000000) : Pure Try.prog 120 #[.string (ba s), .string (ba t)] (.int .i64 (cmpS (lowS s) (lowS t))) := by
  intro w0
  refine calls_of_W (ok0 := no) (S := []) (args := [.string (ba s), .string (ba t)]) 10 Try.func120 rfl rfl rfl (by simp) (by simp) ?_
  refine w_seq ?_
  refine w_region ?_
  refine o_y (y_assign rfl) rfl rfl ?_
  refine wl_nil ?_
  refine e_seq ?_
  refine w_seq ?_
  refine w_region ?_
  refine o_y (y_move rfl) rfl rfl ?_
  refine o_callp rfl ent_105 (c_label_Fold _ (by omega)) rfl ?_
  refine o_y (y_move rfl) rfl rfl ?_
  refine o_callp rfl ent_105 (c_label_Fold _ (by omega)) rfl ?_
  refine o_callp rfl ent_135 (c_strings_Compare _ _) rfl ?_
  refine o_y (y_assign rfl) rfl rfl ?_
  refine wl_nil ?_
  refine e_seq ?_
  refine w_ret ?_
  refine e_ret (ts := [4]) rfl rfl rfl (fun w hw => ?_)
  exact ⟨rfl, hw.base⟩

theorem mem_getD {α : Type} {l : List α} {d : α} {k : Nat} (h : k < l.length) : l.getD k d ∈ l := by
  rw [List.getD_eq_getElem?_getD, List.getElem?_eq_getElem h]; exact List.getElem_mem h
theorem okN_low {n : Str} (h : okN n = true) : okN (lowS n) = true := by
  have e := encn_low (labs n) (labs_ok n)
  rw [okN_encn n h] at e
  rw [← e]
  refine (okN_of_encn _ ?_).1
  intro s hs
  obtain ⟨t, ht, rfl⟩ := List.mem_map.1 hs
  rw [lowS_length]; exact labs_ok n t ht
theorem nameCk_low {n : Str} (h : nameCk n = 0) : nameCk (lowS n) = 0 := by
  obtain ⟨h1, h2⟩ := nameCk_zero.1 h
  exact nameCk_zero.2 ⟨by rw [lowS_length]; exact h1, okN_low h2⟩
end Go.Proofs.Ytckfjfnkombelaa
