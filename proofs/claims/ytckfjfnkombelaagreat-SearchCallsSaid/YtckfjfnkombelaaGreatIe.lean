/- the first candidate that an index finds; its law -/
import Derived.Test.YtckfjfnkombelaaGreatIc
namespace Go.Proofs.YtckfjfnkombelaaGreat
open Go.RowKit Go.Shelf
set_option linter.unusedVariables false
set_option linter.unusedSimpArgs false

theorem ent_14 : Enters Tryz.prog 14 := enters_of Tryz.func14 (by kernel_rfl) rfl
theorem ty_39 : TyI Tryz.prog 39 false 1 8 (.pointer none) := TyI.mk' (by kernel_rfl) (fun _ => by kernel_rfl)


def firstF (m : List (Str × Le)) (s : Sr) (n : Str) : Option Str := (eachS s n).find? fun k => (findI m k).isSome
theorem first_at {m : List (Str × Le)} {s : Sr} {n : Str} {i : Nat} (hi : i < (eachS s n).length) (h : ∀ q, q < i → (findI m ((eachS s n).getD q [])).isSome = false) (h2 : (findI m ((eachS s n).getD i [])).isSome = true) : firstF m s n = some ((eachS s n).getD i []) := by
  have e : eachS s n = (eachS s n).take i ++ (eachS s n).getD i [] :: (eachS s n).drop (i + 1) := by rw [← drop_getD _ [] i hi, List.take_append_drop]
  have h3 : ((eachS s n).take i).find? (fun k => (findI m k).isSome) = none := by
    rw [List.find?_eq_none]
    intro y hy
    obtain ⟨q, hq, rfl⟩ := List.mem_iff_getElem.1 hy
    have hq2 : q < i := by simp at hq; omega
    have := h q hq2
    rw [List.getD_eq_getElem?_getD, List.getElem?_eq_getElem (by omega)] at this
    rw [List.getElem_take]
    simpa using this
  rw [firstF]
  conv => lhs; rw [e]
  rw [List.find?_append, h3, List.find?_cons_of_pos (by simpa using h2)]
  rfl
theorem first_none {m : List (Str × Le)} {s : Sr} {n : Str} (h : ∀ q, q < (eachS s n).length → (findI m ((eachS s n).getD q [])).isSome = false) : firstF m s n = none := by
  rw [firstF, List.find?_eq_none]
  intro y hy
  obtain ⟨q, hq, rfl⟩ := List.mem_iff_getElem.1 hy
  have := h q hq
  rw [List.getD_eq_getElem?_getD, List.getElem?_eq_getElem hq] at this
  simpa using this
theorem each_ok {s : Sr} {n : Str} (h : 0 < (eachS s n).length) : Ok s n := by
  unfold eachS at h
  split at h
  · simp at h
  · rename_i h1
    exact ⟨Decidable.not_not.1 (fun q => h1 (.inl q)), Decidable.not_not.1 (fun q => h1 (.inr q))⟩
theorem each_alone {s : Sr} {n : Str} (h : srCk { s with doms := [] } = 0) (hn : nameCk n = 0) : eachS { s with doms := [] } n = [n] := by
  rw [eachS, if_neg (by rw [h, hn]; simp), cands]
  split
  · rfl
  · split
    · rfl
    · rfl
theorem first_alone {m : List (Str × Le)} {s : Sr} {n : Str} (h : srCk { s with doms := [] } = 0) : (firstF m { s with doms := [] } n).isSome = (findI m n).isSome := by
  by_cases hn : nameCk n = 0
  · rw [firstF, each_alone h hn, List.find?_cons]
    cases hf : (findI m n).isSome <;> simp [hf]
  · rw [firstF, each_bad (.inr hn), findI_bad hn]; rfl
theorem first_same {m : List (Str × Le)} {s : Sr} {n : Str} (h : srCk { s with doms := [] } = 0) (h2 : (firstF m { s with doms := [] } n).isSome = true) : (firstF m { s with doms := [] } n).getD [] = n := by
  by_cases hn : nameCk n = 0
  · rw [firstF, each_alone h hn, List.find?_cons] at h2 ⊢
    cases hf : (findI m n).isSome
    · rw [hf] at h2; cases h2
    · rfl
  · rw [firstF, each_bad (.inr hn)] at h2; cases h2


theorem c_First (x : Ixd) (s : Sr) (A : Option Addr) (c : Nat) (n : Str) : RC Tryz.prog 45 #[.pointer (some ⟨x.b, 0, none⟩), .agg (srC s A c).toArray, .string (ba n)] [Ch.rd A 1 encs s.doms, Ch.row x.b (ixC x) 104, Ch.mp x.rh encN encE x.hm] (α := Unit) (fun _ => .tuple #[.string (ba ((firstF x.hm s n).getD [])), .bool (firstF x.hm s n).isSome]) (fun _ => []) := by
  refine rc_of_WM (args := [.pointer (some ⟨x.b, 0, none⟩), .agg (srC s A c).toArray, .string (ba n)]) 23 Tryz.func45 rfl rfl rfl (fun w0 => ?_)
  refine w_seq ?_
  refine w_region ?_
  refine o_box rfl rfl rfl (fun b1 => ?_)
  refine o_box rfl rfl rfl (fun b2 => ?_)
  refine o_alloc ty_26 rfl rfl (fun b3 => ?_)
  refine o_alloc ty_4 rfl rfl (fun b4 => ?_)
  refine wl_nil ?_
  refine e_seq ?_
  refine w_seq ?_
  refine w_seq ?_
  refine w_region ?_
  refine o_y (y_loadrs 2 ty_82 rfl rfl rfl rfl) rfl rfl ?_
  refine o_y (y_move rfl) rfl rfl ?_
  refine o_callr2 rfl ent_86 rfl (c_Each _ _ _ _) (fun w hw => rd_nil) (fun ⟨p4, q4⟩ => ?_)
  refine wl_heap (fun w h => h.freeze.freeze) ?_
  refine wl_nil ?_
  refine e_seq ?_
  refine w_block ?_
  refine w_range (σ := Option Str) (fun pre q => q = none ∧ pre.find? (fun k => (findI x.hm k).isSome) = none) (fun c pre q => c = .ret ∧ q = pre.find? (fun k => (findI x.hm k).isSome) ∧ q.isSome = true) (fun q => [Ch.row b4 [.bool q.isSome] 4, Ch.row b3 [.string (ba (q.getD []))] 26, Ch.row b2 (srC s A c) 82, Ch.row b1 [.pointer (some ⟨x.b, 0, none⟩)] 39]) (none) rfl rfl ent_115 (c_Each1 s A c n p4 q4) (List.forall_mem_cons.2 ⟨.head _, List.forall_mem_cons.2 ⟨.tail _ (.head _), List.forall_mem_cons.2 ⟨.tail _ (.tail _ (.head _)), nofun⟩⟩⟩) rfl (fun _ => rfl) (⟨rfl, rfl⟩) rfl (fun pre e post q hxs hI lr D r hr okb wb => ?_) (fun q D0 hI => ?_) (fun c pre post q D0 hxs hI => ?_)
  · skip
    obtain ⟨rfl, hpf⟩ := hI
    refine w_region ?_
    refine o_y (y_assign rfl) rfl rfl ?_
    refine wl_nil ?_
    refine e_begin rfl hr .z ?_
    refine w_block ?_
    refine w_seq ?_
    refine w_region ?_
    refine o_y (y_loadr 5 ty_39 rfl rfl rfl) rfl rfl ?_
    refine o_y (y_move rfl) rfl rfl ?_
    refine o_callq rfl ent_14 rfl (c_Find x _) (fun w hw => (rd_cons (rd_S 3 rfl hw) (rd_cons (rd_S 4 rfl hw) rd_nil))) ?_
    refine o_y (y_move rfl) rfl rfl ?_
    refine o_y (y_extract rfl rfl) rfl rfl ?_
    refine o_y (y_extract rfl rfl) rfl rfl ?_
    refine wl_splitb (t := 20) rfl (fun h3_5 => ?_) (fun h3_5 => ?_)
    · skip
      refine o_alloc ty_34 rfl rfl (fun b6 => ?_)
      refine o_store ty_34 rfl rfl rfl .z rfl rfl rfl rfl ?_
      refine o_y (y_assign rfl) rfl rfl ?_
      refine wl_nil ?_
      refine e_seq ?_
      refine w_seq ?_
      refine w_region ?_
      refine o_y (y_move rfl) rfl rfl ?_
      refine wl_nil ?_
      refine e_seq ?_
      refine w_cond_t rfl ?_
      refine w_seq ?_
      refine w_region ?_
      refine o_y (y_move rfl) rfl rfl ?_
      refine o_store ty_26 rfl rfl rfl (.s (.s (.s (.s (.z))))) rfl rfl rfl rfl ?_
      refine o_store ty_4 rfl rfl rfl (.s (.s (.s (.z)))) rfl rfl rfl rfl ?_
      refine wl_nil ?_
      refine e_seq ?_
      refine w_ret ?_
      refine e_blk_ret ?_
      refine e_rret ((some e)) ?_ (fun w h => h.weak (.cons _ (List.Sublist.refl _)) (fun s hs => hs))
      · exact ⟨rfl, by rw [List.find?_append, hpf, List.find?_cons_of_pos (p := fun k => (findI x.hm k).isSome) h3_5]; rfl, rfl⟩
    · skip
      refine o_alloc ty_34 rfl rfl (fun b7 => ?_)
      refine o_store ty_34 rfl rfl rfl .z rfl rfl rfl rfl ?_
      refine o_y (y_assign rfl) rfl rfl ?_
      refine wl_nil ?_
      refine e_seq ?_
      refine w_seq ?_
      refine w_region ?_
      refine o_y (y_move rfl) rfl rfl ?_
      refine wl_nil ?_
      refine e_seq ?_
      refine w_cond_f rfl ?_
      refine w_skip ?_
      refine e_blk ?_
      refine e_rend (none) ?_ (fun w h => h.weak (.cons _ (List.Sublist.refl _)) (fun s hs => hs))
      · exact ⟨rfl, by rw [List.find?_append, hpf, List.find?_cons_of_neg (by rw [h3_5]; decide)]; rfl⟩
  · skip
    obtain ⟨rfl, hpf⟩ := hI
    refine e_blk ?_
    refine e_seq ?_
    refine w_seq ?_
    refine w_region ?_
    refine o_store ty_26 rfl rfl rfl (.s (.s (.z))) rfl rfl rfl rfl ?_
    refine o_store ty_4 rfl rfl rfl (.s (.z)) rfl rfl rfl rfl ?_
    refine wl_nil ?_
    refine e_seq ?_
    refine w_ret ?_
    refine e_lvr ?_
    refine lv_take .z ?_
    refine lv_nil (rs := [.cell 6 26, .cell 7 4]) rfl (rs_cell 2 ty_26 rfl rfl rfl (rs_cell 1 ty_4 rfl rfl rfl rs_nil)) (fun w hw => ?_)
    first
      | (have hf : firstF x.hm s n = q := by
           rw [firstF, hxs, List.find?_append, ← hq9]
           cases q with
           | none => cases hqs
           | some y => rfl
         exact ⟨(), by rw [hf]; rfl, hw.base, (hw.weak (List.nil_sublist _) (fun s hs => hs)).toNews⟩)
      | (have hf : firstF x.hm s n = none := hpf
         exact ⟨(), by rw [hf]; rfl, hw.base, (hw.weak (List.nil_sublist _) (fun s hs => hs)).toNews⟩)
      | (trace_state; fail)
  · skip
    obtain ⟨rfl, hq9, hqs⟩ := hI
    refine w_ret ?_
    refine e_blk_ret ?_
    refine e_seq_ret ?_
    refine e_lvr ?_
    refine lv_take .z ?_
    refine lv_nil (rs := [.cell 6 26, .cell 7 4]) rfl (rs_cell 2 ty_26 rfl rfl rfl (rs_cell 1 ty_4 rfl rfl rfl rs_nil)) (fun w hw => ?_)
    first
      | (have hf : firstF x.hm s n = q := by
           rw [firstF, hxs, List.find?_append, ← hq9]
           cases q with
           | none => cases hqs
           | some y => rfl
         exact ⟨(), by rw [hf]; rfl, hw.base, (hw.weak (List.nil_sublist _) (fun s hs => hs)).toNews⟩)
      | (have hf : firstF x.hm s n = none := hpf
         exact ⟨(), by rw [hf]; rfl, hw.base, (hw.weak (List.nil_sublist _) (fun s hs => hs)).toNews⟩)
      | (trace_state; fail)

set_option maxRecDepth 100000 in
theorem c_index_Newbad (v : Int) (l : List Le) (A : Option Addr) (c : Nat) (hok : TbOk l) (hlen : l.length ≤ 1000000000) (h0 : tabCk v l ≠ 0) (H : Option Addr) (h k : Nat) : RC Tryz.prog 10 #[.agg (tbC v A l.length c).toArray, .slice H h k] [Ch.rd A 7 elC l, Ch.rall (l.flatMap elR)] (α := Unit) (fun _ => .tuple #[.pointer none, .int .i64 (tabCk v l)]) (fun _ => []) := by
  refine rc_of_W (args := [.agg (tbC v A l.length c).toArray, .slice H h k]) 142 Tryz.func10 rfl rfl rfl (fun w0 => ?_)
  refine w_seq ?_
  refine w_region ?_
  refine o_box rfl rfl rfl (fun b1 => ?_)
  refine o_y (y_assign rfl) rfl rfl ?_
  refine o_y (y_assign rfl) rfl rfl ?_
  refine wl_nil ?_
  refine e_seq ?_
  refine w_seq ?_
  refine w_seq ?_
  refine w_region ?_
  refine o_y (y_loadrs 0 ty_24 rfl rfl rfl rfl) rfl rfl ?_
  refine o_callq rfl ent_50 rfl (c_table_Check _ _ _ _ hok (by omega)) (fun w hw => (rd_cons (rd_S 0 rfl hw) (rd_cons (rd_S 1 rfl hw) rd_nil))) ?_
  refine o_y (y_assign rfl) rfl rfl ?_
  refine wl_nil ?_
  refine e_seq ?_
  refine w_seq ?_
  refine w_region ?_
  refine o_y (y_move rfl) rfl rfl ?_
  refine o_y (y_neq rfl rfl) rfl rfl ?_
  refine wl_at (t := 21) rfl h0 ?_
  refine wl_nil ?_
  refine e_seq ?_
  refine w_cond_t rfl ?_
  refine w_seq ?_
  refine w_region ?_
  refine o_y (y_move rfl) rfl rfl ?_
  refine o_y (y_assign rfl) rfl rfl ?_
  refine o_y (y_assign rfl) rfl rfl ?_
  refine wl_nil ?_
  refine e_seq ?_
  refine w_ret ?_
  refine e_seq_ret ?_
  refine e_ret (ts := [4, 5]) rfl rfl rfl (fun w hw => ?_)
  exact ⟨(), rfl, hw.base, (hw.weak (List.nil_sublist _) (fun s hs => hs)).toNews⟩

set_option maxRecDepth 100000 in
theorem c_ref18_Newbad (v : Int) (l : List Le) (A : Option Addr) (c : Nat) (hok : TbOk l) (hlen : l.length ≤ 1000000000) (h0 : tabCk v l ≠ 0) (H : Option Addr) (h k : Nat) : RC Tryz.prog 13 #[.agg (tbC v A l.length c).toArray, .slice H h k] [Ch.rd A 7 elC l, Ch.rall (l.flatMap elR)] (α := Unit) (fun _ => .tuple #[.pointer none, .int .i64 (tabCk v l)]) (fun _ => []) := by
  refine rc_of_W (args := [.agg (tbC v A l.length c).toArray, .slice H h k]) 83 Tryz.func13 rfl rfl rfl (fun w0 => ?_)
  refine w_seq ?_
  refine w_region ?_
  refine o_box rfl rfl rfl (fun b1 => ?_)
  refine o_y (y_assign rfl) rfl rfl ?_
  refine o_y (y_assign rfl) rfl rfl ?_
  refine wl_nil ?_
  refine e_seq ?_
  refine w_seq ?_
  refine w_region ?_
  refine o_y (y_loadrs 0 ty_24 rfl rfl rfl rfl) rfl rfl ?_
  refine o_callq rfl ent_61 rfl (c_ref17_Check _ _ _ _ hok (by omega)) (fun w hw => (rd_cons (rd_S 0 rfl hw) (rd_cons (rd_S 1 rfl hw) rd_nil))) ?_
  refine o_y (y_assign rfl) rfl rfl ?_
  refine wl_nil ?_
  refine e_seq ?_
  refine w_seq ?_
  refine w_seq ?_
  refine w_region ?_
  refine o_y (y_move rfl) rfl rfl ?_
  refine o_y (y_neq rfl rfl) rfl rfl ?_
  refine wl_at (t := 14) rfl h0 ?_
  refine wl_nil ?_
  refine e_seq ?_
  refine w_cond_t rfl ?_
  refine w_seq ?_
  refine w_region ?_
  refine o_y (y_move rfl) rfl rfl ?_
  refine o_y (y_assign rfl) rfl rfl ?_
  refine o_y (y_assign rfl) rfl rfl ?_
  refine wl_nil ?_
  refine e_seq ?_
  refine w_ret ?_
  refine e_seq_ret ?_
  refine e_ret (ts := [4, 5]) rfl rfl rfl (fun w hw => ?_)
  exact ⟨(), rfl, hw.base, (hw.weak (List.nil_sublist _) (fun s hs => hs)).toNews⟩

theorem dc_le {w : World} : Dc Tryz.prog w 34 (α := Le) (elC) (elR) (fun x => EnOk x.e) := fun H enc base sp hd fuel cs x h => by
  obtain ⟨xs, n, rfl, _, hcl, hxl, hf⟩ := DataW.trod_struct Tryz.underlying34 h
  have hcl2 : cs.length = 7 := hcl.trans (by kernel_rfl)
  obtain ⟨x0, c0, r0, o0⟩ := dc_field hxl hf 0 (ft := 26) (off := 0) (k := 1) (by kernel_rfl) (by kernel_rfl) (dc_str Tryz.underlying26)
  obtain ⟨x1, c1, r1, o1⟩ := dc_field hxl hf 1 (ft := 3) (off := 1) (k := 1) (by kernel_rfl) (by kernel_rfl) (dc_int Tryz.underlying3)
  obtain ⟨x2, c2, r2, o2⟩ := dc_field hxl hf 2 (ft := 9) (off := 2) (k := 1) (by kernel_rfl) (by kernel_rfl) (dc_str Tryz.underlying9)
  obtain ⟨⟨x3, A, c⟩, c3, r3, o3⟩ := dc_field hxl hf 3 (ft := 30) (off := 3) (k := 1) (by kernel_rfl) (by kernel_rfl) dc_ads
  obtain ⟨x4, c4, r4, o4⟩ := dc_field hxl hf 4 (ft := 26) (off := 4) (k := 1) (by kernel_rfl) (by kernel_rfl) (dc_str Tryz.underlying26)
  obtain ⟨⟨x5, B, d⟩, c5, r5, o5⟩ := dc_field hxl hf 5 (ft := 31) (off := 5) (k := 1) (by kernel_rfl) (by kernel_rfl) dc_ints
  obtain ⟨x6, c6, r6, o6⟩ := dc_field hxl hf 6 (ft := 32) (off := 6) (k := 1) (by kernel_rfl) (by kernel_rfl) (dc_int Tryz.underlying32)
  have hcs := cut0 (cutc c0 (cutc c1 (cutc c2 (cutc c3 (cutc c4 (cutc c5 (cutc c6 (cutn hcl2) rfl) rfl) rfl) rfl) rfl) rfl) rfl)
  exact ⟨⟨⟨x0, x1, x2, x3, x4, x5, x6⟩, A, c, B, d⟩, hcs, rd_cons (r3 _ List.mem_cons_self) (rd_cons (r5 _ List.mem_cons_self) nofun), o0, o1, o2, o3.2, o3.1, o4, o5.2, o5.1, o6⟩


theorem dc_ents {w : World} : Dc Tryz.prog w 22 (fun p : List Le × Option Addr × Nat => [.slice p.2.1 p.1.length p.2.2]) (fun p => Ch.rd p.2.1 7 elC p.1 :: p.1.flatMap elR) (fun p => p.1.length ≤ 9223372036854775807 ∧ ∀ x ∈ p.1, EnOk x.e) := dc_slice Tryz.underlying22 (by kernel_rfl) (by decide) enc_le dc_le


theorem dc_tb {w : World} : Dc Tryz.prog w 24 (α := Int × List Le × Option Addr × Nat) (fun q => tbC q.1 q.2.2.1 q.2.1.length q.2.2.2) (fun q => [Ch.rd q.2.2.1 7 elC q.2.1, Ch.rall (q.2.1.flatMap elR)]) (fun q => q.2.1.length ≤ 9223372036854775807 ∧ ∀ x ∈ q.2.1, EnOk x.e) := fun H enc base sp hd fuel cs x h => by
  obtain ⟨xs, n, rfl, _, hcl, hxl, hf⟩ := DataW.trod_struct Tryz.underlying24 h
  have hcl2 : cs.length = 2 := hcl.trans (by kernel_rfl)
  obtain ⟨x0, c0, r0, o0⟩ := dc_field hxl hf 0 (ft := 3) (off := 0) (k := 1) (by kernel_rfl) (by kernel_rfl) (dc_int Tryz.underlying3)
  obtain ⟨⟨x1, A, c⟩, c1, r1, o1⟩ := dc_field hxl hf 1 (ft := 22) (off := 1) (k := 1) (by kernel_rfl) (by kernel_rfl) dc_ents
  have hcs := cut0 (cutc c0 (cutc c1 (cutn hcl2) rfl) rfl)
  exact ⟨(x0, x1, A, c), hcs, rd_cons (r1 _ List.mem_cons_self) (rd_cons (rd_rall (fun s hs => r1 s (.tail _ hs))) nofun), o1⟩
end Go.Proofs.YtckfjfnkombelaaGreat
