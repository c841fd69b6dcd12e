/- the first candidate that an index finds; its law -/
import Derived.Test.YtckfjfnkombelaaIc
namespace Go.Proofs.Ytckfjfnkombelaa
open Go.RowKit Go.Shelf
set_option linter.unusedVariables false
set_option linter.unusedSimpArgs false

theorem ent_24 : Enters Try.prog 24 := enters_of Try.func24 (by kernel_rfl) rfl
theorem ent_25 : Enters Try.prog 25 := enters_of Try.func25 (by kernel_rfl) rfl
theorem ent_32 : Enters Try.prog 32 := enters_of Try.func32 (by kernel_rfl) rfl
theorem ent_36 : Enters Try.prog 36 := enters_of Try.func36 (by kernel_rfl) rfl
theorem ent_38 : Enters Try.prog 38 := enters_of Try.func38 (by kernel_rfl) rfl
theorem ent_55 : Enters Try.prog 55 := enters_of Try.func55 (by kernel_rfl) rfl
theorem ty_43 : TyI Try.prog 43 false 1 8 (.pointer none) := TyI.mk' (by kernel_rfl) (fun _ => by kernel_rfl)


def firstF (m : List (Str × Le)) (s : Sr) (n : Str) : Option Str := (eachS s n).find? fun k => (findI m k).isSome
theorem first_at {m : List (Str × Le)} {s : Sr} {n : Str} {i : Nat} (hi : i < (eachS s n).length) (h : ∀ q, q < i → (findI m ((eachS s n).getD q [])).isSome = false) (h2 : (findI m ((eachS s n).getD i [])).isSome = true) : firstF m s n = some ((eachS s n).getD i []) := by
  have e : eachS s n = (eachS s n).take i ++ (eachS s n).getD i [] :: (eachS s n).drop (i + 1) := by rw [← drop_getD _ [] i hi, List.take_append_drop]
  have h3 : ((eachS s n).take i).find? (fun k => (findI m k).isSome) = none := by
    rw [List.find?_eq_none]
    intro y hy
    obtain ⟨q, hq, rfl⟩ := List.mem_iff_getElem.1 hy
    have hq2 : q < i := by simp at hq; omega
    have := h q hq2
    rw [List.getD_eq_getElem?_getD, List.getElem?_eq_getElem (by omega)] at this
    rw [List.getElem_take]
    simpa using this
  rw [firstF]
  conv => lhs; rw [e]
  rw [List.find?_append, h3, List.find?_cons_of_pos (by simpa using h2)]
  rfl
theorem first_none {m : List (Str × Le)} {s : Sr} {n : Str} (h : ∀ q, q < (eachS s n).length → (findI m ((eachS s n).getD q [])).isSome = false) : firstF m s n = none := by
  rw [firstF, List.find?_eq_none]
  intro y hy
  obtain ⟨q, hq, rfl⟩ := List.mem_iff_getElem.1 hy
  have := h q hq
  rw [List.getD_eq_getElem?_getD, List.getElem?_eq_getElem hq] at this
  simpa using this
theorem each_ok {s : Sr} {n : Str} (h : 0 < (eachS s n).length) : Ok s n := by
  unfold eachS at h
  split at h
  · simp at h
  · rename_i h1
    exact ⟨Decidable.not_not.1 (fun q => h1 (.inl q)), Decidable.not_not.1 (fun q => h1 (.inr q))⟩
theorem each_alone {s : Sr} {n : Str} (h : srCk { s with doms := [] } = 0) (hn : nameCk n = 0) : eachS { s with doms := [] } n = [n] := by
  rw [eachS, if_neg (by rw [h, hn]; simp), cands]
  split
  · rfl
  · split
    · rfl
    · rfl
theorem first_alone {m : List (Str × Le)} {s : Sr} {n : Str} (h : srCk { s with doms := [] } = 0) : (firstF m { s with doms := [] } n).isSome = (findI m n).isSome := by
  by_cases hn : nameCk n = 0
  · rw [firstF, each_alone h hn, List.find?_cons]
    cases hf : (findI m n).isSome <;> simp [hf]
  · rw [firstF, each_bad (.inr hn), findI_bad hn]; rfl
theorem first_same {m : List (Str × Le)} {s : Sr} {n : Str} (h : srCk { s with doms := [] } = 0) (h2 : (firstF m { s with doms := [] } n).isSome = true) : (firstF m { s with doms := [] } n).getD [] = n := by
  by_cases hn : nameCk n = 0
  · rw [firstF, each_alone h hn, List.find?_cons] at h2 ⊢
    cases hf : (findI m n).isSome
    · rw [hf] at h2; cases h2
    · rfl
  · rw [firstF, each_bad (.inr hn)] at h2; cases h2


theorem c_First (x : Ixd) (s : Sr) (A : Option Addr) (c : Nat) (n : Str) : RC Try.prog 55 #[.pointer (some ⟨x.b, 0, none⟩), .agg (srC s A c).toArray, .string (ba n)] [Ch.rd A 1 encs s.doms, Ch.row x.b (ixC x) 119, Ch.mp x.rh encN encE x.hm] (α := Unit) (fun _ => .tuple #[.string (ba ((firstF x.hm s n).getD [])), .bool (firstF x.hm s n).isSome]) (fun _ => []) := by
  refine rc_of_WM (args := [.pointer (some ⟨x.b, 0, none⟩), .agg (srC s A c).toArray, .string (ba n)]) 23 Try.func55 rfl rfl rfl (fun w0 => ?_)
  refine w_seq ?_
  refine w_region ?_
  refine o_box rfl rfl rfl (fun b1 => ?_)
  refine o_box rfl rfl rfl (fun b2 => ?_)
  refine o_alloc ty_25 rfl rfl (fun b3 => ?_)
  refine o_alloc ty_4 rfl rfl (fun b4 => ?_)
  refine wl_nil ?_
  refine e_seq ?_
  refine w_seq ?_
  refine w_seq ?_
  refine w_region ?_
  refine o_y (y_loadrs 2 ty_24 rfl rfl rfl rfl) rfl rfl ?_
  refine o_y (y_move rfl) rfl rfl ?_
  refine o_callr2 rfl ent_60 rfl (c_Each _ _ _ _) (fun w hw => rd_nil) (fun ⟨p4, q4⟩ => ?_)
  refine wl_heap (fun w h => h.freeze.freeze) ?_
  refine wl_nil ?_
  refine e_seq ?_
  refine w_block ?_
  refine w_range (σ := Option Str) (fun pre q => q = none ∧ pre.find? (fun k => (findI x.hm k).isSome) = none) (fun c pre q => c = .ret ∧ q = pre.find? (fun k => (findI x.hm k).isSome) ∧ q.isSome = true) (fun q => [Ch.row b4 [.bool q.isSome] 4, Ch.row b3 [.string (ba (q.getD []))] 25, Ch.row b2 (srC s A c) 24, Ch.row b1 [.pointer (some ⟨x.b, 0, none⟩)] 43]) (none) rfl rfl ent_95 (c_Each1 s A c n p4 q4) (List.forall_mem_cons.2 ⟨.head _, List.forall_mem_cons.2 ⟨.tail _ (.head _), List.forall_mem_cons.2 ⟨.tail _ (.tail _ (.head _)), nofun⟩⟩⟩) rfl (fun _ => rfl) (⟨rfl, rfl⟩) rfl (fun pre e post q hxs hI lr D r hr okb wb => ?_) (fun q D0 hI => ?_) (fun c pre post q D0 hxs hI => ?_)
  · skip
    obtain ⟨rfl, hpf⟩ := hI
    refine w_region ?_
    refine o_y (y_assign rfl) rfl rfl ?_
    refine wl_nil ?_
    refine e_begin rfl hr .z ?_
    refine w_block ?_
    refine w_seq ?_
    refine w_region ?_
    refine o_y (y_loadr 5 ty_43 rfl rfl rfl) rfl rfl ?_
    refine o_y (y_move rfl) rfl rfl ?_
    refine o_callq rfl ent_32 rfl (c_Find x _) (fun w hw => (rd_cons (rd_S 3 rfl hw) (rd_cons (rd_S 4 rfl hw) rd_nil))) ?_
    refine o_y (y_move rfl) rfl rfl ?_
    refine o_y (y_extract rfl rfl) rfl rfl ?_
    refine o_y (y_extract rfl rfl) rfl rfl ?_
    refine wl_splitb (t := 20) rfl (fun h3_5 => ?_) (fun h3_5 => ?_)
    · skip
      refine o_alloc ty_50 rfl rfl (fun b6 => ?_)
      refine o_store ty_50 rfl rfl rfl .z rfl rfl rfl rfl ?_
      refine o_y (y_assign rfl) rfl rfl ?_
      refine wl_nil ?_
      refine e_seq ?_
      refine w_seq ?_
      refine w_region ?_
      refine o_y (y_move rfl) rfl rfl ?_
      refine wl_nil ?_
      refine e_seq ?_
      refine w_cond_t rfl ?_
      refine w_seq ?_
      refine w_region ?_
      refine o_y (y_move rfl) rfl rfl ?_
      refine o_store ty_25 rfl rfl rfl (.s (.s (.s (.s (.z))))) rfl rfl rfl rfl ?_
      refine o_store ty_4 rfl rfl rfl (.s (.s (.s (.z)))) rfl rfl rfl rfl ?_
      refine wl_nil ?_
      refine e_seq ?_
      refine w_ret ?_
      refine e_blk_ret ?_
      refine e_rret ((some e)) ?_ (fun w h => h.weak (.cons _ (List.Sublist.refl _)) (fun s hs => hs))
      · exact ⟨rfl, by rw [List.find?_append, hpf, List.find?_cons_of_pos (p := fun k => (findI x.hm k).isSome) h3_5]; rfl, rfl⟩
    · skip
      refine o_alloc ty_50 rfl rfl (fun b7 => ?_)
      refine o_store ty_50 rfl rfl rfl .z rfl rfl rfl rfl ?_
      refine o_y (y_assign rfl) rfl rfl ?_
      refine wl_nil ?_
      refine e_seq ?_
      refine w_seq ?_
      refine w_region ?_
      refine o_y (y_move rfl) rfl rfl ?_
      refine wl_nil ?_
      refine e_seq ?_
      refine w_cond_f rfl ?_
      refine w_skip ?_
      refine e_blk ?_
      refine e_rend (none) ?_ (fun w h => h.weak (.cons _ (List.Sublist.refl _)) (fun s hs => hs))
      · exact ⟨rfl, by rw [List.find?_append, hpf, List.find?_cons_of_neg (by rw [h3_5]; decide)]; rfl⟩
  · skip
    obtain ⟨rfl, hpf⟩ := hI
    refine e_blk ?_
    refine e_seq ?_
    refine w_seq ?_
    refine w_region ?_
    refine o_store ty_25 rfl rfl rfl (.s (.s (.z))) rfl rfl rfl rfl ?_
    refine o_store ty_4 rfl rfl rfl (.s (.z)) rfl rfl rfl rfl ?_
    refine wl_nil ?_
    refine e_seq ?_
    refine w_ret ?_
    refine e_lvr ?_
    refine lv_take .z ?_
    refine lv_nil (rs := [.cell 6 25, .cell 7 4]) rfl (rs_cell 2 ty_25 rfl rfl rfl (rs_cell 1 ty_4 rfl rfl rfl rs_nil)) (fun w hw => ?_)
    first
      | (have hf : firstF x.hm s n = q := by
           rw [firstF, hxs, List.find?_append, ← hq9]
           cases q with
           | none => cases hqs
           | some y => rfl
         exact ⟨(), by rw [hf]; rfl, hw.base, (hw.weak (List.nil_sublist _) (fun s hs => hs)).toNews⟩)
      | (have hf : firstF x.hm s n = none := hpf
         exact ⟨(), by rw [hf]; rfl, hw.base, (hw.weak (List.nil_sublist _) (fun s hs => hs)).toNews⟩)
      | (trace_state; fail)
  · skip
    obtain ⟨rfl, hq9, hqs⟩ := hI
    refine w_ret ?_
    refine e_blk_ret ?_
    refine e_seq_ret ?_
    refine e_lvr ?_
    refine lv_take .z ?_
    refine lv_nil (rs := [.cell 6 25, .cell 7 4]) rfl (rs_cell 2 ty_25 rfl rfl rfl (rs_cell 1 ty_4 rfl rfl rfl rs_nil)) (fun w hw => ?_)
    first
      | (have hf : firstF x.hm s n = q := by
           rw [firstF, hxs, List.find?_append, ← hq9]
           cases q with
           | none => cases hqs
           | some y => rfl
         exact ⟨(), by rw [hf]; rfl, hw.base, (hw.weak (List.nil_sublist _) (fun s hs => hs)).toNews⟩)
      | (have hf : firstF x.hm s n = none := hpf
         exact ⟨(), by rw [hf]; rfl, hw.base, (hw.weak (List.nil_sublist _) (fun s hs => hs)).toNews⟩)
      | (trace_state; fail)

set_option maxRecDepth 100000 in
theorem c_index_Newbad (v : Int) (l : List Le) (A : Option Addr) (c : Nat) (hok : TbOk l) (hlen : l.length ≤ 1000000000) (h0 : tabCk v l ≠ 0) (H : Option Addr) (h k : Nat) : RC Try.prog 25 #[.agg (tbC v A l.length c).toArray, .slice H h k] [Ch.rd A 7 elC l, Ch.rall (l.flatMap elR)] (α := Unit) (fun _ => .tuple #[.pointer none, .int .i64 (tabCk v l)]) (fun _ => []) := by
  refine rc_of_W (args := [.agg (tbC v A l.length c).toArray, .slice H h k]) 142 Try.func25 rfl rfl rfl (fun w0 => ?_)
  refine w_seq ?_
  refine w_region ?_
  refine o_box rfl rfl rfl (fun b1 => ?_)
  refine o_y (y_assign rfl) rfl rfl ?_
  refine o_y (y_assign rfl) rfl rfl ?_
  refine wl_nil ?_
  refine e_seq ?_
  refine w_seq ?_
  refine w_seq ?_
  refine w_region ?_
  refine o_y (y_loadrs 0 ty_41 rfl rfl rfl rfl) rfl rfl ?_
  refine o_callq rfl ent_64 rfl (c_table_Check _ _ _ _ hok (by omega)) (fun w hw => (rd_cons (rd_S 0 rfl hw) (rd_cons (rd_S 1 rfl hw) rd_nil))) ?_
  refine o_y (y_assign rfl) rfl rfl ?_
  refine wl_nil ?_
  refine e_seq ?_
  refine w_seq ?_
  refine w_region ?_
  refine o_y (y_move rfl) rfl rfl ?_
  refine o_y (y_neq rfl rfl) rfl rfl ?_
  refine wl_at (t := 21) rfl h0 ?_
  refine wl_nil ?_
  refine e_seq ?_
  refine w_cond_t rfl ?_
  refine w_seq ?_
  refine w_region ?_
  refine o_y (y_move rfl) rfl rfl ?_
  refine o_y (y_assign rfl) rfl rfl ?_
  refine o_y (y_assign rfl) rfl rfl ?_
  refine wl_nil ?_
  refine e_seq ?_
  refine w_ret ?_
  refine e_seq_ret ?_
  refine e_ret (ts := [4, 5]) rfl rfl rfl (fun w hw => ?_)
  exact ⟨(), rfl, hw.base, (hw.weak (List.nil_sublist _) (fun s hs => hs)).toNews⟩

set_option maxRecDepth 100000 in
theorem c_ref18_Newbad (v : Int) (l : List Le) (A : Option Addr) (c : Nat) (hok : TbOk l) (hlen : l.length ≤ 1000000000) (h0 : tabCk v l ≠ 0) (H : Option Addr) (h k : Nat) : RC Try.prog 36 #[.agg (tbC v A l.length c).toArray, .slice H h k] [Ch.rd A 7 elC l, Ch.rall (l.flatMap elR)] (α := Unit) (fun _ => .tuple #[.pointer none, .int .i64 (tabCk v l)]) (fun _ => []) := by
  refine rc_of_W (args := [.agg (tbC v A l.length c).toArray, .slice H h k]) 83 Try.func36 rfl rfl rfl (fun w0 => ?_)
  refine w_seq ?_
  refine w_region ?_
  refine o_box rfl rfl rfl (fun b1 => ?_)
  refine o_y (y_assign rfl) rfl rfl ?_
  refine o_y (y_assign rfl) rfl rfl ?_
  refine wl_nil ?_
  refine e_seq ?_
  refine w_seq ?_
  refine w_region ?_
  refine o_y (y_loadrs 0 ty_41 rfl rfl rfl rfl) rfl rfl ?_
  refine o_callq rfl ent_81 rfl (c_ref17_Check _ _ _ _ hok (by omega)) (fun w hw => (rd_cons (rd_S 0 rfl hw) (rd_cons (rd_S 1 rfl hw) rd_nil))) ?_
  refine o_y (y_assign rfl) rfl rfl ?_
  refine wl_nil ?_
  refine e_seq ?_
  refine w_seq ?_
  refine w_seq ?_
  refine w_region ?_
  refine o_y (y_move rfl) rfl rfl ?_
  refine o_y (y_neq rfl rfl) rfl rfl ?_
  refine wl_at (t := 14) rfl h0 ?_
  refine wl_nil ?_
  refine e_seq ?_
  refine w_cond_t rfl ?_
  refine w_seq ?_
  refine w_region ?_
  refine o_y (y_move rfl) rfl rfl ?_
  refine o_y (y_assign rfl) rfl rfl ?_
  refine o_y (y_assign rfl) rfl rfl ?_
  refine wl_nil ?_
  refine e_seq ?_
  refine w_ret ?_
  refine e_seq_ret ?_
  refine e_ret (ts := [4, 5]) rfl rfl rfl (fun w hw => ?_)
  exact ⟨(), rfl, hw.base, (hw.weak (List.nil_sublist _) (fun s hs => hs)).toNews⟩

set_option maxRecDepth 100000 in
set_option maxHeartbeats 4000000 in
theorem c_SearchFirst (s : Sr) (A : Option Addr) (c : Nat) (n : Str) (v : Int) (l : List Le) (F : Option Addr) (d : Nat) (hsl : s.doms.length ≤ 9223372036854775807) (hnl : n.length ≤ 9223372036854775807) (hen : ∀ x ∈ l, EnOk x.e) (hll : l.length ≤ 9223372036854775807) : RC Try.prog 13 #[.agg (srC s A c).toArray, .string (ba n), .agg (tbC v F l.length d).toArray] [Ch.rd A 1 encs s.doms, Ch.rd F 7 elC l, Ch.rall (l.flatMap elR)] (α := Unit) (fun _ => .bool true) (fun _ => []) := by
  refine rc_of_W (args := [.agg (srC s A c).toArray, .string (ba n), .agg (tbC v F l.length d).toArray]) 127 Try.func13 rfl rfl rfl (fun w0 => ?_)
  rcases Decidable.em (tabCk v l = 0) with hT | hT
  · skip
    refine w_seq ?_
    refine w_region ?_
    refine o_box rfl rfl rfl (fun b1 => ?_)
    refine o_box rfl rfl rfl (fun b2 => ?_)
    refine o_y (y_assign rfl) rfl rfl ?_
    refine wl_nil ?_
    refine e_seq ?_
    refine w_seq ?_
    refine w_seq ?_
    refine w_region ?_
    refine o_callp rfl ent_14 c_lives20 rfl ?_
    refine wl_as (t := 22) (.bool true) rfl (congrArg Value.bool rfl) ?_
    refine o_y (y_not rfl) rfl rfl ?_
    refine wl_nil ?_
    refine e_seq ?_
    refine w_cond_f rfl ?_
    refine w_skip ?_
    refine e_seq ?_
    refine w_seq ?_
    refine w_seq ?_
    refine w_region ?_
    refine o_y (y_loadrs 1 ty_24 rfl rfl rfl rfl) rfl rfl ?_
    refine o_y (y_move rfl) rfl rfl ?_
    refine o_callq rfl ent_15 rfl (c_light20 _ _ _ _ (by omega)) (fun w hw => (rd_cons (rd_S 0 rfl hw) rd_nil)) ?_
    refine wl_splitb (t := 26) rfl (fun h3_2 => ?_) (fun h3_2 => ?_)
    · skip
      simp only [Bool.and_eq_true, decide_eq_true_eq] at h3_2
      have hn3 := h3_2.2
      refine o_y (y_not rfl) rfl rfl ?_
      refine o_y (y_move rfl) rfl rfl ?_
      refine wl_gyes rfl rfl ?_
      refine o_y (y_field fa_41_1 rfl) rfl rfl ?_
      refine wl_gyes rfl rfl ?_
      refine o_y (y_loadr 0 ty_39 rfl rfl rfl) rfl rfl ?_
      refine wl_gyes rfl rfl ?_
      refine o_callq rfl ent_24 rfl (c_LightEntries _ _ _ _ (by omega)) (fun w hw => (rd_cons (rd_S 1 rfl hw) rd_nil)) ?_
      refine wl_splitb (t := 31) rfl (fun h3_7 => ?_) (fun h3_7 => ?_)
      · skip
        have hle9 := lightEs_le h3_7
        have hok : TbOk l := fun x hx => ⟨hen x hx, hle9.1 x hx⟩
        have hl9 := hle9.2
        refine wl_gyes rfl rfl ?_
        refine o_y (y_not rfl) rfl rfl ?_
        refine o_y (y_pick_f rfl rfl) rfl rfl ?_
        refine wl_nil ?_
        refine e_seq ?_
        refine w_cond_f rfl ?_
        refine w_skip ?_
        refine e_seq ?_
        refine w_seq ?_
        refine w_region ?_
        refine o_y (y_loadrs 0 ty_41 rfl rfl rfl rfl) rfl rfl ?_
        refine o_callr1 rfl ent_36 rfl (c_ref18_New0 v l F d hok (by omega) hT) (fun w hw => (rd_cons (rd_S 1 rfl hw) (rd_cons (rd_S 2 rfl hw) rd_nil))) (fun ⟨rb, rH, rh⟩ => ?_)
        refine o_y (y_move rfl) rfl rfl ?_
        refine o_y (y_extract rfl rfl) rfl rfl ?_
        refine o_y (y_extract rfl rfl) rfl rfl ?_
        refine o_y (y_assign rfl) rfl rfl ?_
        refine o_y (y_assign rfl) rfl rfl ?_
        refine wl_nil ?_
        refine e_seq ?_
        refine w_seq ?_
        refine w_region ?_
        refine o_y (y_loadrs 1 ty_41 rfl rfl rfl rfl) rfl rfl ?_
        refine o_callr1 rfl ent_25 rfl (c_index_New0 v l F d hok (by omega) hT) (fun w hw => (rd_cons (rd_S 1 rfl hw) (rd_cons (rd_S 2 rfl hw) rd_nil))) (fun ⟨ix, hix⟩ => ?_)
        refine o_y (y_move rfl) rfl rfl ?_
        refine o_y (y_extract rfl rfl) rfl rfl ?_
        refine o_y (y_extract rfl rfl) rfl rfl ?_
        refine o_y (y_assign rfl) rfl rfl ?_
        refine o_y (y_assign rfl) rfl rfl ?_
        refine wl_nil ?_
        refine e_seq ?_
        refine w_seq ?_
        refine w_region ?_
        refine o_y (y_loadrs 3 ty_24 rfl rfl rfl rfl) rfl rfl ?_
        refine o_y (y_move rfl) rfl rfl ?_
        refine o_callr1 rfl ent_18 rfl (c_search_Names _ _ _ _) (fun w hw => (rd_cons (rd_S 0 rfl hw) rd_nil)) (fun ⟨A4, c4⟩ => ?_)
        refine o_y (y_move rfl) rfl rfl ?_
        refine o_y (y_extract rfl rfl) rfl rfl ?_
        refine o_y (y_extract rfl rfl) rfl rfl ?_
        refine o_y (y_assign rfl) rfl rfl ?_
        refine o_y (y_assign rfl) rfl rfl ?_
        refine wl_nil ?_
        refine e_seq ?_
        refine w_seq ?_
        refine w_seq ?_
        refine w_region ?_
        refine o_y (y_move rfl) rfl rfl ?_
        refine o_y (y_neq rfl rfl) rfl rfl ?_
        refine wl_af (t := 51) rfl (fun h9 => h9 rfl) ?_
        refine wl_nil ?_
        refine e_seq ?_
        refine w_cond_f rfl ?_
        refine w_skip ?_
        refine e_seq ?_
        refine w_seq ?_
        refine w_region ?_
        refine o_y (y_move rfl) rfl rfl ?_
        refine o_y (y_loadrs 4 ty_24 rfl rfl rfl rfl) rfl rfl ?_
        refine o_y (y_move rfl) rfl rfl ?_
        refine o_callq rfl ent_55 rfl (c_First ix s A c n) (fun w hw => (rd_cons (rd_S 0 rfl hw) (rd_cons (rd_all (rd_L 1 rfl hw) (.head _)) (rd_cons (rd_all (rd_L 1 rfl hw) (.tail _ (.tail _ (.head _)))) rd_nil)))) ?_
        refine o_y (y_move rfl) rfl rfl ?_
        refine o_y (y_extract rfl rfl) rfl rfl ?_
        refine o_y (y_extract rfl rfl) rfl rfl ?_
        refine o_y (y_assign rfl) rfl rfl ?_
        refine o_y (y_assign rfl) rfl rfl ?_
        refine wl_nil ?_
        refine e_seq ?_
        refine w_seq ?_
        refine w_seq ?_
        refine w_region ?_
        refine o_y (y_assign rfl) rfl rfl ?_
        refine wl_nil ?_
        refine e_seq ?_
        refine w_block ?_
        refine w_loop0 (σ := Nat) [6, 15, 16, 17, 59, 60, 61, 62, 63, 64, 65, 66, 67, 68, 69, 70, 71, 72, 73, 74, 75, 76, 77, 78, 79, 80, 81, 82, 83, 84, 85, 86, 87] (fun i => i ≤ (eachS s n).length ∧ ∀ q, q < i → (findI ix.hm ((eachS s n).getD q [])).isSome = false) (fun i => (eachS s n).length - i) (fun i => [(15, .int .i64 i)]) (0) ?_ ⟨rfl, trivial⟩ (fun i hI => ?_)
        · exact ⟨Nat.zero_le _, nofun⟩
        refine w_seq ?_
        refine w_seq ?_
        refine w_region ?_
        refine o_y (y_move rfl) rfl rfl ?_
        refine o_y (y_move rfl) rfl rfl ?_
        refine o_y (y_lenl Try.underlying22 rfl) rfl rfl ?_
        refine o_y (y_lss rfl rfl) rfl rfl ?_
        refine wl_splitp (t := 62) rfl (fun h12_3 => ?_) (fun h12_3 => ?_)
        · skip
          have hoS := each_ok (s := s) (n := n) (by omega)
          have hdl := hoS.len
          have hdb := hoS.bnds.1
          refine wl_nil ?_
          refine e_seq ?_
          refine w_cond_t rfl ?_
          refine w_skip ?_
          refine e_seq ?_
          refine w_seq ?_
          refine w_block ?_
          refine w_seq ?_
          refine w_region ?_
          refine o_y (y_move rfl) rfl rfl ?_
          refine o_y (y_move rfl) rfl rfl ?_
          refine o_y (y_move rfl) rfl rfl ?_
          refine o_y (y_ixm  Try.underlying22 ty_25 rfl rfl (rs_L 0 rfl) rfl (by omega)) rfl rfl ?_
          refine o_y (y_ldm0 enc_s ([] : Str) ty_25 rfl (rs_L 0 rfl) (by omega) rfl rfl) rfl rfl ?_
          refine o_callr0 rfl ent_38 rfl (c_ref18_Find v l F d rb rH rh _ hok (by omega) (hoS.xlen _ (mem_getD (by omega)))) (fun w hw => (rd_cons (rd_L 2 rfl hw) (rd_cons (rd_S 1 rfl hw) (rd_cons (rd_S 2 rfl hw) rd_nil)))) (fun ⟨rr5, hrr5⟩ => ?_)
          refine o_y (y_move rfl) rfl rfl ?_
          refine o_y (y_extract rfl rfl) rfl rfl ?_
          refine o_y (y_extract rfl rfl) rfl rfl ?_
          refine wl_as (t := 73) (.bool (findI ix.hm ((eachS s n).getD i [])).isSome) rfl (congrArg Value.bool (find_is hix hT hrr5)) ?_
          refine wl_splitb (t := 73) rfl (fun h14_8 => ?_) (fun h14_8 => ?_)
          · skip
            refine o_alloc ty_50 rfl rfl (fun b7 => ?_)
            refine o_store ty_50 rfl rfl rfl .z rfl rfl rfl rfl ?_
            refine o_y (y_assign rfl) rfl rfl ?_
            refine wl_nil ?_
            refine e_seq ?_
            refine w_seq ?_
            refine w_region ?_
            refine o_y (y_move rfl) rfl rfl ?_
            refine wl_nil ?_
            refine e_seq ?_
            refine w_cond_t rfl ?_
            refine w_seq ?_
            have hfa := first_at (m := ix.hm) (s := s) (n := n) (i := i) (by omega) hI.2 h14_8
            refine w_region ?_
            refine o_y (y_move rfl) rfl rfl ?_
            refine o_y (y_eql rfl rfl) rfl rfl ?_
            refine wl_at (t := 76) rfl hoS.names ?_
            refine o_y (y_move rfl) rfl rfl ?_
            refine wl_gyes rfl rfl ?_
            refine o_y (y_move rfl) rfl rfl ?_
            refine wl_as (t := 78) (.bool true) rfl (congrArg Value.bool (by rw [hfa]; rfl)) ?_
            refine o_y (y_pick_t rfl rfl) rfl rfl ?_
            refine o_y (y_move rfl) rfl rfl ?_
            refine wl_gyes rfl rfl ?_
            refine o_y (y_move rfl) rfl rfl ?_
            refine wl_gyes rfl rfl ?_
            refine o_y (y_move rfl) rfl rfl ?_
            refine wl_gyes rfl rfl ?_
            refine o_y (y_move rfl) rfl rfl ?_
            refine wl_gyes rfl rfl ?_
            refine o_y (y_ixm  Try.underlying22 ty_25 rfl rfl (rs_L 1 rfl) rfl (by omega)) rfl rfl ?_
            refine wl_gyes rfl rfl ?_
            refine o_y (y_ldm0 enc_s ([] : Str) ty_25 rfl (rs_L 1 rfl) (by omega) rfl rfl) rfl rfl ?_
            refine wl_gyes rfl rfl ?_
            refine o_y (y_eqls rfl rfl) rfl rfl ?_
            refine wl_at (t := 86) rfl (by rw [hfa]; rfl) ?_
            refine o_y (y_pick_t rfl rfl) rfl rfl ?_
            refine o_y (y_assign rfl) rfl rfl ?_
            refine wl_nil ?_
            refine e_seq ?_
            refine w_ret ?_
            refine e_blk_ret ?_
            refine e_seq_ret ?_
            refine e_loop_ret ?_
            refine e_blk_ret ?_
            refine e_seq_ret ?_
            refine e_ret (ts := [6]) rfl rfl rfl (fun w hw => ?_)
            exact ⟨(), rfl, hw.base, (hw.weak (List.nil_sublist _) (fun s hs => hs)).toNews⟩
          · skip
            refine o_alloc ty_50 rfl rfl (fun b8 => ?_)
            refine o_store ty_50 rfl rfl rfl .z rfl rfl rfl rfl ?_
            refine o_y (y_assign rfl) rfl rfl ?_
            refine wl_nil ?_
            refine e_seq ?_
            refine w_seq ?_
            refine w_region ?_
            refine o_y (y_move rfl) rfl rfl ?_
            refine wl_nil ?_
            refine e_seq ?_
            refine w_cond_f rfl ?_
            refine w_skip ?_
            refine e_blk ?_
            refine e_seq ?_
            refine w_region ?_
            refine o_y (y_move rfl) rfl rfl ?_
            refine o_y (y_addi rfl rfl (by omega) (by omega)) rfl rfl ?_
            refine o_y (y_assign rfl) rfl rfl ?_
            refine wl_nil ?_
            refine e_back (i + 1) ?_ ?_ ⟨rfl, trivial⟩ (by repeat (first | exact trivial | refine ⟨rfl, ?_⟩)) (fun w h => h.weak (.cons _ (List.Sublist.refl _)) (fun s hs => hs))
            · exact ⟨by omega, all_succ hI.2 h14_8⟩
            · omega
        · skip
          refine wl_nil ?_
          refine e_seq ?_
          refine w_cond_f rfl ?_
          refine w_exit ?_
          refine e_seq_exit ?_
          refine e_loop_exit ?_
          refine e_blk_hit ?_
          refine e_seq ?_
          refine w_seq ?_
          have hil : i = (eachS s n).length := by omega
          have hfn : firstF ix.hm s n = none := first_none (fun q hq => hI.2 q (by omega))
          refine w_region ?_
          refine o_y (y_field fa_24_1 rfl) rfl rfl ?_
          refine o_store ty_22 rfl rfl rfl (.s (.s (.s (.s (.z))))) rfl rfl rfl rfl ?_
          refine wl_nil ?_
          refine e_seq ?_
          refine w_seq ?_
          refine w_region ?_
          refine o_y (y_move rfl) rfl rfl ?_
          refine o_y (y_move rfl) rfl rfl ?_
          refine o_callr0 rfl ent_38 rfl (c_ref18_Find v l F d rb rH rh _ hok (by omega) (by omega)) (fun w hw => (rd_cons (rd_L 2 rfl hw) (rd_cons (rd_S 1 rfl hw) (rd_cons (rd_S 2 rfl hw) rd_nil)))) (fun ⟨rr8, hrr8⟩ => ?_)
          refine o_y (y_move rfl) rfl rfl ?_
          refine o_y (y_extract rfl rfl) rfl rfl ?_
          refine o_y (y_extract rfl rfl) rfl rfl ?_
          refine wl_as (t := 94) (.bool (findI ix.hm n).isSome) rfl (congrArg Value.bool (find_is hix hT hrr8)) ?_
          refine o_alloc ty_50 rfl rfl (fun b10 => ?_)
          refine o_store ty_50 rfl rfl rfl .z rfl rfl rfl rfl ?_
          refine o_y (y_assign rfl) rfl rfl ?_
          refine wl_nil ?_
          refine e_seq ?_
          refine w_seq ?_
          refine w_region ?_
          refine o_y (y_move rfl) rfl rfl ?_
          refine o_y (y_loadrs 5 ty_24 rfl rfl rfl rfl) rfl rfl ?_
          refine o_y (y_move rfl) rfl rfl ?_
          refine o_callq rfl ent_55 rfl (c_First ix { s with doms := [] } none 0 n) (fun w hw => (rd_cons (rd_none) (rd_cons (rd_all (rd_L 2 rfl hw) (.head _)) (rd_cons (rd_all (rd_L 2 rfl hw) (.tail _ (.tail _ (.head _)))) rd_nil)))) ?_
          refine o_y (y_move rfl) rfl rfl ?_
          refine o_y (y_extract rfl rfl) rfl rfl ?_
          refine o_y (y_extract rfl rfl) rfl rfl ?_
          refine o_y (y_assign rfl) rfl rfl ?_
          refine o_y (y_assign rfl) rfl rfl ?_
          refine wl_nil ?_
          refine e_seq ?_
          refine w_seq ?_
          refine w_region ?_
          refine o_y (y_move rfl) rfl rfl ?_
          refine wl_as (t := 102) (.bool false) rfl (congrArg Value.bool (by rw [hfn]; rfl)) ?_
          refine o_y (y_not rfl) rfl rfl ?_
          refine o_y (y_move rfl) rfl rfl ?_
          refine wl_gyes rfl rfl ?_
          refine o_y (y_move rfl) rfl rfl ?_
          refine wl_gyes rfl rfl ?_
          refine o_y (y_eqls rfl rfl) rfl rfl ?_
          refine wl_at (t := 106) rfl (by rw [hfn]; rfl) ?_
          refine o_y (y_pick_t rfl rfl) rfl rfl ?_
          refine o_y (y_move rfl) rfl rfl ?_
          refine wl_gyes rfl rfl ?_
          refine o_y (y_loadrs 5 ty_24 rfl rfl rfl rfl) rfl rfl ?_
          refine wl_gyes rfl rfl ?_
          refine o_callq rfl ent_16 rfl (c_search_Check { s with doms := [] } none 0) (fun w hw => (rd_cons (rd_none) rd_nil)) ?_
          refine wl_gyes rfl rfl ?_
          refine o_y (y_neq rfl rfl) rfl rfl ?_
          refine wl_splitp (t := 111) rfl (fun h20_9 => ?_) (fun h20_9 => ?_)
          · skip
            refine wl_gyes rfl rfl ?_
            refine o_y (y_move rfl) rfl rfl ?_
            refine wl_gno rfl rfl rfl rfl ?_
            refine wl_gno rfl rfl rfl rfl ?_
            refine wl_gno rfl rfl rfl rfl ?_
            refine wl_gno rfl rfl rfl rfl ?_
            refine wl_gnou rfl rfl rfl ?_
            refine wl_gnou rfl rfl rfl ?_
            refine wl_gnou rfl rfl rfl ?_
            refine wl_gnou rfl rfl rfl ?_
            refine wl_gnou rfl rfl rfl ?_
            refine wl_gnou rfl rfl rfl ?_
            refine wl_gnou rfl rfl rfl ?_
            refine wl_gno rfl rfl rfl rfl ?_
            refine wl_gyes rfl rfl ?_
            refine o_y (y_pick_t rfl rfl) rfl rfl ?_
            refine o_y (y_pick_t rfl rfl) rfl rfl ?_
            refine o_y (y_assign rfl) rfl rfl ?_
            refine wl_nil ?_
            refine e_seq ?_
            refine w_ret ?_
            refine e_ret (ts := [6]) rfl rfl rfl (fun w hw => ?_)
            exact ⟨(), rfl, hw.base, (hw.weak (List.nil_sublist _) (fun s hs => hs)).toNews⟩
          · skip
            refine wl_gyes rfl rfl ?_
            refine o_y (y_move rfl) rfl rfl ?_
            refine wl_gyes rfl rfl ?_
            refine o_y (y_move rfl) rfl rfl ?_
            refine wl_gyes rfl rfl ?_
            refine o_y (y_move rfl) rfl rfl ?_
            refine wl_gyes rfl rfl ?_
            refine o_y (y_eqlb Try.underlying4 rfl rfl) rfl rfl ?_
            refine wl_at (t := 115) rfl (first_alone (by omega)) ?_
            refine wl_gyes rfl rfl ?_
            refine o_y (y_move rfl) rfl rfl ?_
            refine wl_gyes rfl rfl ?_
            refine o_y (y_move rfl) rfl rfl ?_
            refine wl_splitb (t := 117) rfl (fun h20_15 => ?_) (fun h20_15 => ?_)
            · skip
              refine wl_gyes rfl rfl ?_
              refine o_y (y_not rfl) rfl rfl ?_
              refine wl_gyes rfl rfl ?_
              refine o_y (y_move rfl) rfl rfl ?_
              refine wl_gyes rfl rfl ?_
              refine o_y (y_move rfl) rfl rfl ?_
              refine wl_gyes rfl rfl ?_
              refine o_y (y_move rfl) rfl rfl ?_
              refine wl_gyes rfl rfl ?_
              refine o_y (y_eqls rfl rfl) rfl rfl ?_
              refine wl_at (t := 122) rfl (first_same (by omega) h20_15) ?_
              refine wl_gyes rfl rfl ?_
              refine o_y (y_pick_f rfl rfl) rfl rfl ?_
              refine wl_gyes rfl rfl ?_
              refine o_y (y_pick_t rfl rfl) rfl rfl ?_
              refine wl_gyes rfl rfl ?_
              refine o_y (y_pick_f rfl rfl) rfl rfl ?_
              refine o_y (y_pick_t rfl rfl) rfl rfl ?_
              refine o_y (y_assign rfl) rfl rfl ?_
              refine wl_nil ?_
              refine e_seq ?_
              refine w_ret ?_
              refine e_ret (ts := [6]) rfl rfl rfl (fun w hw => ?_)
              exact ⟨(), rfl, hw.base, (hw.weak (List.nil_sublist _) (fun s hs => hs)).toNews⟩
            · skip
              refine wl_gyes rfl rfl ?_
              refine o_y (y_not rfl) rfl rfl ?_
              refine wl_gyes rfl rfl ?_
              refine o_y (y_move rfl) rfl rfl ?_
              refine wl_gno rfl rfl rfl rfl ?_
              refine wl_gno rfl rfl rfl rfl ?_
              refine wl_gno rfl rfl rfl rfl ?_
              refine wl_gyes rfl rfl ?_
              refine o_y (y_pick_t rfl rfl) rfl rfl ?_
              refine wl_gyes rfl rfl ?_
              refine o_y (y_pick_t rfl rfl) rfl rfl ?_
              refine wl_gyes rfl rfl ?_
              refine o_y (y_pick_f rfl rfl) rfl rfl ?_
              refine o_y (y_pick_t rfl rfl) rfl rfl ?_
              refine o_y (y_assign rfl) rfl rfl ?_
              refine wl_nil ?_
              refine e_seq ?_
              refine w_ret ?_
              refine e_ret (ts := [6]) rfl rfl rfl (fun w hw => ?_)
              exact ⟨(), rfl, hw.base, (hw.weak (List.nil_sublist _) (fun s hs => hs)).toNews⟩
      · skip
        refine wl_gyes rfl rfl ?_
        refine o_y (y_not rfl) rfl rfl ?_
        refine o_y (y_pick_f rfl rfl) rfl rfl ?_
        refine wl_nil ?_
        refine e_seq ?_
        refine w_cond_t rfl ?_
        refine w_seq ?_
        refine w_region ?_
        refine o_y (y_assign rfl) rfl rfl ?_
        refine wl_nil ?_
        refine e_seq ?_
        refine w_ret ?_
        refine e_seq_ret ?_
        refine e_ret (ts := [6]) rfl rfl rfl (fun w hw => ?_)
        exact ⟨(), rfl, hw.base, (hw.weak (List.nil_sublist _) (fun s hs => hs)).toNews⟩
    · skip
      refine o_y (y_not rfl) rfl rfl ?_
      refine o_y (y_move rfl) rfl rfl ?_
      refine wl_gno rfl rfl rfl rfl ?_
      refine wl_gno rfl rfl rfl rfl ?_
      refine wl_gno rfl rfl rfl rfl ?_
      refine wl_gno rfl rfl rfl rfl ?_
      refine o_y (y_pick_t rfl rfl) rfl rfl ?_
      refine wl_nil ?_
      refine e_seq ?_
      refine w_cond_t rfl ?_
      refine w_seq ?_
      refine w_region ?_
      refine o_y (y_assign rfl) rfl rfl ?_
      refine wl_nil ?_
      refine e_seq ?_
      refine w_ret ?_
      refine e_seq_ret ?_
      refine e_ret (ts := [6]) rfl rfl rfl (fun w hw => ?_)
      exact ⟨(), rfl, hw.base, (hw.weak (List.nil_sublist _) (fun s hs => hs)).toNews⟩
  · skip
    refine w_seq ?_
    refine w_region ?_
    refine o_box rfl rfl rfl (fun b11 => ?_)
    refine o_box rfl rfl rfl (fun b12 => ?_)
    refine o_y (y_assign rfl) rfl rfl ?_
    refine wl_nil ?_
    refine e_seq ?_
    refine w_seq ?_
    refine w_seq ?_
    refine w_region ?_
    refine o_callp rfl ent_14 c_lives20 rfl ?_
    refine wl_as (t := 22) (.bool true) rfl (congrArg Value.bool rfl) ?_
    refine o_y (y_not rfl) rfl rfl ?_
    refine wl_nil ?_
    refine e_seq ?_
    refine w_cond_f rfl ?_
    refine w_skip ?_
    refine e_seq ?_
    refine w_seq ?_
    refine w_seq ?_
    refine w_region ?_
    refine o_y (y_loadrs 1 ty_24 rfl rfl rfl rfl) rfl rfl ?_
    refine o_y (y_move rfl) rfl rfl ?_
    refine o_callq rfl ent_15 rfl (c_light20 _ _ _ _ (by omega)) (fun w hw => (rd_cons (rd_S 0 rfl hw) rd_nil)) ?_
    refine wl_splitb (t := 26) rfl (fun h3_2 => ?_) (fun h3_2 => ?_)
    · skip
      simp only [Bool.and_eq_true, decide_eq_true_eq] at h3_2
      have hn3 := h3_2.2
      refine o_y (y_not rfl) rfl rfl ?_
      refine o_y (y_move rfl) rfl rfl ?_
      refine wl_gyes rfl rfl ?_
      refine o_y (y_field fa_41_1 rfl) rfl rfl ?_
      refine wl_gyes rfl rfl ?_
      refine o_y (y_loadr 0 ty_39 rfl rfl rfl) rfl rfl ?_
      refine wl_gyes rfl rfl ?_
      refine o_callq rfl ent_24 rfl (c_LightEntries _ _ _ _ (by omega)) (fun w hw => (rd_cons (rd_S 1 rfl hw) rd_nil)) ?_
      refine wl_splitb (t := 31) rfl (fun h3_7 => ?_) (fun h3_7 => ?_)
      · skip
        have hle9 := lightEs_le h3_7
        have hok : TbOk l := fun x hx => ⟨hen x hx, hle9.1 x hx⟩
        have hl9 := hle9.2
        refine wl_gyes rfl rfl ?_
        refine o_y (y_not rfl) rfl rfl ?_
        refine o_y (y_pick_f rfl rfl) rfl rfl ?_
        refine wl_nil ?_
        refine e_seq ?_
        refine w_cond_f rfl ?_
        refine w_skip ?_
        refine e_seq ?_
        refine w_seq ?_
        refine w_region ?_
        refine o_y (y_loadrs 0 ty_41 rfl rfl rfl rfl) rfl rfl ?_
        refine o_callq rfl ent_36 rfl (c_ref18_Newbad v l F d hok (by omega) hT _ _ _) (fun w hw => (rd_cons (rd_S 1 rfl hw) (rd_cons (rd_S 2 rfl hw) rd_nil))) ?_
        refine o_y (y_move rfl) rfl rfl ?_
        refine o_y (y_extract rfl rfl) rfl rfl ?_
        refine o_y (y_extract rfl rfl) rfl rfl ?_
        refine o_y (y_assign rfl) rfl rfl ?_
        refine o_y (y_assign rfl) rfl rfl ?_
        refine wl_nil ?_
        refine e_seq ?_
        refine w_seq ?_
        refine w_region ?_
        refine o_y (y_loadrs 0 ty_41 rfl rfl rfl rfl) rfl rfl ?_
        refine o_callq rfl ent_25 rfl (c_index_Newbad v l F d hok (by omega) hT _ _ _) (fun w hw => (rd_cons (rd_S 1 rfl hw) (rd_cons (rd_S 2 rfl hw) rd_nil))) ?_
        refine o_y (y_move rfl) rfl rfl ?_
        refine o_y (y_extract rfl rfl) rfl rfl ?_
        refine o_y (y_extract rfl rfl) rfl rfl ?_
        refine o_y (y_assign rfl) rfl rfl ?_
        refine o_y (y_assign rfl) rfl rfl ?_
        refine wl_nil ?_
        refine e_seq ?_
        refine w_seq ?_
        refine w_region ?_
        refine o_y (y_loadrs 1 ty_24 rfl rfl rfl rfl) rfl rfl ?_
        refine o_y (y_move rfl) rfl rfl ?_
        refine o_callr1 rfl ent_18 rfl (c_search_Names _ _ _ _) (fun w hw => (rd_cons (rd_S 0 rfl hw) rd_nil)) (fun ⟨A12, c12⟩ => ?_)
        refine o_y (y_move rfl) rfl rfl ?_
        refine o_y (y_extract rfl rfl) rfl rfl ?_
        refine o_y (y_extract rfl rfl) rfl rfl ?_
        refine o_y (y_assign rfl) rfl rfl ?_
        refine o_y (y_assign rfl) rfl rfl ?_
        refine wl_nil ?_
        refine e_seq ?_
        refine w_seq ?_
        refine w_seq ?_
        refine w_region ?_
        refine o_y (y_move rfl) rfl rfl ?_
        refine o_y (y_neq rfl rfl) rfl rfl ?_
        refine wl_at (t := 51) rfl hT ?_
        refine wl_nil ?_
        refine e_seq ?_
        refine w_cond_t rfl ?_
        refine w_seq ?_
        refine w_region ?_
        refine o_y (y_assign rfl) rfl rfl ?_
        refine wl_nil ?_
        refine e_seq ?_
        refine w_ret ?_
        refine e_seq_ret ?_
        refine e_ret (ts := [6]) rfl rfl rfl (fun w hw => ?_)
        exact ⟨(), rfl, hw.base, (hw.weak (List.nil_sublist _) (fun s hs => hs)).toNews⟩
      · skip
        refine wl_gyes rfl rfl ?_
        refine o_y (y_not rfl) rfl rfl ?_
        refine o_y (y_pick_f rfl rfl) rfl rfl ?_
        refine wl_nil ?_
        refine e_seq ?_
        refine w_cond_t rfl ?_
        refine w_seq ?_
        refine w_region ?_
        refine o_y (y_assign rfl) rfl rfl ?_
        refine wl_nil ?_
        refine e_seq ?_
        refine w_ret ?_
        refine e_seq_ret ?_
        refine e_ret (ts := [6]) rfl rfl rfl (fun w hw => ?_)
        exact ⟨(), rfl, hw.base, (hw.weak (List.nil_sublist _) (fun s hs => hs)).toNews⟩
    · skip
      refine o_y (y_not rfl) rfl rfl ?_
      refine o_y (y_move rfl) rfl rfl ?_
      refine wl_gno rfl rfl rfl rfl ?_
      refine wl_gno rfl rfl rfl rfl ?_
      refine wl_gno rfl rfl rfl rfl ?_
      refine wl_gno rfl rfl rfl rfl ?_
      refine o_y (y_pick_t rfl rfl) rfl rfl ?_
      refine wl_nil ?_
      refine e_seq ?_
      refine w_cond_t rfl ?_
      refine w_seq ?_
      refine w_region ?_
      refine o_y (y_assign rfl) rfl rfl ?_
      refine wl_nil ?_
      refine e_seq ?_
      refine w_ret ?_
      refine e_seq_ret ?_
      refine e_ret (ts := [6]) rfl rfl rfl (fun w hw => ?_)
      exact ⟨(), rfl, hw.base, (hw.weak (List.nil_sublist _) (fun s hs => hs)).toNews⟩

theorem dc_le {w : World} : Dc Try.prog w 50 (α := Le) (elC) (elR) (fun x => EnOk x.e) := fun H enc base sp hd fuel cs x h => by
  obtain ⟨xs, n, rfl, _, hcl, hxl, hf⟩ := DataW.trod_struct Try.underlying50 h
  have hcl2 : cs.length = 7 := hcl.trans (by kernel_rfl)
  obtain ⟨x0, c0, r0, o0⟩ := dc_field hxl hf 0 (ft := 25) (off := 0) (k := 1) (by kernel_rfl) (by kernel_rfl) (dc_str Try.underlying25)
  obtain ⟨x1, c1, r1, o1⟩ := dc_field hxl hf 1 (ft := 3) (off := 1) (k := 1) (by kernel_rfl) (by kernel_rfl) (dc_int Try.underlying3)
  obtain ⟨x2, c2, r2, o2⟩ := dc_field hxl hf 2 (ft := 9) (off := 2) (k := 1) (by kernel_rfl) (by kernel_rfl) (dc_str Try.underlying9)
  obtain ⟨⟨x3, A, c⟩, c3, r3, o3⟩ := dc_field hxl hf 3 (ft := 46) (off := 3) (k := 1) (by kernel_rfl) (by kernel_rfl) dc_ads
  obtain ⟨x4, c4, r4, o4⟩ := dc_field hxl hf 4 (ft := 25) (off := 4) (k := 1) (by kernel_rfl) (by kernel_rfl) (dc_str Try.underlying25)
  obtain ⟨⟨x5, B, d⟩, c5, r5, o5⟩ := dc_field hxl hf 5 (ft := 47) (off := 5) (k := 1) (by kernel_rfl) (by kernel_rfl) dc_ints
  obtain ⟨x6, c6, r6, o6⟩ := dc_field hxl hf 6 (ft := 48) (off := 6) (k := 1) (by kernel_rfl) (by kernel_rfl) (dc_int Try.underlying48)
  have hcs := cut0 (cutc c0 (cutc c1 (cutc c2 (cutc c3 (cutc c4 (cutc c5 (cutc c6 (cutn hcl2) rfl) rfl) rfl) rfl) rfl) rfl) rfl)
  exact ⟨⟨⟨x0, x1, x2, x3, x4, x5, x6⟩, A, c, B, d⟩, hcs, rd_cons (r3 _ List.mem_cons_self) (rd_cons (r5 _ List.mem_cons_self) nofun), o0, o1, o2, o3.2, o3.1, o4, o5.2, o5.1, o6⟩


theorem dc_ents {w : World} : Dc Try.prog w 39 (fun p : List Le × Option Addr × Nat => [.slice p.2.1 p.1.length p.2.2]) (fun p => Ch.rd p.2.1 7 elC p.1 :: p.1.flatMap elR) (fun p => p.1.length ≤ 9223372036854775807 ∧ ∀ x ∈ p.1, EnOk x.e) := dc_slice Try.underlying39 (by kernel_rfl) (by decide) enc_le dc_le


theorem dc_tb {w : World} : Dc Try.prog w 41 (α := Int × List Le × Option Addr × Nat) (fun q => tbC q.1 q.2.2.1 q.2.1.length q.2.2.2) (fun q => [Ch.rd q.2.2.1 7 elC q.2.1, Ch.rall (q.2.1.flatMap elR)]) (fun q => q.2.1.length ≤ 9223372036854775807 ∧ ∀ x ∈ q.2.1, EnOk x.e) := fun H enc base sp hd fuel cs x h => by
  obtain ⟨xs, n, rfl, _, hcl, hxl, hf⟩ := DataW.trod_struct Try.underlying41 h
  have hcl2 : cs.length = 2 := hcl.trans (by kernel_rfl)
  obtain ⟨x0, c0, r0, o0⟩ := dc_field hxl hf 0 (ft := 3) (off := 0) (k := 1) (by kernel_rfl) (by kernel_rfl) (dc_int Try.underlying3)
  obtain ⟨⟨x1, A, c⟩, c1, r1, o1⟩ := dc_field hxl hf 1 (ft := 39) (off := 1) (k := 1) (by kernel_rfl) (by kernel_rfl) dc_ents
  have hcs := cut0 (cutc c0 (cutc c1 (cutn hcl2) rfl) rfl)
  exact ⟨(x0, x1, A, c), hcs, rd_cons (r1 _ List.mem_cons_self) (rd_cons (rd_rall (fun s hs => r1 s (.tail _ hs))) nofun), o1⟩
end Go.Proofs.Ytckfjfnkombelaa
