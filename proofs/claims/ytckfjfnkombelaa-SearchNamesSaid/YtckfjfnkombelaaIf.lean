/- candidates: the law of the examples -/
import Derived.Test.YtckfjfnkombelaaIe
namespace Go.Proofs.Ytckfjfnkombelaa
open Go.RowKit Go.Shelf
set_option linter.unusedVariables false
set_option linter.unusedSimpArgs false

theorem bu_24_0 (x0 : Int) : Try.prog.built 24 [(0, .int .i64 x0)] = some [.int .i64 x0, .slice none 0 0].toArray := by kernel_rfl
theorem bu_24_1 (x0 : Option Addr) (x1 : Nat) (x2 : Nat) : Try.prog.built 24 [(1, .slice x0 x1 x2)] = some [.int .i64 0, .slice x0 x1 x2].toArray := by kernel_rfl
theorem bu_41 : Try.prog.built 41 [] = some [.int .i64 0, .slice none 0 0].toArray := by kernel_rfl

set_option maxRecDepth 100000 in
theorem c_Find_nil (n : Str) : RC Try.prog 32 #[.pointer none, .string (ba n)] [] (α := Unit) (fun _ => .tuple #[.agg (elC le0).toArray, .bool false]) (fun _ => []) := by
  refine rc_of_W (args := [.pointer none, .string (ba n)]) 65 Try.func32 rfl rfl rfl (fun w0 => ?_)
  refine w_seq ?_
  refine w_region ?_
  refine o_alloc ty_50 rfl rfl (fun b1 => ?_)
  refine o_y (y_assign rfl) rfl rfl ?_
  refine wl_nil ?_
  refine e_seq ?_
  refine w_seq ?_
  refine w_seq ?_
  refine w_region ?_
  refine o_y (y_move rfl) rfl rfl ?_
  refine o_y (y_eqp Try.underlying43 rfl rfl) rfl rfl ?_
  refine wl_as (t := 15) (.bool true) rfl (congrArg Value.bool rfl) ?_
  refine o_y (y_move rfl) rfl rfl ?_
  refine wl_gno rfl rfl rfl rfl ?_
  refine wl_gno rfl rfl rfl rfl ?_
  refine wl_gno rfl rfl rfl rfl ?_
  refine o_y (y_pick_t rfl rfl) rfl rfl ?_
  refine wl_nil ?_
  refine e_seq ?_
  refine w_cond_t rfl ?_
  refine w_seq ?_
  refine w_region ?_
  refine o_y (y_build rfl (bu_50)) rfl rfl ?_
  refine o_store ty_50 rfl rfl rfl .z rfl rfl rfl rfl ?_
  refine o_y (y_assign rfl) rfl rfl ?_
  refine wl_nil ?_
  refine e_seq ?_
  refine w_ret ?_
  refine e_seq_ret ?_
  refine e_rsr (rs := [.cell 4 50, .tmp 5]) rfl (rs_cells 0 ty_50 rfl rfl rfl rfl (rs_tmp rfl rs_nil)) rfl (fun w hw => ?_)
  exact ⟨(), rfl, hw.base, (hw.weak (List.nil_sublist _) (fun s hs => hs)).toNews⟩

theorem c_First_nil (s : Sr) (A : Option Addr) (c : Nat) (n : Str) : RC Try.prog 55 #[.pointer none, .agg (srC s A c).toArray, .string (ba n)] [Ch.rd A 1 encs s.doms] (α := Unit) (fun _ => .tuple #[.string (ba []), .bool false]) (fun _ => []) := by
  refine rc_of_WM (args := [.pointer none, .agg (srC s A c).toArray, .string (ba n)]) 23 Try.func55 rfl rfl rfl (fun w0 => ?_)
  refine w_seq ?_
  refine w_region ?_
  refine o_box rfl rfl rfl (fun b1 => ?_)
  refine o_box rfl rfl rfl (fun b2 => ?_)
  refine o_alloc ty_25 rfl rfl (fun b3 => ?_)
  refine o_alloc ty_4 rfl rfl (fun b4 => ?_)
  refine wl_nil ?_
  refine e_seq ?_
  refine w_seq ?_
  refine w_seq ?_
  refine w_region ?_
  refine o_y (y_loadrs 2 ty_24 rfl rfl rfl rfl) rfl rfl ?_
  refine o_y (y_move rfl) rfl rfl ?_
  refine o_callr2 rfl ent_60 rfl (c_Each _ _ _ _) (fun w hw => rd_nil) (fun ⟨p4, q4⟩ => ?_)
  refine wl_heap (fun w h => h.freeze.freeze) ?_
  refine wl_nil ?_
  refine e_seq ?_
  refine w_block ?_
  refine w_range (σ := Unit) (fun pre q => True) (fun c pre q => False) (fun q => [Ch.row b4 [.bool false] 4, Ch.row b3 [.string (ba [])] 25, Ch.row b2 (srC s A c) 24, Ch.row b1 [.pointer none] 43]) (()) rfl rfl ent_95 (c_Each1 s A c n p4 q4) (List.forall_mem_cons.2 ⟨.head _, List.forall_mem_cons.2 ⟨.tail _ (.head _), List.forall_mem_cons.2 ⟨.tail _ (.tail _ (.head _)), nofun⟩⟩⟩) rfl (fun _ => rfl) (trivial) rfl (fun pre e post q hxs hI lr D r hr okb wb => ?_) (fun q D0 hI => ?_) (fun c pre post q D0 hxs hI => ?_)
  · skip
    refine w_region ?_
    refine o_y (y_assign rfl) rfl rfl ?_
    refine wl_nil ?_
    refine e_begin rfl hr .z ?_
    refine w_block ?_
    refine w_seq ?_
    refine w_region ?_
    refine o_y (y_loadr 5 ty_43 rfl rfl rfl) rfl rfl ?_
    refine o_y (y_move rfl) rfl rfl ?_
    refine o_callq rfl ent_32 rfl (c_Find_nil _) (fun w hw => rd_nil) ?_
    refine o_y (y_move rfl) rfl rfl ?_
    refine o_y (y_extract rfl rfl) rfl rfl ?_
    refine o_y (y_extract rfl rfl) rfl rfl ?_
    refine wl_as (t := 20) (.bool false) rfl (congrArg Value.bool rfl) ?_
    refine o_alloc ty_50 rfl rfl (fun b6 => ?_)
    refine o_store ty_50 rfl rfl rfl .z rfl rfl rfl rfl ?_
    refine o_y (y_assign rfl) rfl rfl ?_
    refine wl_nil ?_
    refine e_seq ?_
    refine w_seq ?_
    refine w_region ?_
    refine o_y (y_move rfl) rfl rfl ?_
    refine wl_nil ?_
    refine e_seq ?_
    refine w_cond_f rfl ?_
    refine w_skip ?_
    refine e_blk ?_
    refine e_rend (()) ?_ (fun w h => h.weak (.cons _ (List.Sublist.refl _)) (fun s hs => hs))
    · trivial
  · skip
    refine e_blk ?_
    refine e_seq ?_
    refine w_seq ?_
    refine w_region ?_
    refine o_store ty_25 rfl rfl rfl (.s (.s (.z))) rfl rfl rfl rfl ?_
    refine o_store ty_4 rfl rfl rfl (.s (.z)) rfl rfl rfl rfl ?_
    refine wl_nil ?_
    refine e_seq ?_
    refine w_ret ?_
    refine e_lvr ?_
    refine lv_take .z ?_
    refine lv_nil (rs := [.cell 6 25, .cell 7 4]) rfl (rs_cell 2 ty_25 rfl rfl rfl (rs_cell 1 ty_4 rfl rfl rfl rs_nil)) (fun w hw => ?_)
    exact ⟨(), rfl, hw.base, (hw.weak (List.nil_sublist _) (fun s hs => hs)).toNews⟩
  · skip
    exact hI.elim


theorem first_empty {ix : Ixd} (h : IxOk [] ix) (s : Sr) (n : Str) : firstF ix.hm s n = none := by
  have h1 : ix.l = [] := by have := congrArg List.length h.es; simpa using this
  have h2 : ∀ key, lkp ix.hm key = none := fun key => by rw [h.hm key, h1]; rfl
  refine first_none fun q _ => ?_
  rw [findI]
  split
  · rfl
  · rw [h2, List.findSome?_eq_none_iff.2 (fun p _ => h2 _)]; rfl
def s16 : Sr := ⟨16, []⟩
def s7 : Sr := ⟨0, [[], [], [], [], [], [], []]⟩
def s01 : Sr := ⟨0, [[]]⟩
def sxy : Sr := ⟨1, [(makeN [[120]]).1, (makeN [[88]]).1, (makeN [[121]]).1]⟩
def na : Str := (makeN [[97]]).1


set_option maxRecDepth 100000 in
set_option maxHeartbeats 4000000 in
theorem c_SearchNames  : Pure Try.prog 12 #[] (.bool true) := by
  intro w0
  refine calls_of_W (ok0 := no) (S := []) (args := []) 129 Try.func12 rfl rfl rfl (by simp) (by simp) ?_
  refine w_seq ?_
  refine w_region ?_
  refine o_y (y_assign rfl) rfl rfl ?_
  refine wl_nil ?_
  refine e_seq ?_
  refine w_seq ?_
  refine w_seq ?_
  refine w_region ?_
  refine o_callp rfl ent_14 c_lives20 rfl ?_
  refine wl_as (t := 19) (.bool true) rfl (congrArg Value.bool rfl) ?_
  refine o_y (y_not rfl) rfl rfl ?_
  refine wl_nil ?_
  refine e_seq ?_
  refine w_cond_f rfl ?_
  refine w_skip ?_
  refine e_seq ?_
  refine w_seq ?_
  refine w_region ?_
  refine o_callr1 rfl ent_53 rfl c_example20 (fun w hw => rd_nil) (fun ⟨A0, c0⟩ => ?_)
  refine o_callr1 rfl ent_18 rfl (c_search_Names exS _ _ []) (fun w hw => (rd_cons (rd_Ls 0 rfl hw) rd_nil)) (fun ⟨A1, c1⟩ => ?_)
  refine o_y (y_move rfl) rfl rfl ?_
  refine o_y (y_extract rfl rfl) rfl rfl ?_
  refine o_y (y_extract rfl rfl) rfl rfl ?_
  refine o_y (y_assign rfl) rfl rfl ?_
  refine o_y (y_assign rfl) rfl rfl ?_
  refine wl_nil ?_
  refine e_seq ?_
  refine w_seq ?_
  refine w_region ?_
  refine o_callr1 rfl ent_53 rfl c_example20 (fun w hw => rd_nil) (fun ⟨A2, c2⟩ => ?_)
  refine o_callr1 rfl ent_18 rfl (c_search_Names exS _ _ [120]) (fun w hw => (rd_cons (rd_Ls 0 rfl hw) rd_nil)) (fun ⟨A3, c3⟩ => ?_)
  refine o_y (y_move rfl) rfl rfl ?_
  refine o_y (y_extract rfl rfl) rfl rfl ?_
  refine o_y (y_extract rfl rfl) rfl rfl ?_
  refine o_y (y_assign rfl) rfl rfl ?_
  refine o_y (y_assign rfl) rfl rfl ?_
  refine wl_nil ?_
  refine e_seq ?_
  refine w_seq ?_
  refine w_region ?_
  refine o_y (y_build rfl (bu_24_0 _)) rfl rfl ?_
  refine o_callr1 rfl ent_18 rfl (c_search_Names s16 none 0 []) (fun w hw => (rd_cons (rd_none) rd_nil)) (fun ⟨A4, c4⟩ => ?_)
  refine o_y (y_move rfl) rfl rfl ?_
  refine o_y (y_extract rfl rfl) rfl rfl ?_
  refine o_y (y_extract rfl rfl) rfl rfl ?_
  refine o_y (y_assign rfl) rfl rfl ?_
  refine o_y (y_assign rfl) rfl rfl ?_
  refine wl_nil ?_
  refine e_seq ?_
  refine w_seq ?_
  refine w_region ?_
  refine o_make1 (k := 7) ([] : Str) enc_s Try.underlying22 ty_25 rfl rfl rfl rfl (by omega) (by omega) (by omega) rfl (fun As6 => ?_)
  refine o_y (y_build rfl (bu_24_1 _ _ _)) rfl rfl ?_
  refine o_callr1 rfl ent_18 rfl (c_search_Names s7 _ _ []) (fun w hw => (rd_cons (rd_Ls 0 rfl hw) rd_nil)) (fun ⟨A6, c6⟩ => ?_)
  refine o_y (y_move rfl) rfl rfl ?_
  refine o_y (y_extract rfl rfl) rfl rfl ?_
  refine o_y (y_extract rfl rfl) rfl rfl ?_
  refine o_y (y_assign rfl) rfl rfl ?_
  refine o_y (y_assign rfl) rfl rfl ?_
  refine wl_nil ?_
  refine e_seq ?_
  refine w_seq ?_
  refine w_region ?_
  refine o_bsl (vs := [_]) ([([] : Str)] : List (Str)) enc_s Try.underlying22 ty_25 rfl rfl rfl rfl rfl rfl (fun As8 => ?_)
  refine o_y (y_build rfl (bu_24_1 _ _ _)) rfl rfl ?_
  refine o_callr1 rfl ent_18 rfl (c_search_Names s01 _ _ []) (fun w hw => (rd_cons (rd_Ls 0 rfl hw) rd_nil)) (fun ⟨A8, c8⟩ => ?_)
  refine o_y (y_move rfl) rfl rfl ?_
  refine o_y (y_extract rfl rfl) rfl rfl ?_
  refine o_y (y_extract rfl rfl) rfl rfl ?_
  refine o_y (y_assign rfl) rfl rfl ?_
  refine o_y (y_assign rfl) rfl rfl ?_
  refine wl_nil ?_
  refine e_seq ?_
  refine w_seq ?_
  refine w_region ?_
  refine o_bsl (vs := [_]) ([[120]] : List (Str)) enc_s Try.underlying36 ty_9 rfl rfl rfl rfl rfl rfl (fun As10 => ?_)
  refine o_callq rfl ent_54 rfl (c_host20 _ _ _ (by decide)) (fun w hw => (rd_cons (rd_Ls 0 rfl hw) rd_nil)) ?_
  refine o_bsl (vs := [_]) ([[88]] : List (Str)) enc_s Try.underlying36 ty_9 rfl rfl rfl rfl rfl rfl (fun As11 => ?_)
  refine o_callq rfl ent_54 rfl (c_host20 _ _ _ (by decide)) (fun w hw => (rd_cons (rd_Ls 0 rfl hw) rd_nil)) ?_
  refine o_bsl (vs := [_]) ([[121]] : List (Str)) enc_s Try.underlying36 ty_9 rfl rfl rfl rfl rfl rfl (fun As12 => ?_)
  refine o_callq rfl ent_54 rfl (c_host20 _ _ _ (by decide)) (fun w hw => (rd_cons (rd_Ls 0 rfl hw) rd_nil)) ?_
  refine o_bsl (vs := [_, _, _]) ([(makeN [[120]]).1, (makeN [[88]]).1, (makeN [[121]]).1] : List (Str)) enc_s Try.underlying22 ty_25 rfl rfl rfl rfl rfl rfl (fun As13 => ?_)
  refine o_y (y_build rfl (bu_24_0_1 _ _ _ _)) rfl rfl ?_
  refine o_bsl (vs := [_]) ([[97]] : List (Str)) enc_s Try.underlying36 ty_9 rfl rfl rfl rfl rfl rfl (fun As14 => ?_)
  refine o_callq rfl ent_54 rfl (c_host20 _ _ _ (by decide)) (fun w hw => (rd_cons (rd_Ls 0 rfl hw) rd_nil)) ?_
  refine o_callr1 rfl ent_18 rfl (c_search_Names sxy _ _ na) (fun w hw => (rd_cons (rd_Ls 1 rfl hw) rd_nil)) (fun ⟨A14, c14⟩ => ?_)
  refine o_y (y_move rfl) rfl rfl ?_
  refine o_y (y_extract rfl rfl) rfl rfl ?_
  refine o_y (y_extract rfl rfl) rfl rfl ?_
  refine o_y (y_assign rfl) rfl rfl ?_
  refine o_y (y_assign rfl) rfl rfl ?_
  refine wl_nil ?_
  refine e_seq ?_
  refine w_seq ?_
  refine w_region ?_
  refine o_y (y_build rfl (bu_41)) rfl rfl ?_
  refine o_callr1 rfl ent_25 rfl (c_index_New0 0 [] none 0 nofun (by decide) rfl) (fun w hw => (rd_cons (rd_none) (rd_cons (rd_rall nofun) rd_nil))) (fun ⟨ix, hix⟩ => ?_)
  refine o_y (y_move rfl) rfl rfl ?_
  refine o_y (y_extract rfl rfl) rfl rfl ?_
  refine o_y (y_extract rfl rfl) rfl rfl ?_
  refine o_y (y_assign rfl) rfl rfl ?_
  refine o_y (y_assign rfl) rfl rfl ?_
  refine wl_nil ?_
  refine e_seq ?_
  refine w_seq ?_
  refine w_region ?_
  refine o_y (y_move rfl) rfl rfl ?_
  refine o_callr1 rfl ent_53 rfl c_example20 (fun w hw => rd_nil) (fun ⟨A16, c16⟩ => ?_)
  refine o_bsl (vs := [_]) ([[97]] : List (Str)) enc_s Try.underlying36 ty_9 rfl rfl rfl rfl rfl rfl (fun As18 => ?_)
  refine o_callq rfl ent_54 rfl (c_host20 _ _ _ (by decide)) (fun w hw => (rd_cons (rd_Ls 0 rfl hw) rd_nil)) ?_
  refine o_callq rfl ent_55 rfl (c_First ix exS _ _ na) (fun w hw => (rd_cons (rd_Ls 1 rfl hw) (rd_cons (rd_all (rd_L 2 rfl hw) (.head _)) (rd_cons (rd_all (rd_L 2 rfl hw) (.tail _ (.tail _ (.head _)))) rd_nil)))) ?_
  refine o_y (y_move rfl) rfl rfl ?_
  refine o_y (y_extract rfl rfl) rfl rfl ?_
  refine o_y (y_extract rfl rfl) rfl rfl ?_
  refine wl_as (t := 74) (.bool false) rfl (congrArg Value.bool (by rw [first_empty hix]; rfl)) ?_
  refine o_y (y_assign rfl) rfl rfl ?_
  refine o_y (y_assign rfl) rfl rfl ?_
  refine wl_nil ?_
  refine e_seq ?_
  refine w_seq ?_
  refine w_region ?_
  refine o_callr1 rfl ent_53 rfl c_example20 (fun w hw => rd_nil) (fun ⟨A18, c18⟩ => ?_)
  refine o_bsl (vs := [_]) ([[97]] : List (Str)) enc_s Try.underlying36 ty_9 rfl rfl rfl rfl rfl rfl (fun As20 => ?_)
  refine o_callq rfl ent_54 rfl (c_host20 _ _ _ (by decide)) (fun w hw => (rd_cons (rd_Ls 0 rfl hw) rd_nil)) ?_
  refine o_callq rfl ent_55 rfl (c_First_nil exS _ _ na) (fun w hw => (rd_cons (rd_Ls 1 rfl hw) rd_nil)) ?_
  refine o_y (y_move rfl) rfl rfl ?_
  refine o_y (y_extract rfl rfl) rfl rfl ?_
  refine o_y (y_extract rfl rfl) rfl rfl ?_
  refine wl_as (t := 81) (.bool false) rfl (congrArg Value.bool rfl) ?_
  refine o_y (y_assign rfl) rfl rfl ?_
  refine o_y (y_assign rfl) rfl rfl ?_
  refine wl_nil ?_
  refine e_seq ?_
  refine w_seq ?_
  refine w_region ?_
  refine o_callp rfl ent_14 c_lives20 rfl ?_
  refine wl_as (t := 82) (.bool true) rfl (congrArg Value.bool rfl) ?_
  refine o_y (y_move rfl) rfl rfl ?_
  refine wl_gyes rfl rfl ?_
  refine o_y (y_move rfl) rfl rfl ?_
  refine wl_gyes rfl rfl ?_
  refine o_y (y_eql rfl rfl) rfl rfl ?_
  refine wl_at (t := 85) rfl (by as_aux_lemma => decide +kernel) ?_
  refine o_y (y_pick_t rfl rfl) rfl rfl ?_
  refine o_y (y_move rfl) rfl rfl ?_
  refine wl_gyes rfl rfl ?_
  refine o_y (y_move rfl) rfl rfl ?_
  refine wl_gyes rfl rfl ?_
  refine o_bsl (vs := [_]) ([([] : Str)] : List (Str)) enc_s Try.underlying22 ty_25 rfl rfl rfl rfl rfl rfl (fun As21 => ?_)
  refine wl_gyes rfl rfl ?_
  refine o_callq rfl ent_28 rfl (c_kit_Same_n _ _ _ _ _ _ (by as_aux_lemma => decide +kernel)) (fun w hw => (rd_cons (rd_Ls 19 rfl hw) (rd_cons (rd_Ls 0 rfl hw) rd_nil))) ?_
  refine wl_as (t := 90) (.bool true) rfl (congrArg Value.bool (by as_aux_lemma => decide +kernel)) ?_
  refine o_y (y_pick_t rfl rfl) rfl rfl ?_
  refine o_y (y_move rfl) rfl rfl ?_
  refine wl_gyes rfl rfl ?_
  refine o_y (y_move rfl) rfl rfl ?_
  refine wl_gyes rfl rfl ?_
  refine o_y (y_eql rfl rfl) rfl rfl ?_
  refine wl_at (t := 94) rfl (by as_aux_lemma => decide +kernel) ?_
  refine o_y (y_pick_t rfl rfl) rfl rfl ?_
  refine o_y (y_move rfl) rfl rfl ?_
  refine wl_gyes rfl rfl ?_
  refine o_y (y_move rfl) rfl rfl ?_
  refine wl_gyes rfl rfl ?_
  refine o_y (y_eql rfl rfl) rfl rfl ?_
  refine wl_at (t := 98) rfl (by as_aux_lemma => decide +kernel) ?_
  refine o_y (y_pick_t rfl rfl) rfl rfl ?_
  refine o_y (y_move rfl) rfl rfl ?_
  refine wl_gyes rfl rfl ?_
  refine o_y (y_move rfl) rfl rfl ?_
  refine wl_gyes rfl rfl ?_
  refine o_y (y_eql rfl rfl) rfl rfl ?_
  refine wl_at (t := 102) rfl (by as_aux_lemma => decide +kernel) ?_
  refine o_y (y_pick_t rfl rfl) rfl rfl ?_
  refine o_y (y_move rfl) rfl rfl ?_
  refine wl_gyes rfl rfl ?_
  refine o_y (y_move rfl) rfl rfl ?_
  refine wl_gyes rfl rfl ?_
  refine o_y (y_eql rfl rfl) rfl rfl ?_
  refine wl_at (t := 106) rfl (by as_aux_lemma => decide +kernel) ?_
  refine o_y (y_pick_t rfl rfl) rfl rfl ?_
  refine o_y (y_move rfl) rfl rfl ?_
  refine wl_gyes rfl rfl ?_
  refine o_y (y_move rfl) rfl rfl ?_
  refine wl_gyes rfl rfl ?_
  refine o_bsl (vs := [_, _]) ([[97], [120]] : List (Str)) enc_s Try.underlying36 ty_9 rfl rfl rfl rfl rfl rfl (fun As22 => ?_)
  refine wl_gyes rfl rfl ?_
  refine o_callq rfl ent_54 rfl (c_host20 _ _ _ (by decide)) (fun w hw => (rd_cons (rd_Ls 0 rfl hw) rd_nil)) ?_
  refine wl_gyes rfl rfl ?_
  refine o_bsl (vs := [_, _]) ([[97], [121]] : List (Str)) enc_s Try.underlying36 ty_9 rfl rfl rfl rfl rfl rfl (fun As23 => ?_)
  refine wl_gyes rfl rfl ?_
  refine o_callq rfl ent_54 rfl (c_host20 _ _ _ (by decide)) (fun w hw => (rd_cons (rd_Ls 0 rfl hw) rd_nil)) ?_
  refine wl_gyes rfl rfl ?_
  refine o_bsl (vs := [_]) ([[97]] : List (Str)) enc_s Try.underlying36 ty_9 rfl rfl rfl rfl rfl rfl (fun As24 => ?_)
  refine wl_gyes rfl rfl ?_
  refine o_callq rfl ent_54 rfl (c_host20 _ _ _ (by decide)) (fun w hw => (rd_cons (rd_Ls 0 rfl hw) rd_nil)) ?_
  refine wl_gyes rfl rfl ?_
  refine o_bsl (vs := [_, _, _]) ([(makeN [[97], [120]]).1, (makeN [[97], [121]]).1, (makeN [[97]]).1] : List (Str)) enc_s Try.underlying22 ty_25 rfl rfl rfl rfl rfl rfl (fun As25 => ?_)
  refine wl_gyes rfl rfl ?_
  refine o_callq rfl ent_28 rfl (c_kit_Same_n _ _ _ _ _ _ (by as_aux_lemma => decide +kernel)) (fun w hw => (rd_cons (rd_Ls 10 rfl hw) (rd_cons (rd_Ls 0 rfl hw) rd_nil))) ?_
  refine wl_as (t := 117) (.bool true) rfl (congrArg Value.bool (by as_aux_lemma => decide +kernel)) ?_
  refine o_y (y_pick_t rfl rfl) rfl rfl ?_
  refine o_y (y_move rfl) rfl rfl ?_
  refine wl_gyes rfl rfl ?_
  refine o_y (y_move rfl) rfl rfl ?_
  refine wl_gyes rfl rfl ?_
  refine o_y (y_not rfl) rfl rfl ?_
  refine o_y (y_pick_t rfl rfl) rfl rfl ?_
  refine o_y (y_move rfl) rfl rfl ?_
  refine wl_gyes rfl rfl ?_
  refine o_y (y_move rfl) rfl rfl ?_
  refine wl_gyes rfl rfl ?_
  refine o_y (y_not rfl) rfl rfl ?_
  refine o_y (y_pick_t rfl rfl) rfl rfl ?_
  refine o_y (y_move rfl) rfl rfl ?_
  refine o_y (y_pick_t rfl rfl) rfl rfl ?_
  refine o_y (y_assign rfl) rfl rfl ?_
  refine wl_nil ?_
  refine e_seq ?_
  refine w_ret ?_
  refine e_ret (ts := [0]) rfl rfl rfl (fun w hw => ?_)
  exact ⟨rfl, hw.base⟩
end Go.Proofs.Ytckfjfnkombelaa
