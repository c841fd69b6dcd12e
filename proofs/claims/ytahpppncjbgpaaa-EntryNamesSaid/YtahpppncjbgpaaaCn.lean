/- the law of the examples -/
import Derived.Test.YtahpppncjbgpaaaCl
namespace Go.Proofs.Ytahpppncjbgpaaa
open Go.RowKit Go.Shelf
set_option linter.unusedVariables false
set_option linter.unusedSimpArgs false

theorem bu_48 : Try.prog.built 48 [] = some [.string ⟨#[]⟩, .int .i64 0, .string ⟨#[]⟩, .slice none 0 0, .string ⟨#[]⟩, .slice none 0 0, .int .u32 0].toArray := by kernel_rfl
theorem bu_48_0_1_2 (x0 : Str) (x1 : Int) (x2 : Str) : Try.prog.built 48 [(0, .string (ba x0)), (1, .int .i64 x1), (2, .string (ba x2))] = some [.string (ba x0), .int .i64 x1, .string (ba x2), .slice none 0 0, .string ⟨#[]⟩, .slice none 0 0, .int .u32 0].toArray := by kernel_rfl
theorem bu_48_0_1_4 (x0 : Str) (x1 : Int) (x2 : Str) : Try.prog.built 48 [(0, .string (ba x0)), (1, .int .i64 x1), (4, .string (ba x2))] = some [.string (ba x0), .int .i64 x1, .string ⟨#[]⟩, .slice none 0 0, .string (ba x2), .slice none 0 0, .int .u32 0].toArray := by kernel_rfl
theorem bu_48_0 (x0 : Str) : Try.prog.built 48 [(0, .string (ba x0))] = some [.string (ba x0), .int .i64 0, .string ⟨#[]⟩, .slice none 0 0, .string ⟨#[]⟩, .slice none 0 0, .int .u32 0].toArray := by kernel_rfl


def nA : Str := (makeN [[65]]).1
def nB : Str := (makeN [[98]]).1
def nq : Str := (makeN [[113]]).1
def nSx : Str := (makeN [[42], [120]]).1
def nqx : Str := (makeN [[113], [120]]).1
def exA : En := ⟨nA, 3, [], [], nB, [], 0⟩
def exB : En := ⟨nSx, 2, [121], [], [], [], 0⟩
def exC : En := ⟨nA, 3, [], [], (makeN [[42], [98]]).1, [], 0⟩
def exD : En := ⟨hostBA, 1, [120], [⟨false, 0, 16909060⟩, ⟨true, 0, 1⟩], [], [443, 80], 30⟩
def exE : En := ⟨hostBA, 1, [120], [⟨false, 0, 16909060⟩, ⟨false, 0, 16909060⟩], [], [80, 443], 30⟩
def exF : En := ⟨hostBA, 1, [120], [⟨false, 0, 5⟩, ⟨true, 0, 1⟩], [], [80, 443], 30⟩
def ex0 : En := ⟨[], 0, [], [], [], [], 0⟩
def exX : En := ⟨[120], 0, [], [], [], [], 0⟩


set_option maxRecDepth 100000 in
set_option maxHeartbeats 4000000 in
theorem c_EntryNames  : Pure Try.prog 10 #[] (.bool true) := by
  intro w0
  refine calls_of_W (ok0 := no) (S := []) (args := []) 143 Try.func10 rfl rfl rfl (by simp) (by simp) ?_
  refine w_seq ?_
  refine w_region ?_
  refine o_y (y_assign rfl) rfl rfl ?_
  refine wl_nil ?_
  refine e_seq ?_
  refine w_seq ?_
  refine w_seq ?_
  refine w_region ?_
  refine o_callp rfl ent_29 c_lives16 rfl ?_
  refine wl_as (t := 9) (.bool true) rfl (congrArg Value.bool rfl) ?_
  refine o_y (y_not rfl) rfl rfl ?_
  refine wl_nil ?_
  refine e_seq ?_
  refine w_cond_f rfl ?_
  refine w_skip ?_
  refine e_seq ?_
  refine w_seq ?_
  refine w_region ?_
  refine o_bsl (vs := [_]) ([[65]] : List (Str)) enc_s Try.underlying56 ty_9 rfl rfl rfl rfl rfl rfl (fun As1 => ?_)
  refine o_callq rfl ent_39 rfl (c_host16 _ _ _ (by decide)) (fun w hw => (rd_cons (rd_Ls 0 rfl hw) rd_nil)) ?_
  refine o_bsl (vs := [_]) ([[98]] : List (Str)) enc_s Try.underlying56 ty_9 rfl rfl rfl rfl rfl rfl (fun As2 => ?_)
  refine o_callq rfl ent_39 rfl (c_host16 _ _ _ (by decide)) (fun w hw => (rd_cons (rd_Ls 0 rfl hw) rd_nil)) ?_
  refine o_y (y_build rfl (bu_48_0_1_4 _ _ _)) rfl rfl ?_
  refine o_alloc ty_48 rfl rfl (fun b3 => ?_)
  refine o_store ty_48 rfl rfl rfl .z rfl rfl rfl rfl ?_
  refine wl_nil ?_
  refine e_seq ?_
  refine w_seq ?_
  refine w_region ?_
  refine o_bsl (vs := [_, _]) ([[42], [120]] : List (Str)) enc_s Try.underlying56 ty_9 rfl rfl rfl rfl rfl rfl (fun As4 => ?_)
  refine o_callq rfl ent_39 rfl (c_host16 _ _ _ (by decide)) (fun w hw => (rd_cons (rd_Ls 0 rfl hw) rd_nil)) ?_
  refine o_y (y_build rfl (bu_48_0_1_2 _ _ _)) rfl rfl ?_
  refine o_alloc ty_48 rfl rfl (fun b5 => ?_)
  refine o_store ty_48 rfl rfl rfl .z rfl rfl rfl rfl ?_
  refine wl_nil ?_
  refine e_seq ?_
  refine w_seq ?_
  refine w_region ?_
  refine o_y (y_loadrs 2 ty_48 rfl rfl rfl rfl) rfl rfl ?_
  refine o_alloc ty_48 rfl rfl (fun b6 => ?_)
  refine o_store ty_48 rfl rfl rfl .z rfl rfl rfl rfl ?_
  refine wl_nil ?_
  refine e_seq ?_
  refine w_seq ?_
  refine w_region ?_
  refine o_bsl (vs := [_, _]) ([[42], [98]] : List (Str)) enc_s Try.underlying56 ty_9 rfl rfl rfl rfl rfl rfl (fun As7 => ?_)
  refine o_callq rfl ent_39 rfl (c_host16 _ _ _ (by decide)) (fun w hw => (rd_cons (rd_Ls 0 rfl hw) rd_nil)) ?_
  refine o_y (y_field fa_48_4 rfl) rfl rfl ?_
  refine o_store ty_22 rfl rfl rfl (.s (.z)) rfl rfl rfl rfl ?_
  refine wl_nil ?_
  refine e_seq ?_
  refine w_seq ?_
  refine w_region ?_
  refine o_callr2 rfl ent_40 rfl c_fixed16 (fun w hw => rd_nil) (fun ⟨A7, c7, B7, d7⟩ => ?_)
  refine o_alloc ty_48 rfl rfl (fun b9 => ?_)
  refine o_store ty_48 rfl rfl rfl .z rfl rfl rfl rfl ?_
  refine wl_nil ?_
  refine e_seq ?_
  refine w_seq ?_
  refine w_region ?_
  refine o_bsl (vs := [_, _]) ([(443 : Int), 80] : List (Int)) enc_i Try.underlying34 ty_3 rfl rfl rfl rfl rfl rfl (fun As10 => ?_)
  refine o_y (y_field fa_48_5 rfl) rfl rfl ?_
  refine o_store ty_34 rfl rfl rfl (.s (.z)) rfl rfl rfl rfl ?_
  refine wl_nil ?_
  refine e_seq ?_
  refine w_seq ?_
  refine w_region ?_
  refine o_callr2 rfl ent_40 rfl c_fixed16 (fun w hw => rd_nil) (fun ⟨A10, c10, B10, d10⟩ => ?_)
  refine o_alloc ty_48 rfl rfl (fun b12 => ?_)
  refine o_store ty_48 rfl rfl rfl .z rfl rfl rfl rfl ?_
  refine wl_nil ?_
  refine e_seq ?_
  refine w_seq ?_
  refine w_draw 7 rfl mixed ?_
  refine a_take (i := 0) rfl wanted_none (y_field fa_48_3 rfl) (fun w h => h) (fun w h => h) rfl (pk_seq pk_fn) (by as_aux_lemma => kernel_rfl) rfl ?_
  refine a_take (i := 1) rfl wanted_none (y_loadr 0 ty_45 rfl rfl rfl) (fun w h => h) (fun w h => h) rfl (pk_seq pk_fn) (by as_aux_lemma => kernel_rfl) rfl ?_
  refine a_take (i := 2) rfl wanted_none (y_field fa_48_3 rfl) (fun w h => h) (fun w h => h) rfl (pk_seq pk_fn) (by as_aux_lemma => kernel_rfl) rfl ?_
  refine a_take (i := 3) rfl wanted_none (y_loadr 0 ty_45 rfl rfl rfl) (fun w h => h) (fun w h => h) rfl (pk_seq pk_fn) (by as_aux_lemma => kernel_rfl) rfl ?_
  refine a_take (i := 4) rfl wanted_none (y_ixm (k := 0) Try.underlying45 ty_54 rfl rfl (rs_L 2 rfl) rfl (by as_aux_lemma => decide +kernel)) (fun w h => h) (fun w h => h) rfl (pk_seq pk_fn) (by as_aux_lemma => kernel_rfl) rfl ?_
  refine a_take (i := 5) rfl wanted_none (y_ldsm0 (k := 0) enc_ad ad0 ty_54 rfl (rs_L 2 rfl) (by as_aux_lemma => decide +kernel) rfl rfl rfl) (fun w h => h) (fun w h => h) rfl (pk_seq pk_fn) (by as_aux_lemma => kernel_rfl) rfl ?_
  refine a_take (i := 6) rfl wanted_none (y_ixm (k := 1) Try.underlying45 ty_54 rfl rfl (rs_L 2 rfl) rfl (by as_aux_lemma => decide +kernel)) (fun w h => h) (fun w h => h) rfl (pk_seq pk_fn) (by as_aux_lemma => kernel_rfl) rfl ?_
  refine a_one (i := 7) rfl rfl rfl (fun _ _ _ => tame_op (by as_aux_lemma => kernel_rfl)) (by as_aux_lemma => kernel_rfl) rfl ?_
  refine o_stm0 (k := 1) enc_ad ad0 (Ad.mk false 0 16909060) ty_54 rfl rfl rfl (.s (.s (.z))) rfl (by as_aux_lemma => decide +kernel) rfl rfl rfl ?_
  refine wl_nil ?_
  refine e_tail rfl ?_
  refine a_done (by as_aux_lemma => kernel_rfl) ?_
  refine e_seq ?_
  refine w_seq ?_
  refine w_draw 5 rfl mixed ?_
  refine a_take (i := 0) rfl wanted_none (y_loadrs 11 ty_48 rfl rfl rfl rfl) (fun w h => h) (fun w h => h) rfl (pk_seq pk_fn) (by as_aux_lemma => kernel_rfl) rfl ?_
  refine a_one (i := 1) rfl rfl rfl (fun _ _ _ => tame_op (by as_aux_lemma => kernel_rfl)) (by as_aux_lemma => kernel_rfl) rfl ?_
  refine o_bsl (vs := [_]) ([[113]] : List (Str)) enc_s Try.underlying56 ty_9 rfl rfl rfl rfl rfl rfl (fun As13 => ?_)
  refine wl_nil ?_
  refine e_one (fun w h => h.weak (.cons _ (List.Sublist.refl _)) (fun s hs => hs)) ?_
  refine a_one (i := 2) rfl rfl rfl (tame_call rfl ent_39) (by as_aux_lemma => kernel_rfl) rfl ?_
  refine o_callq rfl ent_39 rfl (c_host16 _ _ _ (by decide)) (fun w hw => (rd_cons (rd_Ls 0 rfl hw) rd_nil)) ?_
  refine wl_nil ?_
  refine e_one (fun w h => h.weak (.cons _ (List.Sublist.refl _)) (fun s hs => hs)) ?_
  refine a_one (i := 3) rfl rfl rfl (tame_call rfl ent_31) (by as_aux_lemma => kernel_rfl) rfl ?_
  refine o_callr1 rfl ent_31 rfl (c_entry_Records exA _ _ _ _ nq 5 _ _ [] (by decide) (by decide) (by decide) (by decide) (by decide) (by decide)) (fun w hw => (rd_cons (rd_none) (rd_cons (rd_none) (rd_cons (rd_none) rd_nil)))) (fun ⟨A13, c13⟩ => ?_)
  refine wl_nil ?_
  refine e_one (fun w h => h.weak (.cons _ (.cons _ (List.Sublist.refl _))) (fun s hs => hs)) ?_
  refine a_take (i := 4) rfl wanted_none (y_assign rfl) (fun w h => h.weak (.cons _ (.cons _ (List.Sublist.refl _))) (fun s hs => hs)) (fun w h => h) rfl (pk_seq pk_fn) (by as_aux_lemma => kernel_rfl) rfl ?_
  refine a_done (by as_aux_lemma => kernel_rfl) ?_
  refine e_seq ?_
  refine w_joinX (σ := Option Addr × Nat) (fun q => [(7, .slice q.1 (recs exB nqx [Ad.mk false 0 9] 1).length q.2)]) (fun q => [Ch.ls q.1 q.2 60 16 rcC (recs exB nqx [Ad.mk false 0 9] 1)]) (fun q => ?_) (fun J12 => ?_)
  · skip
    refine w_seq ?_
    refine w_region ?_
    refine o_callr2 rfl ent_40 rfl c_fixed16 (fun w hw => rd_nil) (fun ⟨A14, c14, B14, d14⟩ => ?_)
    refine o_callr2 rfl ent_41 rfl (c_entry_Copy fixE _ _ _ _ (by decide) (by decide)) (fun w hw => (rd_cons (rd_Ls 1 rfl hw) (rd_cons (rd_Ls 0 rfl hw) rd_nil))) (fun ⟨A15, c15, B15, d15⟩ => ?_)
    refine o_alloc ty_48 rfl rfl (fun b17 => ?_)
    refine o_store ty_48 rfl rfl rfl .z rfl rfl rfl rfl ?_
    refine wl_nil ?_
    refine e_seq ?_
    refine w_seq ?_
    refine w_region ?_
    refine o_y (y_field fa_48_3 rfl) rfl rfl ?_
    refine o_y (y_loadr 0 ty_45 rfl rfl rfl) rfl rfl ?_
    refine o_y (y_ixm (k := 0) Try.underlying45 ty_54 rfl rfl (rs_L 2 rfl) rfl (by as_aux_lemma => decide +kernel)) rfl rfl ?_
    refine o_y (y_field fa_54_2 rfl) rfl rfl ?_
    refine o_stm 2 (k := 0) enc_ad ad0 (Ad.mk false 0 5) ty_24 rfl rfl rfl (.s (.s (.z))) rfl (by as_aux_lemma => decide +kernel) rfl rfl rfl ?_
    refine wl_nil ?_
    refine e_seq ?_
    refine w_seq ?_
    refine w_draw 94 rfl mixed ?_
    refine a_one (i := 0) rfl rfl rfl (tame_call rfl ent_29) (by as_aux_lemma => kernel_rfl) rfl ?_
    refine o_callp rfl ent_29 c_lives16 rfl ?_
    refine wl_nil ?_
    refine e_one (fun w h => h) ?_
    refine wa_as (t := 50) (.bool true) rfl (congrArg Value.bool rfl) ?_
    refine a_take (i := 1) rfl wanted_none (y_move rfl) (fun w h => h) (fun w h => h) rfl (pk_seq pk_fn) (by as_aux_lemma => kernel_rfl) rfl ?_
    refine a_take (i := 2) rfl (wanted_yes rfl rfl) (y_loadrs 19 ty_48 rfl rfl rfl rfl) (fun w h => h) (fun w h => h) rfl (pk_seq pk_fn) (by as_aux_lemma => kernel_rfl) rfl ?_
    refine a_one (i := 3) rfl rfl rfl (tame_call rfl ent_34) (by as_aux_lemma => kernel_rfl) rfl ?_
    refine wl_gyes rfl rfl ?_
    refine o_callq rfl ent_34 rfl (c_entry_Check exA _ _ _ _ (by decide) (by decide) (by decide) (by decide)) (fun w hw => (rd_cons (rd_none) (rd_cons (rd_none) rd_nil))) ?_
    refine wl_nil ?_
    refine e_one (fun w h => h) ?_
    refine a_take (i := 4) rfl (wanted_yes rfl rfl) (y_eql rfl rfl) (fun w h => h) (fun w h => h) rfl (pk_seq pk_fn) (by as_aux_lemma => kernel_rfl) rfl ?_
    refine wa_at (t := 54) rfl (by as_aux_lemma => decide +kernel) ?_
    refine a_take (i := 5) rfl wanted_none (y_pick_t rfl rfl) (fun w h => h) (fun w h => h) rfl (pk_seq pk_fn) (by as_aux_lemma => kernel_rfl) rfl ?_
    refine a_take (i := 6) rfl wanted_none (y_move rfl) (fun w h => h) (fun w h => h) rfl (pk_seq pk_fn) (by as_aux_lemma => kernel_rfl) rfl ?_
    refine a_take (i := 7) rfl (wanted_yes rfl rfl) (y_loadrs 19 ty_48 rfl rfl rfl rfl) (fun w h => h) (fun w h => h) rfl (pk_seq pk_fn) (by as_aux_lemma => kernel_rfl) rfl ?_
    refine a_many (js := [8, 9]) (by as_aux_lemma => kernel_rfl) rfl ?_
    refine wr_cons (i := 8) rfl rfl rfl (tame_call rfl ent_38) rfl ?_ ?_
    · skip
      refine wl_gyes rfl rfl ?_
      refine o_callp rfl ent_38 (c_entry_Key exA _ _ _ _ (by decide)) rfl ?_
      refine wl_nil ?_
      refine e_one (fun w h => h) ?_
      refine a_one (i := 9) rfl rfl rfl (fun _ _ _ => tame_op (by as_aux_lemma => kernel_rfl)) (by as_aux_lemma => kernel_rfl) rfl ?_
      refine wl_gyes rfl rfl ?_
      refine o_bsl (vs := [_]) ([[97]] : List (Str)) enc_s Try.underlying56 ty_9 rfl rfl rfl rfl rfl rfl (fun As18 => ?_)
      refine wl_nil ?_
      refine e_one (fun w h => h.weak (.cons _ (List.Sublist.refl _)) (fun s hs => hs)) ?_
      refine a_one (i := 10) rfl rfl rfl (tame_call rfl ent_39) (by as_aux_lemma => kernel_rfl) rfl ?_
      refine wl_gyes rfl rfl ?_
      refine o_callq rfl ent_39 rfl (c_host16 _ _ _ (by decide)) (fun w hw => (rd_cons (rd_Ls 0 rfl hw) rd_nil)) ?_
      refine wl_nil ?_
      refine e_one (fun w h => h.weak (.cons _ (List.Sublist.refl _)) (fun s hs => hs)) ?_
      refine a_take (i := 11) rfl (wanted_yes rfl rfl) (y_eqls rfl rfl) (fun w h => h.weak (.cons _ (List.Sublist.refl _)) (fun s hs => hs)) (fun w h => h) rfl (pk_seq pk_fn) (by as_aux_lemma => kernel_rfl) rfl ?_
      refine wa_at (t := 61) rfl (by as_aux_lemma => decide +kernel) ?_
      refine a_take (i := 12) rfl wanted_none (y_pick_t rfl rfl) (fun w h => h.weak (.cons _ (List.Sublist.refl _)) (fun s hs => hs)) (fun w h => h) rfl (pk_seq pk_fn) (by as_aux_lemma => kernel_rfl) rfl ?_
      refine a_take (i := 13) rfl wanted_none (y_move rfl) (fun w h => h.weak (.cons _ (List.Sublist.refl _)) (fun s hs => hs)) (fun w h => h) rfl (pk_seq pk_fn) (by as_aux_lemma => kernel_rfl) rfl ?_
      refine a_take (i := 14) rfl (wanted_yes rfl rfl) (y_loadrs 17 ty_48 rfl rfl rfl rfl) (fun w h => h.weak (.cons _ (List.Sublist.refl _)) (fun s hs => hs)) (fun w h => h) rfl (pk_seq pk_fn) (by as_aux_lemma => kernel_rfl) rfl ?_
      refine a_one (i := 15) rfl rfl rfl (tame_call rfl ent_34) (by as_aux_lemma => kernel_rfl) rfl ?_
      refine wl_gyes rfl rfl ?_
      refine o_callq rfl ent_34 rfl (c_entry_Check exB _ _ _ _ (by decide) (by decide) (by decide) (by decide)) (fun w hw => (rd_cons (rd_none) (rd_cons (rd_none) rd_nil))) ?_
      refine wl_nil ?_
      refine e_one (fun w h => h.weak (.cons _ (List.Sublist.refl _)) (fun s hs => hs)) ?_
      refine a_take (i := 16) rfl (wanted_yes rfl rfl) (y_eql rfl rfl) (fun w h => h.weak (.cons _ (List.Sublist.refl _)) (fun s hs => hs)) (fun w h => h) rfl (pk_seq pk_fn) (by as_aux_lemma => kernel_rfl) rfl ?_
      refine wa_at (t := 66) rfl (by as_aux_lemma => decide +kernel) ?_
      refine a_take (i := 17) rfl wanted_none (y_pick_t rfl rfl) (fun w h => h.weak (.cons _ (List.Sublist.refl _)) (fun s hs => hs)) (fun w h => h) rfl (pk_seq pk_fn) (by as_aux_lemma => kernel_rfl) rfl ?_
      refine a_take (i := 18) rfl wanted_none (y_move rfl) (fun w h => h.weak (.cons _ (List.Sublist.refl _)) (fun s hs => hs)) (fun w h => h) rfl (pk_seq pk_fn) (by as_aux_lemma => kernel_rfl) rfl ?_
      refine a_take (i := 19) rfl (wanted_yes rfl rfl) (y_loadrs 16 ty_48 rfl rfl rfl rfl) (fun w h => h.weak (.cons _ (List.Sublist.refl _)) (fun s hs => hs)) (fun w h => h) rfl (pk_seq pk_fn) (by as_aux_lemma => kernel_rfl) rfl ?_
      refine a_one (i := 20) rfl rfl rfl (tame_call rfl ent_34) (by as_aux_lemma => kernel_rfl) rfl ?_
      refine wl_gyes rfl rfl ?_
      refine o_callq rfl ent_34 rfl (c_entry_Check exC _ _ _ _ (by decide) (by decide) (by decide) (by decide)) (fun w hw => (rd_cons (rd_none) (rd_cons (rd_none) rd_nil))) ?_
      refine wl_nil ?_
      refine e_one (fun w h => h.weak (.cons _ (List.Sublist.refl _)) (fun s hs => hs)) ?_
      refine a_take (i := 21) rfl (wanted_yes rfl rfl) (y_eql rfl rfl) (fun w h => h.weak (.cons _ (List.Sublist.refl _)) (fun s hs => hs)) (fun w h => h) rfl (pk_seq pk_fn) (by as_aux_lemma => kernel_rfl) rfl ?_
      refine wa_at (t := 71) rfl (by as_aux_lemma => decide +kernel) ?_
      refine a_take (i := 22) rfl wanted_none (y_pick_t rfl rfl) (fun w h => h.weak (.cons _ (List.Sublist.refl _)) (fun s hs => hs)) (fun w h => h) rfl (pk_seq pk_fn) (by as_aux_lemma => kernel_rfl) rfl ?_
      refine a_take (i := 23) rfl wanted_none (y_move rfl) (fun w h => h.weak (.cons _ (List.Sublist.refl _)) (fun s hs => hs)) (fun w h => h) rfl (pk_seq pk_fn) (by as_aux_lemma => kernel_rfl) rfl ?_
      refine a_take (i := 24) rfl (wanted_yes rfl rfl) (y_loadrs 12 ty_48 rfl rfl rfl rfl) (fun w h => h.weak (.cons _ (List.Sublist.refl _)) (fun s hs => hs)) (fun w h => h) rfl (pk_seq pk_fn) (by as_aux_lemma => kernel_rfl) rfl ?_
      refine a_one (i := 25) rfl rfl rfl (tame_call rfl ent_34) (by as_aux_lemma => kernel_rfl) rfl ?_
      refine wl_gyes rfl rfl ?_
      refine o_callq rfl ent_34 rfl (c_entry_Check exD _ _ _ _ (by decide) (by decide) (by decide) (by decide)) (fun w hw => (rd_cons (rd_Ls 15 rfl hw) (rd_cons (rd_Ls 12 rfl hw) rd_nil))) ?_
      refine wl_nil ?_
      refine e_one (fun w h => h.weak (.cons _ (List.Sublist.refl _)) (fun s hs => hs)) ?_
      refine a_take (i := 26) rfl (wanted_yes rfl rfl) (y_eql rfl rfl) (fun w h => h.weak (.cons _ (List.Sublist.refl _)) (fun s hs => hs)) (fun w h => h) rfl (pk_seq pk_fn) (by as_aux_lemma => kernel_rfl) rfl ?_
      refine wa_at (t := 76) rfl (by as_aux_lemma => decide +kernel) ?_
      refine a_take (i := 27) rfl wanted_none (y_pick_t rfl rfl) (fun w h => h.weak (.cons _ (List.Sublist.refl _)) (fun s hs => hs)) (fun w h => h) rfl (pk_seq pk_fn) (by as_aux_lemma => kernel_rfl) rfl ?_
      refine a_take (i := 28) rfl wanted_none (y_move rfl) (fun w h => h.weak (.cons _ (List.Sublist.refl _)) (fun s hs => hs)) (fun w h => h) rfl (pk_seq pk_fn) (by as_aux_lemma => kernel_rfl) rfl ?_
      refine a_take (i := 29) rfl (wanted_yes rfl rfl) (y_loadrs 8 ty_48 rfl rfl rfl rfl) (fun w h => h.weak (.cons _ (List.Sublist.refl _)) (fun s hs => hs)) (fun w h => h) rfl (pk_seq pk_fn) (by as_aux_lemma => kernel_rfl) rfl ?_
      refine a_one (i := 30) rfl rfl rfl (tame_call rfl ent_34) (by as_aux_lemma => kernel_rfl) rfl ?_
      refine wl_gyes rfl rfl ?_
      refine o_callq rfl ent_34 rfl (c_entry_Check exE _ _ _ _ (by decide) (by decide) (by decide) (by decide)) (fun w hw => (rd_cons (rd_Ls 11 rfl hw) (rd_cons (rd_Ls 10 rfl hw) rd_nil))) ?_
      refine wl_nil ?_
      refine e_one (fun w h => h.weak (.cons _ (List.Sublist.refl _)) (fun s hs => hs)) ?_
      refine a_take (i := 31) rfl (wanted_yes rfl rfl) (y_eql rfl rfl) (fun w h => h.weak (.cons _ (List.Sublist.refl _)) (fun s hs => hs)) (fun w h => h) rfl (pk_seq pk_fn) (by as_aux_lemma => kernel_rfl) rfl ?_
      refine wa_at (t := 81) rfl (by as_aux_lemma => decide +kernel) ?_
      refine a_take (i := 32) rfl wanted_none (y_pick_t rfl rfl) (fun w h => h.weak (.cons _ (List.Sublist.refl _)) (fun s hs => hs)) (fun w h => h) rfl (pk_seq pk_fn) (by as_aux_lemma => kernel_rfl) rfl ?_
      refine a_take (i := 33) rfl wanted_none (y_move rfl) (fun w h => h.weak (.cons _ (List.Sublist.refl _)) (fun s hs => hs)) (fun w h => h) rfl (pk_seq pk_fn) (by as_aux_lemma => kernel_rfl) rfl ?_
      refine a_take (i := 34) rfl (wanted_yes rfl rfl) (y_build rfl (bu_48)) (fun w h => h.weak (.cons _ (List.Sublist.refl _)) (fun s hs => hs)) (fun w h => h) rfl (pk_seq pk_fn) (by as_aux_lemma => kernel_rfl) rfl ?_
      refine a_one (i := 35) rfl rfl rfl (tame_call rfl ent_34) (by as_aux_lemma => kernel_rfl) rfl ?_
      refine wl_gyes rfl rfl ?_
      refine o_callq rfl ent_34 rfl (c_entry_Check ex0 _ _ _ _ (by decide) (by decide) (by decide) (by decide)) (fun w hw => (rd_cons (rd_none) (rd_cons (rd_none) rd_nil))) ?_
      refine wl_nil ?_
      refine e_one (fun w h => h.weak (.cons _ (List.Sublist.refl _)) (fun s hs => hs)) ?_
      refine a_take (i := 36) rfl (wanted_yes rfl rfl) (y_eql rfl rfl) (fun w h => h.weak (.cons _ (List.Sublist.refl _)) (fun s hs => hs)) (fun w h => h) rfl (pk_seq pk_fn) (by as_aux_lemma => kernel_rfl) rfl ?_
      refine wa_at (t := 86) rfl (by as_aux_lemma => decide +kernel) ?_
      refine a_take (i := 37) rfl wanted_none (y_pick_t rfl rfl) (fun w h => h.weak (.cons _ (List.Sublist.refl _)) (fun s hs => hs)) (fun w h => h) rfl (pk_seq pk_fn) (by as_aux_lemma => kernel_rfl) rfl ?_
      refine a_take (i := 38) rfl wanted_none (y_move rfl) (fun w h => h.weak (.cons _ (List.Sublist.refl _)) (fun s hs => hs)) (fun w h => h) rfl (pk_seq pk_fn) (by as_aux_lemma => kernel_rfl) rfl ?_
      refine a_take (i := 39) rfl (wanted_yes rfl rfl) (y_build rfl (bu_48_0 _)) (fun w h => h.weak (.cons _ (List.Sublist.refl _)) (fun s hs => hs)) (fun w h => h) rfl (pk_seq pk_fn) (by as_aux_lemma => kernel_rfl) rfl ?_
      refine a_one (i := 40) rfl rfl rfl (tame_call rfl ent_34) (by as_aux_lemma => kernel_rfl) rfl ?_
      refine wl_gyes rfl rfl ?_
      refine o_callq rfl ent_34 rfl (c_entry_Check exX _ _ _ _ (by decide) (by decide) (by decide) (by decide)) (fun w hw => (rd_cons (rd_none) (rd_cons (rd_none) rd_nil))) ?_
      refine wl_nil ?_
      refine e_one (fun w h => h.weak (.cons _ (List.Sublist.refl _)) (fun s hs => hs)) ?_
      refine a_take (i := 41) rfl (wanted_yes rfl rfl) (y_eql rfl rfl) (fun w h => h.weak (.cons _ (List.Sublist.refl _)) (fun s hs => hs)) (fun w h => h) rfl (pk_seq pk_fn) (by as_aux_lemma => kernel_rfl) rfl ?_
      refine wa_at (t := 91) rfl (by as_aux_lemma => decide +kernel) ?_
      refine a_take (i := 42) rfl wanted_none (y_pick_t rfl rfl) (fun w h => h.weak (.cons _ (List.Sublist.refl _)) (fun s hs => hs)) (fun w h => h) rfl (pk_seq pk_fn) (by as_aux_lemma => kernel_rfl) rfl ?_
      refine a_take (i := 43) rfl wanted_none (y_move rfl) (fun w h => h.weak (.cons _ (List.Sublist.refl _)) (fun s hs => hs)) (fun w h => h) rfl (pk_seq pk_fn) (by as_aux_lemma => kernel_rfl) rfl ?_
      refine a_take (i := 44) rfl (wanted_yes rfl rfl) (y_move rfl) (fun w h => h.weak (.cons _ (List.Sublist.refl _)) (fun s hs => hs)) (fun w h => h) rfl (pk_seq pk_fn) (by as_aux_lemma => kernel_rfl) rfl ?_
      refine a_take (i := 45) rfl (wanted_yes rfl rfl) (y_lenl Try.underlying50 rfl) (fun w h => h.weak (.cons _ (List.Sublist.refl _)) (fun s hs => hs)) (fun w h => h) rfl (pk_seq pk_fn) (by as_aux_lemma => kernel_rfl) rfl ?_
      refine a_take (i := 46) rfl (wanted_yes rfl rfl) (y_eql rfl rfl) (fun w h => h.weak (.cons _ (List.Sublist.refl _)) (fun s hs => hs)) (fun w h => h) rfl (pk_seq pk_fn) (by as_aux_lemma => kernel_rfl) rfl ?_
      refine wa_at (t := 96) rfl (by as_aux_lemma => decide +kernel) ?_
      refine a_take (i := 47) rfl wanted_none (y_pick_t rfl rfl) (fun w h => h.weak (.cons _ (List.Sublist.refl _)) (fun s hs => hs)) (fun w h => h) rfl (pk_seq pk_fn) (by as_aux_lemma => kernel_rfl) rfl ?_
      refine a_take (i := 48) rfl wanted_none (y_move rfl) (fun w h => h.weak (.cons _ (List.Sublist.refl _)) (fun s hs => hs)) (fun w h => h) rfl (pk_seq pk_fn) (by as_aux_lemma => kernel_rfl) rfl ?_
      refine a_take (i := 49) rfl (wanted_yes rfl rfl) (y_move rfl) (fun w h => h.weak (.cons _ (List.Sublist.refl _)) (fun s hs => hs)) (fun w h => h) rfl (pk_seq pk_fn) (by as_aux_lemma => kernel_rfl) rfl ?_
      refine a_take (i := 50) rfl (wanted_yes rfl rfl) (y_ixm (k := 0) Try.underlying50 ty_60 rfl rfl (rs_L 6 rfl) rfl (by as_aux_lemma => decide +kernel)) (fun w h => h.weak (.cons _ (List.Sublist.refl _)) (fun s hs => hs)) (fun w h => h) rfl (pk_seq pk_fn) (by as_aux_lemma => kernel_rfl) rfl ?_
      refine a_take (i := 51) rfl (wanted_yes rfl rfl) (y_field fa_60_0 rfl) (fun w h => h.weak (.cons _ (List.Sublist.refl _)) (fun s hs => hs)) (fun w h => h) rfl (pk_seq pk_fn) (by as_aux_lemma => kernel_rfl) rfl ?_
      refine a_take (i := 52) rfl (wanted_yes rfl rfl) (y_ldm0 (k := 0) enc_rc rc0 ty_22 rfl (rs_L 6 rfl) (by as_aux_lemma => decide +kernel) rfl rfl) (fun w h => h.weak (.cons _ (List.Sublist.refl _)) (fun s hs => hs)) (fun w h => h) rfl (pk_seq pk_fn) (by as_aux_lemma => kernel_rfl) rfl ?_
      refine a_one (i := 53) rfl rfl rfl (fun _ _ _ => tame_op (by as_aux_lemma => kernel_rfl)) (by as_aux_lemma => kernel_rfl) rfl ?_
      refine wl_gyes rfl rfl ?_
      refine o_bsl (vs := [_]) ([[113]] : List (Str)) enc_s Try.underlying56 ty_9 rfl rfl rfl rfl rfl rfl (fun As19 => ?_)
      refine wl_nil ?_
      refine e_one (fun w h => h.weak (.cons _ (.cons _ (List.Sublist.refl _))) (fun s hs => hs)) ?_
      refine a_one (i := 54) rfl rfl rfl (tame_call rfl ent_39) (by as_aux_lemma => kernel_rfl) rfl ?_
      refine wl_gyes rfl rfl ?_
      refine o_callq rfl ent_39 rfl (c_host16 _ _ _ (by decide)) (fun w hw => (rd_cons (rd_Ls 0 rfl hw) rd_nil)) ?_
      refine wl_nil ?_
      refine e_one (fun w h => h.weak (.cons _ (.cons _ (List.Sublist.refl _))) (fun s hs => hs)) ?_
      refine a_take (i := 55) rfl (wanted_yes rfl rfl) (y_eqls rfl rfl) (fun w h => h.weak (.cons _ (.cons _ (List.Sublist.refl _))) (fun s hs => hs)) (fun w h => h) rfl (pk_seq pk_fn) (by as_aux_lemma => kernel_rfl) rfl ?_
      refine wa_at (t := 105) rfl (by as_aux_lemma => decide +kernel) ?_
      refine a_take (i := 56) rfl wanted_none (y_pick_t rfl rfl) (fun w h => h.weak (.cons _ (.cons _ (List.Sublist.refl _))) (fun s hs => hs)) (fun w h => h) rfl (pk_seq pk_fn) (by as_aux_lemma => kernel_rfl) rfl ?_
      refine a_take (i := 57) rfl wanted_none (y_move rfl) (fun w h => h.weak (.cons _ (.cons _ (List.Sublist.refl _))) (fun s hs => hs)) (fun w h => h) rfl (pk_seq pk_fn) (by as_aux_lemma => kernel_rfl) rfl ?_
      refine a_take (i := 58) rfl (wanted_yes rfl rfl) (y_move rfl) (fun w h => h.weak (.cons _ (.cons _ (List.Sublist.refl _))) (fun s hs => hs)) (fun w h => h) rfl (pk_seq pk_fn) (by as_aux_lemma => kernel_rfl) rfl ?_
      refine a_take (i := 59) rfl (wanted_yes rfl rfl) (y_ixm (k := 0) Try.underlying50 ty_60 rfl rfl (rs_L 6 rfl) rfl (by as_aux_lemma => decide +kernel)) (fun w h => h.weak (.cons _ (.cons _ (List.Sublist.refl _))) (fun s hs => hs)) (fun w h => h) rfl (pk_seq pk_fn) (by as_aux_lemma => kernel_rfl) rfl ?_
      refine a_take (i := 60) rfl (wanted_yes rfl rfl) (y_field fa_60_4 rfl) (fun w h => h.weak (.cons _ (.cons _ (List.Sublist.refl _))) (fun s hs => hs)) (fun w h => h) rfl (pk_seq pk_fn) (by as_aux_lemma => kernel_rfl) rfl ?_
      refine a_take (i := 61) rfl (wanted_yes rfl rfl) (y_field fa_58_1 rfl) (fun w h => h.weak (.cons _ (.cons _ (List.Sublist.refl _))) (fun s hs => hs)) (fun w h => h) rfl (pk_seq pk_fn) (by as_aux_lemma => kernel_rfl) rfl ?_
      refine a_take (i := 62) rfl (wanted_yes rfl rfl) (y_ldm 7 (k := 0) enc_rc rc0 ty_22 rfl (rs_L 6 rfl) (by as_aux_lemma => decide +kernel) rfl rfl) (fun w h => h.weak (.cons _ (.cons _ (List.Sublist.refl _))) (fun s hs => hs)) (fun w h => h) rfl (pk_seq pk_fn) (by as_aux_lemma => kernel_rfl) rfl ?_
      refine a_one (i := 63) rfl rfl rfl (fun _ _ _ => tame_op (by as_aux_lemma => kernel_rfl)) (by as_aux_lemma => kernel_rfl) rfl ?_
      refine wl_gyes rfl rfl ?_
      refine o_bsl (vs := [_]) ([[98]] : List (Str)) enc_s Try.underlying56 ty_9 rfl rfl rfl rfl rfl rfl (fun As20 => ?_)
      refine wl_nil ?_
      refine e_one (fun w h => h.weak (.cons _ (.cons _ (.cons _ (List.Sublist.refl _)))) (fun s hs => hs)) ?_
      refine a_one (i := 64) rfl rfl rfl (tame_call rfl ent_39) (by as_aux_lemma => kernel_rfl) rfl ?_
      refine wl_gyes rfl rfl ?_
      refine o_callq rfl ent_39 rfl (c_host16 _ _ _ (by decide)) (fun w hw => (rd_cons (rd_Ls 0 rfl hw) rd_nil)) ?_
      refine wl_nil ?_
      refine e_one (fun w h => h.weak (.cons _ (.cons _ (.cons _ (List.Sublist.refl _)))) (fun s hs => hs)) ?_
      refine a_take (i := 65) rfl (wanted_yes rfl rfl) (y_eqls rfl rfl) (fun w h => h.weak (.cons _ (.cons _ (.cons _ (List.Sublist.refl _)))) (fun s hs => hs)) (fun w h => h) rfl (pk_seq pk_fn) (by as_aux_lemma => kernel_rfl) rfl ?_
      refine wa_at (t := 115) rfl (by as_aux_lemma => decide +kernel) ?_
      refine a_take (i := 66) rfl wanted_none (y_pick_t rfl rfl) (fun w h => h.weak (.cons _ (.cons _ (.cons _ (List.Sublist.refl _)))) (fun s hs => hs)) (fun w h => h) rfl (pk_seq pk_fn) (by as_aux_lemma => kernel_rfl) rfl ?_
      refine a_take (i := 67) rfl wanted_none (y_move rfl) (fun w h => h.weak (.cons _ (.cons _ (.cons _ (List.Sublist.refl _)))) (fun s hs => hs)) (fun w h => h) rfl (pk_seq pk_fn) (by as_aux_lemma => kernel_rfl) rfl ?_
      refine a_take (i := 68) rfl (wanted_yes rfl rfl) (y_move rfl) (fun w h => h.weak (.cons _ (.cons _ (.cons _ (List.Sublist.refl _)))) (fun s hs => hs)) (fun w h => h) rfl (pk_seq pk_fn) (by as_aux_lemma => kernel_rfl) rfl ?_
      refine a_take (i := 69) rfl (wanted_yes rfl rfl) (y_lenl Try.underlying50 rfl) (fun w h => h.weak (.cons _ (.cons _ (.cons _ (List.Sublist.refl _)))) (fun s hs => hs)) (fun w h => h) rfl (pk_seq pk_fn) (by as_aux_lemma => kernel_rfl) rfl ?_
      refine a_take (i := 70) rfl (wanted_yes rfl rfl) (y_eql rfl rfl) (fun w h => h.weak (.cons _ (.cons _ (.cons _ (List.Sublist.refl _)))) (fun s hs => hs)) (fun w h => h) rfl (pk_seq pk_fn) (by as_aux_lemma => kernel_rfl) rfl ?_
      refine wa_at (t := 120) rfl (by as_aux_lemma => decide +kernel) ?_
      refine a_take (i := 71) rfl wanted_none (y_pick_t rfl rfl) (fun w h => h.weak (.cons _ (.cons _ (.cons _ (List.Sublist.refl _)))) (fun s hs => hs)) (fun w h => h) rfl (pk_seq pk_fn) (by as_aux_lemma => kernel_rfl) rfl ?_
      refine a_take (i := 72) rfl wanted_none (y_move rfl) (fun w h => h.weak (.cons _ (.cons _ (.cons _ (List.Sublist.refl _)))) (fun s hs => hs)) (fun w h => h) rfl (pk_seq pk_fn) (by as_aux_lemma => kernel_rfl) rfl ?_
      refine a_take (i := 73) rfl (wanted_yes rfl rfl) (y_loadrs 17 ty_48 rfl rfl rfl rfl) (fun w h => h.weak (.cons _ (.cons _ (.cons _ (List.Sublist.refl _)))) (fun s hs => hs)) (fun w h => h) rfl (pk_seq pk_fn) (by as_aux_lemma => kernel_rfl) rfl ?_
      refine a_one (i := 74) rfl rfl rfl (fun _ _ _ => tame_op (by as_aux_lemma => kernel_rfl)) (by as_aux_lemma => kernel_rfl) rfl ?_
      refine wl_gyes rfl rfl ?_
      refine o_bsl (vs := [_, _]) ([[113], [120]] : List (Str)) enc_s Try.underlying56 ty_9 rfl rfl rfl rfl rfl rfl (fun As21 => ?_)
      refine wl_nil ?_
      refine e_one (fun w h => h.weak (.cons _ (.cons _ (.cons _ (.cons _ (List.Sublist.refl _))))) (fun s hs => hs)) ?_
      refine a_one (i := 75) rfl rfl rfl (tame_call rfl ent_39) (by as_aux_lemma => kernel_rfl) rfl ?_
      refine wl_gyes rfl rfl ?_
      refine o_callq rfl ent_39 rfl (c_host16 _ _ _ (by decide)) (fun w hw => (rd_cons (rd_Ls 0 rfl hw) rd_nil)) ?_
      refine wl_nil ?_
      refine e_one (fun w h => h.weak (.cons _ (.cons _ (.cons _ (.cons _ (List.Sublist.refl _))))) (fun s hs => hs)) ?_
      refine a_one (i := 76) rfl rfl rfl (tame_call rfl ent_31) (by as_aux_lemma => kernel_rfl) rfl ?_
      refine wl_gyes rfl rfl ?_
      refine o_callr1 rfl ent_31 rfl (c_entry_Records exB _ _ _ _ nqx 1 _ _ [] (by decide) (by decide) (by decide) (by decide) (by decide) (by decide)) (fun w hw => (rd_cons (rd_none) (rd_cons (rd_none) (rd_cons (rd_none) rd_nil)))) (fun ⟨A21, c21⟩ => ?_)
      refine wl_nil ?_
      refine e_one (fun w h => h.weak (.cons _ (.cons _ (.cons _ (.cons _ (.cons _ (List.Sublist.refl _)))))) (fun s hs => hs)) ?_
      refine a_take (i := 77) rfl (wanted_yes rfl rfl) (y_lenl Try.underlying50 rfl) (fun w h => h.weak (.cons _ (.cons _ (.cons _ (.cons _ (.cons _ (List.Sublist.refl _)))))) (fun s hs => hs)) (fun w h => h) rfl (pk_seq pk_fn) (by as_aux_lemma => kernel_rfl) rfl ?_
      refine a_take (i := 78) rfl (wanted_yes rfl rfl) (y_eql rfl rfl) (fun w h => h.weak (.cons _ (.cons _ (.cons _ (.cons _ (.cons _ (List.Sublist.refl _)))))) (fun s hs => hs)) (fun w h => h) rfl (pk_seq pk_fn) (by as_aux_lemma => kernel_rfl) rfl ?_
      refine wa_at (t := 128) rfl (by as_aux_lemma => decide +kernel) ?_
      refine a_take (i := 79) rfl wanted_none (y_pick_t rfl rfl) (fun w h => h.weak (.cons _ (.cons _ (.cons _ (.cons _ (.cons _ (List.Sublist.refl _)))))) (fun s hs => hs)) (fun w h => h) rfl (pk_seq pk_fn) (by as_aux_lemma => kernel_rfl) rfl ?_
      refine a_take (i := 80) rfl wanted_none (y_move rfl) (fun w h => h.weak (.cons _ (.cons _ (.cons _ (.cons _ (.cons _ (List.Sublist.refl _)))))) (fun s hs => hs)) (fun w h => h) rfl (pk_seq pk_fn) (by as_aux_lemma => kernel_rfl) rfl ?_
      refine a_one (i := 81) rfl rfl rfl (tame_call rfl ent_40) (by as_aux_lemma => kernel_rfl) rfl ?_
      refine wl_gyes rfl rfl ?_
      refine o_callr2 rfl ent_40 rfl c_fixed16 (fun w hw => rd_nil) (fun ⟨A22, c22, B22, d22⟩ => ?_)
      refine wl_nil ?_
      refine e_one (fun w h => h.weak (.cons _ (.cons _ (.cons _ (.cons _ (.cons _ (.cons _ (.cons _ (List.Sublist.refl _)))))))) (fun s hs => hs)) ?_
      refine a_one (i := 82) rfl rfl rfl (tame_call rfl ent_40) (by as_aux_lemma => kernel_rfl) rfl ?_
      refine wl_gyes rfl rfl ?_
      refine o_callr2 rfl ent_40 rfl c_fixed16 (fun w hw => rd_nil) (fun ⟨A23, c23, B23, d23⟩ => ?_)
      refine wl_nil ?_
      refine e_one (fun w h => h.weak (.cons _ (.cons _ (.cons _ (.cons _ (.cons _ (.cons _ (.cons _ (.cons _ (.cons _ (List.Sublist.refl _)))))))))) (fun s hs => hs)) ?_
      refine a_one (i := 83) rfl rfl rfl (tame_call rfl ent_42) (by as_aux_lemma => kernel_rfl) rfl ?_
      refine wl_gyes rfl rfl ?_
      refine o_callq rfl ent_42 rfl (c_entry_Same fixE _ _ _ _ fixE _ _ _ _ (by decide) (by decide)) (fun w hw => (rd_cons (rd_Ls 3 rfl hw) (rd_cons (rd_Ls 2 rfl hw) (rd_cons (rd_Ls 1 rfl hw) (rd_cons (rd_Ls 0 rfl hw) rd_nil))))) ?_
      refine wl_nil ?_
      refine e_one (fun w h => h.weak (.cons _ (.cons _ (.cons _ (.cons _ (.cons _ (.cons _ (.cons _ (.cons _ (.cons _ (List.Sublist.refl _)))))))))) (fun s hs => hs)) ?_
      refine wa_as (t := 133) (.bool true) rfl (congrArg Value.bool (by as_aux_lemma => decide +kernel)) ?_
      refine a_take (i := 84) rfl wanted_none (y_pick_t rfl rfl) (fun w h => h.weak (.cons _ (.cons _ (.cons _ (.cons _ (.cons _ (.cons _ (.cons _ (.cons _ (.cons _ (List.Sublist.refl _)))))))))) (fun s hs => hs)) (fun w h => h) rfl (pk_seq pk_fn) (by as_aux_lemma => kernel_rfl) rfl ?_
      refine a_take (i := 85) rfl wanted_none (y_move rfl) (fun w h => h.weak (.cons _ (.cons _ (.cons _ (.cons _ (.cons _ (.cons _ (.cons _ (.cons _ (.cons _ (List.Sublist.refl _)))))))))) (fun s hs => hs)) (fun w h => h) rfl (pk_seq pk_fn) (by as_aux_lemma => kernel_rfl) rfl ?_
      refine a_take (i := 87) rfl (wanted_yes rfl rfl) (y_loadrs 0 ty_48 rfl rfl rfl rfl) (fun w h => h.weak (.cons _ (.cons _ (.cons _ (.cons _ (.cons _ (.cons _ (.cons _ (.cons _ (.cons _ (List.Sublist.refl _)))))))))) (fun s hs => hs)) (fun w h => h) rfl (pk_seq pk_fn) (by as_aux_lemma => kernel_rfl) rfl ?_
      refine a_one (i := 86) rfl rfl rfl (tame_call rfl ent_40) (by as_aux_lemma => kernel_rfl) rfl ?_
      refine wl_gyes rfl rfl ?_
      refine o_callr2 rfl ent_40 rfl c_fixed16 (fun w hw => rd_nil) (fun ⟨A24, c24, B24, d24⟩ => ?_)
      refine wl_nil ?_
      refine e_one (fun w h => h.weak (.cons _ (.cons _ (.cons _ (.cons _ (.cons _ (.cons _ (.cons _ (.cons _ (.cons _ (.cons _ (.cons _ (List.Sublist.refl _)))))))))))) (fun s hs => hs)) ?_
      refine a_one (i := 88) rfl rfl rfl (tame_call rfl ent_42) (by as_aux_lemma => kernel_rfl) rfl ?_
      refine wl_gyes rfl rfl ?_
      refine o_callq rfl ent_42 rfl (c_entry_Same fixE _ _ _ _ exF _ _ _ _ (by decide) (by decide)) (fun w hw => (rd_cons (rd_Ls 1 rfl hw) (rd_cons (rd_Ls 0 rfl hw) (rd_cons (rd_Ls 13 rfl hw) (rd_cons (rd_Ls 12 rfl hw) rd_nil))))) ?_
      refine wl_nil ?_
      refine e_one (fun w h => h.weak (.cons _ (.cons _ (.cons _ (.cons _ (.cons _ (.cons _ (.cons _ (.cons _ (.cons _ (.cons _ (.cons _ (List.Sublist.refl _)))))))))))) (fun s hs => hs)) ?_
      refine wa_as (t := 138) (.bool false) rfl (congrArg Value.bool (by as_aux_lemma => decide +kernel)) ?_
      refine a_take (i := 89) rfl (wanted_yes rfl rfl) (y_not rfl) (fun w h => h.weak (.cons _ (.cons _ (.cons _ (.cons _ (.cons _ (.cons _ (.cons _ (.cons _ (.cons _ (.cons _ (.cons _ (List.Sublist.refl _)))))))))))) (fun s hs => hs)) (fun w h => h) rfl (pk_seq pk_fn) (by as_aux_lemma => kernel_rfl) rfl ?_
      refine a_take (i := 90) rfl wanted_none (y_pick_t rfl rfl) (fun w h => h.weak (.cons _ (.cons _ (.cons _ (.cons _ (.cons _ (.cons _ (.cons _ (.cons _ (.cons _ (.cons _ (.cons _ (List.Sublist.refl _)))))))))))) (fun s hs => hs)) (fun w h => h) rfl (pk_seq pk_fn) (by as_aux_lemma => kernel_rfl) rfl ?_
      refine a_take (i := 91) rfl wanted_none (y_move rfl) (fun w h => h.weak (.cons _ (.cons _ (.cons _ (.cons _ (.cons _ (.cons _ (.cons _ (.cons _ (.cons _ (.cons _ (.cons _ (List.Sublist.refl _)))))))))))) (fun s hs => hs)) (fun w h => h) rfl (pk_seq pk_fn) (by as_aux_lemma => kernel_rfl) rfl ?_
      refine a_take (i := 92) rfl wanted_none (y_pick_t rfl rfl) (fun w h => h.weak (.cons _ (.cons _ (.cons _ (.cons _ (.cons _ (.cons _ (.cons _ (.cons _ (.cons _ (.cons _ (.cons _ (List.Sublist.refl _)))))))))))) (fun s hs => hs)) (fun w h => h) rfl (pk_seq pk_fn) (by as_aux_lemma => kernel_rfl) rfl ?_
      refine a_take (i := 93) rfl wanted_none (y_assign rfl) (fun w h => h.weak (.cons _ (.cons _ (.cons _ (.cons _ (.cons _ (.cons _ (.cons _ (.cons _ (.cons _ (.cons _ (.cons _ (List.Sublist.refl _)))))))))))) (fun s hs => hs)) (fun w h => h) rfl (pk_seq pk_fn) (by as_aux_lemma => kernel_rfl) rfl ?_
      refine a_done (by as_aux_lemma => kernel_rfl) ?_
      refine e_seq ?_
      refine w_ret ?_
      refine e_ret (ts := [0]) rfl rfl rfl (fun w hw => ?_)
      exact ⟨rfl, hw.base⟩
    refine wr_cons (i := 9) rfl rfl rfl (fun _ _ _ => tame_op (by as_aux_lemma => kernel_rfl)) rfl ?_ ?_
    · skip
      refine wl_gyes rfl rfl ?_
      refine o_bsl (vs := [_]) ([[97]] : List (Str)) enc_s Try.underlying56 ty_9 rfl rfl rfl rfl rfl rfl (fun As26 => ?_)
      refine wl_nil ?_
      refine e_one (fun w h => h.weak (.cons _ (List.Sublist.refl _)) (fun s hs => hs)) ?_
      refine a_one (i := 8) rfl rfl rfl (tame_call rfl ent_38) (by as_aux_lemma => kernel_rfl) rfl ?_
      refine wl_gyes rfl rfl ?_
      refine o_callp rfl ent_38 (c_entry_Key exA _ _ _ _ (by decide)) rfl ?_
      refine wl_nil ?_
      refine e_one (fun w h => h.weak (.cons _ (List.Sublist.refl _)) (fun s hs => hs)) ?_
      refine a_one (i := 10) rfl rfl rfl (tame_call rfl ent_39) (by as_aux_lemma => kernel_rfl) rfl ?_
      refine wl_gyes rfl rfl ?_
      refine o_callq rfl ent_39 rfl (c_host16 _ _ _ (by decide)) (fun w hw => (rd_cons (rd_Ls 0 rfl hw) rd_nil)) ?_
      refine wl_nil ?_
      refine e_one (fun w h => h.weak (.cons _ (List.Sublist.refl _)) (fun s hs => hs)) ?_
      refine a_take (i := 11) rfl (wanted_yes rfl rfl) (y_eqls rfl rfl) (fun w h => h.weak (.cons _ (List.Sublist.refl _)) (fun s hs => hs)) (fun w h => h) rfl (pk_seq pk_fn) (by as_aux_lemma => kernel_rfl) rfl ?_
      refine wa_at (t := 61) rfl (by as_aux_lemma => decide +kernel) ?_
      refine a_take (i := 12) rfl wanted_none (y_pick_t rfl rfl) (fun w h => h.weak (.cons _ (List.Sublist.refl _)) (fun s hs => hs)) (fun w h => h) rfl (pk_seq pk_fn) (by as_aux_lemma => kernel_rfl) rfl ?_
      refine a_take (i := 13) rfl wanted_none (y_move rfl) (fun w h => h.weak (.cons _ (List.Sublist.refl _)) (fun s hs => hs)) (fun w h => h) rfl (pk_seq pk_fn) (by as_aux_lemma => kernel_rfl) rfl ?_
      refine a_take (i := 14) rfl (wanted_yes rfl rfl) (y_loadrs 17 ty_48 rfl rfl rfl rfl) (fun w h => h.weak (.cons _ (List.Sublist.refl _)) (fun s hs => hs)) (fun w h => h) rfl (pk_seq pk_fn) (by as_aux_lemma => kernel_rfl) rfl ?_
      refine a_one (i := 15) rfl rfl rfl (tame_call rfl ent_34) (by as_aux_lemma => kernel_rfl) rfl ?_
      refine wl_gyes rfl rfl ?_
      refine o_callq rfl ent_34 rfl (c_entry_Check exB _ _ _ _ (by decide) (by decide) (by decide) (by decide)) (fun w hw => (rd_cons (rd_none) (rd_cons (rd_none) rd_nil))) ?_
      refine wl_nil ?_
      refine e_one (fun w h => h.weak (.cons _ (List.Sublist.refl _)) (fun s hs => hs)) ?_
      refine a_take (i := 16) rfl (wanted_yes rfl rfl) (y_eql rfl rfl) (fun w h => h.weak (.cons _ (List.Sublist.refl _)) (fun s hs => hs)) (fun w h => h) rfl (pk_seq pk_fn) (by as_aux_lemma => kernel_rfl) rfl ?_
      refine wa_at (t := 66) rfl (by as_aux_lemma => decide +kernel) ?_
      refine a_take (i := 17) rfl wanted_none (y_pick_t rfl rfl) (fun w h => h.weak (.cons _ (List.Sublist.refl _)) (fun s hs => hs)) (fun w h => h) rfl (pk_seq pk_fn) (by as_aux_lemma => kernel_rfl) rfl ?_
      refine a_take (i := 18) rfl wanted_none (y_move rfl) (fun w h => h.weak (.cons _ (List.Sublist.refl _)) (fun s hs => hs)) (fun w h => h) rfl (pk_seq pk_fn) (by as_aux_lemma => kernel_rfl) rfl ?_
      refine a_take (i := 19) rfl (wanted_yes rfl rfl) (y_loadrs 16 ty_48 rfl rfl rfl rfl) (fun w h => h.weak (.cons _ (List.Sublist.refl _)) (fun s hs => hs)) (fun w h => h) rfl (pk_seq pk_fn) (by as_aux_lemma => kernel_rfl) rfl ?_
      refine a_one (i := 20) rfl rfl rfl (tame_call rfl ent_34) (by as_aux_lemma => kernel_rfl) rfl ?_
      refine wl_gyes rfl rfl ?_
      refine o_callq rfl ent_34 rfl (c_entry_Check exC _ _ _ _ (by decide) (by decide) (by decide) (by decide)) (fun w hw => (rd_cons (rd_none) (rd_cons (rd_none) rd_nil))) ?_
      refine wl_nil ?_
      refine e_one (fun w h => h.weak (.cons _ (List.Sublist.refl _)) (fun s hs => hs)) ?_
      refine a_take (i := 21) rfl (wanted_yes rfl rfl) (y_eql rfl rfl) (fun w h => h.weak (.cons _ (List.Sublist.refl _)) (fun s hs => hs)) (fun w h => h) rfl (pk_seq pk_fn) (by as_aux_lemma => kernel_rfl) rfl ?_
      refine wa_at (t := 71) rfl (by as_aux_lemma => decide +kernel) ?_
      refine a_take (i := 22) rfl wanted_none (y_pick_t rfl rfl) (fun w h => h.weak (.cons _ (List.Sublist.refl _)) (fun s hs => hs)) (fun w h => h) rfl (pk_seq pk_fn) (by as_aux_lemma => kernel_rfl) rfl ?_
      refine a_take (i := 23) rfl wanted_none (y_move rfl) (fun w h => h.weak (.cons _ (List.Sublist.refl _)) (fun s hs => hs)) (fun w h => h) rfl (pk_seq pk_fn) (by as_aux_lemma => kernel_rfl) rfl ?_
      refine a_take (i := 24) rfl (wanted_yes rfl rfl) (y_loadrs 12 ty_48 rfl rfl rfl rfl) (fun w h => h.weak (.cons _ (List.Sublist.refl _)) (fun s hs => hs)) (fun w h => h) rfl (pk_seq pk_fn) (by as_aux_lemma => kernel_rfl) rfl ?_
      refine a_one (i := 25) rfl rfl rfl (tame_call rfl ent_34) (by as_aux_lemma => kernel_rfl) rfl ?_
      refine wl_gyes rfl rfl ?_
      refine o_callq rfl ent_34 rfl (c_entry_Check exD _ _ _ _ (by decide) (by decide) (by decide) (by decide)) (fun w hw => (rd_cons (rd_Ls 15 rfl hw) (rd_cons (rd_Ls 12 rfl hw) rd_nil))) ?_
      refine wl_nil ?_
      refine e_one (fun w h => h.weak (.cons _ (List.Sublist.refl _)) (fun s hs => hs)) ?_
      refine a_take (i := 26) rfl (wanted_yes rfl rfl) (y_eql rfl rfl) (fun w h => h.weak (.cons _ (List.Sublist.refl _)) (fun s hs => hs)) (fun w h => h) rfl (pk_seq pk_fn) (by as_aux_lemma => kernel_rfl) rfl ?_
      refine wa_at (t := 76) rfl (by as_aux_lemma => decide +kernel) ?_
      refine a_take (i := 27) rfl wanted_none (y_pick_t rfl rfl) (fun w h => h.weak (.cons _ (List.Sublist.refl _)) (fun s hs => hs)) (fun w h => h) rfl (pk_seq pk_fn) (by as_aux_lemma => kernel_rfl) rfl ?_
      refine a_take (i := 28) rfl wanted_none (y_move rfl) (fun w h => h.weak (.cons _ (List.Sublist.refl _)) (fun s hs => hs)) (fun w h => h) rfl (pk_seq pk_fn) (by as_aux_lemma => kernel_rfl) rfl ?_
      refine a_take (i := 29) rfl (wanted_yes rfl rfl) (y_loadrs 8 ty_48 rfl rfl rfl rfl) (fun w h => h.weak (.cons _ (List.Sublist.refl _)) (fun s hs => hs)) (fun w h => h) rfl (pk_seq pk_fn) (by as_aux_lemma => kernel_rfl) rfl ?_
      refine a_one (i := 30) rfl rfl rfl (tame_call rfl ent_34) (by as_aux_lemma => kernel_rfl) rfl ?_
      refine wl_gyes rfl rfl ?_
      refine o_callq rfl ent_34 rfl (c_entry_Check exE _ _ _ _ (by decide) (by decide) (by decide) (by decide)) (fun w hw => (rd_cons (rd_Ls 11 rfl hw) (rd_cons (rd_Ls 10 rfl hw) rd_nil))) ?_
      refine wl_nil ?_
      refine e_one (fun w h => h.weak (.cons _ (List.Sublist.refl _)) (fun s hs => hs)) ?_
      refine a_take (i := 31) rfl (wanted_yes rfl rfl) (y_eql rfl rfl) (fun w h => h.weak (.cons _ (List.Sublist.refl _)) (fun s hs => hs)) (fun w h => h) rfl (pk_seq pk_fn) (by as_aux_lemma => kernel_rfl) rfl ?_
      refine wa_at (t := 81) rfl (by as_aux_lemma => decide +kernel) ?_
      refine a_take (i := 32) rfl wanted_none (y_pick_t rfl rfl) (fun w h => h.weak (.cons _ (List.Sublist.refl _)) (fun s hs => hs)) (fun w h => h) rfl (pk_seq pk_fn) (by as_aux_lemma => kernel_rfl) rfl ?_
      refine a_take (i := 33) rfl wanted_none (y_move rfl) (fun w h => h.weak (.cons _ (List.Sublist.refl _)) (fun s hs => hs)) (fun w h => h) rfl (pk_seq pk_fn) (by as_aux_lemma => kernel_rfl) rfl ?_
      refine a_take (i := 34) rfl (wanted_yes rfl rfl) (y_build rfl (bu_48)) (fun w h => h.weak (.cons _ (List.Sublist.refl _)) (fun s hs => hs)) (fun w h => h) rfl (pk_seq pk_fn) (by as_aux_lemma => kernel_rfl) rfl ?_
      refine a_one (i := 35) rfl rfl rfl (tame_call rfl ent_34) (by as_aux_lemma => kernel_rfl) rfl ?_
      refine wl_gyes rfl rfl ?_
      refine o_callq rfl ent_34 rfl (c_entry_Check ex0 _ _ _ _ (by decide) (by decide) (by decide) (by decide)) (fun w hw => (rd_cons (rd_none) (rd_cons (rd_none) rd_nil))) ?_
      refine wl_nil ?_
      refine e_one (fun w h => h.weak (.cons _ (List.Sublist.refl _)) (fun s hs => hs)) ?_
      refine a_take (i := 36) rfl (wanted_yes rfl rfl) (y_eql rfl rfl) (fun w h => h.weak (.cons _ (List.Sublist.refl _)) (fun s hs => hs)) (fun w h => h) rfl (pk_seq pk_fn) (by as_aux_lemma => kernel_rfl) rfl ?_
      refine wa_at (t := 86) rfl (by as_aux_lemma => decide +kernel) ?_
      refine a_take (i := 37) rfl wanted_none (y_pick_t rfl rfl) (fun w h => h.weak (.cons _ (List.Sublist.refl _)) (fun s hs => hs)) (fun w h => h) rfl (pk_seq pk_fn) (by as_aux_lemma => kernel_rfl) rfl ?_
      refine a_take (i := 38) rfl wanted_none (y_move rfl) (fun w h => h.weak (.cons _ (List.Sublist.refl _)) (fun s hs => hs)) (fun w h => h) rfl (pk_seq pk_fn) (by as_aux_lemma => kernel_rfl) rfl ?_
      refine a_take (i := 39) rfl (wanted_yes rfl rfl) (y_build rfl (bu_48_0 _)) (fun w h => h.weak (.cons _ (List.Sublist.refl _)) (fun s hs => hs)) (fun w h => h) rfl (pk_seq pk_fn) (by as_aux_lemma => kernel_rfl) rfl ?_
      refine a_one (i := 40) rfl rfl rfl (tame_call rfl ent_34) (by as_aux_lemma => kernel_rfl) rfl ?_
      refine wl_gyes rfl rfl ?_
      refine o_callq rfl ent_34 rfl (c_entry_Check exX _ _ _ _ (by decide) (by decide) (by decide) (by decide)) (fun w hw => (rd_cons (rd_none) (rd_cons (rd_none) rd_nil))) ?_
      refine wl_nil ?_
      refine e_one (fun w h => h.weak (.cons _ (List.Sublist.refl _)) (fun s hs => hs)) ?_
      refine a_take (i := 41) rfl (wanted_yes rfl rfl) (y_eql rfl rfl) (fun w h => h.weak (.cons _ (List.Sublist.refl _)) (fun s hs => hs)) (fun w h => h) rfl (pk_seq pk_fn) (by as_aux_lemma => kernel_rfl) rfl ?_
      refine wa_at (t := 91) rfl (by as_aux_lemma => decide +kernel) ?_
      refine a_take (i := 42) rfl wanted_none (y_pick_t rfl rfl) (fun w h => h.weak (.cons _ (List.Sublist.refl _)) (fun s hs => hs)) (fun w h => h) rfl (pk_seq pk_fn) (by as_aux_lemma => kernel_rfl) rfl ?_
      refine a_take (i := 43) rfl wanted_none (y_move rfl) (fun w h => h.weak (.cons _ (List.Sublist.refl _)) (fun s hs => hs)) (fun w h => h) rfl (pk_seq pk_fn) (by as_aux_lemma => kernel_rfl) rfl ?_
      refine a_take (i := 44) rfl (wanted_yes rfl rfl) (y_move rfl) (fun w h => h.weak (.cons _ (List.Sublist.refl _)) (fun s hs => hs)) (fun w h => h) rfl (pk_seq pk_fn) (by as_aux_lemma => kernel_rfl) rfl ?_
      refine a_take (i := 45) rfl (wanted_yes rfl rfl) (y_lenl Try.underlying50 rfl) (fun w h => h.weak (.cons _ (List.Sublist.refl _)) (fun s hs => hs)) (fun w h => h) rfl (pk_seq pk_fn) (by as_aux_lemma => kernel_rfl) rfl ?_
      refine a_take (i := 46) rfl (wanted_yes rfl rfl) (y_eql rfl rfl) (fun w h => h.weak (.cons _ (List.Sublist.refl _)) (fun s hs => hs)) (fun w h => h) rfl (pk_seq pk_fn) (by as_aux_lemma => kernel_rfl) rfl ?_
      refine wa_at (t := 96) rfl (by as_aux_lemma => decide +kernel) ?_
      refine a_take (i := 47) rfl wanted_none (y_pick_t rfl rfl) (fun w h => h.weak (.cons _ (List.Sublist.refl _)) (fun s hs => hs)) (fun w h => h) rfl (pk_seq pk_fn) (by as_aux_lemma => kernel_rfl) rfl ?_
      refine a_take (i := 48) rfl wanted_none (y_move rfl) (fun w h => h.weak (.cons _ (List.Sublist.refl _)) (fun s hs => hs)) (fun w h => h) rfl (pk_seq pk_fn) (by as_aux_lemma => kernel_rfl) rfl ?_
      refine a_take (i := 49) rfl (wanted_yes rfl rfl) (y_move rfl) (fun w h => h.weak (.cons _ (List.Sublist.refl _)) (fun s hs => hs)) (fun w h => h) rfl (pk_seq pk_fn) (by as_aux_lemma => kernel_rfl) rfl ?_
      refine a_take (i := 50) rfl (wanted_yes rfl rfl) (y_ixm (k := 0) Try.underlying50 ty_60 rfl rfl (rs_L 6 rfl) rfl (by as_aux_lemma => decide +kernel)) (fun w h => h.weak (.cons _ (List.Sublist.refl _)) (fun s hs => hs)) (fun w h => h) rfl (pk_seq pk_fn) (by as_aux_lemma => kernel_rfl) rfl ?_
      refine a_take (i := 51) rfl (wanted_yes rfl rfl) (y_field fa_60_0 rfl) (fun w h => h.weak (.cons _ (List.Sublist.refl _)) (fun s hs => hs)) (fun w h => h) rfl (pk_seq pk_fn) (by as_aux_lemma => kernel_rfl) rfl ?_
      refine a_take (i := 52) rfl (wanted_yes rfl rfl) (y_ldm0 (k := 0) enc_rc rc0 ty_22 rfl (rs_L 6 rfl) (by as_aux_lemma => decide +kernel) rfl rfl) (fun w h => h.weak (.cons _ (List.Sublist.refl _)) (fun s hs => hs)) (fun w h => h) rfl (pk_seq pk_fn) (by as_aux_lemma => kernel_rfl) rfl ?_
      refine a_one (i := 53) rfl rfl rfl (fun _ _ _ => tame_op (by as_aux_lemma => kernel_rfl)) (by as_aux_lemma => kernel_rfl) rfl ?_
      refine wl_gyes rfl rfl ?_
      refine o_bsl (vs := [_]) ([[113]] : List (Str)) enc_s Try.underlying56 ty_9 rfl rfl rfl rfl rfl rfl (fun As27 => ?_)
      refine wl_nil ?_
      refine e_one (fun w h => h.weak (.cons _ (.cons _ (List.Sublist.refl _))) (fun s hs => hs)) ?_
      refine a_one (i := 54) rfl rfl rfl (tame_call rfl ent_39) (by as_aux_lemma => kernel_rfl) rfl ?_
      refine wl_gyes rfl rfl ?_
      refine o_callq rfl ent_39 rfl (c_host16 _ _ _ (by decide)) (fun w hw => (rd_cons (rd_Ls 0 rfl hw) rd_nil)) ?_
      refine wl_nil ?_
      refine e_one (fun w h => h.weak (.cons _ (.cons _ (List.Sublist.refl _))) (fun s hs => hs)) ?_
      refine a_take (i := 55) rfl (wanted_yes rfl rfl) (y_eqls rfl rfl) (fun w h => h.weak (.cons _ (.cons _ (List.Sublist.refl _))) (fun s hs => hs)) (fun w h => h) rfl (pk_seq pk_fn) (by as_aux_lemma => kernel_rfl) rfl ?_
      refine wa_at (t := 105) rfl (by as_aux_lemma => decide +kernel) ?_
      refine a_take (i := 56) rfl wanted_none (y_pick_t rfl rfl) (fun w h => h.weak (.cons _ (.cons _ (List.Sublist.refl _))) (fun s hs => hs)) (fun w h => h) rfl (pk_seq pk_fn) (by as_aux_lemma => kernel_rfl) rfl ?_
      refine a_take (i := 57) rfl wanted_none (y_move rfl) (fun w h => h.weak (.cons _ (.cons _ (List.Sublist.refl _))) (fun s hs => hs)) (fun w h => h) rfl (pk_seq pk_fn) (by as_aux_lemma => kernel_rfl) rfl ?_
      refine a_take (i := 58) rfl (wanted_yes rfl rfl) (y_move rfl) (fun w h => h.weak (.cons _ (.cons _ (List.Sublist.refl _))) (fun s hs => hs)) (fun w h => h) rfl (pk_seq pk_fn) (by as_aux_lemma => kernel_rfl) rfl ?_
      refine a_take (i := 59) rfl (wanted_yes rfl rfl) (y_ixm (k := 0) Try.underlying50 ty_60 rfl rfl (rs_L 6 rfl) rfl (by as_aux_lemma => decide +kernel)) (fun w h => h.weak (.cons _ (.cons _ (List.Sublist.refl _))) (fun s hs => hs)) (fun w h => h) rfl (pk_seq pk_fn) (by as_aux_lemma => kernel_rfl) rfl ?_
      refine a_take (i := 60) rfl (wanted_yes rfl rfl) (y_field fa_60_4 rfl) (fun w h => h.weak (.cons _ (.cons _ (List.Sublist.refl _))) (fun s hs => hs)) (fun w h => h) rfl (pk_seq pk_fn) (by as_aux_lemma => kernel_rfl) rfl ?_
      refine a_take (i := 61) rfl (wanted_yes rfl rfl) (y_field fa_58_1 rfl) (fun w h => h.weak (.cons _ (.cons _ (List.Sublist.refl _))) (fun s hs => hs)) (fun w h => h) rfl (pk_seq pk_fn) (by as_aux_lemma => kernel_rfl) rfl ?_
      refine a_take (i := 62) rfl (wanted_yes rfl rfl) (y_ldm 7 (k := 0) enc_rc rc0 ty_22 rfl (rs_L 6 rfl) (by as_aux_lemma => decide +kernel) rfl rfl) (fun w h => h.weak (.cons _ (.cons _ (List.Sublist.refl _))) (fun s hs => hs)) (fun w h => h) rfl (pk_seq pk_fn) (by as_aux_lemma => kernel_rfl) rfl ?_
      refine a_one (i := 63) rfl rfl rfl (fun _ _ _ => tame_op (by as_aux_lemma => kernel_rfl)) (by as_aux_lemma => kernel_rfl) rfl ?_
      refine wl_gyes rfl rfl ?_
      refine o_bsl (vs := [_]) ([[98]] : List (Str)) enc_s Try.underlying56 ty_9 rfl rfl rfl rfl rfl rfl (fun As28 => ?_)
      refine wl_nil ?_
      refine e_one (fun w h => h.weak (.cons _ (.cons _ (.cons _ (List.Sublist.refl _)))) (fun s hs => hs)) ?_
      refine a_one (i := 64) rfl rfl rfl (tame_call rfl ent_39) (by as_aux_lemma => kernel_rfl) rfl ?_
      refine wl_gyes rfl rfl ?_
      refine o_callq rfl ent_39 rfl (c_host16 _ _ _ (by decide)) (fun w hw => (rd_cons (rd_Ls 0 rfl hw) rd_nil)) ?_
      refine wl_nil ?_
      refine e_one (fun w h => h.weak (.cons _ (.cons _ (.cons _ (List.Sublist.refl _)))) (fun s hs => hs)) ?_
      refine a_take (i := 65) rfl (wanted_yes rfl rfl) (y_eqls rfl rfl) (fun w h => h.weak (.cons _ (.cons _ (.cons _ (List.Sublist.refl _)))) (fun s hs => hs)) (fun w h => h) rfl (pk_seq pk_fn) (by as_aux_lemma => kernel_rfl) rfl ?_
      refine wa_at (t := 115) rfl (by as_aux_lemma => decide +kernel) ?_
      refine a_take (i := 66) rfl wanted_none (y_pick_t rfl rfl) (fun w h => h.weak (.cons _ (.cons _ (.cons _ (List.Sublist.refl _)))) (fun s hs => hs)) (fun w h => h) rfl (pk_seq pk_fn) (by as_aux_lemma => kernel_rfl) rfl ?_
      refine a_take (i := 67) rfl wanted_none (y_move rfl) (fun w h => h.weak (.cons _ (.cons _ (.cons _ (List.Sublist.refl _)))) (fun s hs => hs)) (fun w h => h) rfl (pk_seq pk_fn) (by as_aux_lemma => kernel_rfl) rfl ?_
      refine a_take (i := 68) rfl (wanted_yes rfl rfl) (y_move rfl) (fun w h => h.weak (.cons _ (.cons _ (.cons _ (List.Sublist.refl _)))) (fun s hs => hs)) (fun w h => h) rfl (pk_seq pk_fn) (by as_aux_lemma => kernel_rfl) rfl ?_
      refine a_take (i := 69) rfl (wanted_yes rfl rfl) (y_lenl Try.underlying50 rfl) (fun w h => h.weak (.cons _ (.cons _ (.cons _ (List.Sublist.refl _)))) (fun s hs => hs)) (fun w h => h) rfl (pk_seq pk_fn) (by as_aux_lemma => kernel_rfl) rfl ?_
      refine a_take (i := 70) rfl (wanted_yes rfl rfl) (y_eql rfl rfl) (fun w h => h.weak (.cons _ (.cons _ (.cons _ (List.Sublist.refl _)))) (fun s hs => hs)) (fun w h => h) rfl (pk_seq pk_fn) (by as_aux_lemma => kernel_rfl) rfl ?_
      refine wa_at (t := 120) rfl (by as_aux_lemma => decide +kernel) ?_
      refine a_take (i := 71) rfl wanted_none (y_pick_t rfl rfl) (fun w h => h.weak (.cons _ (.cons _ (.cons _ (List.Sublist.refl _)))) (fun s hs => hs)) (fun w h => h) rfl (pk_seq pk_fn) (by as_aux_lemma => kernel_rfl) rfl ?_
      refine a_take (i := 72) rfl wanted_none (y_move rfl) (fun w h => h.weak (.cons _ (.cons _ (.cons _ (List.Sublist.refl _)))) (fun s hs => hs)) (fun w h => h) rfl (pk_seq pk_fn) (by as_aux_lemma => kernel_rfl) rfl ?_
      refine a_take (i := 73) rfl (wanted_yes rfl rfl) (y_loadrs 17 ty_48 rfl rfl rfl rfl) (fun w h => h.weak (.cons _ (.cons _ (.cons _ (List.Sublist.refl _)))) (fun s hs => hs)) (fun w h => h) rfl (pk_seq pk_fn) (by as_aux_lemma => kernel_rfl) rfl ?_
      refine a_one (i := 74) rfl rfl rfl (fun _ _ _ => tame_op (by as_aux_lemma => kernel_rfl)) (by as_aux_lemma => kernel_rfl) rfl ?_
      refine wl_gyes rfl rfl ?_
      refine o_bsl (vs := [_, _]) ([[113], [120]] : List (Str)) enc_s Try.underlying56 ty_9 rfl rfl rfl rfl rfl rfl (fun As29 => ?_)
      refine wl_nil ?_
      refine e_one (fun w h => h.weak (.cons _ (.cons _ (.cons _ (.cons _ (List.Sublist.refl _))))) (fun s hs => hs)) ?_
      refine a_one (i := 75) rfl rfl rfl (tame_call rfl ent_39) (by as_aux_lemma => kernel_rfl) rfl ?_
      refine wl_gyes rfl rfl ?_
      refine o_callq rfl ent_39 rfl (c_host16 _ _ _ (by decide)) (fun w hw => (rd_cons (rd_Ls 0 rfl hw) rd_nil)) ?_
      refine wl_nil ?_
      refine e_one (fun w h => h.weak (.cons _ (.cons _ (.cons _ (.cons _ (List.Sublist.refl _))))) (fun s hs => hs)) ?_
      refine a_one (i := 76) rfl rfl rfl (tame_call rfl ent_31) (by as_aux_lemma => kernel_rfl) rfl ?_
      refine wl_gyes rfl rfl ?_
      refine o_callr1 rfl ent_31 rfl (c_entry_Records exB _ _ _ _ nqx 1 _ _ [] (by decide) (by decide) (by decide) (by decide) (by decide) (by decide)) (fun w hw => (rd_cons (rd_none) (rd_cons (rd_none) (rd_cons (rd_none) rd_nil)))) (fun ⟨A29, c29⟩ => ?_)
      refine wl_nil ?_
      refine e_one (fun w h => h.weak (.cons _ (.cons _ (.cons _ (.cons _ (.cons _ (List.Sublist.refl _)))))) (fun s hs => hs)) ?_
      refine a_take (i := 77) rfl (wanted_yes rfl rfl) (y_lenl Try.underlying50 rfl) (fun w h => h.weak (.cons _ (.cons _ (.cons _ (.cons _ (.cons _ (List.Sublist.refl _)))))) (fun s hs => hs)) (fun w h => h) rfl (pk_seq pk_fn) (by as_aux_lemma => kernel_rfl) rfl ?_
      refine a_take (i := 78) rfl (wanted_yes rfl rfl) (y_eql rfl rfl) (fun w h => h.weak (.cons _ (.cons _ (.cons _ (.cons _ (.cons _ (List.Sublist.refl _)))))) (fun s hs => hs)) (fun w h => h) rfl (pk_seq pk_fn) (by as_aux_lemma => kernel_rfl) rfl ?_
      refine wa_at (t := 128) rfl (by as_aux_lemma => decide +kernel) ?_
      refine a_take (i := 79) rfl wanted_none (y_pick_t rfl rfl) (fun w h => h.weak (.cons _ (.cons _ (.cons _ (.cons _ (.cons _ (List.Sublist.refl _)))))) (fun s hs => hs)) (fun w h => h) rfl (pk_seq pk_fn) (by as_aux_lemma => kernel_rfl) rfl ?_
      refine a_take (i := 80) rfl wanted_none (y_move rfl) (fun w h => h.weak (.cons _ (.cons _ (.cons _ (.cons _ (.cons _ (List.Sublist.refl _)))))) (fun s hs => hs)) (fun w h => h) rfl (pk_seq pk_fn) (by as_aux_lemma => kernel_rfl) rfl ?_
      refine a_one (i := 81) rfl rfl rfl (tame_call rfl ent_40) (by as_aux_lemma => kernel_rfl) rfl ?_
      refine wl_gyes rfl rfl ?_
      refine o_callr2 rfl ent_40 rfl c_fixed16 (fun w hw => rd_nil) (fun ⟨A30, c30, B30, d30⟩ => ?_)
      refine wl_nil ?_
      refine e_one (fun w h => h.weak (.cons _ (.cons _ (.cons _ (.cons _ (.cons _ (.cons _ (.cons _ (List.Sublist.refl _)))))))) (fun s hs => hs)) ?_
      refine a_one (i := 82) rfl rfl rfl (tame_call rfl ent_40) (by as_aux_lemma => kernel_rfl) rfl ?_
      refine wl_gyes rfl rfl ?_
      refine o_callr2 rfl ent_40 rfl c_fixed16 (fun w hw => rd_nil) (fun ⟨A31, c31, B31, d31⟩ => ?_)
      refine wl_nil ?_
      refine e_one (fun w h => h.weak (.cons _ (.cons _ (.cons _ (.cons _ (.cons _ (.cons _ (.cons _ (.cons _ (.cons _ (List.Sublist.refl _)))))))))) (fun s hs => hs)) ?_
      refine a_one (i := 83) rfl rfl rfl (tame_call rfl ent_42) (by as_aux_lemma => kernel_rfl) rfl ?_
      refine wl_gyes rfl rfl ?_
      refine o_callq rfl ent_42 rfl (c_entry_Same fixE _ _ _ _ fixE _ _ _ _ (by decide) (by decide)) (fun w hw => (rd_cons (rd_Ls 3 rfl hw) (rd_cons (rd_Ls 2 rfl hw) (rd_cons (rd_Ls 1 rfl hw) (rd_cons (rd_Ls 0 rfl hw) rd_nil))))) ?_
      refine wl_nil ?_
      refine e_one (fun w h => h.weak (.cons _ (.cons _ (.cons _ (.cons _ (.cons _ (.cons _ (.cons _ (.cons _ (.cons _ (List.Sublist.refl _)))))))))) (fun s hs => hs)) ?_
      refine wa_as (t := 133) (.bool true) rfl (congrArg Value.bool (by as_aux_lemma => decide +kernel)) ?_
      refine a_take (i := 84) rfl wanted_none (y_pick_t rfl rfl) (fun w h => h.weak (.cons _ (.cons _ (.cons _ (.cons _ (.cons _ (.cons _ (.cons _ (.cons _ (.cons _ (List.Sublist.refl _)))))))))) (fun s hs => hs)) (fun w h => h) rfl (pk_seq pk_fn) (by as_aux_lemma => kernel_rfl) rfl ?_
      refine a_take (i := 85) rfl wanted_none (y_move rfl) (fun w h => h.weak (.cons _ (.cons _ (.cons _ (.cons _ (.cons _ (.cons _ (.cons _ (.cons _ (.cons _ (List.Sublist.refl _)))))))))) (fun s hs => hs)) (fun w h => h) rfl (pk_seq pk_fn) (by as_aux_lemma => kernel_rfl) rfl ?_
      refine a_take (i := 87) rfl (wanted_yes rfl rfl) (y_loadrs 0 ty_48 rfl rfl rfl rfl) (fun w h => h.weak (.cons _ (.cons _ (.cons _ (.cons _ (.cons _ (.cons _ (.cons _ (.cons _ (.cons _ (List.Sublist.refl _)))))))))) (fun s hs => hs)) (fun w h => h) rfl (pk_seq pk_fn) (by as_aux_lemma => kernel_rfl) rfl ?_
      refine a_one (i := 86) rfl rfl rfl (tame_call rfl ent_40) (by as_aux_lemma => kernel_rfl) rfl ?_
      refine wl_gyes rfl rfl ?_
      refine o_callr2 rfl ent_40 rfl c_fixed16 (fun w hw => rd_nil) (fun ⟨A32, c32, B32, d32⟩ => ?_)
      refine wl_nil ?_
      refine e_one (fun w h => h.weak (.cons _ (.cons _ (.cons _ (.cons _ (.cons _ (.cons _ (.cons _ (.cons _ (.cons _ (.cons _ (.cons _ (List.Sublist.refl _)))))))))))) (fun s hs => hs)) ?_
      refine a_one (i := 88) rfl rfl rfl (tame_call rfl ent_42) (by as_aux_lemma => kernel_rfl) rfl ?_
      refine wl_gyes rfl rfl ?_
      refine o_callq rfl ent_42 rfl (c_entry_Same fixE _ _ _ _ exF _ _ _ _ (by decide) (by decide)) (fun w hw => (rd_cons (rd_Ls 1 rfl hw) (rd_cons (rd_Ls 0 rfl hw) (rd_cons (rd_Ls 13 rfl hw) (rd_cons (rd_Ls 12 rfl hw) rd_nil))))) ?_
      refine wl_nil ?_
      refine e_one (fun w h => h.weak (.cons _ (.cons _ (.cons _ (.cons _ (.cons _ (.cons _ (.cons _ (.cons _ (.cons _ (.cons _ (.cons _ (List.Sublist.refl _)))))))))))) (fun s hs => hs)) ?_
      refine wa_as (t := 138) (.bool false) rfl (congrArg Value.bool (by as_aux_lemma => decide +kernel)) ?_
      refine a_take (i := 89) rfl (wanted_yes rfl rfl) (y_not rfl) (fun w h => h.weak (.cons _ (.cons _ (.cons _ (.cons _ (.cons _ (.cons _ (.cons _ (.cons _ (.cons _ (.cons _ (.cons _ (List.Sublist.refl _)))))))))))) (fun s hs => hs)) (fun w h => h) rfl (pk_seq pk_fn) (by as_aux_lemma => kernel_rfl) rfl ?_
      refine a_take (i := 90) rfl wanted_none (y_pick_t rfl rfl) (fun w h => h.weak (.cons _ (.cons _ (.cons _ (.cons _ (.cons _ (.cons _ (.cons _ (.cons _ (.cons _ (.cons _ (.cons _ (List.Sublist.refl _)))))))))))) (fun s hs => hs)) (fun w h => h) rfl (pk_seq pk_fn) (by as_aux_lemma => kernel_rfl) rfl ?_
      refine a_take (i := 91) rfl wanted_none (y_move rfl) (fun w h => h.weak (.cons _ (.cons _ (.cons _ (.cons _ (.cons _ (.cons _ (.cons _ (.cons _ (.cons _ (.cons _ (.cons _ (List.Sublist.refl _)))))))))))) (fun s hs => hs)) (fun w h => h) rfl (pk_seq pk_fn) (by as_aux_lemma => kernel_rfl) rfl ?_
      refine a_take (i := 92) rfl wanted_none (y_pick_t rfl rfl) (fun w h => h.weak (.cons _ (.cons _ (.cons _ (.cons _ (.cons _ (.cons _ (.cons _ (.cons _ (.cons _ (.cons _ (.cons _ (List.Sublist.refl _)))))))))))) (fun s hs => hs)) (fun w h => h) rfl (pk_seq pk_fn) (by as_aux_lemma => kernel_rfl) rfl ?_
      refine a_take (i := 93) rfl wanted_none (y_assign rfl) (fun w h => h.weak (.cons _ (.cons _ (.cons _ (.cons _ (.cons _ (.cons _ (.cons _ (.cons _ (.cons _ (.cons _ (.cons _ (List.Sublist.refl _)))))))))))) (fun s hs => hs)) (fun w h => h) rfl (pk_seq pk_fn) (by as_aux_lemma => kernel_rfl) rfl ?_
      refine a_done (by as_aux_lemma => kernel_rfl) ?_
      refine e_seq ?_
      refine w_ret ?_
      refine e_ret (ts := [0]) rfl rfl rfl (fun w hw => ?_)
      exact ⟨rfl, hw.base⟩
    exact wr_nil
  · skip
    refine w_seq ?_
    refine w_draw 7 rfl mixed ?_
    refine a_take (i := 0) rfl wanted_none (y_loadrs 11 ty_48 rfl rfl rfl rfl) (fun w h => h) (fun w h => h) rfl (pk_seq pk_fn) (by as_aux_lemma => kernel_rfl) rfl ?_
    refine a_take (i := 3) rfl wanted_none (y_build rfl (bu_54_2 _)) (fun w h => h) (fun w h => h) rfl (pk_seq pk_fn) (by as_aux_lemma => kernel_rfl) rfl ?_
    refine a_many (js := [1, 4]) (by as_aux_lemma => kernel_rfl) rfl ?_
    refine wr_cons (i := 1) rfl rfl rfl (fun _ _ _ => tame_op (by as_aux_lemma => kernel_rfl)) rfl ?_ ?_
    · skip
      refine o_bsl (vs := [_, _]) ([[113], [120]] : List (Str)) enc_s Try.underlying56 ty_9 rfl rfl rfl rfl rfl rfl (fun As34 => ?_)
      refine wl_nil ?_
      refine e_one (fun w h => h.weak (.cons _ (List.Sublist.refl _)) (fun s hs => hs)) ?_
      refine a_many (js := [2, 4]) (by as_aux_lemma => kernel_rfl) rfl ?_
      refine wr_cons (i := 2) rfl rfl rfl (tame_call rfl ent_39) rfl ?_ ?_
      · skip
        refine o_callq rfl ent_39 rfl (c_host16 _ _ _ (by decide)) (fun w hw => (rd_cons (rd_Ls 0 rfl hw) rd_nil)) ?_
        refine wl_nil ?_
        refine e_one (fun w h => h.weak (.cons _ (List.Sublist.refl _)) (fun s hs => hs)) ?_
        refine a_one (i := 4) rfl rfl rfl (fun _ _ _ => tame_op (by as_aux_lemma => kernel_rfl)) (by as_aux_lemma => kernel_rfl) rfl ?_
        refine o_bsl (vs := [_]) ([Ad.mk false 0 9] : List (Ad)) enc_ad Try.underlying45 ty_54 rfl rfl rfl rfl rfl rfl (fun As35 => ?_)
        refine wl_nil ?_
        refine e_one (fun w h => h.weak (.cons _ (.cons _ (List.Sublist.refl _))) (fun s hs => hs)) ?_
        refine a_one (i := 5) rfl rfl rfl (tame_call rfl ent_31) (by as_aux_lemma => kernel_rfl) rfl ?_
        refine o_callr1 rfl ent_31 rfl (c_entry_Records exB _ _ _ _ nqx 1 _ _ [Ad.mk false 0 9] (by decide) (by decide) (by decide) (by decide) (by decide) (by decide)) (fun w hw => (rd_cons (rd_none) (rd_cons (rd_none) (rd_cons (rd_Ls 0 rfl hw) rd_nil)))) (fun ⟨A35, c35⟩ => ?_)
        refine wl_nil ?_
        refine e_one (fun w h => h.weak (.cons _ (.cons _ (.cons _ (List.Sublist.refl _)))) (fun s hs => hs)) ?_
        refine a_take (i := 6) rfl wanted_none (y_assign rfl) (fun w h => h.weak (.cons _ (.cons _ (.cons _ (List.Sublist.refl _)))) (fun s hs => hs)) (fun w h => h) rfl (pk_seq pk_fn) (by as_aux_lemma => kernel_rfl) rfl ?_
        refine a_done (by as_aux_lemma => kernel_rfl) ?_
        refine e_seq ?_
        refine w_heap (fun w h => h.weak (.cons_cons _ (.cons _ (.cons _ (List.Sublist.refl _)))) (fun s hs => hs)) ?_
        exact J12 (A35, c35) _ (by repeat (first | exact trivial | refine ⟨rfl, ?_⟩))
      refine wr_cons (i := 4) rfl rfl rfl (fun _ _ _ => tame_op (by as_aux_lemma => kernel_rfl)) rfl ?_ ?_
      · skip
        refine o_bsl (vs := [_]) ([Ad.mk false 0 9] : List (Ad)) enc_ad Try.underlying45 ty_54 rfl rfl rfl rfl rfl rfl (fun As37 => ?_)
        refine wl_nil ?_
        refine e_one (fun w h => h.weak (.cons _ (.cons _ (List.Sublist.refl _))) (fun s hs => hs)) ?_
        refine a_one (i := 2) rfl rfl rfl (tame_call rfl ent_39) (by as_aux_lemma => kernel_rfl) rfl ?_
        refine o_callq rfl ent_39 rfl (c_host16 _ _ _ (by decide)) (fun w hw => (rd_cons (rd_Ls 1 rfl hw) rd_nil)) ?_
        refine wl_nil ?_
        refine e_one (fun w h => h.weak (.cons _ (.cons _ (List.Sublist.refl _))) (fun s hs => hs)) ?_
        refine a_one (i := 5) rfl rfl rfl (tame_call rfl ent_31) (by as_aux_lemma => kernel_rfl) rfl ?_
        refine o_callr1 rfl ent_31 rfl (c_entry_Records exB _ _ _ _ nqx 1 _ _ [Ad.mk false 0 9] (by decide) (by decide) (by decide) (by decide) (by decide) (by decide)) (fun w hw => (rd_cons (rd_none) (rd_cons (rd_none) (rd_cons (rd_Ls 0 rfl hw) rd_nil)))) (fun ⟨A37, c37⟩ => ?_)
        refine wl_nil ?_
        refine e_one (fun w h => h.weak (.cons _ (.cons _ (.cons _ (List.Sublist.refl _)))) (fun s hs => hs)) ?_
        refine a_take (i := 6) rfl wanted_none (y_assign rfl) (fun w h => h.weak (.cons _ (.cons _ (.cons _ (List.Sublist.refl _)))) (fun s hs => hs)) (fun w h => h) rfl (pk_seq pk_fn) (by as_aux_lemma => kernel_rfl) rfl ?_
        refine a_done (by as_aux_lemma => kernel_rfl) ?_
        refine e_seq ?_
        refine w_heap (fun w h => h.weak (.cons_cons _ (.cons _ (.cons _ (List.Sublist.refl _)))) (fun s hs => hs)) ?_
        exact J12 (A37, c37) _ (by repeat (first | exact trivial | refine ⟨rfl, ?_⟩))
      exact wr_nil
    refine wr_cons (i := 4) rfl rfl rfl (fun _ _ _ => tame_op (by as_aux_lemma => kernel_rfl)) rfl ?_ ?_
    · skip
      refine o_bsl (vs := [_]) ([Ad.mk false 0 9] : List (Ad)) enc_ad Try.underlying45 ty_54 rfl rfl rfl rfl rfl rfl (fun As39 => ?_)
      refine wl_nil ?_
      refine e_one (fun w h => h.weak (.cons _ (List.Sublist.refl _)) (fun s hs => hs)) ?_
      refine a_one (i := 1) rfl rfl rfl (fun _ _ _ => tame_op (by as_aux_lemma => kernel_rfl)) (by as_aux_lemma => kernel_rfl) rfl ?_
      refine o_bsl (vs := [_, _]) ([[113], [120]] : List (Str)) enc_s Try.underlying56 ty_9 rfl rfl rfl rfl rfl rfl (fun As40 => ?_)
      refine wl_nil ?_
      refine e_one (fun w h => h.weak (.cons _ (.cons _ (List.Sublist.refl _))) (fun s hs => hs)) ?_
      refine a_one (i := 2) rfl rfl rfl (tame_call rfl ent_39) (by as_aux_lemma => kernel_rfl) rfl ?_
      refine o_callq rfl ent_39 rfl (c_host16 _ _ _ (by decide)) (fun w hw => (rd_cons (rd_Ls 0 rfl hw) rd_nil)) ?_
      refine wl_nil ?_
      refine e_one (fun w h => h.weak (.cons _ (.cons _ (List.Sublist.refl _))) (fun s hs => hs)) ?_
      refine a_one (i := 5) rfl rfl rfl (tame_call rfl ent_31) (by as_aux_lemma => kernel_rfl) rfl ?_
      refine o_callr1 rfl ent_31 rfl (c_entry_Records exB _ _ _ _ nqx 1 _ _ [Ad.mk false 0 9] (by decide) (by decide) (by decide) (by decide) (by decide) (by decide)) (fun w hw => (rd_cons (rd_none) (rd_cons (rd_none) (rd_cons (rd_Ls 1 rfl hw) rd_nil)))) (fun ⟨A40, c40⟩ => ?_)
      refine wl_nil ?_
      refine e_one (fun w h => h.weak (.cons _ (.cons _ (.cons _ (List.Sublist.refl _)))) (fun s hs => hs)) ?_
      refine a_take (i := 6) rfl wanted_none (y_assign rfl) (fun w h => h.weak (.cons _ (.cons _ (.cons _ (List.Sublist.refl _)))) (fun s hs => hs)) (fun w h => h) rfl (pk_seq pk_fn) (by as_aux_lemma => kernel_rfl) rfl ?_
      refine a_done (by as_aux_lemma => kernel_rfl) ?_
      refine e_seq ?_
      refine w_heap (fun w h => h.weak (.cons_cons _ (.cons _ (.cons _ (List.Sublist.refl _)))) (fun s hs => hs)) ?_
      exact J12 (A40, c40) _ (by repeat (first | exact trivial | refine ⟨rfl, ?_⟩))
    exact wr_nil
end Go.Proofs.Ytahpppncjbgpaaa
