/- chains: followed; hops -/
import Derived.Test.YtckfjfnkombelaaGreatPgQC
namespace Go.Proofs.YtckfjfnkombelaaGreat
open Go.RowKit Go.Shelf
set_option linter.unusedVariables false
set_option linter.unusedSimpArgs false

theorem bu_34_0_1_4_6 (x0 : Str) (x1 : Int) (x2 : Str) (x3 : Int) : Tryz.prog.built 34 [(0, .string (ba x0)), (1, .int .i64 x1), (4, .string (ba x2)), (6, .int .u32 x3)] = some [.string (ba x0), .int .i64 x1, .string ⟨#[]⟩, .slice none 0 0, .string (ba x2), .slice none 0 0, .int .u32 x3].toArray := by kernel_rfl
theorem bu_64_0 (x0 : Option Addr) (x1 : Nat) (x2 : Nat) : Tryz.prog.built 64 [(0, .slice x0 x1 x2)] = some [.slice x0 x1 x2, .int .i64 0, .string ⟨#[]⟩, .int .i64 0, .string ⟨#[]⟩, .slice none 0 0, .string ⟨#[]⟩, .slice none 0 0, .int .u32 0].toArray := by kernel_rfl
theorem bu_73_1 (x0 : Str) : Tryz.prog.built 73 [(1, .string (ba x0))] = some [.bool false, .int .u64 0, .int .u64 0, .string (ba x0), .string ⟨#[]⟩, .int .u32 0, .int .u32 0, .int .u32 0, .int .u32 0, .int .u32 0, .slice none 0 0, .string ⟨#[]⟩].toArray := by kernel_rfl
theorem bu_75_0_1_2_3_4 (x0 : Str) (x1 : Int) (x2 : Int) (x3 : Int) (x4 : Bool) (x5 : Int) (x6 : Int) (x7 : Str) (x8 : Str) (x9 : Int) (x10 : Int) (x11 : Int) (x12 : Int) (x13 : Int) (x14 : Option Addr) (x15 : Nat) (x16 : Nat) (x17 : Str) : Tryz.prog.built 75 [(0, .string (ba x0)), (1, .int .i64 x1), (2, .int .i64 x2), (3, .int .u32 x3), (4, .agg [.bool x4, .int .u64 x5, .int .u64 x6, .string (ba x7), .string (ba x8), .int .u32 x9, .int .u32 x10, .int .u32 x11, .int .u32 x12, .int .u32 x13, .slice x14 x15 x16, .string (ba x17)].toArray)] = some [.string (ba x0), .int .i64 x1, .int .i64 x2, .int .u32 x3, .bool x4, .int .u64 x5, .int .u64 x6, .string (ba x7), .string (ba x8), .int .u32 x9, .int .u32 x10, .int .u32 x11, .int .u32 x12, .int .u32 x13, .slice x14 x15 x16, .string (ba x17)].toArray := by kernel_rfl
theorem ent_111 : Enters Tryz.prog 111 := enters_of Tryz.func111 (by kernel_rfl) rfl
theorem ent_78 : Enters Tryz.prog 78 := enters_of Tryz.func78 (by kernel_rfl) rfl
theorem ent_81 : Enters Tryz.prog 81 := enters_of Tryz.func81 (by kernel_rfl) rfl
theorem ent_82 : Enters Tryz.prog 82 := enters_of Tryz.func82 (by kernel_rfl) rfl
theorem fa_64_0 : FA Tryz.prog 64 0 0 := fun b o w => by kernel_rfl
theorem fa_64_1 : FA Tryz.prog 64 1 1 := fun b o w => by kernel_rfl
theorem fa_64_2 : FA Tryz.prog 64 2 2 := fun b o w => by kernel_rfl
theorem ty_64 : TyI Tryz.prog 64 true 9 144 (.agg #[.slice none 0 0, .int .i64 0, .string ⟨#[]⟩, .int .i64 0, .string ⟨#[]⟩, .slice none 0 0, .string ⟨#[]⟩, .slice none 0 0, .int .u32 0]) := TyI.mk' (by kernel_rfl) (fun _ => by kernel_rfl)
theorem ty_66 : TyI Tryz.prog 66 false 1 24 (.slice none 0 0) := TyI.mk' (by kernel_rfl) (fun _ => by kernel_rfl)
theorem ty_75 : TyI Tryz.prog 75 true 16 160 (.agg #[.string ⟨#[]⟩, .int .i64 0, .int .i64 0, .int .u32 0, .bool false, .int .u64 0, .int .u64 0, .string ⟨#[]⟩, .string ⟨#[]⟩, .int .u32 0, .int .u32 0, .int .u32 0, .int .u32 0, .int .u32 0, .slice none 0 0, .string ⟨#[]⟩]) := TyI.mk' (by kernel_rfl) (fun _ => by kernel_rfl)

set_option maxRecDepth 100000 in
theorem c_Equal_n (xs ys : List Str) (A B : Option Addr) (c e : Nat) (hl : xs.length ≤ 1000000000000) : RC Tryz.prog 81 #[.slice A xs.length c, .slice B ys.length e] [Ch.rd A 1 encs xs, Ch.rd B 1 encs ys] (α := Unit) (fun _ => .bool (decide (xs = ys))) (fun _ => []) := by
  refine rc_of_W (args := [.slice A xs.length c, .slice B ys.length e]) 26 Tryz.func81 rfl rfl rfl (fun w0 => ?_)
  refine w_seq ?_
  refine w_region ?_
  refine o_y (y_assign rfl) rfl rfl ?_
  refine wl_nil ?_
  refine e_seq ?_
  refine w_seq ?_
  refine w_seq ?_
  refine w_region ?_
  refine o_y (y_move rfl) rfl rfl ?_
  refine o_y (y_lenl Tryz.underlying59 rfl) rfl rfl ?_
  refine o_y (y_move rfl) rfl rfl ?_
  refine o_y (y_lenl Tryz.underlying59 rfl) rfl rfl ?_
  refine o_y (y_neq rfl rfl) rfl rfl ?_
  refine wl_splitp (t := 10) rfl (fun h1_4 => ?_) (fun h1_4 => ?_)
  · skip
    refine wl_nil ?_
    refine e_seq ?_
    refine w_cond_t rfl ?_
    refine w_seq ?_
    refine w_region ?_
    refine o_y (y_assign rfl) rfl rfl ?_
    refine wl_nil ?_
    refine e_seq ?_
    refine w_ret ?_
    refine e_seq_ret ?_
    refine e_ret (ts := [4]) rfl rfl rfl (fun w hw => ?_)
    have hne : xs ≠ ys := fun he => by rw [he] at h1_4; exact absurd rfl h1_4
    exact ⟨(), by rw [decide_eq_false hne]; rfl, hw.base, hw.toNews⟩
  · skip
    refine wl_nil ?_
    refine e_seq ?_
    refine w_cond_f rfl ?_
    refine w_skip ?_
    refine e_seq ?_
    refine w_seq ?_
    refine w_seq ?_
    refine w_region ?_
    refine o_y (y_move rfl) rfl rfl ?_
    refine o_y (y_lenl Tryz.underlying59 rfl) rfl rfl ?_
    refine o_y (y_move rfl) rfl rfl ?_
    refine wl_nil ?_
    refine e_seq ?_
    refine w_block ?_
    refine w_loop0 (σ := Nat) [4, 5, 13, 14, 15, 16, 17, 18, 19, 20, 21, 22, 23, 24, 25] (fun k => k ≤ xs.length ∧ xs.take k = ys.take k) (fun k => xs.length - k) (fun k => [(13, .int .i64 k)]) (0) ?_ ⟨rfl, trivial⟩ (fun k hI => ?_)
    · exact ⟨Nat.zero_le _, rfl⟩
    refine w_seq ?_
    refine w_region ?_
    refine o_y (y_lss rfl rfl) rfl rfl ?_
    refine wl_splitp (t := 14) rfl (fun h4_0 => ?_) (fun h4_0 => ?_)
    · skip
      refine wl_nil ?_
      refine e_seq ?_
      refine w_seq ?_
      refine w_cond_t rfl ?_
      refine w_skip ?_
      refine e_seq ?_
      refine w_seq ?_
      refine w_block ?_
      refine w_seq ?_
      refine w_region ?_
      refine o_y (y_move rfl) rfl rfl ?_
      refine o_y (y_assign rfl) rfl rfl ?_
      refine wl_nil ?_
      refine e_seq ?_
      refine w_seq ?_
      refine w_draw 9 rfl mixed ?_
      refine a_take (i := 0) rfl wanted_none (y_move rfl) (fun w h => h) (fun w h => h) rfl (pk_seq (pk_blk (pk_seq (pk_loop (pk_blk (pk_seq pk_fn)))))) (by kernel_rfl) rfl ?_
      refine a_take (i := 1) rfl wanted_none (y_move rfl) (fun w h => h) (fun w h => h) rfl (pk_seq (pk_blk (pk_seq (pk_loop (pk_blk (pk_seq pk_fn)))))) (by kernel_rfl) rfl ?_
      refine a_take (i := 2) rfl wanted_none (y_ixm  Tryz.underlying59 ty_26 rfl rfl (rs_S 0 rfl) rfl (by omega)) (fun w h => h) (fun w h => h) rfl (pk_seq (pk_blk (pk_seq (pk_loop (pk_blk (pk_seq pk_fn)))))) (by kernel_rfl) rfl ?_
      refine a_take (i := 3) rfl wanted_none (y_ldm0 enc_s ([] : Str) ty_26 rfl (rs_S 0 rfl) (by omega) rfl rfl) (fun w h => h) (fun w h => h) rfl (pk_seq (pk_blk (pk_seq (pk_loop (pk_blk (pk_seq pk_fn)))))) (by kernel_rfl) rfl ?_
      refine a_take (i := 4) rfl wanted_none (y_move rfl) (fun w h => h) (fun w h => h) rfl (pk_seq (pk_blk (pk_seq (pk_loop (pk_blk (pk_seq pk_fn)))))) (by kernel_rfl) rfl ?_
      refine a_take (i := 5) rfl wanted_none (y_move rfl) (fun w h => h) (fun w h => h) rfl (pk_seq (pk_blk (pk_seq (pk_loop (pk_blk (pk_seq pk_fn)))))) (by kernel_rfl) rfl ?_
      refine a_take (i := 6) rfl wanted_none (y_ixm  Tryz.underlying59 ty_26 rfl rfl (rs_S 1 rfl) rfl (by omega)) (fun w h => h) (fun w h => h) rfl (pk_seq (pk_blk (pk_seq (pk_loop (pk_blk (pk_seq pk_fn)))))) (by kernel_rfl) rfl ?_
      refine a_take (i := 7) rfl wanted_none (y_ldm0 enc_s ([] : Str) ty_26 rfl (rs_S 1 rfl) (by omega) rfl rfl) (fun w h => h) (fun w h => h) rfl (pk_seq (pk_blk (pk_seq (pk_loop (pk_blk (pk_seq pk_fn)))))) (by kernel_rfl) rfl ?_
      refine a_take (i := 8) rfl wanted_none (y_neqs rfl rfl) (fun w h => h) (fun w h => h) rfl (pk_seq (pk_blk (pk_seq (pk_loop (pk_blk (pk_seq pk_fn)))))) (by kernel_rfl) rfl ?_
      refine wa_splitp (t := 24) rfl (fun h6_8 => ?_) (fun h6_8 => ?_)
      · skip
        refine a_done (by kernel_rfl) ?_
        refine e_seq ?_
        refine w_cond_t rfl ?_
        refine w_seq ?_
        refine w_region ?_
        refine o_y (y_assign rfl) rfl rfl ?_
        refine wl_nil ?_
        refine e_seq ?_
        refine w_ret ?_
        refine e_blk_ret ?_
        refine e_seq_ret ?_
        refine e_loop_ret ?_
        refine e_blk_ret ?_
        refine e_seq_ret ?_
        refine e_ret (ts := [4]) rfl rfl rfl (fun w hw => ?_)
        first
          | (have hne : xs ≠ ys := ne_of_getD ([] : Str) (k := k) (by simpa using h6_8)
             exact ⟨(), by rw [decide_eq_false hne]; rfl, hw.base, hw.toNews⟩)
          | (have hk : k = xs.length := by omega
             have he : xs = ys := by have := hI.2; rw [hk, List.take_length, List.take_of_length_le (by omega)] at this; exact this
             exact ⟨(), by rw [decide_eq_true he]; rfl, hw.base, hw.toNews⟩)
      · skip
        refine a_done (by kernel_rfl) ?_
        refine e_seq ?_
        refine w_cond_f rfl ?_
        refine w_skip ?_
        refine e_blk ?_
        refine e_seq ?_
        refine w_region ?_
        refine o_y (y_addi rfl rfl (by omega) (by omega)) rfl rfl ?_
        refine o_y (y_move rfl) rfl rfl ?_
        refine wl_nil ?_
        refine e_back (k + 1) ?_ ?_ ⟨rfl, trivial⟩ (by repeat (first | exact trivial | refine ⟨rfl, ?_⟩)) (fun w h => h)
        · exact ⟨by omega, take_eq_succ ([] : Str) (by omega) (by omega) hI.2 (by simpa using h6_8)⟩
        · omega
    · skip
      refine wl_nil ?_
      refine e_seq ?_
      refine w_seq ?_
      refine w_cond_f rfl ?_
      refine w_exit ?_
      refine e_seq_exit ?_
      refine e_loop_exit ?_
      refine e_blk_hit ?_
      refine e_seq ?_
      refine w_seq ?_
      refine w_region ?_
      refine o_y (y_assign rfl) rfl rfl ?_
      refine wl_nil ?_
      refine e_seq ?_
      refine w_ret ?_
      refine e_ret (ts := [4]) rfl rfl rfl (fun w hw => ?_)
      first
        | (have hne : xs ≠ ys := ne_of_getD ([] : Str) (k := k) (by simpa using h6_8)
           exact ⟨(), by rw [decide_eq_false hne]; rfl, hw.base, hw.toNews⟩)
        | (have hk : k = xs.length := by omega
           have he : xs = ys := by have := hI.2; rw [hk, List.take_length, List.take_of_length_le (by omega)] at this; exact this
           exact ⟨(), by rw [decide_eq_true he]; rfl, hw.base, hw.toNews⟩)

set_option maxRecDepth 100000 in
set_option maxHeartbeats 1000000 in
theorem c_Follow (x : Ixd) (n : Str) : RC Tryz.prog 33 #[.pointer (some ⟨x.b, 0, none⟩), .string (ba n)] [Ch.row x.b (ixC x) 104, Ch.mp x.rh encN encE x.hm] (α := Option Addr × Nat) (fun p => .agg (chC (chN x.hm n).length p.1 p.2 (chS x.hm n) (chE x.hm n)).toArray) (fun p => [Ch.ls p.1 p.2 26 1 encs (chN x.hm n)]) := by
  refine rc_of_W (args := [.pointer (some ⟨x.b, 0, none⟩), .string (ba n)]) 55 Tryz.func33 rfl rfl rfl (fun w0 => ?_)
  refine w_seq ?_
  refine w_region ?_
  refine o_alloc ty_64 rfl rfl (fun b1 => ?_)
  refine wl_nil ?_
  refine e_seq ?_
  refine w_scope ?_
  refine w_seq ?_
  refine w_region ?_
  refine o_y (y_move rfl) rfl rfl ?_
  refine o_bsl (vs := [_]) ([n] : List (Str)) enc_s Tryz.underlying59 ty_26 rfl rfl rfl rfl rfl rfl (fun As2 => ?_)
  refine o_y (y_build rfl (bu_64_0 _ _ _)) rfl rfl ?_
  refine o_alloc ty_64 rfl rfl (fun b3 => ?_)
  refine o_store ty_64 rfl rfl rfl .z rfl rfl rfl rfl ?_
  refine wl_nil ?_
  refine e_seq ?_
  refine w_seq ?_
  refine w_seq ?_
  refine w_region ?_
  refine o_y (y_move rfl) rfl rfl ?_
  refine o_y (y_eqp Tryz.underlying39 rfl rfl) rfl rfl ?_
  refine wl_as (t := 12) (.bool false) rfl (congrArg Value.bool rfl) ?_
  refine o_y (y_move rfl) rfl rfl ?_
  refine wl_gyes rfl rfl ?_
  refine o_y (y_move rfl) rfl rfl ?_
  refine wl_gyes rfl rfl ?_
  refine o_callp rfl ent_56 (c_name_Check _) rfl ?_
  refine wl_gyes rfl rfl ?_
  refine o_y (y_neq rfl rfl) rfl rfl ?_
  refine wl_splitp (t := 16) rfl (fun h2_5 => ?_) (fun h2_5 => ?_)
  · skip
    refine o_y (y_pick_f rfl rfl) rfl rfl ?_
    refine wl_nil ?_
    refine e_seq ?_
    refine w_cond_t rfl ?_
    refine w_seq ?_
    refine w_region ?_
    refine o_y (y_loadrs 0 ty_64 rfl rfl rfl rfl) rfl rfl ?_
    refine o_store ty_64 rfl rfl rfl (.s (.s (.z))) rfl rfl rfl rfl ?_
    refine wl_nil ?_
    refine e_seq ?_
    refine w_ret ?_
    refine e_seq_ret ?_
    refine e_scope_ret ?_
    refine e_rsr (rs := [.cell 4 64]) rfl (rs_cells 2 ty_64 rfl rfl rfl rfl rs_nil) rfl (fun w hw => ?_)
    have hf : findI x.hm n = none := findI_bad h2_5
    have hg := tail_none (gal_none hf) 8
    have hN : chN x.hm n = [n] := hg.1
    have hL : chL x.hm n = n := hg.2
    have hS : chS x.hm n = 0 := by rw [chS, hL, hf, hN]; rfl
    have hE : chE x.hm n = le0 := by rw [chE, hL, hf]; rfl
    exact ⟨(As2, 1), by rw [hN, hS, hE]; rfl, hw.base, by rw [hN]; exact (hw.weak (.cons _ (.cons_cons _ (.cons _ .slnil))) (fun s hs => hs)).toNews⟩
  · skip
    refine o_y (y_pick_f rfl rfl) rfl rfl ?_
    refine wl_nil ?_
    refine e_seq ?_
    refine w_cond_f rfl ?_
    refine w_skip ?_
    refine e_seq ?_
    refine w_seq ?_
    refine w_label ?_
    refine e_seq ?_
    refine w_seq ?_
    refine w_block ?_
    refine w_loopL (σ := List Str × Str × Option Addr × Nat) [1, 6, 7, 19, 20, 21, 22, 23, 24, 25, 26, 27, 28, 29, 30, 31, 32, 33, 34, 35, 36, 37, 38, 39, 40, 41, 42, 43, 44, 45, 46, 47, 48, 49, 50, 51, 52, 53] (fun q => tailN (galI x.hm) 8 n = q.1 ++ tailN (galI x.hm) (8 - q.1.length) q.2.1 ∧ lastN (galI x.hm) 8 n = lastN (galI x.hm) (8 - q.1.length) q.2.1 ∧ q.1.length ≤ 8) (fun q => 8 - q.1.length) (fun q => [(1, .string (ba q.2.1))]) (fun q => [Ch.row b3 (chC (q.1 ++ [q.2.1]).length q.2.2.1 q.2.2.2 0 le0) 64, Ch.ls q.2.2.1 q.2.2.2 26 1 encs (q.1 ++ [q.2.1])]) (([], n, As2, 1)) ?_ ⟨rfl, trivial⟩ rfl (fun q hI => ?_)
    · exact ⟨rfl, rfl, Nat.zero_le _⟩
    obtain ⟨pre, m, Ac, cc⟩ := q
    dsimp only at hI ⊢
    refine w_block ?_
    refine w_seq ?_
    refine w_region ?_
    refine o_y (y_move rfl) rfl rfl ?_
    refine o_y (y_move rfl) rfl rfl ?_
    refine o_callq rfl ent_14 rfl (c_Find x _) (fun w hw => (rd_cons (rd_S 0 rfl hw) (rd_cons (rd_S 1 rfl hw) rd_nil))) ?_
    refine o_y (y_move rfl) rfl rfl ?_
    refine o_y (y_extract rfl rfl) rfl rfl ?_
    refine o_y (y_extract rfl rfl) rfl rfl ?_
    refine wl_splitb (t := 24) rfl (fun h4_5 => ?_) (fun h4_5 => ?_)
    · skip
      refine o_alloc ty_34 rfl rfl (fun b4 => ?_)
      refine o_store ty_34 rfl rfl rfl .z rfl rfl rfl rfl ?_
      refine o_y (y_assign rfl) rfl rfl ?_
      refine wl_nil ?_
      refine e_seq ?_
      refine w_seq ?_
      refine w_block ?_
      refine w_seq ?_
      refine w_region ?_
      refine o_y (y_move rfl) rfl rfl ?_
      refine o_y (y_not rfl) rfl rfl ?_
      refine o_y (y_assign rfl) rfl rfl ?_
      refine wl_nil ?_
      refine e_seq ?_
      refine w_cond_f rfl ?_
      refine w_seq ?_
      refine w_region ?_
      refine o_y (y_field fa_34_1 rfl) rfl rfl ?_
      refine o_y (y_loadr 0 ty_3 rfl rfl rfl) rfl rfl ?_
      refine o_y (y_neq rfl rfl) rfl rfl ?_
      refine wl_splitp (t := 36) rfl (fun h8_2 => ?_) (fun h8_2 => ?_)
      · skip
        refine o_y (y_assign rfl) rfl rfl ?_
        refine wl_nil ?_
        refine e_seq ?_
        refine w_cond_t rfl ?_
        refine w_seq ?_
        have hst := tail_stop hI.1 hI.2.1 (.inl (gal_other h8_2))
        have hN : chN x.hm n = pre ++ [m] := hst.1
        have hL : chL x.hm n = m := hst.2
        have hsn := st_other (len := (chN x.hm n).length) h4_5 h8_2
        have hS : chS x.hm n = 1 := by rw [chS, hL, hsn.1]
        have hE : chE x.hm n = (findI x.hm m).getD le0 := by rw [chE, hL, hsn.2]
        refine w_drawA 4 rfl mixed (fun w h => (h.any (b := b3) (n := 9) (T := 64) (.s (.z)) rfl)) ?_
        refine a_take (i := 0) rfl wanted_none (y_loadrs 0 ty_34 rfl rfl rfl rfl) (fun w h => (h.any (b := b3) (n := 9) (T := 64) (.s (.z)) rfl)) (fun w h => h) rfl (pk_seq (pk_blk (pk_seq (pk_blk (pk_loop (pk_blk (pk_seq (pk_scope pk_fn)))))))) (by kernel_rfl) rfl ?_
        refine a_take (i := 1) rfl wanted_none (y_field fa_64_1 rfl) (fun w h => (h.any (b := b3) (n := 9) (T := 64) (.s (.z)) rfl)) (fun w h => h) rfl (pk_seq (pk_blk (pk_seq (pk_blk (pk_loop (pk_blk (pk_seq (pk_scope pk_fn)))))))) (by kernel_rfl) rfl ?_
        refine a_one (i := 2) rfl rfl rfl (fun _ _ _ => tame_op (by kernel_rfl)) (by kernel_rfl) rfl ?_
        refine o_store ty_3 rfl rfl rfl (.s (.z)) rfl rfl rfl rfl ?_
        refine wl_nil ?_
        refine e_one (fun w h => (h.any (b := b3) (n := 9) (T := 64) (.s (.z)) rfl)) ?_
        refine a_take (i := 3) rfl wanted_none (y_field fa_64_2 rfl) (fun w h => (h.any (b := b3) (n := 9) (T := 64) (.s (.z)) rfl)) (fun w h => h) rfl (pk_seq (pk_blk (pk_seq (pk_blk (pk_loop (pk_blk (pk_seq (pk_scope pk_fn)))))))) (by kernel_rfl) rfl ?_
        refine a_one (i := 4) rfl rfl rfl (fun _ _ _ => tame_op (by kernel_rfl)) (by kernel_rfl) rfl ?_
        refine o_store ty_34 rfl rfl rfl (.s (.z)) rfl rfl rfl rfl ?_
        refine wl_nil ?_
        refine e_tail rfl ?_
        refine a_done (by kernel_rfl) ?_
        refine e_seq ?_
        refine w_exit ?_
        refine e_blk_miss rfl ?_
        refine e_seq_exit ?_
        refine e_blk_miss rfl ?_
        refine e_loop_exit ?_
        refine e_blk_hit ?_
        refine e_seq ?_
        refine w_seq ?_
        refine w_region ?_
        refine o_y (y_loadrs 1 ty_64 rfl rfl rfl rfl) rfl rfl ?_
        refine o_store ty_64 rfl rfl rfl (.s (.s (.s (.z)))) rfl rfl rfl rfl ?_
        refine wl_nil ?_
        refine e_seq ?_
        refine w_ret ?_
        refine e_scope_ret ?_
        refine e_rsr (rs := [.cell 4 64]) rfl (rs_cells 3 ty_64 rfl rfl rfl rfl rs_nil) rfl (fun w hw => ?_)
        exact ⟨(Ac, cc), by rw [hN, hS, hE]; rfl, hw.base, by rw [hN]; exact (hw.weak (.cons _ (.cons _ (.cons_cons _ (.cons _ .slnil)))) (fun s hs => hs)).toNews⟩
      · skip
        refine o_y (y_assign rfl) rfl rfl ?_
        refine wl_nil ?_
        refine e_seq ?_
        refine w_cond_f rfl ?_
        refine w_seq ?_
        refine w_region ?_
        refine o_y (y_field fa_64_0 rfl) rfl rfl ?_
        refine o_y (y_loadr 1 ty_59 rfl rfl rfl) rfl rfl ?_
        refine o_y (y_lenl Tryz.underlying59 rfl) rfl rfl ?_
        refine o_y (y_gtr rfl rfl) rfl rfl ?_
        refine wl_splitp (t := 44) rfl (fun h10_3 => ?_) (fun h10_3 => ?_)
        · skip
          refine o_y (y_assign rfl) rfl rfl ?_
          refine wl_nil ?_
          refine e_seq ?_
          refine w_cond_t rfl ?_
          refine w_seq ?_
          have hst := tail_stop hI.1 hI.2.1 (.inr (by simp only [List.length_append, List.length_cons, List.length_nil] at h10_3; omega))
          have hN : chN x.hm n = pre ++ [m] := hst.1
          have hL : chL x.hm n = m := hst.2
          have hk3 : ((findI x.hm m).getD le0).e.kind = 3 := by omega
          have hsn := st_alias (len := (chN x.hm n).length) h4_5 hk3
          have hS : chS x.hm n = 3 := by rw [chS, hL, hsn.1]
          have hE : chE x.hm n = le0 := by rw [chE, hL, hsn.2]
          refine w_region ?_
          refine o_y (y_field fa_64_1 rfl) rfl rfl ?_
          refine o_store ty_3 rfl rfl rfl (.s (.z)) rfl rfl rfl rfl ?_
          refine wl_nil ?_
          refine e_seq ?_
          refine w_exit ?_
          refine e_blk_miss rfl ?_
          refine e_seq_exit ?_
          refine e_blk_miss rfl ?_
          refine e_loop_exit ?_
          refine e_blk_hit ?_
          refine e_seq ?_
          refine w_seq ?_
          refine w_region ?_
          refine o_y (y_loadrs 1 ty_64 rfl rfl rfl rfl) rfl rfl ?_
          refine o_store ty_64 rfl rfl rfl (.s (.s (.s (.z)))) rfl rfl rfl rfl ?_
          refine wl_nil ?_
          refine e_seq ?_
          refine w_ret ?_
          refine e_scope_ret ?_
          refine e_rsr (rs := [.cell 4 64]) rfl (rs_cells 3 ty_64 rfl rfl rfl rfl rs_nil) rfl (fun w hw => ?_)
          exact ⟨(Ac, cc), by rw [hN, hS, hE]; rfl, hw.base, by rw [hN]; exact (hw.weak (.cons _ (.cons _ (.cons_cons _ (.cons _ .slnil)))) (fun s hs => hs)).toNews⟩
        · skip
          refine o_y (y_assign rfl) rfl rfl ?_
          refine wl_nil ?_
          refine e_seq ?_
          refine w_cond_f rfl ?_
          refine w_skip ?_
          refine e_blk ?_
          refine e_seq ?_
          refine w_seq ?_
          have hk3 : ((findI x.hm m).getD le0).e.kind = 3 := by omega
          have hpl : pre.length < 8 := by simp only [List.length_append, List.length_cons, List.length_nil] at h10_3; omega
          have hgo := tail_go hI.1 hI.2.1 (gal_yes h4_5 hk3) hpl
          refine w_region ?_
          refine o_y (y_field fa_34_4 rfl) rfl rfl ?_
          refine o_y (y_loadr 0 ty_26 rfl rfl rfl) rfl rfl ?_
          refine o_y (y_assign rfl) rfl rfl ?_
          refine wl_nil ?_
          refine e_seq ?_
          refine w_region ?_
          refine o_y (y_field fa_64_0 rfl) rfl rfl ?_
          refine o_y (y_loadr 1 ty_59 rfl rfl rfl) rfl rfl ?_
          refine o_y (y_move rfl) rfl rfl ?_
          refine o_bsl (vs := [_]) ([((findI x.hm m).getD le0).e.alias] : List (Str)) enc_s Tryz.underlying59 ty_26 rfl rfl rfl rfl rfl rfl (fun As5 => ?_)
          refine o_appm (enc := encs) (sz := 1) _ Tryz.underlying59 ty_26 rfl rfl rfl (fun A c => (.s (.s (.s (.z))))) (src_L 0 Tryz.underlying59 rfl) (by simp only [List.length_cons, List.length_nil, Nat.zero_add]; omega) (by simp only [List.length_cons, List.length_nil, Nat.zero_add]; omega) rfl (fun A5 c5 => ?_)
          refine o_y (y_field fa_64_0 rfl) rfl rfl ?_
          refine o_store ty_59 rfl rfl rfl (.s (.s (.z))) rfl rfl rfl rfl ?_
          refine wl_nil ?_
          refine e_blk ?_
          refine e_back ((pre ++ [m], ((findI x.hm m).getD le0).e.alias, A5, c5)) ?_ ?_ ⟨rfl, trivial⟩ (by repeat (first | exact trivial | refine ⟨rfl, ?_⟩)) (fun w h => h.weak (.cons _ (.cons _ (List.Sublist.refl _))) (fun s hs => hs))
          · exact ⟨hgo.1, hgo.2, by show (pre ++ [m]).length ≤ 8; simp; omega⟩
          · show 8 - (pre ++ [m]).length < 8 - pre.length
            simp; omega
    · skip
      refine o_alloc ty_34 rfl rfl (fun b7 => ?_)
      refine o_store ty_34 rfl rfl rfl .z rfl rfl rfl rfl ?_
      refine o_y (y_assign rfl) rfl rfl ?_
      refine wl_nil ?_
      refine e_seq ?_
      refine w_seq ?_
      refine w_block ?_
      refine w_seq ?_
      refine w_region ?_
      refine o_y (y_move rfl) rfl rfl ?_
      refine o_y (y_not rfl) rfl rfl ?_
      refine o_y (y_assign rfl) rfl rfl ?_
      refine wl_nil ?_
      refine e_seq ?_
      refine w_cond_t rfl ?_
      refine w_seq ?_
      refine w_seq ?_
      have hst := tail_stop hI.1 hI.2.1 (.inl (gal_none (none_of h4_5)))
      have hN : chN x.hm n = pre ++ [m] := hst.1
      have hL : chL x.hm n = m := hst.2
      have hsn := st_none (len := (chN x.hm n).length) h4_5
      have hE : chE x.hm n = le0 := by rw [chE, hL, hsn.2]
      refine w_region ?_
      refine o_y (y_field fa_64_0 rfl) rfl rfl ?_
      refine o_y (y_loadr 1 ty_59 rfl rfl rfl) rfl rfl ?_
      refine o_y (y_lenl Tryz.underlying59 rfl) rfl rfl ?_
      refine o_y (y_gtr rfl rfl) rfl rfl ?_
      refine wl_splitp (t := 31) rfl (fun h6_3 => ?_) (fun h6_3 => ?_)
      · skip
        have hS : chS x.hm n = 2 := by rw [chS, hL, hsn.1, hN, if_pos (by simp only [List.length_append, List.length_cons, List.length_nil] at h6_3 ⊢; omega)]
        refine wl_nil ?_
        refine e_seq ?_
        refine w_cond_t rfl ?_
        refine w_region ?_
        refine o_y (y_field fa_64_1 rfl) rfl rfl ?_
        refine o_store ty_3 rfl rfl rfl (.s (.z)) rfl rfl rfl rfl ?_
        refine wl_nil ?_
        refine e_seq ?_
        refine w_exit ?_
        refine e_blk_miss rfl ?_
        refine e_seq_exit ?_
        refine e_blk_miss rfl ?_
        refine e_loop_exit ?_
        refine e_blk_hit ?_
        refine e_seq ?_
        refine w_seq ?_
        refine w_region ?_
        refine o_y (y_loadrs 1 ty_64 rfl rfl rfl rfl) rfl rfl ?_
        refine o_store ty_64 rfl rfl rfl (.s (.s (.s (.z)))) rfl rfl rfl rfl ?_
        refine wl_nil ?_
        refine e_seq ?_
        refine w_ret ?_
        refine e_scope_ret ?_
        refine e_rsr (rs := [.cell 4 64]) rfl (rs_cells 3 ty_64 rfl rfl rfl rfl rs_nil) rfl (fun w hw => ?_)
        exact ⟨(Ac, cc), by rw [hN, hS, hE]; rfl, hw.base, by rw [hN]; exact (hw.weak (.cons _ (.cons _ (.cons_cons _ (.cons _ .slnil)))) (fun s hs => hs)).toNews⟩
      · skip
        have hS : chS x.hm n = 0 := by rw [chS, hL, hsn.1, hN, if_neg (by simp only [List.length_append, List.length_cons, List.length_nil] at h6_3 ⊢; omega)]
        refine wl_nil ?_
        refine e_seq ?_
        refine w_cond_f rfl ?_
        refine w_skip ?_
        refine e_seq ?_
        refine w_exit ?_
        refine e_blk_miss rfl ?_
        refine e_seq_exit ?_
        refine e_blk_miss rfl ?_
        refine e_loop_exit ?_
        refine e_blk_hit ?_
        refine e_seq ?_
        refine w_seq ?_
        refine w_region ?_
        refine o_y (y_loadrs 1 ty_64 rfl rfl rfl rfl) rfl rfl ?_
        refine o_store ty_64 rfl rfl rfl (.s (.s (.s (.z)))) rfl rfl rfl rfl ?_
        refine wl_nil ?_
        refine e_seq ?_
        refine w_ret ?_
        refine e_scope_ret ?_
        refine e_rsr (rs := [.cell 4 64]) rfl (rs_cells 3 ty_64 rfl rfl rfl rfl rs_nil) rfl (fun w hw => ?_)
        exact ⟨(Ac, cc), by rw [hN, hS, hE]; rfl, hw.base, by rw [hN]; exact (hw.weak (.cons _ (.cons _ (.cons_cons _ (.cons _ .slnil)))) (fun s hs => hs)).toNews⟩

set_option maxRecDepth 100000 in
theorem c_neigh1 (l : List Str) (A : Option Addr) (c bn : Nat) (hl : l.length ≤ 1000000000) : Iter Tryz.prog 111 [.pointer (some ⟨bn, 0, none⟩)] [Ch.row bn [.slice A l.length c] 59, Ch.rd A 1 encs l] encP (pairs l) := by
  refine iter_of_W 22 Tryz.func111 rfl rfl rfl (fun lr σ I Ix C Sc hy g0 hg0 w0 => ?_)
  refine w_seq ?_
  refine w_region ?_
  refine o_y (y_assign rfl) rfl rfl ?_
  refine wl_nil ?_
  refine e_seq ?_
  refine w_block ?_
  refine w_loop1 (σ := Nat × σ) [3, 4, 5, 6, 7, 8, 9, 10, 11, 12, 13, 14, 15, 16, 17, 18, 19, 20, 21] (fun q => q.1 ≤ l.length - 1 ∧ I ((pairs l).take q.1) q.2) (fun q => l.length - q.1) (fun q => [(3, .int .i64 ((q.1 : Int) + 1))]) (fun q => C q.2) ((0, g0)) ?_ ⟨rfl, trivial⟩ rfl (fun q hI => ?_)
  · exact ⟨Nat.zero_le _, hg0⟩
  obtain ⟨k, g⟩ := q
  dsimp only at hI ⊢
  refine w_seq ?_
  refine w_seq ?_
  refine w_region ?_
  refine o_y (y_move rfl) rfl rfl ?_
  refine o_y (y_loadSo 0 ty_59 rfl rfl rfl) rfl rfl ?_
  refine o_y (y_lenl Tryz.underlying59 rfl) rfl rfl ?_
  refine o_y (y_lss rfl rfl) rfl rfl ?_
  refine wl_splitp (t := 7) rfl (fun h1_3 => ?_) (fun h1_3 => ?_)
  · skip
    refine wl_nil ?_
    refine e_seq ?_
    refine w_cond_t rfl ?_
    refine w_skip ?_
    refine e_seq ?_
    refine w_seq ?_
    refine w_block ?_
    refine w_seq ?_
    have hk1 : k + 1 < l.length := by omega
    have hx2 := pairs_split hk1
    have hpl := pairs_len l
    refine w_drawV 10 mixed ?_
    refine v_take (i := 0) rfl wanted_none (y_move rfl) (fun w h => h) (fun w h => h) rfl (pk_seq (pk_blk (pk_seq (pk_loop (pk_blk pk_fn))))) (by kernel_rfl) rfl ?_
    refine v_take (i := 1) rfl wanted_none (y_loadSo 0 ty_59 rfl rfl rfl) (fun w h => h) (fun w h => h) rfl (pk_seq (pk_blk (pk_seq (pk_loop (pk_blk pk_fn))))) (by kernel_rfl) rfl ?_
    refine v_take (i := 2) rfl wanted_none (y_move rfl) (fun w h => h) (fun w h => h) rfl (pk_seq (pk_blk (pk_seq (pk_loop (pk_blk pk_fn))))) (by kernel_rfl) rfl ?_
    refine v_take (i := 3) rfl wanted_none (y_subi rfl rfl (by omega) (by omega)) (fun w h => h) (fun w h => h) rfl (pk_seq (pk_blk (pk_seq (pk_loop (pk_blk pk_fn))))) (by kernel_rfl) rfl ?_
    refine v_take (i := 4) rfl wanted_none (y_ixm (k := k) Tryz.underlying59 ty_26 rfl rfl (rs_S 1 rfl) (by omega) (by omega)) (fun w h => h) (fun w h => h) rfl (pk_seq (pk_blk (pk_seq (pk_loop (pk_blk pk_fn))))) (by kernel_rfl) rfl ?_
    refine v_take (i := 5) rfl wanted_none (y_ldm0 enc_s ([] : Str) ty_26 rfl (rs_S 1 rfl) (by omega) rfl rfl) (fun w h => h) (fun w h => h) rfl (pk_seq (pk_blk (pk_seq (pk_loop (pk_blk pk_fn))))) (by kernel_rfl) rfl ?_
    refine v_take (i := 6) rfl wanted_none (y_loadSo 0 ty_59 rfl rfl rfl) (fun w h => h) (fun w h => h) rfl (pk_seq (pk_blk (pk_seq (pk_loop (pk_blk pk_fn))))) (by kernel_rfl) rfl ?_
    refine v_take (i := 7) rfl wanted_none (y_move rfl) (fun w h => h) (fun w h => h) rfl (pk_seq (pk_blk (pk_seq (pk_loop (pk_blk pk_fn))))) (by kernel_rfl) rfl ?_
    refine v_take (i := 8) rfl wanted_none (y_ixm (k := (k + 1)) Tryz.underlying59 ty_26 rfl rfl (rs_S 1 rfl) (by omega) (by omega)) (fun w h => h) (fun w h => h) rfl (pk_seq (pk_blk (pk_seq (pk_loop (pk_blk pk_fn))))) (by kernel_rfl) rfl ?_
    refine v_take (i := 9) rfl wanted_none (y_ldm0 enc_s ([] : Str) ty_26 rfl (rs_S 1 rfl) (by omega) rfl rfl) (fun w h => h) (fun w h => h) rfl (pk_seq (pk_blk (pk_seq (pk_loop (pk_blk pk_fn))))) (by kernel_rfl) rfl ?_
    refine v_one (i := 10) rfl (by kernel_rfl) rfl ?_
    refine o_yield rfl rfl (hy _ (l.getD k [], l.getD (k + 1) []) _ g hx2 hI.2) (fun _ => .z) (fun s hs => List.mem_append_right _ hs) rfl (fun g' hT => ?_) (fun g' hF => ?_)
    · skip
      refine wl_nil ?_
      refine ev_tail rfl ?_
      refine v_one (i := 11) rfl (by kernel_rfl) rfl ?_
      refine o_y (y_not rfl) rfl rfl ?_
      refine wl_nil ?_
      refine ev_tail rfl ?_
      refine v_done (by kernel_rfl) ?_
      refine e_seq ?_
      refine w_cond_f rfl ?_
      refine w_skip ?_
      refine e_blk ?_
      refine e_seq ?_
      refine w_region ?_
      refine o_y (y_move rfl) rfl rfl ?_
      refine o_y (y_addi rfl rfl (by omega) (by omega)) rfl rfl ?_
      refine o_y (y_assign rfl) rfl rfl ?_
      refine wl_nil ?_
      refine e_back ((k + 1, g')) ?_ ?_ ⟨lk rfl (by congr 1), trivial⟩ (by repeat (first | exact trivial | refine ⟨rfl, ?_⟩)) (fun w h => h)
      · exact ⟨by show k + 1 ≤ _; omega, by show I ((pairs l).take (k + 1)) _; rw [pairs_take hk1]; exact hT⟩
      · show l.length - (k + 1) < l.length - k
        omega
    · skip
      refine wl_nil ?_
      refine ev_tail rfl ?_
      refine v_one (i := 11) rfl (by kernel_rfl) rfl ?_
      refine o_y (y_not rfl) rfl rfl ?_
      refine wl_nil ?_
      refine ev_tail rfl ?_
      refine v_done (by kernel_rfl) ?_
      refine e_seq ?_
      refine w_cond_t rfl ?_
      refine w_ret ?_
      refine e_blk_ret ?_
      refine e_seq_ret ?_
      refine e_loop_ret ?_
      refine e_blk_ret ?_
      refine e_ret (ts := []) rfl rfl rfl (fun w hw => ?_)
      first
        | exact iter_end _ (.inr ⟨_, (pairs l).drop (k + 1), by rw [List.append_assoc]; exact hx2, hF⟩) (hw.weak (.cons_cons _ .slnil) (fun s hs => hs))
        | exact iter_end _ (.inl (by have hpl := pairs_len l; rw [List.take_of_length_le (by omega)] at hI; exact hI.2)) (hw.weak (.cons_cons _ .slnil) (fun s hs => hs))
        | (trace_state; fail)
  · skip
    refine wl_nil ?_
    refine e_seq ?_
    refine w_cond_f rfl ?_
    refine w_exit ?_
    refine e_seq_exit ?_
    refine e_loop_exit ?_
    refine e_blk_hit ?_
    refine e_end (ts := []) rfl rfl rfl (fun w hw => ?_)
    first
      | exact iter_end _ (.inr ⟨_, (pairs l).drop (k + 1), by rw [List.append_assoc]; exact hx2, hF⟩) (hw.weak (.cons_cons _ .slnil) (fun s hs => hs))
      | exact iter_end _ (.inl (by have hpl := pairs_len l; rw [List.take_of_length_le (by omega)] at hI; exact hI.2)) (hw.weak (.cons_cons _ .slnil) (fun s hs => hs))
      | (trace_state; fail)

theorem c_neigh (l : List Str) (A : Option Addr) (c : Nat) : RC Tryz.prog 78 #[.slice A l.length c] [] (α := Nat) (fun p => .func (.func 111) #[] #[.pointer (some ⟨p, 0, none⟩)]) (fun p => [Ch.row p [.slice A l.length c] 59]) := by
  refine rc_of_W (args := [.slice A l.length c]) 4 Tryz.func78 rfl rfl rfl (fun w0 => ?_)
  refine w_seq ?_
  refine w_region ?_
  refine o_box rfl rfl rfl (fun b1 => ?_)
  refine o_y (y_assign rfl) rfl rfl ?_
  refine wl_nil ?_
  refine e_seq ?_
  refine w_seq ?_
  refine w_region ?_
  refine o_y (y_makeFunc rfl rfl) rfl rfl ?_
  refine o_y (y_assign rfl) rfl rfl ?_
  refine wl_nil ?_
  refine e_seq ?_
  refine w_ret ?_
  refine e_ret (ts := [2]) rfl rfl rfl (fun w hw => ?_)
  exact ⟨b1, rfl, hw.base, (hw.weak (.cons_cons _ .slnil) (fun s hs => hs)).toNews⟩

set_option maxRecDepth 100000 in
set_option maxHeartbeats 1000000 in
theorem c_Hops (x : Ixd) (l : List Str) (A : Option Addr) (c : Nat) (cs : Int) (ce : Le) (hl : l.length ≤ 1000000000) : RC Tryz.prog 29 #[.pointer (some ⟨x.b, 0, none⟩), .agg (chC l.length A c cs ce).toArray] [Ch.row x.b (ixC x) 104, Ch.mp x.rh encN encE x.hm, Ch.rd A 1 encs l] (α := Option Addr × Nat) (fun p => .slice p.1 (hopsI x.hm l).length p.2) (fun p => [Ch.ls p.1 p.2 75 16 rcC (hopsI x.hm l)]) := by
  refine rc_of_WM (args := [.pointer (some ⟨x.b, 0, none⟩), .agg (chC l.length A c cs ce).toArray]) 37 Tryz.func29 rfl rfl rfl (fun w0 => ?_)
  refine w_seq ?_
  refine w_region ?_
  refine o_box rfl rfl rfl (fun b1 => ?_)
  refine o_box rfl rfl rfl (fun b2 => ?_)
  refine o_y (y_assign rfl) rfl rfl ?_
  refine wl_nil ?_
  refine e_seq ?_
  refine w_seq ?_
  refine w_region ?_
  refine o_alloc ty_66 rfl rfl (fun b3 => ?_)
  refine wl_nil ?_
  refine e_seq ?_
  refine w_seq ?_
  refine w_seq ?_
  refine w_region ?_
  refine o_y (y_field fa_64_0 rfl) rfl rfl ?_
  refine o_y (y_loadr 1 ty_59 rfl rfl rfl) rfl rfl ?_
  refine o_callr1 rfl ent_78 rfl (c_neigh _ _ _) (fun w hw => rd_nil) (fun p3 => ?_)
  refine wl_heap (fun w h => h.freeze) ?_
  refine wl_nil ?_
  refine e_seq ?_
  refine w_block ?_
  refine w_heap (fun w h => h.nilsl 75 16) ?_
  refine w_range (σ := List Rc × Option Addr × Nat) (fun pre g => g.1 = (pre.flatMap (hopI x.hm))) (fun c pre g => False) (fun g => [Ch.ls g.2.1 g.2.2 75 16 rcC g.1, Ch.row b3 [.slice g.2.1 g.1.length g.2.2] 66, Ch.row b2 (chC l.length A c cs ce) 64, Ch.row b1 [.pointer (some ⟨x.b, 0, none⟩)] 39]) (([], none, 0)) rfl rfl ent_111 (c_neigh1 l A c p3 hl) (List.forall_mem_cons.2 ⟨.head _, List.forall_mem_cons.2 ⟨.tail _ (.tail _ (.tail _ (.head _))), nofun⟩⟩) rfl (fun _ => rfl) (rfl) rfl (fun pre e post g hxs hI lr D r hr okb wb => ?_) (fun g D0 hI => ?_) (fun c pre post g D0 hxs hI => ?_)
  · skip
    obtain ⟨q, Ax, cx⟩ := g
    dsimp only at hI ⊢
    subst hI
    have hpn : pre.length ≤ l.length := by
      have h1 := congrArg List.length hxs
      rw [pairs_len] at h1
      simp at h1; omega
    have hq9 := hops_len (m := x.hm) (q := pre)
    refine w_seq ?_
    refine w_region ?_
    refine o_y (y_assign rfl) rfl rfl ?_
    refine wl_nil ?_
    refine e_seq ?_
    refine w_region ?_
    refine o_y (y_assign rfl) rfl rfl ?_
    refine wl_nil ?_
    refine e_begin rfl hr .z ?_
    refine w_block ?_
    refine w_seq ?_
    refine w_region ?_
    refine o_y (y_loadr 5 ty_39 rfl rfl rfl) rfl rfl ?_
    refine o_y (y_move rfl) rfl rfl ?_
    refine o_callq rfl ent_14 rfl (c_Find x _) (fun w hw => (rd_cons (rd_S 1 rfl hw) (rd_cons (rd_S 2 rfl hw) rd_nil))) ?_
    refine o_y (y_move rfl) rfl rfl ?_
    refine o_y (y_extract rfl rfl) rfl rfl ?_
    refine o_y (y_extract rfl rfl) rfl rfl ?_
    refine wl_splitb (t := 20) rfl (fun h5_5 => ?_) (fun h5_5 => ?_)
    · skip
      refine o_alloc ty_34 rfl rfl (fun b5 => ?_)
      refine o_store ty_34 rfl rfl rfl .z rfl rfl rfl rfl ?_
      refine o_y (y_assign rfl) rfl rfl ?_
      refine wl_nil ?_
      refine e_seq ?_
      refine w_seq ?_
      refine w_region ?_
      refine o_y (y_move rfl) rfl rfl ?_
      refine o_y (y_move rfl) rfl rfl ?_
      refine wl_gyes rfl rfl ?_
      refine o_y (y_field fa_34_1 rfl) rfl rfl ?_
      refine wl_gyes rfl rfl ?_
      refine o_y (y_loadr 0 ty_3 rfl rfl rfl) rfl rfl ?_
      refine wl_gyes rfl rfl ?_
      refine o_y (y_eql rfl rfl) rfl rfl ?_
      refine wl_splitp (t := 25) rfl (fun h6_4 => ?_) (fun h6_4 => ?_)
      · skip
        refine o_y (y_pick_t rfl rfl) rfl rfl ?_
        refine wl_nil ?_
        refine e_seq ?_
        refine w_cond_t rfl ?_
        refine w_region ?_
        refine o_y (y_loadr 4 ty_66 rfl rfl rfl) rfl rfl ?_
        refine o_y (y_move rfl) rfl rfl ?_
        refine o_y (y_field fa_34_6 rfl) rfl rfl ?_
        refine o_y (y_loadr 0 ty_32 rfl rfl rfl) rfl rfl ?_
        refine o_y (y_move rfl) rfl rfl ?_
        refine o_y (y_build rfl (bu_73_1 _)) rfl rfl ?_
        refine o_y (y_build rfl (bu_75_0_1_2_3_4 _ _ _ _ _ _ _ _ _ _ _ _ _ _ _ _ _ _)) rfl rfl ?_
        refine o_bsl (vs := [_]) ([(⟨e.1, 5, 1, ((findI x.hm e.1).getD le0).e.ttl, { dt0 with name := e.2 }⟩ : Rc)] : List (Rc)) enc_rc Tryz.underlying66 ty_75 rfl rfl rfl rfl rfl rfl (fun As6 => ?_)
        refine o_appm (enc := rcC) (sz := 16) _ Tryz.underlying66 ty_75 rfl rfl rfl (fun A c => (.s (.s (.s (.s (.z)))))) (src_L 0 Tryz.underlying66 rfl) (by simp only [List.length_cons, List.length_nil, Nat.zero_add]; omega) (by simp only [List.length_cons, List.length_nil, Nat.zero_add]; omega) rfl (fun A6 c6 => ?_)
        refine o_store ty_66 rfl rfl rfl (.s (.s (.s (.s (.s (.z)))))) rfl rfl rfl rfl ?_
        refine wl_nil ?_
        refine e_blk ?_
        refine e_rend (((pre.flatMap (hopI x.hm)) ++ [(⟨e.1, 5, 1, ((findI x.hm e.1).getD le0).e.ttl, { dt0 with name := e.2 }⟩ : Rc)], A6, c6)) ?_ (fun w h => h.weak (.cons _ (.cons _ (List.Sublist.refl _))) (fun s hs => hs))
        · rw [List.flatMap_append, List.flatMap_singleton, hop_yes h5_5 h6_4]
      · skip
        refine o_y (y_pick_t rfl rfl) rfl rfl ?_
        refine wl_nil ?_
        refine e_seq ?_
        refine w_cond_f rfl ?_
        refine w_skip ?_
        refine e_blk ?_
        refine e_rend (((pre.flatMap (hopI x.hm)), Ax, cx)) ?_ (fun w h => h.weak (.cons _ (List.Sublist.refl _)) (fun s hs => hs))
        · rw [List.flatMap_append, List.flatMap_singleton, hop_no (by first | exact .inl h5_5 | exact .inr h6_4), List.append_nil]
    · skip
      refine o_alloc ty_34 rfl rfl (fun b8 => ?_)
      refine o_store ty_34 rfl rfl rfl .z rfl rfl rfl rfl ?_
      refine o_y (y_assign rfl) rfl rfl ?_
      refine wl_nil ?_
      refine e_seq ?_
      refine w_seq ?_
      refine w_region ?_
      refine o_y (y_move rfl) rfl rfl ?_
      refine o_y (y_move rfl) rfl rfl ?_
      refine wl_gno rfl rfl rfl rfl ?_
      refine wl_gno rfl rfl rfl rfl ?_
      refine wl_gno rfl rfl rfl rfl ?_
      refine o_y (y_pick_f rfl rfl) rfl rfl ?_
      refine wl_nil ?_
      refine e_seq ?_
      refine w_cond_f rfl ?_
      refine w_skip ?_
      refine e_blk ?_
      refine e_rend (((pre.flatMap (hopI x.hm)), Ax, cx)) ?_ (fun w h => h.weak (.cons _ (List.Sublist.refl _)) (fun s hs => hs))
      · rw [List.flatMap_append, List.flatMap_singleton, hop_no (by first | exact .inl h5_5 | exact .inr h6_4), List.append_nil]
  · skip
    obtain ⟨q, Ax, cx⟩ := g
    dsimp only at hI ⊢
    subst hI
    refine e_blk ?_
    refine e_seq ?_
    refine w_seq ?_
    refine w_region ?_
    refine o_y (y_loadr 2 ty_66 rfl rfl rfl) rfl rfl ?_
    refine o_y (y_assign rfl) rfl rfl ?_
    refine wl_nil ?_
    refine e_seq ?_
    refine w_ret ?_
    refine e_lvr ?_
    refine lv_take .z ?_
    refine lv_nil (rs := [.tmp 4]) rfl (rs_tmp rfl rs_nil) (fun w hw => ?_)
    exact ⟨(Ax, cx), rfl, hw.base, (hw.weak (.cons _ (.cons_cons _ (.cons _ (.cons _ (.cons _ .slnil))))) (fun s hs => hs)).toNews⟩
  · skip
    exact hI.elim

theorem c_Last (l : List Str) (A : Option Addr) (c : Nat) (cs : Int) (ce : Le) (hl : l.length ≤ 1000000000) : RC Tryz.prog 35 #[.agg (chC l.length A c cs ce).toArray] [Ch.rd A 1 encs l] (α := Unit) (fun _ => .string (ba (l.getD (l.length - 1) []))) (fun _ => []) := by
  refine rc_of_W (args := [.agg (chC l.length A c cs ce).toArray]) 15 Tryz.func35 rfl rfl rfl (fun w0 => ?_)
  refine w_seq ?_
  refine w_region ?_
  refine o_box rfl rfl rfl (fun b1 => ?_)
  refine o_y (y_assign rfl) rfl rfl ?_
  refine wl_nil ?_
  refine e_seq ?_
  refine w_seq ?_
  refine w_seq ?_
  refine w_region ?_
  refine o_y (y_field fa_64_0 rfl) rfl rfl ?_
  refine o_y (y_loadr 0 ty_59 rfl rfl rfl) rfl rfl ?_
  refine o_y (y_lenl Tryz.underlying59 rfl) rfl rfl ?_
  refine o_y (y_eql rfl rfl) rfl rfl ?_
  refine wl_splitp (t := 6) rfl (fun h1_3 => ?_) (fun h1_3 => ?_)
  · skip
    refine wl_nil ?_
    refine e_seq ?_
    refine w_cond_t rfl ?_
    refine w_seq ?_
    refine w_region ?_
    refine o_y (y_assign rfl) rfl rfl ?_
    refine wl_nil ?_
    refine e_seq ?_
    refine w_ret ?_
    refine e_seq_ret ?_
    refine e_ret (ts := [2]) rfl rfl rfl (fun w hw => ?_)
    have hz : l = [] := List.length_eq_zero_iff.1 (by omega)
    subst hz
    exact ⟨(), rfl, hw.base, (hw.weak (List.nil_sublist _) (fun s hs => hs)).toNews⟩
  · skip
    refine wl_nil ?_
    refine e_seq ?_
    refine w_cond_f rfl ?_
    refine w_skip ?_
    refine e_seq ?_
    refine w_seq ?_
    refine w_region ?_
    refine o_y (y_field fa_64_0 rfl) rfl rfl ?_
    refine o_y (y_loadr 0 ty_59 rfl rfl rfl) rfl rfl ?_
    refine o_y (y_field fa_64_0 rfl) rfl rfl ?_
    refine o_y (y_loadr 0 ty_59 rfl rfl rfl) rfl rfl ?_
    refine o_y (y_lenl Tryz.underlying59 rfl) rfl rfl ?_
    refine o_y (y_subi rfl rfl (by omega) (by omega)) rfl rfl ?_
    refine o_y (y_ixm (k := (l.length - 1)) Tryz.underlying59 ty_26 rfl rfl (rs_S 0 rfl) (by omega) (by omega)) rfl rfl ?_
    refine o_y (y_ldm0 enc_s ([] : Str) ty_26 rfl (rs_S 0 rfl) (by omega) rfl rfl) rfl rfl ?_
    refine o_y (y_assign rfl) rfl rfl ?_
    refine wl_nil ?_
    refine e_seq ?_
    refine w_ret ?_
    refine e_ret (ts := [2]) rfl rfl rfl (fun w hw => ?_)
    exact ⟨(), rfl, hw.base, (hw.weak (List.nil_sublist _) (fun s hs => hs)).toNews⟩

theorem c_chase_Same (l1 : List Str) (A1 : Option Addr) (c1 : Nat) (s1 : Int) (e1 : Le) (l2 : List Str) (A2 : Option Addr) (c2 : Nat) (s2 : Int) (e2 : Le) (hl : l1.length ≤ 1000000000) (ha : e1.e.addrs.length ≤ 1000000000) (hp : e1.e.ports.length ≤ 1000000000) : RC Tryz.prog 37 #[.agg (chC l1.length A1 c1 s1 e1).toArray, .agg (chC l2.length A2 c2 s2 e2).toArray] [Ch.rd A1 1 encs l1, Ch.rd e1.A 3 adC e1.e.addrs, Ch.rd e1.B 1 enci e1.e.ports, Ch.rd A2 1 encs l2, Ch.rd e2.A 3 adC e2.e.addrs, Ch.rd e2.B 1 enci e2.e.ports] (α := Unit) (fun _ => .bool (decide (s1 = s2) && decide (l1 = l2) && decide (e1.e = e2.e))) (fun _ => []) := by
  refine rc_of_W (args := [.agg (chC l1.length A1 c1 s1 e1).toArray, .agg (chC l2.length A2 c2 s2 e2).toArray]) 24 Tryz.func37 rfl rfl rfl (fun w0 => ?_)
  refine w_seq ?_
  refine w_region ?_
  refine o_box rfl rfl rfl (fun b1 => ?_)
  refine o_box rfl rfl rfl (fun b2 => ?_)
  refine o_y (y_assign rfl) rfl rfl ?_
  refine wl_nil ?_
  refine e_seq ?_
  refine w_seq ?_
  refine w_region ?_
  refine o_y (y_field fa_64_1 rfl) rfl rfl ?_
  refine o_y (y_loadr 1 ty_3 rfl rfl rfl) rfl rfl ?_
  refine o_y (y_field fa_64_1 rfl) rfl rfl ?_
  refine o_y (y_loadr 0 ty_3 rfl rfl rfl) rfl rfl ?_
  refine o_y (y_eql rfl rfl) rfl rfl ?_
  refine wl_splitp (t := 9) rfl (fun h1_4 => ?_) (fun h1_4 => ?_)
  · skip
    refine o_y (y_move rfl) rfl rfl ?_
    refine wl_gyes rfl rfl ?_
    refine o_y (y_field fa_64_0 rfl) rfl rfl ?_
    refine wl_gyes rfl rfl ?_
    refine o_y (y_loadr 1 ty_59 rfl rfl rfl) rfl rfl ?_
    refine wl_gyes rfl rfl ?_
    refine o_y (y_field fa_64_0 rfl) rfl rfl ?_
    refine wl_gyes rfl rfl ?_
    refine o_y (y_loadr 0 ty_59 rfl rfl rfl) rfl rfl ?_
    refine wl_gyes rfl rfl ?_
    refine o_callq rfl ent_81 rfl (c_Equal_n _ _ _ _ _ _ (by omega)) (fun w hw => (rd_cons (rd_S 0 rfl hw) (rd_cons (rd_S 3 rfl hw) rd_nil))) ?_
    refine wl_splitb (t := 15) rfl (fun h1_10 => ?_) (fun h1_10 => ?_)
    · skip
      refine o_y (y_pick_t rfl rfl) rfl rfl ?_
      refine o_y (y_move rfl) rfl rfl ?_
      refine wl_gyes rfl rfl ?_
      refine o_y (y_field fa_64_2 rfl) rfl rfl ?_
      refine wl_gyes rfl rfl ?_
      refine o_y (y_loadrs 1 ty_34 rfl rfl rfl rfl) rfl rfl ?_
      refine wl_gyes rfl rfl ?_
      refine o_y (y_field fa_64_2 rfl) rfl rfl ?_
      refine wl_gyes rfl rfl ?_
      refine o_y (y_loadrs 0 ty_34 rfl rfl rfl rfl) rfl rfl ?_
      refine wl_gyes rfl rfl ?_
      refine o_callq rfl ent_82 rfl (c_entry_Same e1.e e1.A e1.B e1.c e1.d e2.e e2.A e2.B e2.c e2.d (by omega) (by omega)) (fun w hw => (rd_cons (rd_S 1 rfl hw) (rd_cons (rd_S 2 rfl hw) (rd_cons (rd_S 4 rfl hw) (rd_cons (rd_S 5 rfl hw) rd_nil))))) ?_
      refine o_y (y_pick_t rfl rfl) rfl rfl ?_
      refine o_y (y_assign rfl) rfl rfl ?_
      refine wl_nil ?_
      refine e_seq ?_
      refine w_ret ?_
      refine e_ret (ts := [4]) rfl rfl rfl (fun w hw => ?_)
      refine ⟨(), ?_, hw.base, (hw.weak (List.nil_sublist _) (fun s hs => hs)).toNews⟩
      show Ending.returned (.bool _) = _
      congr 2
      simp_all
    · skip
      refine o_y (y_pick_t rfl rfl) rfl rfl ?_
      refine o_y (y_move rfl) rfl rfl ?_
      refine wl_gno rfl rfl rfl rfl ?_
      refine wl_gno rfl rfl rfl rfl ?_
      refine wl_gno rfl rfl rfl rfl ?_
      refine wl_gno rfl rfl rfl rfl ?_
      refine wl_gno rfl rfl rfl rfl ?_
      refine o_y (y_pick_f rfl rfl) rfl rfl ?_
      refine o_y (y_assign rfl) rfl rfl ?_
      refine wl_nil ?_
      refine e_seq ?_
      refine w_ret ?_
      refine e_ret (ts := [4]) rfl rfl rfl (fun w hw => ?_)
      refine ⟨(), ?_, hw.base, (hw.weak (List.nil_sublist _) (fun s hs => hs)).toNews⟩
      show Ending.returned (.bool _) = _
      congr 2
      simp_all
  · skip
    refine o_y (y_move rfl) rfl rfl ?_
    refine wl_gno rfl rfl rfl rfl ?_
    refine wl_gno rfl rfl rfl rfl ?_
    refine wl_gno rfl rfl rfl rfl ?_
    refine wl_gno rfl rfl rfl rfl ?_
    refine wl_gno rfl rfl rfl rfl ?_
    refine o_y (y_pick_f rfl rfl) rfl rfl ?_
    refine o_y (y_move rfl) rfl rfl ?_
    refine wl_gno rfl rfl rfl rfl ?_
    refine wl_gno rfl rfl rfl rfl ?_
    refine wl_gno rfl rfl rfl rfl ?_
    refine wl_gno rfl rfl rfl rfl ?_
    refine wl_gno rfl rfl rfl rfl ?_
    refine o_y (y_pick_f rfl rfl) rfl rfl ?_
    refine o_y (y_assign rfl) rfl rfl ?_
    refine wl_nil ?_
    refine e_seq ?_
    refine w_ret ?_
    refine e_ret (ts := [4]) rfl rfl rfl (fun w hw => ?_)
    refine ⟨(), ?_, hw.base, (hw.weak (List.nil_sublist _) (fun s hs => hs)).toNews⟩
    show Ending.returned (.bool _) = _
    congr 2
    simp_all

theorem c_alias21 (a b : Str) : RC Tryz.prog 77 #[.string (ba a), .string (ba b)] [] (α := Unit) (fun _ => .agg (elC ⟨⟨a, 3, [], [], b, [], 7⟩, none, 0, none, 0⟩).toArray) (fun _ => []) := by
  refine rc_of_W (args := [.string (ba a), .string (ba b)]) 8 Tryz.func77 rfl rfl rfl (fun w0 => ?_)
  refine w_seq ?_
  refine w_region ?_
  refine o_alloc ty_34 rfl rfl (fun b1 => ?_)
  refine wl_nil ?_
  refine e_seq ?_
  refine w_seq ?_
  refine w_region ?_
  refine o_y (y_move rfl) rfl rfl ?_
  refine o_y (y_move rfl) rfl rfl ?_
  refine o_y (y_build rfl (bu_34_0_1_4_6 _ _ _ _)) rfl rfl ?_
  refine o_store ty_34 rfl rfl rfl .z rfl rfl rfl rfl ?_
  refine wl_nil ?_
  refine e_seq ?_
  refine w_ret ?_
  refine e_rsr (rs := [.cell 4 34]) rfl (rs_cells 0 ty_34 rfl rfl rfl rfl rs_nil) rfl (fun w hw => ?_)
  exact ⟨(), rfl, hw.base, (hw.weak (List.nil_sublist _) (fun s hs => hs)).toNews⟩

theorem c_host21 (ls : List Str) (A : Option Addr) (ca : Nat) (hl : ls.length ≤ 1000000000000) : RC Tryz.prog 75 #[.slice A ls.length ca] [Ch.rd A 1 encs ls] (α := Unit) (fun _ => .string (ba (makeN ls).1)) (fun _ => []) := by
  refine rc_of_W (args := [.slice A ls.length ca]) 11 Tryz.func75 rfl rfl rfl (fun w0 => ?_)
  refine w_seq ?_
  refine w_region ?_
  refine o_y (y_assign rfl) rfl rfl ?_
  refine wl_nil ?_
  refine e_seq ?_
  refine w_seq ?_
  refine w_region ?_
  refine o_y (y_move rfl) rfl rfl ?_
  refine o_callq rfl ent_90 rfl (c_ref02_Make _ _ _ (by omega)) (fun w hw => (rd_cons (rd_S 0 rfl hw) rd_nil)) ?_
  refine o_y (y_move rfl) rfl rfl ?_
  refine o_y (y_extract rfl rfl) rfl rfl ?_
  refine o_y (y_extract rfl rfl) rfl rfl ?_
  refine o_y (y_assign rfl) rfl rfl ?_
  refine o_y (y_assign rfl) rfl rfl ?_
  refine wl_nil ?_
  refine e_seq ?_
  refine w_seq ?_
  refine w_region ?_
  refine o_y (y_move rfl) rfl rfl ?_
  refine o_y (y_assign rfl) rfl rfl ?_
  refine wl_nil ?_
  refine e_seq ?_
  refine w_ret ?_
  refine e_ret (ts := [2]) rfl rfl rfl (fun w hw => ?_)
  exact ⟨(), rfl, hw.base, (hw.weak (List.nil_sublist _) (fun s hs => hs)).toNews⟩
end Go.Proofs.YtckfjfnkombelaaGreat
