import Derived.Test.YtfmelbpgkbiooaaGreatRcS
/- the laws of routes: what is fixed -/
namespace Go.Proofs.YtfmelbpgkbiooaaGreat
open Go.RowKit Go.Shelf
set_option linter.unusedVariables false
set_option linter.unusedSimpArgs false

theorem ent_10 : Enters Tryz.prog 10 := enters_of Tryz.func10 (by kernel_rfl) rfl
theorem ent_17 : Enters Tryz.prog 17 := enters_of Tryz.func17 (by kernel_rfl) rfl

theorem rf_hit {l : List Le} {x : Ixd} (hx : IxOk2 l [] x) {a : Ad} {i : Nat} (hi : i < l.length) (hno : ∀ q, q < i → a ∉ (l.getD q le0).e.addrs) (ha : a ∈ (l.getD i le0).e.addrs) : (lkp x.am a).isSome = true ∧ rtI x a = ⟨a, (l.getD i le0).e.host, (l.getD i le0).e.cluster⟩ := by
  have h1 : ofE (l.map (·.e)) [] a = some (l.getD i le0).e := by
    show (l.map (·.e)).find? _ = _
    have e9 : l.getD i le0 = l[i] := by rw [List.getD_eq_getElem?_getD, List.getElem?_eq_getElem hi]; rfl
    have h2 := find_first (F := fun y : Le => decide (a ∈ y.e.addrs)) hi (fun y hy => by
      obtain ⟨q, hq, rfl⟩ := List.mem_iff_getElem.1 hy
      have hq2 : q < i := by simp at hq; omega
      have := hno q hq2
      rw [List.getD_eq_getElem?_getD, List.getElem?_eq_getElem (by omega)] at this
      rw [List.getElem_take]
      exact decide_eq_false this) (by rw [e9] at ha; exact decide_eq_true ha)
    rw [List.find?_map, e9]
    exact congrArg (Option.map (·.e)) h2
  rw [rt_E hx, rtE, am_s hx, h1]
  exact ⟨rfl, rfl⟩
theorem rf_none {l : List Le} {x : Ixd} (hx : IxOk2 l [] x) {a : Ad} (hno : ∀ q, q < l.length → a ∉ (l.getD q le0).e.addrs) : (lkp x.am a).isSome = false ∧ rtI x a = rt0 := by
  have h1 : ofE (l.map (·.e)) [] a = none := by
    show (l.map (·.e)).find? _ = _
    rw [List.find?_eq_none]
    intro e he
    obtain ⟨y, hy, rfl⟩ := List.mem_map.1 he
    obtain ⟨q, hq, rfl⟩ := List.mem_iff_getElem.1 hy
    have := hno q hq
    rw [List.getD_eq_getElem?_getD, List.getElem?_eq_getElem hq] at this
    exact fun h => this (of_decide_eq_true h)
  rw [rt_E hx, rtE, am_s hx, h1]
  exact ⟨rfl, rfl⟩
theorem rf_step {l : List Le} {a : Ad} {i : Nat} (h : ∀ q, q < i → a ∉ (l.getD q le0).e.addrs) (h2 : a ∉ (l.getD i le0).e.addrs) : ∀ q, q < i + 1 → a ∉ (l.getD q le0).e.addrs := fun q hq => by
  by_cases e : q = i
  · rw [e]; exact h2
  · exact h q (by omega)
theorem mem_take_succ {l : List Ad} {k : Nat} {a : Ad} (hk : k < l.length) (h1 : a ∉ l.take k) (h2 : l.getD k ad0 ≠ a) : a ∉ l.take (k + 1) := by
  rw [take_getD l ad0 k hk, List.mem_append, List.mem_singleton]
  rintro (h | h)
  · exact h1 h
  · exact h2 h.symm

set_option maxRecDepth 100000 in
set_option maxHeartbeats 1000000 in
theorem c_RouteFixed (v : Int) (l : List Le) (F : Option Addr) (d : Nat) (a : Ad) (hen : ∀ x ∈ l, EnOk x.e) (hll : l.length ≤ 9223372036854775807) : RC Tryz.prog 4 #[.agg (tbC v F l.length d).toArray, .agg (adC a).toArray] [Ch.rd F 7 elC l, Ch.rall (l.flatMap elR)] (α := Unit) (fun _ => .bool true) (fun _ => []) := by
 refine rc_of_W (args := [.agg (tbC v F l.length d).toArray, .agg (adC a).toArray]) 99 Tryz.func4 rfl rfl rfl (fun w0 => ?_)
 rcases Decidable.em (tabCk v l = 0) with hT | hT
 ·skip
  refine w_seq ?_
  refine w_region ?_
  refine o_box rfl rfl rfl (fun b1 => ?_)
  refine o_box rfl rfl rfl (fun b2 => ?_)
  refine o_y (y_assign rfl) rfl rfl ?_
  refine wl_nil ?_
  refine e_seq ?_
  refine w_seq ?_
  refine w_seq ?_
  refine w_region ?_
  refine o_callp rfl ent_9 c_lives19 rfl ?_
  refine wl_as (t := 11) (.bool true) rfl (congrArg Value.bool rfl) ?_
  refine o_y (y_not rfl) rfl rfl ?_
  refine wl_nil ?_
  refine e_seq ?_
  refine w_cond_f rfl ?_
  refine w_skip ?_
  refine e_seq ?_
  refine w_seq ?_
  refine w_seq ?_
  refine w_region ?_
  refine o_y (y_field fa_24_1 rfl) rfl rfl ?_
  refine o_y (y_loadr 1 ty_22 rfl rfl rfl) rfl rfl ?_
  refine o_callq rfl ent_10 rfl (c_LightEntries _ _ _ _ (by omega)) (fun w hw => (rd_cons (rd_S 0 rfl hw) rd_nil)) ?_
  refine wl_splitb (t := 15) rfl (fun h3_2 => ?_) (fun h3_2 => ?_)
  ·skip
   have hle9 := lightEs_le h3_2
   have hok : TbOk l := fun x hx => ⟨hen x hx, hle9.1 x hx⟩
   have hl9 := hle9.2
   refine o_y (y_not rfl) rfl rfl ?_
   refine wl_nil ?_
   refine e_seq ?_
   refine w_cond_f rfl ?_
   refine w_skip ?_
   refine e_seq ?_
   refine w_seq ?_
   refine w_region ?_
   refine o_y (y_loadrs 1 ty_24 rfl rfl rfl rfl) rfl rfl ?_
   refine o_callr1 rfl ent_12 rfl (c_index_NewH v l _ _ none [] 0 hok (by omega) hT (by decide) nofun) (fun w hw => (rd_cons (rd_S 0 rfl hw) (rd_cons (rd_S 1 rfl hw) (rd_cons (rd_none1) rd_nil)))) (fun ⟨oix, hno, hyes⟩ => ?_)
   refine wl_as (t := 19) (.tuple #[.pointer (ixP oix), .int .i64 (ixE oix)]) rfl (ixV_pe oix) ?_
   obtain ⟨ix, rfl⟩ := ix_yes hno rfl
   obtain ⟨hH, hix2⟩ := hyes ix rfl
   have hix := hix2.ix
   refine o_y (y_move rfl) rfl rfl ?_
   refine o_y (y_extract rfl rfl) rfl rfl ?_
   refine o_y (y_extract rfl rfl) rfl rfl ?_
   refine o_y (y_assign rfl) rfl rfl ?_
   refine o_y (y_assign rfl) rfl rfl ?_
   refine wl_nil ?_
   refine e_seq ?_
   refine w_seq ?_
   refine w_seq ?_
   refine w_region ?_
   refine o_y (y_move rfl) rfl rfl ?_
   refine o_y (y_neq rfl rfl) rfl rfl ?_
   refine wl_af (t := 23) rfl (fun h => h rfl) ?_
   refine wl_nil ?_
   refine e_seq ?_
   refine w_cond_f rfl ?_
   refine w_skip ?_
   refine e_seq ?_
   refine w_seq ?_
   refine w_region ?_
   refine o_y (y_move rfl) rfl rfl ?_
   refine o_y (y_loadrs 1 ty_28 rfl rfl rfl rfl) rfl rfl ?_
   refine o_callq rfl ent_13 rfl (c_route_Find ix a) (fun w hw => (rd_cons (rd_all (rd_L 0 rfl hw) (.head _)) (rd_cons (rd_all (rd_L 0 rfl hw) (.tail _ (.tail _ (.tail _ (.head _))))) rd_nil))) ?_
   refine o_y (y_move rfl) rfl rfl ?_
   refine o_y (y_extract rfl rfl) rfl rfl ?_
   refine o_y (y_extract rfl rfl) rfl rfl ?_
   refine o_alloc ty_38 rfl rfl (fun b4 => ?_)
   refine o_store ty_38 rfl rfl rfl .z rfl rfl rfl rfl ?_
   refine o_y (y_assign rfl) rfl rfl ?_
   refine wl_nil ?_
   refine e_seq ?_
   refine w_seq ?_
   refine w_seq ?_
   refine w_region ?_
   refine o_y (y_assign rfl) rfl rfl ?_
   refine wl_nil ?_
   refine e_seq ?_
   refine w_block ?_
   refine w_loop0 (σ := Nat) [4, 9, 10, 30, 31, 32, 33, 34, 35, 36, 37, 38, 39, 40, 41, 42, 43, 44, 45, 46, 47, 48, 49, 50, 51, 52, 53, 54, 55, 56, 57, 58, 59, 60, 61, 62, 63, 64, 65, 66, 67, 68, 69, 70, 71, 72, 73, 74, 75, 76, 77, 78, 79, 80, 81, 82, 83, 84, 85] (fun i => i ≤ l.length ∧ ∀ q, q < i → a ∉ (l.getD q le0).e.addrs) (fun i => l.length - i) (fun i => [(9, .int .i64 i)]) (0) ?_ ⟨rfl, trivial⟩ (fun i hI => ?_)
   ·exact ⟨Nat.zero_le _, nofun⟩
   refine w_seq ?_
   refine w_seq ?_
   refine w_region ?_
   refine o_y (y_move rfl) rfl rfl ?_
   refine o_y (y_field fa_24_1 rfl) rfl rfl ?_
   refine o_y (y_loadr 3 ty_22 rfl rfl rfl) rfl rfl ?_
   refine o_y (y_lenl Tryz.underlying22 rfl) rfl rfl ?_
   refine o_y (y_lss rfl rfl) rfl rfl ?_
   refine wl_splitp (t := 34) rfl (fun h10_4 => ?_) (fun h10_4 => ?_)
   ·skip
    have hi : i < l.length := by omega
    have hb9 := hok.at hi
    have hla9 := hb9.la
    have hI8 := hI.2
    refine wl_nil ?_
    refine e_seq ?_
    refine w_cond_t rfl ?_
    refine w_skip ?_
    refine e_seq ?_
    refine w_seq ?_
    refine w_block ?_
    refine w_seq ?_
    refine w_region ?_
    refine o_y (y_assign rfl) rfl rfl ?_
    refine wl_nil ?_
    refine e_seq ?_
    refine w_block ?_
    refine w_loop0 (σ := Nat) [4, 10, 37, 38, 39, 40, 41, 42, 43, 44, 45, 46, 47, 48, 49, 50, 51, 52, 53, 54, 55, 56, 57, 58, 59, 60, 61, 62, 63, 64, 65, 66, 67, 68, 69, 70, 71, 72, 73, 74, 75, 76, 77, 78, 79, 80, 81, 82, 83, 84, 85] (fun k => k ≤ (l.getD i le0).e.addrs.length ∧ a ∉ (l.getD i le0).e.addrs.take k) (fun k => (l.getD i le0).e.addrs.length - k) (fun k => [(10, .int .i64 k)]) (0) ?_ ⟨rfl, trivial⟩ (fun k hI => ?_)
    ·exact ⟨Nat.zero_le _, by simp⟩
    refine w_seq ?_
    refine w_seq ?_
    refine w_region ?_
    refine o_y (y_move rfl) rfl rfl ?_
    refine o_y (y_field fa_24_1 rfl) rfl rfl ?_
    refine o_y (y_loadr 3 ty_22 rfl rfl rfl) rfl rfl ?_
    refine o_y (y_move rfl) rfl rfl ?_
    refine o_y (y_ixm  Tryz.underlying22 ty_47 rfl rfl (rs_S 0 rfl) rfl (by omega)) rfl rfl ?_
    refine o_y (y_field fa_47_3 rfl) rfl rfl ?_
    refine o_y (y_ldm 3 enc_le le0 ty_43 rfl (rs_S 0 rfl) (by omega) rfl rfl) rfl rfl ?_
    refine o_y (y_lenl Tryz.underlying43 rfl) rfl rfl ?_
    refine o_y (y_lss rfl rfl) rfl rfl ?_
    refine wl_splitp (t := 45) rfl (fun h13_8 => ?_) (fun h13_8 => ?_)
    ·skip
     have hk : k < (l.getD i le0).e.addrs.length := by omega
     refine wl_nil ?_
     refine e_seq ?_
     refine w_cond_t rfl ?_
     refine w_skip ?_
     refine e_seq ?_
     refine w_seq ?_
     refine w_block ?_
     refine w_seq ?_
     refine w_draw 11 rfl mixed ?_
     refine a_take (i := 0) rfl wanted_none (y_field fa_24_1 rfl) (fun w h => h) (fun w h => h) rfl (pk_seq (pk_blk (pk_seq (pk_loop (pk_blk (pk_blk (pk_seq (pk_loop (pk_blk (pk_seq pk_fn)))))))))) (by kernel_rfl) rfl ?_
     refine a_take (i := 1) rfl wanted_none (y_loadr 3 ty_22 rfl rfl rfl) (fun w h => h) (fun w h => h) rfl (pk_seq (pk_blk (pk_seq (pk_loop (pk_blk (pk_blk (pk_seq (pk_loop (pk_blk (pk_seq pk_fn)))))))))) (by kernel_rfl) rfl ?_
     refine a_take (i := 2) rfl wanted_none (y_move rfl) (fun w h => h) (fun w h => h) rfl (pk_seq (pk_blk (pk_seq (pk_loop (pk_blk (pk_blk (pk_seq (pk_loop (pk_blk (pk_seq pk_fn)))))))))) (by kernel_rfl) rfl ?_
     refine a_take (i := 3) rfl wanted_none (y_ixm  Tryz.underlying22 ty_47 rfl rfl (rs_S 0 rfl) rfl (by omega)) (fun w h => h) (fun w h => h) rfl (pk_seq (pk_blk (pk_seq (pk_loop (pk_blk (pk_blk (pk_seq (pk_loop (pk_blk (pk_seq pk_fn)))))))))) (by kernel_rfl) rfl ?_
     refine a_take (i := 4) rfl wanted_none (y_field fa_47_3 rfl) (fun w h => h) (fun w h => h) rfl (pk_seq (pk_blk (pk_seq (pk_loop (pk_blk (pk_blk (pk_seq (pk_loop (pk_blk (pk_seq pk_fn)))))))))) (by kernel_rfl) rfl ?_
     refine a_take (i := 5) rfl wanted_none (y_ldm 3 enc_le le0 ty_43 rfl (rs_S 0 rfl) (by omega) rfl rfl) (fun w h => h) (fun w h => h) rfl (pk_seq (pk_blk (pk_seq (pk_loop (pk_blk (pk_blk (pk_seq (pk_loop (pk_blk (pk_seq pk_fn)))))))))) (by kernel_rfl) rfl ?_
     refine a_take (i := 6) rfl wanted_none (y_move rfl) (fun w h => h) (fun w h => h) rfl (pk_seq (pk_blk (pk_seq (pk_loop (pk_blk (pk_blk (pk_seq (pk_loop (pk_blk (pk_seq pk_fn)))))))))) (by kernel_rfl) rfl ?_
     refine a_take (i := 7) rfl wanted_none (y_ixm  Tryz.underlying43 ty_28 rfl rfl (fun w hw => (rd_all (rd_S 1 rfl hw) (mem_flatR (mem_getD (by omega)) _ (elRA _))).1) rfl (by omega)) (fun w h => h) (fun w h => h) rfl (pk_seq (pk_blk (pk_seq (pk_loop (pk_blk (pk_blk (pk_seq (pk_loop (pk_blk (pk_seq pk_fn)))))))))) (by kernel_rfl) rfl ?_
     refine a_take (i := 8) rfl wanted_none (y_ldsm0 enc_ad ad0 ty_28 rfl (fun w hw => (rd_all (rd_S 1 rfl hw) (mem_flatR (mem_getD (by omega)) _ (elRA _))).1) (by omega) rfl rfl rfl) (fun w h => h) (fun w h => h) rfl (pk_seq (pk_blk (pk_seq (pk_loop (pk_blk (pk_blk (pk_seq (pk_loop (pk_blk (pk_seq pk_fn)))))))))) (by kernel_rfl) rfl ?_
     refine a_take (i := 9) rfl wanted_none (y_loadrs 2 ty_28 rfl rfl rfl rfl) (fun w h => h) (fun w h => h) rfl (pk_seq (pk_blk (pk_seq (pk_loop (pk_blk (pk_blk (pk_seq (pk_loop (pk_blk (pk_seq pk_fn)))))))))) (by kernel_rfl) rfl ?_
     refine a_take (i := 10) rfl wanted_none (y_eqst (by kernel_rfl) rfl rfl (eqd_ad _ _) rfl) (fun w h => h) (fun w h => h) rfl (pk_seq (pk_blk (pk_seq (pk_loop (pk_blk (pk_blk (pk_seq (pk_loop (pk_blk (pk_seq pk_fn)))))))))) (by kernel_rfl) rfl ?_
     refine wa_splitp (t := 58) rfl (fun h15_10 => ?_) (fun h15_10 => ?_)
     ·skip
      have hh := rf_hit hix2 hi hI8 (h15_10 ▸ mem_getD (d := ad0) hk)
      refine a_done (by kernel_rfl) ?_
      refine e_seq ?_
      refine w_cond_t rfl ?_
      refine w_seq ?_
      refine w_draw 28 rfl mixed ?_
      refine a_take (i := 0) rfl wanted_none (y_move rfl) (fun w h => h) (fun w h => h) rfl (pk_seq (pk_blk (pk_seq (pk_loop (pk_blk (pk_blk (pk_seq (pk_loop (pk_blk (pk_seq pk_fn)))))))))) (by kernel_rfl) rfl ?_
      refine wa_as (t := 59) (.bool true) rfl (congrArg Value.bool hh.1) ?_
      refine a_take (i := 1) rfl wanted_none (y_move rfl) (fun w h => h) (fun w h => h) rfl (pk_seq (pk_blk (pk_seq (pk_loop (pk_blk (pk_blk (pk_seq (pk_loop (pk_blk (pk_seq pk_fn)))))))))) (by kernel_rfl) rfl ?_
      refine a_take (i := 2) rfl (wanted_yes rfl rfl) (y_loadrs 0 ty_38 rfl rfl rfl rfl) (fun w h => h) (fun w h => h) rfl (pk_seq (pk_blk (pk_seq (pk_loop (pk_blk (pk_blk (pk_seq (pk_loop (pk_blk (pk_seq pk_fn)))))))))) (by kernel_rfl) rfl ?_
      refine a_take (i := 3) rfl (wanted_yes rfl rfl) (y_loadrs 2 ty_28 rfl rfl rfl rfl) (fun w h => h) (fun w h => h) rfl (pk_seq (pk_blk (pk_seq (pk_loop (pk_blk (pk_blk (pk_seq (pk_loop (pk_blk (pk_seq pk_fn)))))))))) (by kernel_rfl) rfl ?_
      refine a_take (i := 4) rfl (wanted_yes rfl rfl) (y_field fa_24_1 rfl) (fun w h => h) (fun w h => h) rfl (pk_seq (pk_blk (pk_seq (pk_loop (pk_blk (pk_blk (pk_seq (pk_loop (pk_blk (pk_seq pk_fn)))))))))) (by kernel_rfl) rfl ?_
      refine a_take (i := 5) rfl (wanted_yes rfl rfl) (y_loadr 3 ty_22 rfl rfl rfl) (fun w h => h) (fun w h => h) rfl (pk_seq (pk_blk (pk_seq (pk_loop (pk_blk (pk_blk (pk_seq (pk_loop (pk_blk (pk_seq pk_fn)))))))))) (by kernel_rfl) rfl ?_
      refine a_take (i := 6) rfl (wanted_yes rfl rfl) (y_move rfl) (fun w h => h) (fun w h => h) rfl (pk_seq (pk_blk (pk_seq (pk_loop (pk_blk (pk_blk (pk_seq (pk_loop (pk_blk (pk_seq pk_fn)))))))))) (by kernel_rfl) rfl ?_
      refine a_take (i := 7) rfl (wanted_yes rfl rfl) (y_ixm  Tryz.underlying22 ty_47 rfl rfl (rs_S 0 rfl) rfl (by omega)) (fun w h => h) (fun w h => h) rfl (pk_seq (pk_blk (pk_seq (pk_loop (pk_blk (pk_blk (pk_seq (pk_loop (pk_blk (pk_seq pk_fn)))))))))) (by kernel_rfl) rfl ?_
      refine a_take (i := 8) rfl (wanted_yes rfl rfl) (y_field fa_47_0 rfl) (fun w h => h) (fun w h => h) rfl (pk_seq (pk_blk (pk_seq (pk_loop (pk_blk (pk_blk (pk_seq (pk_loop (pk_blk (pk_seq pk_fn)))))))))) (by kernel_rfl) rfl ?_
      refine a_take (i := 9) rfl (wanted_yes rfl rfl) (y_ldm0 enc_le le0 ty_36 rfl (rs_S 0 rfl) (by omega) rfl rfl) (fun w h => h) (fun w h => h) rfl (pk_seq (pk_blk (pk_seq (pk_loop (pk_blk (pk_blk (pk_seq (pk_loop (pk_blk (pk_seq pk_fn)))))))))) (by kernel_rfl) rfl ?_
      refine a_take (i := 10) rfl (wanted_yes rfl rfl) (y_field fa_24_1 rfl) (fun w h => h) (fun w h => h) rfl (pk_seq (pk_blk (pk_seq (pk_loop (pk_blk (pk_blk (pk_seq (pk_loop (pk_blk (pk_seq pk_fn)))))))))) (by kernel_rfl) rfl ?_
      refine a_take (i := 11) rfl (wanted_yes rfl rfl) (y_loadr 3 ty_22 rfl rfl rfl) (fun w h => h) (fun w h => h) rfl (pk_seq (pk_blk (pk_seq (pk_loop (pk_blk (pk_blk (pk_seq (pk_loop (pk_blk (pk_seq pk_fn)))))))))) (by kernel_rfl) rfl ?_
      refine a_take (i := 12) rfl (wanted_yes rfl rfl) (y_move rfl) (fun w h => h) (fun w h => h) rfl (pk_seq (pk_blk (pk_seq (pk_loop (pk_blk (pk_blk (pk_seq (pk_loop (pk_blk (pk_seq pk_fn)))))))))) (by kernel_rfl) rfl ?_
      refine a_take (i := 13) rfl (wanted_yes rfl rfl) (y_ixm  Tryz.underlying22 ty_47 rfl rfl (rs_S 0 rfl) rfl (by omega)) (fun w h => h) (fun w h => h) rfl (pk_seq (pk_blk (pk_seq (pk_loop (pk_blk (pk_blk (pk_seq (pk_loop (pk_blk (pk_seq pk_fn)))))))))) (by kernel_rfl) rfl ?_
      refine a_take (i := 14) rfl (wanted_yes rfl rfl) (y_field fa_47_2 rfl) (fun w h => h) (fun w h => h) rfl (pk_seq (pk_blk (pk_seq (pk_loop (pk_blk (pk_blk (pk_seq (pk_loop (pk_blk (pk_seq pk_fn)))))))))) (by kernel_rfl) rfl ?_
      refine a_take (i := 15) rfl (wanted_yes rfl rfl) (y_ldm 2 enc_le le0 ty_9 rfl (rs_S 0 rfl) (by omega) rfl rfl) (fun w h => h) (fun w h => h) rfl (pk_seq (pk_blk (pk_seq (pk_loop (pk_blk (pk_blk (pk_seq (pk_loop (pk_blk (pk_seq pk_fn)))))))))) (by kernel_rfl) rfl ?_
      refine a_take (i := 16) rfl (wanted_yes rfl rfl) (y_build rfl (bu_38_0_1_2 _ _ _ _ _)) (fun w h => h) (fun w h => h) rfl (pk_seq (pk_blk (pk_seq (pk_loop (pk_blk (pk_blk (pk_seq (pk_loop (pk_blk (pk_seq pk_fn)))))))))) (by kernel_rfl) rfl ?_
      refine a_take (i := 17) rfl (wanted_yes rfl rfl) (y_eqst (by kernel_rfl) rfl rfl (eqd_rt (rtI ix a) ⟨a, (l.getD i le0).e.host, (l.getD i le0).e.cluster⟩) rfl) (fun w h => h) (fun w h => h) rfl (pk_seq (pk_blk (pk_seq (pk_loop (pk_blk (pk_blk (pk_seq (pk_loop (pk_blk (pk_seq pk_fn)))))))))) (by kernel_rfl) rfl ?_
      refine wa_at (t := 76) rfl hh.2 ?_
      refine a_take (i := 18) rfl wanted_none (y_pick_t rfl rfl) (fun w h => h) (fun w h => h) rfl (pk_seq (pk_blk (pk_seq (pk_loop (pk_blk (pk_blk (pk_seq (pk_loop (pk_blk (pk_seq pk_fn)))))))))) (by kernel_rfl) rfl ?_
      refine a_take (i := 19) rfl wanted_none (y_move rfl) (fun w h => h) (fun w h => h) rfl (pk_seq (pk_blk (pk_seq (pk_loop (pk_blk (pk_blk (pk_seq (pk_loop (pk_blk (pk_seq pk_fn)))))))))) (by kernel_rfl) rfl ?_
      refine a_take (i := 20) rfl (wanted_yes rfl rfl) (y_move rfl) (fun w h => h) (fun w h => h) rfl (pk_seq (pk_blk (pk_seq (pk_loop (pk_blk (pk_blk (pk_seq (pk_loop (pk_blk (pk_seq pk_fn)))))))))) (by kernel_rfl) rfl ?_
      refine a_take (i := 21) rfl (wanted_yes rfl rfl) (y_loadrs 2 ty_28 rfl rfl rfl rfl) (fun w h => h) (fun w h => h) rfl (pk_seq (pk_blk (pk_seq (pk_loop (pk_blk (pk_blk (pk_seq (pk_loop (pk_blk (pk_seq pk_fn)))))))))) (by kernel_rfl) rfl ?_
      refine a_take (i := 23) rfl (wanted_yes rfl rfl) (y_field fa_38_2 rfl) (fun w h => h) (fun w h => h) rfl (pk_seq (pk_blk (pk_seq (pk_loop (pk_blk (pk_blk (pk_seq (pk_loop (pk_blk (pk_seq pk_fn)))))))))) (by kernel_rfl) rfl ?_
      refine a_take (i := 24) rfl (wanted_yes rfl rfl) (y_loadr 0 ty_9 rfl rfl rfl) (fun w h => h) (fun w h => h) rfl (pk_seq (pk_blk (pk_seq (pk_loop (pk_blk (pk_blk (pk_seq (pk_loop (pk_blk (pk_seq pk_fn)))))))))) (by kernel_rfl) rfl ?_
      refine a_one (i := 22) rfl rfl rfl (tame_call rfl ent_17) (by kernel_rfl) rfl ?_
      refine wl_gyes rfl rfl ?_
      refine o_callq rfl ent_17 rfl (c_Cluster ix a) (fun w hw => (rd_cons (rd_all (rd_L 1 rfl hw) (.head _)) (rd_cons (rd_all (rd_L 1 rfl hw) (.tail _ (.tail _ (.tail _ (.head _))))) rd_nil))) ?_
      refine wl_nil ?_
      refine e_one (fun w h => h) ?_
      refine a_take (i := 25) rfl (wanted_yes rfl rfl) (y_eqls rfl rfl) (fun w h => h) (fun w h => h) rfl (pk_seq (pk_blk (pk_seq (pk_loop (pk_blk (pk_blk (pk_seq (pk_loop (pk_blk (pk_seq pk_fn)))))))))) (by kernel_rfl) rfl ?_
      refine wa_at (t := 84) rfl rfl ?_
      refine a_take (i := 26) rfl wanted_none (y_pick_t rfl rfl) (fun w h => h) (fun w h => h) rfl (pk_seq (pk_blk (pk_seq (pk_loop (pk_blk (pk_blk (pk_seq (pk_loop (pk_blk (pk_seq pk_fn)))))))))) (by kernel_rfl) rfl ?_
      refine a_take (i := 27) rfl wanted_none (y_assign rfl) (fun w h => h) (fun w h => h) rfl (pk_seq (pk_blk (pk_seq (pk_loop (pk_blk (pk_blk (pk_seq (pk_loop (pk_blk (pk_seq pk_fn)))))))))) (by kernel_rfl) rfl ?_
      refine a_done (by kernel_rfl) ?_
      refine e_seq ?_
      refine w_ret ?_
      refine e_blk_ret ?_
      refine e_seq_ret ?_
      refine e_loop_ret ?_
      refine e_blk_ret ?_
      refine e_blk_ret ?_
      refine e_seq_ret ?_
      refine e_loop_ret ?_
      refine e_blk_ret ?_
      refine e_seq_ret ?_
      refine e_ret (ts := [4]) rfl rfl rfl (fun w hw => ?_)
      exact ⟨(), rfl, hw.base, (hw.weak (List.nil_sublist _) (fun s hs => hs)).toNews⟩
     ·skip
      refine a_done (by kernel_rfl) ?_
      refine e_seq ?_
      refine w_cond_f rfl ?_
      refine w_skip ?_
      refine e_blk ?_
      refine e_seq ?_
      refine w_region ?_
      refine o_y (y_move rfl) rfl rfl ?_
      refine o_y (y_addi rfl rfl (by omega) (by omega)) rfl rfl ?_
      refine o_y (y_assign rfl) rfl rfl ?_
      refine wl_nil ?_
      refine e_back (k + 1) ?_ ?_ ⟨rfl, trivial⟩ (by repeat (first | exact trivial | refine ⟨rfl, ?_⟩)) (fun w h => h)
      ·exact ⟨by omega, mem_take_succ hk hI.2 h15_10⟩
      ·omega
    ·skip
     refine wl_nil ?_
     refine e_seq ?_
     refine w_cond_f rfl ?_
     refine w_exit ?_
     refine e_seq_exit ?_
     refine e_loop_exit ?_
     refine e_blk_hit ?_
     refine e_blk ?_
     refine e_seq ?_
     refine w_region ?_
     refine o_y (y_move rfl) rfl rfl ?_
     refine o_y (y_addi rfl rfl (by omega) (by omega)) rfl rfl ?_
     refine o_y (y_assign rfl) rfl rfl ?_
     refine wl_nil ?_
     refine e_back (i + 1) ?_ ?_ ⟨rfl, trivial⟩ (by repeat (first | exact trivial | refine ⟨rfl, ?_⟩)) (fun w h => h)
     ·exact ⟨by omega, rf_step hI8 (by have := hI.2; rwa [List.take_of_length_le (by omega)] at this)⟩
     ·omega
   ·skip
    refine wl_nil ?_
    refine e_seq ?_
    refine w_cond_f rfl ?_
    refine w_exit ?_
    refine e_seq_exit ?_
    refine e_loop_exit ?_
    refine e_blk_hit ?_
    refine e_seq ?_
    refine w_seq ?_
    have hn := rf_none hix2 (fun q hq => hI.2 q (by omega))
    refine w_region ?_
    refine o_y (y_move rfl) rfl rfl ?_
    refine wl_as (t := 86) (.bool false) rfl (congrArg Value.bool hn.1) ?_
    refine o_y (y_not rfl) rfl rfl ?_
    refine o_y (y_move rfl) rfl rfl ?_
    refine wl_gyes rfl rfl ?_
    refine o_y (y_loadrs 0 ty_38 rfl rfl rfl rfl) rfl rfl ?_
    refine wl_gyes rfl rfl ?_
    refine o_y (y_build rfl (bu_38)) rfl rfl ?_
    refine wl_gyes rfl rfl ?_
    refine o_y (y_eqst (by kernel_rfl) rfl rfl (eqd_rt (rtI ix a) rt0) rfl) rfl rfl ?_
    refine wl_at (t := 91) rfl hn.2 ?_
    refine o_y (y_pick_t rfl rfl) rfl rfl ?_
    refine o_y (y_move rfl) rfl rfl ?_
    refine wl_gyes rfl rfl ?_
    refine o_y (y_move rfl) rfl rfl ?_
    refine wl_gyes rfl rfl ?_
    refine o_y (y_loadrs 2 ty_28 rfl rfl rfl rfl) rfl rfl ?_
    refine wl_gyes rfl rfl ?_
    refine o_callq rfl ent_17 rfl (c_Cluster ix a) (fun w hw => (rd_cons (rd_all (rd_L 1 rfl hw) (.head _)) (rd_cons (rd_all (rd_L 1 rfl hw) (.tail _ (.tail _ (.tail _ (.head _))))) rd_nil))) ?_
    refine wl_gyes rfl rfl ?_
    refine o_y (y_eqls rfl rfl) rfl rfl ?_
    refine wl_at (t := 97) rfl (by rw [hn.2]; rfl) ?_
    refine o_y (y_pick_t rfl rfl) rfl rfl ?_
    refine o_y (y_assign rfl) rfl rfl ?_
    refine wl_nil ?_
    refine e_seq ?_
    refine w_ret ?_
    refine e_ret (ts := [4]) rfl rfl rfl (fun w hw => ?_)
    exact ⟨(), rfl, hw.base, (hw.weak (List.nil_sublist _) (fun s hs => hs)).toNews⟩
  ·skip
   refine o_y (y_not rfl) rfl rfl ?_
   refine wl_nil ?_
   refine e_seq ?_
   refine w_cond_t rfl ?_
   refine w_seq ?_
   refine w_region ?_
   refine o_y (y_assign rfl) rfl rfl ?_
   refine wl_nil ?_
   refine e_seq ?_
   refine w_ret ?_
   refine e_seq_ret ?_
   refine e_ret (ts := [4]) rfl rfl rfl (fun w hw => ?_)
   exact ⟨(), rfl, hw.base, (hw.weak (List.nil_sublist _) (fun s hs => hs)).toNews⟩
 ·skip
  refine w_seq ?_
  refine w_region ?_
  refine o_box rfl rfl rfl (fun b5 => ?_)
  refine o_box rfl rfl rfl (fun b6 => ?_)
  refine o_y (y_assign rfl) rfl rfl ?_
  refine wl_nil ?_
  refine e_seq ?_
  refine w_seq ?_
  refine w_seq ?_
  refine w_region ?_
  refine o_callp rfl ent_9 c_lives19 rfl ?_
  refine wl_as (t := 11) (.bool true) rfl (congrArg Value.bool rfl) ?_
  refine o_y (y_not rfl) rfl rfl ?_
  refine wl_nil ?_
  refine e_seq ?_
  refine w_cond_f rfl ?_
  refine w_skip ?_
  refine e_seq ?_
  refine w_seq ?_
  refine w_seq ?_
  refine w_region ?_
  refine o_y (y_field fa_24_1 rfl) rfl rfl ?_
  refine o_y (y_loadr 1 ty_22 rfl rfl rfl) rfl rfl ?_
  refine o_callq rfl ent_10 rfl (c_LightEntries _ _ _ _ (by omega)) (fun w hw => (rd_cons (rd_S 0 rfl hw) rd_nil)) ?_
  refine wl_splitb (t := 15) rfl (fun h3_2 => ?_) (fun h3_2 => ?_)
  ·skip
   have hle9 := lightEs_le h3_2
   have hok : TbOk l := fun x hx => ⟨hen x hx, hle9.1 x hx⟩
   have hl9 := hle9.2
   refine o_y (y_not rfl) rfl rfl ?_
   refine wl_nil ?_
   refine e_seq ?_
   refine w_cond_f rfl ?_
   refine w_skip ?_
   refine e_seq ?_
   refine w_seq ?_
   refine w_region ?_
   refine o_y (y_loadrs 1 ty_24 rfl rfl rfl rfl) rfl rfl ?_
   refine o_callq rfl ent_12 rfl (c_index_Newbad v l _ _ hok (by omega) hT _ _ _) (fun w hw => (rd_cons (rd_S 0 rfl hw) (rd_cons (rd_S 1 rfl hw) rd_nil))) ?_
   refine o_y (y_move rfl) rfl rfl ?_
   refine o_y (y_extract rfl rfl) rfl rfl ?_
   refine o_y (y_extract rfl rfl) rfl rfl ?_
   refine o_y (y_assign rfl) rfl rfl ?_
   refine o_y (y_assign rfl) rfl rfl ?_
   refine wl_nil ?_
   refine e_seq ?_
   refine w_seq ?_
   refine w_seq ?_
   refine w_region ?_
   refine o_y (y_move rfl) rfl rfl ?_
   refine o_y (y_neq rfl rfl) rfl rfl ?_
   refine wl_at (t := 23) rfl hT ?_
   refine wl_nil ?_
   refine e_seq ?_
   refine w_cond_t rfl ?_
   refine w_seq ?_
   refine w_region ?_
   refine o_y (y_assign rfl) rfl rfl ?_
   refine wl_nil ?_
   refine e_seq ?_
   refine w_ret ?_
   refine e_seq_ret ?_
   refine e_ret (ts := [4]) rfl rfl rfl (fun w hw => ?_)
   exact ⟨(), rfl, hw.base, (hw.weak (List.nil_sublist _) (fun s hs => hs)).toNews⟩
  ·skip
   refine o_y (y_not rfl) rfl rfl ?_
   refine wl_nil ?_
   refine e_seq ?_
   refine w_cond_t rfl ?_
   refine w_seq ?_
   refine w_region ?_
   refine o_y (y_assign rfl) rfl rfl ?_
   refine wl_nil ?_
   refine e_seq ?_
   refine w_ret ?_
   refine e_seq_ret ?_
   refine e_ret (ts := [4]) rfl rfl rfl (fun w hw => ?_)
   exact ⟨(), rfl, hw.base, (hw.weak (List.nil_sublist _) (fun s hs => hs)).toNews⟩
end Go.Proofs.YtfmelbpgkbiooaaGreat
