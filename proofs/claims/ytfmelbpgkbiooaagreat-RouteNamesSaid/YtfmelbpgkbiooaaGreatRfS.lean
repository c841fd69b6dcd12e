import Derived.Test.YtfmelbpgkbiooaaGreatReS
/- the laws of routes: the examples -/
namespace Go.Proofs.YtfmelbpgkbiooaaGreat
open Go.RowKit Go.Shelf
set_option linter.unusedVariables false
set_option linter.unusedSimpArgs false

theorem bu_28 : Tryz.prog.built 28 [] = some [.bool false, .int .u64 0, .int .u64 0].toArray := by kernel_rfl
theorem ent_101 : Enters Tryz.prog 101 := enters_of Tryz.func101 (by kernel_rfl) rfl

def h19b : List Hd := [⟨n19 98, a19⟩]
theorem hb19b : ∀ h ∈ h19b, h.host.length ≤ 1000 ∧ 0 ≤ h.ad.lo := hb18 h19b (by decide +kernel)
theorem rts19b_eq {tl : List Le} (h : tl.map (·.e) = es19) {x : Ixd} (hx : IxOk2 tl h19b x) {ys : List Rt} (h1 : ys.Perm ((allM x x.l).map (·.2))) (h2 : ys.Pairwise fun a b => ¬ cmpA b.ad a.ad < 0) : ys = [⟨a19, n19 98, [121]⟩] := by
  rw [allM_E hx, h] at h1
  exact rt_sorted h1 h2 (by decide +kernel) (by decide +kernel) (by decide +kernel)

theorem c_EntN1  : Iter Tryz.prog 101 [] [] encV1 (([] : List Le)) := by
 refine iter_of_W 2 Tryz.func101 rfl rfl rfl (fun lr σ I Ix C Sc hy g0 hg0 w0 => ?_)
 refine w_skip ?_
 refine e_end (ts := []) rfl rfl rfl (fun w hw => ?_)
 exact iter_end _ (.inl hg0) (hw.weak (.cons_cons _ .slnil) (fun s hs => hs))

theorem c_Ent_nil  : Pure Tryz.prog 57 #[.pointer none] (.func (.func 101) #[] #[]) := by
 intro w0
 refine calls_of_W (ok0 := no) (S := []) (args := [.pointer none]) 10 Tryz.func57 rfl rfl rfl (by simp) (by simp) ?_
 refine w_seq ?_
 refine w_region ?_
 refine o_y (y_assign rfl) rfl rfl ?_
 refine wl_nil ?_
 refine e_seq ?_
 refine w_seq ?_
 refine w_seq ?_
 refine w_region ?_
 refine o_y (y_move rfl) rfl rfl ?_
 refine o_y (y_eqp Tryz.underlying32 rfl rfl) rfl rfl ?_
 refine wl_as (t := 4) (.bool true) rfl (congrArg Value.bool rfl) ?_
 refine wl_nil ?_
 refine e_seq ?_
 refine w_cond_t rfl ?_
 refine w_seq ?_
 refine w_region ?_
 refine o_y (y_assign rfl) rfl rfl ?_
 refine wl_nil ?_
 refine e_seq ?_
 refine w_ret ?_
 refine e_seq_ret ?_
 refine e_ret (ts := [2]) rfl rfl rfl (fun w hw => ?_)
 exact ⟨rfl, hw.base⟩

set_option maxRecDepth 100000 in
theorem c_Of_nil (a : Ad) : Pure Tryz.prog 55 #[.pointer none, .agg (adC a).toArray] (.tuple #[.agg (elC le0).toArray, .bool false]) := by
 intro w0
 refine calls_of_W (ok0 := no) (S := []) (args := [.pointer none, .agg (adC a).toArray]) 17 Tryz.func55 rfl rfl rfl (by simp) (by simp) ?_
 refine w_seq ?_
 refine w_region ?_
 refine o_box rfl rfl rfl (fun b1 => ?_)
 refine o_alloc ty_47 rfl rfl (fun b2 => ?_)
 refine o_y (y_assign rfl) rfl rfl ?_
 refine wl_nil ?_
 refine e_seq ?_
 refine w_seq ?_
 refine w_seq ?_
 refine w_region ?_
 refine o_y (y_move rfl) rfl rfl ?_
 refine o_y (y_eqp Tryz.underlying32 rfl rfl) rfl rfl ?_
 refine wl_as (t := 7) (.bool true) rfl (congrArg Value.bool rfl) ?_
 refine wl_nil ?_
 refine e_seq ?_
 refine w_cond_t rfl ?_
 refine w_seq ?_
 refine w_region ?_
 refine o_y (y_build rfl (bu_47)) rfl rfl ?_
 refine o_store ty_47 rfl rfl rfl .z rfl rfl rfl rfl ?_
 refine o_y (y_assign rfl) rfl rfl ?_
 refine wl_nil ?_
 refine e_seq ?_
 refine w_ret ?_
 refine e_seq_ret ?_
 refine e_rsr (rs := [.cell 4 47, .tmp 5]) rfl (rs_cells 0 ty_47 rfl rfl rfl rfl (rs_tmp rfl rs_nil)) rfl (fun w hw => ?_)
 exact ⟨rfl, hw.base⟩

theorem c_Find_nil (a : Ad) : Pure Tryz.prog 13 #[.pointer none, .agg (adC a).toArray] (.tuple #[.agg (rtC rt0).toArray, .bool false]) := by
 intro w0
 refine calls_of_W (ok0 := no) (S := []) (args := [.pointer none, .agg (adC a).toArray]) 23 Tryz.func13 rfl rfl rfl (by simp) (by simp) ?_
 refine w_seq ?_
 refine w_region ?_
 refine o_box rfl rfl rfl (fun b1 => ?_)
 refine o_alloc ty_38 rfl rfl (fun b2 => ?_)
 refine o_y (y_assign rfl) rfl rfl ?_
 refine wl_nil ?_
 refine e_seq ?_
 refine w_seq ?_
 refine w_region ?_
 refine o_y (y_move rfl) rfl rfl ?_
 refine o_y (y_loadrs 1 ty_28 rfl rfl rfl rfl) rfl rfl ?_
 refine o_callp rfl ent_55 (c_Of_nil a) rfl ?_
 refine o_y (y_move rfl) rfl rfl ?_
 refine o_y (y_extract rfl rfl) rfl rfl ?_
 refine o_y (y_extract rfl rfl) rfl rfl ?_
 refine o_alloc ty_47 rfl rfl (fun b3 => ?_)
 refine o_store ty_47 rfl rfl rfl .z rfl rfl rfl rfl ?_
 refine o_y (y_assign rfl) rfl rfl ?_
 refine wl_nil ?_
 refine e_seq ?_
 refine w_seq ?_
 refine w_seq ?_
 refine w_region ?_
 refine o_y (y_move rfl) rfl rfl ?_
 refine wl_as (t := 14) (.bool false) rfl (congrArg Value.bool rfl) ?_
 refine o_y (y_not rfl) rfl rfl ?_
 refine wl_nil ?_
 refine e_seq ?_
 refine w_cond_t rfl ?_
 refine w_seq ?_
 refine w_region ?_
 refine o_y (y_build rfl (bu_38)) rfl rfl ?_
 refine o_store ty_38 rfl rfl rfl (.s (.z)) rfl rfl rfl rfl ?_
 refine o_y (y_assign rfl) rfl rfl ?_
 refine wl_nil ?_
 refine e_seq ?_
 refine w_ret ?_
 refine e_seq_ret ?_
 refine e_rsr (rs := [.cell 4 38, .tmp 5]) rfl (rs_cells 1 ty_38 rfl rfl rfl rfl (rs_tmp rfl rs_nil)) rfl (fun w hw => ?_)
 exact ⟨rfl, hw.base⟩

theorem c_Cluster_nil (a : Ad) : Pure Tryz.prog 17 #[.pointer none, .agg (adC a).toArray] (.string (ba [])) := by
 intro w0
 refine calls_of_W (ok0 := no) (S := []) (args := [.pointer none, .agg (adC a).toArray]) 15 Tryz.func17 rfl rfl rfl (by simp) (by simp) ?_
 refine w_seq ?_
 refine w_region ?_
 refine o_box rfl rfl rfl (fun b1 => ?_)
 refine o_y (y_assign rfl) rfl rfl ?_
 refine wl_nil ?_
 refine e_seq ?_
 refine w_seq ?_
 refine w_region ?_
 refine o_y (y_move rfl) rfl rfl ?_
 refine o_y (y_loadrs 0 ty_28 rfl rfl rfl rfl) rfl rfl ?_
 refine o_callp rfl ent_13 (c_Find_nil a) rfl ?_
 refine o_y (y_move rfl) rfl rfl ?_
 refine o_y (y_extract rfl rfl) rfl rfl ?_
 refine o_y (y_extract rfl rfl) rfl rfl ?_
 refine o_alloc ty_38 rfl rfl (fun b2 => ?_)
 refine o_store ty_38 rfl rfl rfl .z rfl rfl rfl rfl ?_
 refine o_y (y_assign rfl) rfl rfl ?_
 refine wl_nil ?_
 refine e_seq ?_
 refine w_seq ?_
 refine w_region ?_
 refine o_y (y_field fa_38_2 rfl) rfl rfl ?_
 refine o_y (y_loadr 0 ty_9 rfl rfl rfl) rfl rfl ?_
 refine o_y (y_assign rfl) rfl rfl ?_
 refine wl_nil ?_
 refine e_seq ?_
 refine w_ret ?_
 refine e_ret (ts := [4]) rfl rfl rfl (fun w hw => ?_)
 exact ⟨rfl, hw.base⟩

set_option maxRecDepth 100000 in
set_option maxHeartbeats 1000000 in
theorem c_All_nil  : RC Tryz.prog 15 #[.pointer none] [] (α := Option Addr × Nat) (fun p => .slice p.1 0 p.2) (fun p => []) := by
 refine rc_of_WM (args := [.pointer none]) 37 Tryz.func15 rfl rfl rfl (fun w0 => ?_)
 have hbm : ∀ pre : List Rt, (∃ rest, (pre ++ rest).Perm (([] : List (Ad × Rt)).map (·.2))) → pre.length ≤ 1000000 := fun pre ⟨rest, h⟩ => by
   have := h.length_eq
   simp at this
   rw [this.1]; exact Nat.zero_le _
 refine w_seq ?_
 refine w_region ?_
 refine o_box rfl rfl rfl (fun b1 => ?_)
 refine o_y (y_assign rfl) rfl rfl ?_
 refine wl_nil ?_
 refine e_seq ?_
 refine w_seq ?_
 refine w_region ?_
 refine o_makeMap encA encRt rfl (fun r1 => ?_)
 refine o_alloc ty_103 rfl rfl (fun b3 => ?_)
 refine o_store ty_103 rfl rfl rfl .z rfl rfl rfl rfl ?_
 refine wl_nil ?_
 refine e_seq ?_
 refine w_seq ?_
 refine w_seq ?_
 refine w_region ?_
 refine o_y (y_loadr 2 ty_32 rfl rfl rfl) rfl rfl ?_
 refine o_callp rfl ent_57 c_Ent_nil rfl ?_
 refine wl_nil ?_
 refine e_seq ?_
 refine w_block ?_
 refine w_range (σ := Unit) (fun pre g => True) (fun c pre g => False) (fun g => [Ch.row b3 [.map (some r1)] 103, Ch.mp r1 encA encRt ([] : List (Ad × Rt)), Ch.row b1 [.pointer none] 32]) (()) rfl rfl ent_101 (c_EntN1) (fun s hs => nomatch hs) rfl (fun _ => rfl) (trivial) rfl (fun pre e post g hxs hI lr D r hr okb wb => ?_) (fun g D0 hI => ?_) (fun c pre post g D0 hxs hI => ?_)
 ·skip
  exact absurd hxs (by simp)
 ·skip
  refine e_blk ?_
  refine e_seq ?_
  refine w_seq ?_
  refine w_region ?_
  refine o_y (y_assign rfl) rfl rfl ?_
  refine wl_nil ?_
  refine e_seq ?_
  refine w_seq ?_
  refine w_region ?_
  refine o_y (y_loadr 1 ty_103 rfl rfl rfl) rfl rfl ?_
  refine o_callr1 rfl ent_62 rfl (c_MapValues _) (fun w hw => rd_nil) (fun p3 => ?_)
  refine o_callr1 rfl ent_61 rfl (c_Collect_rt 110 [.pointer (some ⟨p3, 0, none⟩)] _ _ _ (c_MapValues1 ([] : List (Ad × Rt)) r1 p3) (enters_of Tryz.func110 (by kernel_rfl) rfl) hbm) (fun w hw => (rd_cons (rd_L 0 rfl hw) (rd_cons (rd_L 3 rfl hw) rd_nil))) (fun ⟨⟨q, Ax, cx⟩, hfx⟩ => ?_)
  refine o_y (y_assign rfl) rfl rfl ?_
  refine wl_nil ?_
  refine e_seq ?_
  refine w_seq ?_
  refine w_region ?_
  refine o_y (y_move rfl) rfl rfl ?_
  refine o_y (y_move rfl) rfl rfl ?_
  refine o_callu rfl ent_63 rfl (c_Sort_rt Ax cx q (by have := hbm q ⟨[], by rw [List.append_nil]; exact hfx⟩; omega)) (fun o => .z) (List.mem_of_getElem? (i := 0) rfl) (fun s hs => nomatch hs) (fun ⟨ys, hyp, hys⟩ => ?_)
  refine wl_nil ?_
  refine e_seq ?_
  refine w_seq ?_
  refine w_region ?_
  refine o_y (y_move rfl) rfl rfl ?_
  refine o_y (y_assign rfl) rfl rfl ?_
  refine wl_nil ?_
  refine e_seq ?_
  refine w_ret ?_
  refine e_lvr ?_
  refine lv_take (.s (.s (.z))) ?_
  refine lv_nil (rs := [.tmp 2]) rfl (rs_tmp rfl rs_nil) (fun w hw => ?_)
  have hq0 : q.length = 0 := hfx.length_eq
  exact ⟨(Ax, cx), by rw [hq0]; rfl, hw.base, (hw.weak (List.nil_sublist _) (fun s hs => hs)).toNews⟩
 ·skip
  exact hI.elim

set_option maxRecDepth 100000 in
set_option maxHeartbeats 1000000 in
theorem c_RouteNames  : Pure Tryz.prog 6 #[] (.bool true) := by
 intro w0
 refine calls_of_W (ok0 := no) (S := []) (args := []) 91 Tryz.func6 rfl rfl rfl (by simp) (by simp) ?_
 refine w_seq ?_
 refine w_region ?_
 refine o_y (y_assign rfl) rfl rfl ?_
 refine wl_nil ?_
 refine e_seq ?_
 refine w_seq ?_
 refine w_seq ?_
 refine w_region ?_
 refine o_callp rfl ent_9 c_lives19 rfl ?_
 refine wl_as (t := 9) (.bool true) rfl (congrArg Value.bool rfl) ?_
 refine o_y (y_not rfl) rfl rfl ?_
 refine wl_nil ?_
 refine e_seq ?_
 refine w_cond_f rfl ?_
 refine w_skip ?_
 refine e_seq ?_
 refine w_seq ?_
 refine w_region ?_
 refine o_callr3 rfl ent_19 rfl c_example19 (fun w hw => rd_nil) (fun ⟨⟨⟨tl, At, ct⟩, Ah, ch⟩, htl⟩ => ?_)
 refine o_y (y_move rfl) rfl rfl ?_
 refine o_y (y_extract rfl rfl) rfl rfl ?_
 refine o_y (y_extract rfl rfl) rfl rfl ?_
 refine o_alloc ty_24 rfl rfl (fun b2 => ?_)
 refine o_store ty_24 rfl rfl rfl .z rfl rfl rfl rfl ?_
 refine o_y (y_assign rfl) rfl rfl ?_
 refine wl_nil ?_
 refine e_seq ?_
 refine w_seq ?_
 refine w_region ?_
 refine o_y (y_loadrs 0 ty_24 rfl rfl rfl rfl) rfl rfl ?_
 refine o_y (y_move rfl) rfl rfl ?_
 refine o_callr1 rfl ent_12 rfl (c_index_NewH 1 tl _ _ _ h19 _ (tl19_tb htl) (by rw [tl19_len htl]; decide) (tl19_ck htl) (by decide) hb19) (fun w hw => (rd_cons (rd_Ls 2 rfl hw) (rd_cons (rd_L 1 rfl hw) (rd_cons (rd_Ls 3 rfl hw) rd_nil)))) (fun ⟨oix1, hno1, hyes1⟩ => ?_)
 refine wl_as (t := 18) (.tuple #[.pointer (ixP oix1), .int .i64 (ixE oix1)]) rfl (ixV_pe oix1) ?_
 obtain ⟨ix1, rfl⟩ := ix_yes hno1 (by rw [htl]; decide +kernel)
 obtain ⟨hH1, hix21⟩ := hyes1 ix1 rfl
 refine o_y (y_move rfl) rfl rfl ?_
 refine o_y (y_extract rfl rfl) rfl rfl ?_
 refine o_y (y_extract rfl rfl) rfl rfl ?_
 refine o_y (y_assign rfl) rfl rfl ?_
 refine o_y (y_assign rfl) rfl rfl ?_
 refine wl_nil ?_
 refine e_seq ?_
 refine w_seq ?_
 refine w_region ?_
 refine o_y (y_move rfl) rfl rfl ?_
 refine o_callp rfl ent_20 c_Four1 rfl ?_
 refine o_y (y_ixm (k := 0) Tryz.underlying25 ty_42 rfl rfl (rs_L 4 rfl) rfl (by decide)) rfl rfl ?_
 refine o_y (y_field fa_42_1 rfl) rfl rfl ?_
 refine o_stm 1 (k := 0) enc_hd hd0 (⟨n19 98, a19⟩ : Hd) ty_28 rfl rfl rfl (.s (.s (.s (.s (.z))))) rfl (by decide) rfl rfl rfl ?_
 refine wl_nil ?_
 refine e_seq ?_
 refine w_seq ?_
 refine w_region ?_
 refine o_y (y_loadrs 1 ty_24 rfl rfl rfl rfl) rfl rfl ?_
 refine o_y (y_move rfl) rfl rfl ?_
 refine o_callr1 rfl ent_12 rfl (c_index_NewH 1 tl _ _ _ h19b _ (tl19_tb htl) (by rw [tl19_len htl]; decide) (tl19_ck htl) (by decide) hb19b) (fun w hw => (rd_cons (rd_Ls 3 rfl hw) (rd_cons (rd_L 2 rfl hw) (rd_cons (rd_Ls 4 rfl hw) rd_nil)))) (fun ⟨oix2, hno2, hyes2⟩ => ?_)
 refine wl_as (t := 28) (.tuple #[.pointer (ixP oix2), .int .i64 (ixE oix2)]) rfl (ixV_pe oix2) ?_
 obtain ⟨ix2, rfl⟩ := ix_yes hno2 (by rw [htl]; decide +kernel)
 obtain ⟨hH2, hix22⟩ := hyes2 ix2 rfl
 refine o_y (y_move rfl) rfl rfl ?_
 refine o_y (y_extract rfl rfl) rfl rfl ?_
 refine o_y (y_extract rfl rfl) rfl rfl ?_
 refine o_y (y_assign rfl) rfl rfl ?_
 refine o_y (y_assign rfl) rfl rfl ?_
 refine wl_nil ?_
 refine e_seq ?_
 refine w_seq ?_
 refine w_seq ?_
 refine w_region ?_
 refine o_y (y_move rfl) rfl rfl ?_
 refine o_y (y_eqp Tryz.underlying32 rfl rfl) rfl rfl ?_
 refine wl_as (t := 32) (.bool false) rfl (congrArg Value.bool rfl) ?_
 refine o_y (y_move rfl) rfl rfl ?_
 refine wl_gyes rfl rfl ?_
 refine o_y (y_move rfl) rfl rfl ?_
 refine wl_gyes rfl rfl ?_
 refine o_y (y_eqp Tryz.underlying32 rfl rfl) rfl rfl ?_
 refine wl_as (t := 35) (.bool false) rfl (congrArg Value.bool rfl) ?_
 refine o_y (y_pick_f rfl rfl) rfl rfl ?_
 refine wl_nil ?_
 refine e_seq ?_
 refine w_cond_f rfl ?_
 refine w_skip ?_
 refine e_seq ?_
 refine w_seq ?_
 refine w_region ?_
 refine o_y (y_move rfl) rfl rfl ?_
 refine o_y (y_build rfl (bu_28)) rfl rfl ?_
 refine o_callq rfl ent_13 rfl (c_route_Find ix1 ⟨false, 0, 0⟩) (fun w hw => (rd_cons (rd_all (rd_L 1 rfl hw) (.head _)) (rd_cons (rd_all (rd_L 1 rfl hw) (.tail _ (.tail _ (.tail _ (.head _))))) rd_nil))) ?_
 refine o_y (y_move rfl) rfl rfl ?_
 refine o_y (y_extract rfl rfl) rfl rfl ?_
 refine o_y (y_extract rfl rfl) rfl rfl ?_
 refine o_alloc ty_38 rfl rfl (fun b5 => ?_)
 refine o_store ty_38 rfl rfl rfl .z rfl rfl rfl rfl ?_
 refine o_y (y_assign rfl) rfl rfl ?_
 refine wl_nil ?_
 refine e_seq ?_
 refine w_seq ?_
 refine w_region ?_
 refine o_callp rfl ent_9 c_lives19 rfl ?_
 refine wl_as (t := 43) (.bool true) rfl (congrArg Value.bool rfl) ?_
 refine o_y (y_move rfl) rfl rfl ?_
 refine wl_gyes rfl rfl ?_
 refine o_y (y_move rfl) rfl rfl ?_
 refine wl_as (t := 45) (.bool false) rfl (congrArg Value.bool (by rw [am_s hix21, htl]; decide +kernel)) ?_
 refine wl_gyes rfl rfl ?_
 refine o_y (y_not rfl) rfl rfl ?_
 refine o_y (y_pick_t rfl rfl) rfl rfl ?_
 refine o_y (y_move rfl) rfl rfl ?_
 refine wl_gyes rfl rfl ?_
 refine o_y (y_move rfl) rfl rfl ?_
 refine wl_gyes rfl rfl ?_
 refine o_callp rfl ent_20 c_Four2 rfl ?_
 refine wl_gyes rfl rfl ?_
 refine o_callq rfl ent_17 rfl (c_Cluster ix1 b19) (fun w hw => (rd_cons (rd_all (rd_L 2 rfl hw) (.head _)) (rd_cons (rd_all (rd_L 2 rfl hw) (.tail _ (.tail _ (.tail _ (.head _))))) rd_nil))) ?_
 refine wl_gyes rfl rfl ?_
 refine o_y (y_eqls rfl rfl) rfl rfl ?_
 refine wl_at (t := 52) rfl (by rw [rt_E hix21, htl]; decide +kernel) ?_
 refine o_y (y_pick_t rfl rfl) rfl rfl ?_
 refine o_y (y_move rfl) rfl rfl ?_
 refine wl_gyes rfl rfl ?_
 refine o_y (y_move rfl) rfl rfl ?_
 refine wl_gyes rfl rfl ?_
 refine o_callp rfl ent_20 c_Four1 rfl ?_
 refine wl_gyes rfl rfl ?_
 refine o_callq rfl ent_17 rfl (c_Cluster ix2 a19) (fun w hw => (rd_cons (rd_all (rd_L 1 rfl hw) (.head _)) (rd_cons (rd_all (rd_L 1 rfl hw) (.tail _ (.tail _ (.tail _ (.head _))))) rd_nil))) ?_
 refine wl_gyes rfl rfl ?_
 refine o_y (y_eqls rfl rfl) rfl rfl ?_
 refine wl_at (t := 58) rfl (by rw [rt_E hix22, htl]; decide +kernel) ?_
 refine o_y (y_pick_t rfl rfl) rfl rfl ?_
 refine o_y (y_move rfl) rfl rfl ?_
 refine wl_gyes rfl rfl ?_
 refine o_y (y_move rfl) rfl rfl ?_
 refine wl_gyes rfl rfl ?_
 refine o_callr1 rfl ent_15 rfl (c_route_All ix2 tl h19b hix22 (tl19_tb htl) (fun h hh => (hb19b h hh).2) (by rw [tl19_len htl]; decide)) (fun w hw => (rd_cons (rd_all (rd_L 1 rfl hw) (.head _)) (rd_cons (rd_all (rd_L 1 rfl hw) (.tail _ (.head _))) (rd_cons (rd_all (rd_L 1 rfl hw) (.tail _ (.tail _ (.head _)))) (rd_cons (rd_all (rd_L 1 rfl hw) (.tail _ (.tail _ (.tail _ (.head _))))) (rd_cons (rd_all (rd_L 1 rfl hw) (.tail _ (.tail _ (.tail _ (.tail _ (.head _)))))) (rd_cons (rd_sub (rd_L 1 rfl hw) (fun c hc => .tail _ (.tail _ (.tail _ (.tail _ (.tail _ hc)))))) rd_nil))))))) (fun ⟨⟨ysa, Aya, cya⟩, hypa, hysa⟩ => ?_)
 refine wl_gyes rfl rfl ?_
 refine o_y (y_lenl Tryz.underlying50 rfl) rfl rfl ?_
 refine wl_gyes rfl rfl ?_
 refine o_y (y_eql rfl rfl) rfl rfl ?_
 refine wl_at (t := 64) rfl (by rw [rts19b_eq htl hix22 hypa hysa]; decide) ?_
 refine o_y (y_pick_t rfl rfl) rfl rfl ?_
 refine o_y (y_move rfl) rfl rfl ?_
 refine wl_gyes rfl rfl ?_
 refine o_y (y_move rfl) rfl rfl ?_
 refine wl_gyes rfl rfl ?_
 refine o_callr1 rfl ent_15 rfl (c_route_All ix1 tl h19 hix21 (tl19_tb htl) (fun h hh => (hb19 h hh).2) (by rw [tl19_len htl]; decide)) (fun w hw => (rd_cons (rd_all (rd_L 3 rfl hw) (.head _)) (rd_cons (rd_all (rd_L 3 rfl hw) (.tail _ (.head _))) (rd_cons (rd_all (rd_L 3 rfl hw) (.tail _ (.tail _ (.head _)))) (rd_cons (rd_all (rd_L 3 rfl hw) (.tail _ (.tail _ (.tail _ (.head _))))) (rd_cons (rd_all (rd_L 3 rfl hw) (.tail _ (.tail _ (.tail _ (.tail _ (.head _)))))) (rd_cons (rd_sub (rd_L 3 rfl hw) (fun c hc => .tail _ (.tail _ (.tail _ (.tail _ (.tail _ hc)))))) rd_nil))))))) (fun ⟨⟨ysb, Ayb, cyb⟩, hypb, hysb⟩ => ?_)
 refine wl_gyes rfl rfl ?_
 refine o_y (y_move rfl) rfl rfl ?_
 refine wl_gyes rfl rfl ?_
 refine o_callr1 rfl ent_15 rfl (c_route_All ix1 tl h19 hix21 (tl19_tb htl) (fun h hh => (hb19 h hh).2) (by rw [tl19_len htl]; decide)) (fun w hw => (rd_cons (rd_all (rd_L 4 rfl hw) (.head _)) (rd_cons (rd_all (rd_L 4 rfl hw) (.tail _ (.head _))) (rd_cons (rd_all (rd_L 4 rfl hw) (.tail _ (.tail _ (.head _)))) (rd_cons (rd_all (rd_L 4 rfl hw) (.tail _ (.tail _ (.tail _ (.head _))))) (rd_cons (rd_all (rd_L 4 rfl hw) (.tail _ (.tail _ (.tail _ (.tail _ (.head _)))))) (rd_cons (rd_sub (rd_L 4 rfl hw) (fun c hc => .tail _ (.tail _ (.tail _ (.tail _ (.tail _ hc)))))) rd_nil))))))) (fun ⟨⟨ysc, Ayc, cyc⟩, hypc, hysc⟩ => ?_)
 refine wl_gyes rfl rfl ?_
 refine o_callq rfl ent_18 rfl (c_route_Same _ _ _ _ _ _ (by rw [rts19_eq htl hix21 hypb hysb]; decide)) (fun w hw => (rd_cons (rd_Ls 1 rfl hw) (rd_cons (rd_Ls 0 rfl hw) rd_nil))) ?_
 refine wl_as (t := 71) (.bool true) rfl (congrArg Value.bool (decide_eq_true (by rw [rts19_eq htl hix21 hypb hysb, rts19_eq htl hix21 hypc hysc]))) ?_
 refine o_y (y_pick_t rfl rfl) rfl rfl ?_
 refine o_y (y_move rfl) rfl rfl ?_
 refine wl_gyes rfl rfl ?_
 refine o_y (y_move rfl) rfl rfl ?_
 refine wl_gyes rfl rfl ?_
 refine o_callr1 rfl ent_15 rfl (c_route_All ix1 tl h19 hix21 (tl19_tb htl) (fun h hh => (hb19 h hh).2) (by rw [tl19_len htl]; decide)) (fun w hw => (rd_cons (rd_all (rd_L 5 rfl hw) (.head _)) (rd_cons (rd_all (rd_L 5 rfl hw) (.tail _ (.head _))) (rd_cons (rd_all (rd_L 5 rfl hw) (.tail _ (.tail _ (.head _)))) (rd_cons (rd_all (rd_L 5 rfl hw) (.tail _ (.tail _ (.tail _ (.head _))))) (rd_cons (rd_all (rd_L 5 rfl hw) (.tail _ (.tail _ (.tail _ (.tail _ (.head _)))))) (rd_cons (rd_sub (rd_L 5 rfl hw) (fun c hc => .tail _ (.tail _ (.tail _ (.tail _ (.tail _ hc)))))) rd_nil))))))) (fun ⟨⟨ysd, Ayd, cyd⟩, hypd, hysd⟩ => ?_)
 refine wl_gyes rfl rfl ?_
 refine o_y (y_move rfl) rfl rfl ?_
 refine wl_gyes rfl rfl ?_
 refine o_callr1 rfl ent_15 rfl (c_route_All ix2 tl h19b hix22 (tl19_tb htl) (fun h hh => (hb19b h hh).2) (by rw [tl19_len htl]; decide)) (fun w hw => (rd_cons (rd_all (rd_L 5 rfl hw) (.head _)) (rd_cons (rd_all (rd_L 5 rfl hw) (.tail _ (.head _))) (rd_cons (rd_all (rd_L 5 rfl hw) (.tail _ (.tail _ (.head _)))) (rd_cons (rd_all (rd_L 5 rfl hw) (.tail _ (.tail _ (.tail _ (.head _))))) (rd_cons (rd_all (rd_L 5 rfl hw) (.tail _ (.tail _ (.tail _ (.tail _ (.head _)))))) (rd_cons (rd_sub (rd_L 5 rfl hw) (fun c hc => .tail _ (.tail _ (.tail _ (.tail _ (.tail _ hc)))))) rd_nil))))))) (fun ⟨⟨yse, Aye, cye⟩, hype, hyse⟩ => ?_)
 refine wl_gyes rfl rfl ?_
 refine o_callq rfl ent_18 rfl (c_route_Same _ _ _ _ _ _ (by rw [rts19_eq htl hix21 hypd hysd]; decide)) (fun w hw => (rd_cons (rd_Ls 1 rfl hw) (rd_cons (rd_Ls 0 rfl hw) rd_nil))) ?_
 refine wl_as (t := 78) (.bool false) rfl (congrArg Value.bool (decide_eq_false (by rw [rts19_eq htl hix21 hypd hysd, rts19b_eq htl hix22 hype hyse]; decide))) ?_
 refine wl_gyes rfl rfl ?_
 refine o_y (y_not rfl) rfl rfl ?_
 refine o_y (y_pick_t rfl rfl) rfl rfl ?_
 refine o_y (y_move rfl) rfl rfl ?_
 refine wl_gyes rfl rfl ?_
 refine o_callr0 rfl ent_15 rfl c_All_nil (fun w hw => rd_nil) (fun ⟨An, cn⟩ => ?_)
 refine wl_gyes rfl rfl ?_
 refine o_y (y_lenl Tryz.underlying50 rfl) rfl rfl ?_
 refine wl_gyes rfl rfl ?_
 refine o_y (y_eql rfl rfl) rfl rfl ?_
 refine wl_at (t := 84) rfl rfl ?_
 refine o_y (y_pick_t rfl rfl) rfl rfl ?_
 refine o_y (y_move rfl) rfl rfl ?_
 refine wl_gyes rfl rfl ?_
 refine o_y (y_build rfl (bu_28)) rfl rfl ?_
 refine wl_gyes rfl rfl ?_
 refine o_callp rfl ent_17 (c_Cluster_nil ⟨false, 0, 0⟩) rfl ?_
 refine wl_gyes rfl rfl ?_
 refine o_y (y_eqls rfl rfl) rfl rfl ?_
 refine wl_at (t := 89) rfl rfl ?_
 refine o_y (y_pick_t rfl rfl) rfl rfl ?_
 refine o_y (y_assign rfl) rfl rfl ?_
 refine wl_nil ?_
 refine e_seq ?_
 refine w_ret ?_
 refine e_ret (ts := [0]) rfl rfl rfl (fun w hw => ?_)
 exact ⟨rfl, hw.base⟩
end Go.Proofs.YtfmelbpgkbiooaaGreat
