/- the laws of entries -/
import Derived.Test.YtahpppncjbgpaaaCj
namespace Go.Proofs.Ytahpppncjbgpaaa
open Go.RowKit Go.Shelf
set_option linter.unusedVariables false
set_option linter.unusedSimpArgs false

theorem bu_48_0_1_2_3_5_6 (x0 : Str) (x1 : Int) (x2 : Str) (x3 : Option Addr) (x4 : Nat) (x5 : Nat) (x6 : Option Addr) (x7 : Nat) (x8 : Nat) (x9 : Int) : Try.prog.built 48 [(0, .string (ba x0)), (1, .int .i64 x1), (2, .string (ba x2)), (3, .slice x3 x4 x5), (5, .slice x6 x7 x8), (6, .int .u32 x9)] = some [.string (ba x0), .int .i64 x1, .string (ba x2), .slice x3 x4 x5, .string ⟨#[]⟩, .slice x6 x7 x8, .int .u32 x9].toArray := by kernel_rfl
theorem bu_54_0_2 (x0 : Bool) (x1 : Int) : Try.prog.built 54 [(0, .bool x0), (2, .int .u64 x1)] = some [.bool x0, .int .u64 0, .int .u64 x1].toArray := by kernel_rfl
theorem bu_54_2 (x0 : Int) : Try.prog.built 54 [(2, .int .u64 x0)] = some [.bool false, .int .u64 0, .int .u64 x0].toArray := by kernel_rfl
theorem ent_29 : Enters Try.prog 29 := enters_of Try.func29 (by kernel_rfl) rfl
theorem ent_30 : Enters Try.prog 30 := enters_of Try.func30 (by kernel_rfl) rfl
theorem ent_31 : Enters Try.prog 31 := enters_of Try.func31 (by kernel_rfl) rfl
theorem ent_32 : Enters Try.prog 32 := enters_of Try.func32 (by kernel_rfl) rfl
theorem ent_33 : Enters Try.prog 33 := enters_of Try.func33 (by kernel_rfl) rfl
theorem ent_39 : Enters Try.prog 39 := enters_of Try.func39 (by kernel_rfl) rfl
theorem ent_40 : Enters Try.prog 40 := enters_of Try.func40 (by kernel_rfl) rfl


def AdOk (a : Ad) : Prop := 0 ≤ a.hi ∧ a.hi ≤ 18446744073709551615 ∧ 0 ≤ a.lo ∧ a.lo ≤ 18446744073709551615
def EnOk (e : En) : Prop := e.host.length ≤ 9223372036854775807 ∧ (-9223372036854775808 ≤ e.kind ∧ e.kind ≤ 9223372036854775807) ∧ e.cluster.length ≤ 9223372036854775807 ∧ (∀ a ∈ e.addrs, AdOk a) ∧ e.addrs.length ≤ 9223372036854775807 ∧ e.alias.length ≤ 9223372036854775807 ∧ (∀ p ∈ e.ports, -9223372036854775808 ≤ p ∧ p ≤ 9223372036854775807) ∧ e.ports.length ≤ 9223372036854775807 ∧ 0 ≤ e.ttl ∧ e.ttl ≤ 4294967295
theorem EnOk.lo {e : En} (h : EnOk e) : ∀ a ∈ e.addrs, 0 ≤ a.lo := fun a ha => (h.2.2.2.1 a ha).2.2.1


theorem dc_ad {w : World} : Dc Try.prog w 54 (α := Ad) (adC) (fun _ => []) (AdOk) := fun H enc base sp hd fuel cs x h => by
  obtain ⟨xs, n, rfl, _, hcl, hxl, hf⟩ := DataW.trod_struct Try.underlying54 h
  have hcl2 : cs.length = 3 := hcl.trans (by kernel_rfl)
  obtain ⟨x0, c0, r0, o0⟩ := dc_field hxl hf 0 (ft := 4) (off := 0) (k := 1) (by kernel_rfl) (by kernel_rfl) (dc_bool Try.underlying4)
  obtain ⟨x1, c1, r1, o1⟩ := dc_field hxl hf 1 (ft := 24) (off := 1) (k := 1) (by kernel_rfl) (by kernel_rfl) (dc_int Try.underlying24)
  obtain ⟨x2, c2, r2, o2⟩ := dc_field hxl hf 2 (ft := 24) (off := 2) (k := 1) (by kernel_rfl) (by kernel_rfl) (dc_int Try.underlying24)
  have hcs := cut0 (cutc c0 (cutc c1 (cutc c2 (cutn hcl2) rfl) rfl) rfl)
  exact ⟨⟨x0, x1, x2⟩, hcs, nofun, o1.1, o1.2, o2.1, o2.2⟩


theorem dc_ads {w : World} : Dc Try.prog w 45 (fun p : List Ad × Option Addr × Nat => [.slice p.2.1 p.1.length p.2.2]) (fun p => Ch.rd p.2.1 3 adC p.1 :: p.1.flatMap (fun _ => [])) (fun p => p.1.length ≤ 9223372036854775807 ∧ ∀ a ∈ p.1, AdOk a) := dc_slice Try.underlying45 (by kernel_rfl) (by decide) enc_ad dc_ad
theorem dc_ints {w : World} : Dc Try.prog w 34 (fun p : List Int × Option Addr × Nat => [.slice p.2.1 p.1.length p.2.2]) (fun p => Ch.rd p.2.1 1 enci p.1 :: p.1.flatMap (fun _ => [])) (fun p => p.1.length ≤ 9223372036854775807 ∧ ∀ n ∈ p.1, IntKind.i64.min ≤ n ∧ n ≤ IntKind.i64.max) := dc_slice Try.underlying34 (by kernel_rfl) (by decide) enc_i (dc_int Try.underlying3)


theorem dc_en {w : World} : Dc Try.prog w 48 (α := En × (Option Addr × Nat) × (Option Addr × Nat)) (fun q => enC q.1 q.2.1.1 q.2.2.1 q.2.1.2 q.2.2.2) (fun q => [Ch.rd q.2.1.1 3 adC q.1.addrs, Ch.rd q.2.2.1 1 enci q.1.ports]) (fun q => EnOk q.1) := fun H enc base sp hd fuel cs x h => by
  obtain ⟨xs, n, rfl, _, hcl, hxl, hf⟩ := DataW.trod_struct Try.underlying48 h
  have hcl2 : cs.length = 7 := hcl.trans (by kernel_rfl)
  obtain ⟨x0, c0, r0, o0⟩ := dc_field hxl hf 0 (ft := 22) (off := 0) (k := 1) (by kernel_rfl) (by kernel_rfl) (dc_str Try.underlying22)
  obtain ⟨x1, c1, r1, o1⟩ := dc_field hxl hf 1 (ft := 3) (off := 1) (k := 1) (by kernel_rfl) (by kernel_rfl) (dc_int Try.underlying3)
  obtain ⟨x2, c2, r2, o2⟩ := dc_field hxl hf 2 (ft := 9) (off := 2) (k := 1) (by kernel_rfl) (by kernel_rfl) (dc_str Try.underlying9)
  obtain ⟨⟨x3, A, c⟩, c3, r3, o3⟩ := dc_field hxl hf 3 (ft := 45) (off := 3) (k := 1) (by kernel_rfl) (by kernel_rfl) dc_ads
  obtain ⟨x4, c4, r4, o4⟩ := dc_field hxl hf 4 (ft := 22) (off := 4) (k := 1) (by kernel_rfl) (by kernel_rfl) (dc_str Try.underlying22)
  obtain ⟨⟨x5, B, d⟩, c5, r5, o5⟩ := dc_field hxl hf 5 (ft := 34) (off := 5) (k := 1) (by kernel_rfl) (by kernel_rfl) dc_ints
  obtain ⟨x6, c6, r6, o6⟩ := dc_field hxl hf 6 (ft := 46) (off := 6) (k := 1) (by kernel_rfl) (by kernel_rfl) (dc_int Try.underlying46)
  have hcs := cut0 (cutc c0 (cutc c1 (cutc c2 (cutc c3 (cutc c4 (cutc c5 (cutc c6 (cutn hcl2) rfl) rfl) rfl) rfl) rfl) rfl) rfl)
  exact ⟨(⟨x0, x1, x2, x3, x4, x5, x6⟩, (A, c), (B, d)), hcs, rd_cons (r3 _ List.mem_cons_self) (rd_cons (r5 _ List.mem_cons_self) nofun), o0, o1, o2, o3.2, o3.1, o4, o5.2, o5.1, o6⟩

theorem c_host16 (ls : List Str) (A : Option Addr) (ca : Nat) (hl : ls.length ≤ 1000000000000) : RC Try.prog 39 #[.slice A ls.length ca] [Ch.rd A 1 encs ls] (α := Unit) (fun _ => .string (ba (makeN ls).1)) (fun _ => []) := by
  refine rc_of_W (args := [.slice A ls.length ca]) 11 Try.func39 rfl rfl rfl (fun w0 => ?_)
  refine w_seq ?_
  refine w_region ?_
  refine o_y (y_assign rfl) rfl rfl ?_
  refine wl_nil ?_
  refine e_seq ?_
  refine w_seq ?_
  refine w_region ?_
  refine o_y (y_move rfl) rfl rfl ?_
  refine o_callq rfl ent_72 rfl (c_ref02_Make _ _ _ (by omega)) (fun w hw => (rd_cons (rd_S 0 rfl hw) rd_nil)) ?_
  refine o_y (y_move rfl) rfl rfl ?_
  refine o_y (y_extract rfl rfl) rfl rfl ?_
  refine o_y (y_extract rfl rfl) rfl rfl ?_
  refine o_y (y_assign rfl) rfl rfl ?_
  refine o_y (y_assign rfl) rfl rfl ?_
  refine wl_nil ?_
  refine e_seq ?_
  refine w_seq ?_
  refine w_region ?_
  refine o_y (y_move rfl) rfl rfl ?_
  refine o_y (y_assign rfl) rfl rfl ?_
  refine wl_nil ?_
  refine e_seq ?_
  refine w_ret ?_
  refine e_ret (ts := [2]) rfl rfl rfl (fun w hw => ?_)
  exact ⟨(), rfl, hw.base, (hw.weak (List.nil_sublist _) (fun s hs => hs)).toNews⟩


def hostBA : Str := (makeN [[98], [97]]).1
/-- The chapter's entry. -/
def fixE : En := ⟨hostBA, 1, [120], [⟨false, 0, 16909060⟩, ⟨true, 0, 1⟩], [], [80, 443], 30⟩


theorem c_fixed16  : RC Try.prog 40 #[] [] (α := Option Addr × Nat × Option Addr × Nat) (fun p => .agg (enC fixE p.1 p.2.2.1 p.2.1 p.2.2.2).toArray) (fun p => [Ch.ls p.2.2.1 p.2.2.2 3 1 enci (fixE).ports, Ch.ls p.1 p.2.1 54 3 adC (fixE).addrs]) := by
  refine rc_of_W (args := []) 8 Try.func40 rfl rfl rfl (fun w0 => ?_)
  refine w_seq ?_
  refine w_region ?_
  refine o_alloc ty_48 rfl rfl (fun b1 => ?_)
  refine wl_nil ?_
  refine e_seq ?_
  refine w_seq ?_
  refine w_region ?_
  refine o_bsl (vs := [_, _]) ([[98], [97]] : List (Str)) enc_s Try.underlying56 ty_9 rfl rfl rfl rfl rfl rfl (fun As2 => ?_)
  refine o_callq rfl ent_39 rfl (c_host16 _ _ _ (by decide)) (fun w hw => (rd_cons (rd_Ls 0 rfl hw) rd_nil)) ?_
  refine o_y (y_build rfl (bu_54_2 _)) rfl rfl ?_
  refine o_y (y_build rfl (bu_54_0_2 _ _)) rfl rfl ?_
  refine o_bsl (vs := [_, _]) ([Ad.mk false 0 16909060, Ad.mk true 0 1] : List (Ad)) enc_ad Try.underlying45 ty_54 rfl rfl rfl rfl rfl rfl (fun As3 => ?_)
  refine o_bsl (vs := [_, _]) ([(80 : Int), 443] : List (Int)) enc_i Try.underlying34 ty_3 rfl rfl rfl rfl rfl rfl (fun As4 => ?_)
  refine o_y (y_build rfl (bu_48_0_1_2_3_5_6 _ _ _ _ _ _ _ _ _ _)) rfl rfl ?_
  refine o_store ty_48 rfl rfl rfl (.s (.s (.s (.z)))) rfl rfl rfl rfl ?_
  refine wl_nil ?_
  refine e_seq ?_
  refine w_ret ?_
  refine e_rsr (rs := [.cell 0 48]) rfl (rs_cells 3 ty_48 rfl rfl rfl rfl rs_nil) rfl (fun w hw => ?_)
  exact ⟨⟨As3, 2, As4, 2⟩, rfl, hw.base, (hw.weak (.cons_cons _ (.cons_cons _ (.cons _ (.cons _ .slnil)))) (fun s hs => hs)).toNews⟩


theorem rd_none {w : World} {sz : Nat} : (Ch.rs none 0 sz []).P w ∧ ∀ b, (Ch.rs none 0 sz []).ok b → b < w.heap.size := ⟨⟨by simp, (by simp), .inl rfl⟩, fun b hb => by simp [Ch.rs] at hb⟩


set_option maxRecDepth 100000 in
theorem c_lives16  : Pure Try.prog 29 #[] (.bool true) := by
  intro w0
  refine calls_of_W (ok0 := no) (S := []) (args := []) 64 Try.func29 rfl rfl rfl (by simp) (by simp) ?_
  refine w_seq ?_
  refine w_region ?_
  refine o_y (y_assign rfl) rfl rfl ?_
  refine wl_nil ?_
  refine e_seq ?_
  refine w_seq ?_
  refine w_region ?_
  refine o_callr2 rfl ent_40 rfl c_fixed16 (fun w hw => rd_nil) (fun ⟨A0, c0, B0, d0⟩ => ?_)
  refine o_alloc ty_48 rfl rfl (fun b2 => ?_)
  refine o_store ty_48 rfl rfl rfl .z rfl rfl rfl rfl ?_
  refine wl_nil ?_
  refine e_seq ?_
  refine w_seq ?_
  refine w_draw 10 rfl mixed ?_
  refine a_take (i := 0) rfl wanted_none (y_loadrs 0 ty_48 rfl rfl rfl rfl) (fun w h => h) (fun w h => h) rfl (pk_seq pk_fn) (by kernel_rfl) rfl ?_
  refine a_take (i := 1) rfl wanted_none (y_field fa_48_0 rfl) (fun w h => h) (fun w h => h) rfl (pk_seq pk_fn) (by kernel_rfl) rfl ?_
  refine a_take (i := 2) rfl wanted_none (y_loadr 0 ty_22 rfl rfl rfl) (fun w h => h) (fun w h => h) rfl (pk_seq pk_fn) (by kernel_rfl) rfl ?_
  refine a_take (i := 4) rfl wanted_none (y_loadrs 0 ty_48 rfl rfl rfl rfl) (fun w h => h) (fun w h => h) rfl (pk_seq pk_fn) (by kernel_rfl) rfl ?_
  refine a_take (i := 5) rfl wanted_none (y_field fa_48_0 rfl) (fun w h => h) (fun w h => h) rfl (pk_seq pk_fn) (by kernel_rfl) rfl ?_
  refine a_take (i := 6) rfl wanted_none (y_loadr 0 ty_22 rfl rfl rfl) (fun w h => h) (fun w h => h) rfl (pk_seq pk_fn) (by kernel_rfl) rfl ?_
  refine a_one (i := 3) rfl rfl rfl (tame_call rfl ent_31) (by kernel_rfl) rfl ?_
  refine o_callr1 rfl ent_31 rfl (c_entry_Records fixE _ _ _ _ hostBA 1 _ _ [] (by decide) (by decide) (by decide) (by decide) (by decide) (by decide)) (fun w hw => (rd_cons (rd_Ls 2 rfl hw) (rd_cons (rd_Ls 1 rfl hw) (rd_cons (rd_none) rd_nil)))) (fun ⟨A2, c2⟩ => ?_)
  refine wl_nil ?_
  refine e_one (fun w h => h.weak (.cons _ (List.Sublist.refl _)) (fun s hs => hs)) ?_
  refine a_one (i := 7) rfl rfl rfl (tame_call rfl ent_31) (by kernel_rfl) rfl ?_
  refine o_callr1 rfl ent_31 rfl (c_entry_Records fixE _ _ _ _ hostBA 33 _ _ [] (by decide) (by decide) (by decide) (by decide) (by decide) (by decide)) (fun w hw => (rd_cons (rd_Ls 3 rfl hw) (rd_cons (rd_Ls 2 rfl hw) (rd_cons (rd_none) rd_nil)))) (fun ⟨A3, c3⟩ => ?_)
  refine wl_nil ?_
  refine e_one (fun w h => h.weak (.cons _ (.cons _ (List.Sublist.refl _))) (fun s hs => hs)) ?_
  refine a_take (i := 8) rfl wanted_none (y_assign rfl) (fun w h => h.weak (.cons _ (.cons _ (List.Sublist.refl _))) (fun s hs => hs)) (fun w h => h) rfl (pk_seq pk_fn) (by kernel_rfl) rfl ?_
  refine a_take (i := 9) rfl wanted_none (y_assign rfl) (fun w h => h.weak (.cons _ (.cons _ (List.Sublist.refl _))) (fun s hs => hs)) (fun w h => h) rfl (pk_seq pk_fn) (by kernel_rfl) rfl ?_
  refine a_done (by kernel_rfl) ?_
  refine e_seq ?_
  refine w_seq ?_
  refine w_draw 52 rfl mixed ?_
  refine a_take (i := 0) rfl wanted_none (y_loadrs 2 ty_48 rfl rfl rfl rfl) (fun w h => h) (fun w h => h) rfl (pk_seq pk_fn) (by kernel_rfl) rfl ?_
  refine a_one (i := 1) rfl rfl rfl (tame_call rfl ent_34) (by kernel_rfl) rfl ?_
  refine o_callq rfl ent_34 rfl (c_entry_Check fixE _ _ _ _ (by decide) (by decide) (by decide) (by decide)) (fun w hw => (rd_cons (rd_Ls 4 rfl hw) (rd_cons (rd_Ls 3 rfl hw) rd_nil))) ?_
  refine wl_nil ?_
  refine e_one (fun w h => h) ?_
  refine a_take (i := 2) rfl wanted_none (y_eql rfl rfl) (fun w h => h) (fun w h => h) rfl (pk_seq pk_fn) (by kernel_rfl) rfl ?_
  refine wa_at (t := 15) rfl (by decide +kernel) ?_
  refine a_take (i := 3) rfl wanted_none (y_move rfl) (fun w h => h) (fun w h => h) rfl (pk_seq pk_fn) (by kernel_rfl) rfl ?_
  refine a_take (i := 4) rfl (wanted_yes rfl rfl) (y_move rfl) (fun w h => h) (fun w h => h) rfl (pk_seq pk_fn) (by kernel_rfl) rfl ?_
  refine a_take (i := 5) rfl (wanted_yes rfl rfl) (y_lenl Try.underlying50 rfl) (fun w h => h) (fun w h => h) rfl (pk_seq pk_fn) (by kernel_rfl) rfl ?_
  refine a_take (i := 6) rfl (wanted_yes rfl rfl) (y_eql rfl rfl) (fun w h => h) (fun w h => h) rfl (pk_seq pk_fn) (by kernel_rfl) rfl ?_
  refine wa_at (t := 19) rfl (by decide +kernel) ?_
  refine a_take (i := 7) rfl wanted_none (y_pick_t rfl rfl) (fun w h => h) (fun w h => h) rfl (pk_seq pk_fn) (by kernel_rfl) rfl ?_
  refine a_take (i := 8) rfl wanted_none (y_move rfl) (fun w h => h) (fun w h => h) rfl (pk_seq pk_fn) (by kernel_rfl) rfl ?_
  refine a_take (i := 9) rfl (wanted_yes rfl rfl) (y_move rfl) (fun w h => h) (fun w h => h) rfl (pk_seq pk_fn) (by kernel_rfl) rfl ?_
  refine a_take (i := 10) rfl (wanted_yes rfl rfl) (y_ixm (k := 0) Try.underlying50 ty_60 rfl rfl (rs_L 1 rfl) rfl (by decide +kernel)) (fun w h => h) (fun w h => h) rfl (pk_seq pk_fn) (by kernel_rfl) rfl ?_
  refine a_take (i := 11) rfl (wanted_yes rfl rfl) (y_field fa_60_4 rfl) (fun w h => h) (fun w h => h) rfl (pk_seq pk_fn) (by kernel_rfl) rfl ?_
  refine a_take (i := 12) rfl (wanted_yes rfl rfl) (y_field fa_58_0 rfl) (fun w h => h) (fun w h => h) rfl (pk_seq pk_fn) (by kernel_rfl) rfl ?_
  refine a_take (i := 13) rfl (wanted_yes rfl rfl) (y_ldsm 4 (k := 0) enc_rc rc0 ty_54 rfl (rs_L 1 rfl) (by decide +kernel) rfl rfl rfl) (fun w h => h) (fun w h => h) rfl (pk_seq pk_fn) (by kernel_rfl) rfl ?_
  refine a_take (i := 14) rfl (wanted_yes rfl rfl) (y_field fa_48_3 rfl) (fun w h => h) (fun w h => h) rfl (pk_seq pk_fn) (by kernel_rfl) rfl ?_
  refine a_take (i := 15) rfl (wanted_yes rfl rfl) (y_loadr 2 ty_45 rfl rfl rfl) (fun w h => h) (fun w h => h) rfl (pk_seq pk_fn) (by kernel_rfl) rfl ?_
  refine a_take (i := 16) rfl (wanted_yes rfl rfl) (y_ixm (k := 0) Try.underlying45 ty_54 rfl rfl (rs_L 4 rfl) rfl (by decide +kernel)) (fun w h => h) (fun w h => h) rfl (pk_seq pk_fn) (by kernel_rfl) rfl ?_
  refine a_take (i := 17) rfl (wanted_yes rfl rfl) (y_ldsm0 (k := 0) enc_ad ad0 ty_54 rfl (rs_L 4 rfl) (by decide +kernel) rfl rfl rfl) (fun w h => h) (fun w h => h) rfl (pk_seq pk_fn) (by kernel_rfl) rfl ?_
  refine a_take (i := 18) rfl (wanted_yes rfl rfl) (y_eqst (by kernel_rfl) rfl rfl (eqd_ad _ _) rfl) (fun w h => h) (fun w h => h) rfl (pk_seq pk_fn) (by kernel_rfl) rfl ?_
  refine wa_at (t := 31) rfl (by decide +kernel) ?_
  refine a_take (i := 19) rfl wanted_none (y_pick_t rfl rfl) (fun w h => h) (fun w h => h) rfl (pk_seq pk_fn) (by kernel_rfl) rfl ?_
  refine a_take (i := 20) rfl wanted_none (y_move rfl) (fun w h => h) (fun w h => h) rfl (pk_seq pk_fn) (by kernel_rfl) rfl ?_
  refine a_take (i := 21) rfl (wanted_yes rfl rfl) (y_move rfl) (fun w h => h) (fun w h => h) rfl (pk_seq pk_fn) (by kernel_rfl) rfl ?_
  refine a_take (i := 22) rfl (wanted_yes rfl rfl) (y_ixm (k := 0) Try.underlying50 ty_60 rfl rfl (rs_L 1 rfl) rfl (by decide +kernel)) (fun w h => h) (fun w h => h) rfl (pk_seq pk_fn) (by kernel_rfl) rfl ?_
  refine a_take (i := 23) rfl (wanted_yes rfl rfl) (y_field fa_60_3 rfl) (fun w h => h) (fun w h => h) rfl (pk_seq pk_fn) (by kernel_rfl) rfl ?_
  refine a_take (i := 24) rfl (wanted_yes rfl rfl) (y_ldm 3 (k := 0) enc_rc rc0 ty_46 rfl (rs_L 1 rfl) (by decide +kernel) rfl rfl) (fun w h => h) (fun w h => h) rfl (pk_seq pk_fn) (by kernel_rfl) rfl ?_
  refine a_take (i := 25) rfl (wanted_yes rfl rfl) (y_eql rfl rfl) (fun w h => h) (fun w h => h) rfl (pk_seq pk_fn) (by kernel_rfl) rfl ?_
  refine wa_at (t := 38) rfl (by decide +kernel) ?_
  refine a_take (i := 26) rfl wanted_none (y_pick_t rfl rfl) (fun w h => h) (fun w h => h) rfl (pk_seq pk_fn) (by kernel_rfl) rfl ?_
  refine a_take (i := 27) rfl wanted_none (y_move rfl) (fun w h => h) (fun w h => h) rfl (pk_seq pk_fn) (by kernel_rfl) rfl ?_
  refine a_take (i := 28) rfl (wanted_yes rfl rfl) (y_move rfl) (fun w h => h) (fun w h => h) rfl (pk_seq pk_fn) (by kernel_rfl) rfl ?_
  refine a_take (i := 29) rfl (wanted_yes rfl rfl) (y_lenl Try.underlying50 rfl) (fun w h => h) (fun w h => h) rfl (pk_seq pk_fn) (by kernel_rfl) rfl ?_
  refine a_take (i := 30) rfl (wanted_yes rfl rfl) (y_eql rfl rfl) (fun w h => h) (fun w h => h) rfl (pk_seq pk_fn) (by kernel_rfl) rfl ?_
  refine wa_at (t := 43) rfl (by decide +kernel) ?_
  refine a_take (i := 31) rfl wanted_none (y_pick_t rfl rfl) (fun w h => h) (fun w h => h) rfl (pk_seq pk_fn) (by kernel_rfl) rfl ?_
  refine a_take (i := 32) rfl wanted_none (y_move rfl) (fun w h => h) (fun w h => h) rfl (pk_seq pk_fn) (by kernel_rfl) rfl ?_
  refine a_take (i := 33) rfl (wanted_yes rfl rfl) (y_move rfl) (fun w h => h) (fun w h => h) rfl (pk_seq pk_fn) (by kernel_rfl) rfl ?_
  refine a_take (i := 34) rfl (wanted_yes rfl rfl) (y_ixm (k := 1) Try.underlying50 ty_60 rfl rfl (rs_L 0 rfl) rfl (by decide +kernel)) (fun w h => h) (fun w h => h) rfl (pk_seq pk_fn) (by kernel_rfl) rfl ?_
  refine a_take (i := 35) rfl (wanted_yes rfl rfl) (y_field fa_60_4 rfl) (fun w h => h) (fun w h => h) rfl (pk_seq pk_fn) (by kernel_rfl) rfl ?_
  refine a_take (i := 36) rfl (wanted_yes rfl rfl) (y_field fa_58_3 rfl) (fun w h => h) (fun w h => h) rfl (pk_seq pk_fn) (by kernel_rfl) rfl ?_
  refine a_take (i := 37) rfl (wanted_yes rfl rfl) (y_ixa (k := 2) Try.underlying55 ty_46 rfl rfl rfl (by omega)) (fun w h => h) (fun w h => h) rfl (pk_seq pk_fn) (by kernel_rfl) rfl ?_
  refine a_take (i := 38) rfl (wanted_yes rfl rfl) (y_ldm 11 (k := 1) enc_rc rc0 ty_46 rfl (rs_L 0 rfl) (by decide +kernel) rfl rfl) (fun w h => h) (fun w h => h) rfl (pk_seq pk_fn) (by kernel_rfl) rfl ?_
  refine a_take (i := 39) rfl (wanted_yes rfl rfl) (y_eql rfl rfl) (fun w h => h) (fun w h => h) rfl (pk_seq pk_fn) (by kernel_rfl) rfl ?_
  refine wa_at (t := 52) rfl (by decide +kernel) ?_
  refine a_take (i := 40) rfl wanted_none (y_pick_t rfl rfl) (fun w h => h) (fun w h => h) rfl (pk_seq pk_fn) (by kernel_rfl) rfl ?_
  refine a_take (i := 41) rfl wanted_none (y_move rfl) (fun w h => h) (fun w h => h) rfl (pk_seq pk_fn) (by kernel_rfl) rfl ?_
  refine a_take (i := 42) rfl (wanted_yes rfl rfl) (y_move rfl) (fun w h => h) (fun w h => h) rfl (pk_seq pk_fn) (by kernel_rfl) rfl ?_
  refine a_take (i := 43) rfl (wanted_yes rfl rfl) (y_ixm (k := 1) Try.underlying50 ty_60 rfl rfl (rs_L 0 rfl) rfl (by decide +kernel)) (fun w h => h) (fun w h => h) rfl (pk_seq pk_fn) (by kernel_rfl) rfl ?_
  refine a_take (i := 44) rfl (wanted_yes rfl rfl) (y_field fa_60_4 rfl) (fun w h => h) (fun w h => h) rfl (pk_seq pk_fn) (by kernel_rfl) rfl ?_
  refine a_take (i := 45) rfl (wanted_yes rfl rfl) (y_field fa_58_1 rfl) (fun w h => h) (fun w h => h) rfl (pk_seq pk_fn) (by kernel_rfl) rfl ?_
  refine a_take (i := 46) rfl (wanted_yes rfl rfl) (y_ldm 7 (k := 1) enc_rc rc0 ty_22 rfl (rs_L 0 rfl) (by decide +kernel) rfl rfl) (fun w h => h) (fun w h => h) rfl (pk_seq pk_fn) (by kernel_rfl) rfl ?_
  refine a_take (i := 47) rfl (wanted_yes rfl rfl) (y_field fa_48_0 rfl) (fun w h => h) (fun w h => h) rfl (pk_seq pk_fn) (by kernel_rfl) rfl ?_
  refine a_take (i := 48) rfl (wanted_yes rfl rfl) (y_loadr 2 ty_22 rfl rfl rfl) (fun w h => h) (fun w h => h) rfl (pk_seq pk_fn) (by kernel_rfl) rfl ?_
  refine a_take (i := 49) rfl (wanted_yes rfl rfl) (y_eqls rfl rfl) (fun w h => h) (fun w h => h) rfl (pk_seq pk_fn) (by kernel_rfl) rfl ?_
  refine wa_at (t := 62) rfl (by decide +kernel) ?_
  refine a_take (i := 50) rfl wanted_none (y_pick_t rfl rfl) (fun w h => h) (fun w h => h) rfl (pk_seq pk_fn) (by kernel_rfl) rfl ?_
  refine a_take (i := 51) rfl wanted_none (y_assign rfl) (fun w h => h) (fun w h => h) rfl (pk_seq pk_fn) (by kernel_rfl) rfl ?_
  refine a_done (by kernel_rfl) ?_
  refine e_seq ?_
  refine w_ret ?_
  refine e_ret (ts := [0]) rfl rfl rfl (fun w hw => ?_)
  exact ⟨rfl, hw.base⟩

set_option maxRecDepth 100000 in
theorem c_EntryRecords (e : En) (A B : Option Addr) (c d : Nat) (owner : Str) (H : Option Addr) (h : Nat) (held : List Ad) (hoh : ∀ a ∈ held, AdOk a) (t u : Int) (hok : EnOk e) (hol : owner.length ≤ 9223372036854775807) (hhl : held.length ≤ 9223372036854775807) : RC Try.prog 8 #[.agg (enC e A B c d).toArray, .string (ba owner), .slice H held.length h, .int .i64 t, .int .i64 u] [Ch.rd A 3 adC e.addrs, Ch.rd B 1 enci e.ports, Ch.rd H 3 adC held] (α := Unit) (fun _ => .bool true) (fun _ => []) := by
  refine rc_of_W (args := [.agg (enC e A B c d).toArray, .string (ba owner), .slice H held.length h, .int .i64 t, .int .i64 u]) 174 Try.func8 rfl rfl rfl (fun w0 => ?_)
  obtain ⟨hok1, hok2, hok3, hok4, hok5, hok6, hok7, hok8, hok9, hok10⟩ := id hok
  have hwa := hok.lo
  have hk := hok2
  have hwh : ∀ a ∈ held, 0 ≤ a.lo := fun a ha => (hoh a ha).2.2.1
  refine w_seq ?_
  refine w_region ?_
  refine o_box rfl rfl rfl (fun b1 => ?_)
  refine o_y (y_assign rfl) rfl rfl ?_
  refine wl_nil ?_
  refine e_seq ?_
  refine w_seq ?_
  refine w_seq ?_
  refine w_region ?_
  refine o_callp rfl ent_29 c_lives16 rfl ?_
  refine wl_as (t := 19) (.bool true) rfl (congrArg Value.bool rfl) ?_
  refine o_y (y_not rfl) rfl rfl ?_
  refine wl_nil ?_
  refine e_seq ?_
  refine w_cond_f rfl ?_
  refine w_skip ?_
  refine e_seq ?_
  refine w_seq ?_
  refine w_seq ?_
  refine w_region ?_
  refine o_y (y_loadrs 0 ty_48 rfl rfl rfl rfl) rfl rfl ?_
  refine o_callp rfl ent_30 (c_LightEntry _ _ _ _ _) rfl ?_
  refine wl_splitb (t := 22) rfl (fun h3_1 => ?_) (fun h3_1 => ?_)
  · skip
    obtain ⟨hl1, hl2, hl3, hl4, hl5⟩ := light_le h3_1
    refine o_y (y_not rfl) rfl rfl ?_
    refine o_y (y_move rfl) rfl rfl ?_
    refine wl_gyes rfl rfl ?_
    refine o_y (y_move rfl) rfl rfl ?_
    refine wl_gyes rfl rfl ?_
    refine o_y (y_lens Try.underlying22 rfl) rfl rfl ?_
    refine wl_gyes rfl rfl ?_
    refine o_y (y_gtr rfl rfl) rfl rfl ?_
    refine wl_splitp (t := 27) rfl (fun h3_6 => ?_) (fun h3_6 => ?_)
    · skip
      refine o_y (y_pick_f rfl rfl) rfl rfl ?_
      refine o_y (y_move rfl) rfl rfl ?_
      refine wl_gno rfl rfl rfl rfl ?_
      refine wl_gno rfl rfl rfl rfl ?_
      refine wl_gno rfl rfl rfl rfl ?_
      refine o_y (y_pick_t rfl rfl) rfl rfl ?_
      refine wl_nil ?_
      refine e_seq ?_
      refine w_cond_t rfl ?_
      refine w_seq ?_
      refine w_region ?_
      refine o_y (y_assign rfl) rfl rfl ?_
      refine wl_nil ?_
      refine e_seq ?_
      refine w_ret ?_
      refine e_seq_ret ?_
      refine e_ret (ts := [10]) rfl rfl rfl (fun w hw => ?_)
      first
        | exact ⟨(), rfl, hw.base, (hw.weak (List.nil_sublist _) (fun s hs => hs)).toNews⟩
        | (have hz : recs e owner held t = [] := recs_nil1 (by omega)
           exact ⟨(), by rw [hz]; rfl, hw.base, (hw.weak (List.nil_sublist _) (fun s hs => hs)).toNews⟩)
        | (trace_state; fail)
    · skip
      refine o_y (y_pick_f rfl rfl) rfl rfl ?_
      refine o_y (y_move rfl) rfl rfl ?_
      refine wl_gyes rfl rfl ?_
      refine o_y (y_move rfl) rfl rfl ?_
      refine wl_gyes rfl rfl ?_
      refine o_y (y_lenl Try.underlying45 rfl) rfl rfl ?_
      refine wl_gyes rfl rfl ?_
      refine o_y (y_gtr rfl rfl) rfl rfl ?_
      refine wl_splitp (t := 32) rfl (fun h3_11 => ?_) (fun h3_11 => ?_)
      · skip
        refine o_y (y_pick_f rfl rfl) rfl rfl ?_
        refine wl_nil ?_
        refine e_seq ?_
        refine w_cond_t rfl ?_
        refine w_seq ?_
        refine w_region ?_
        refine o_y (y_assign rfl) rfl rfl ?_
        refine wl_nil ?_
        refine e_seq ?_
        refine w_ret ?_
        refine e_seq_ret ?_
        refine e_ret (ts := [10]) rfl rfl rfl (fun w hw => ?_)
        first
          | exact ⟨(), rfl, hw.base, (hw.weak (List.nil_sublist _) (fun s hs => hs)).toNews⟩
          | (have hz : recs e owner held t = [] := recs_nil1 (by omega)
             exact ⟨(), by rw [hz]; rfl, hw.base, (hw.weak (List.nil_sublist _) (fun s hs => hs)).toNews⟩)
          | (trace_state; fail)
      · skip
        refine o_y (y_pick_f rfl rfl) rfl rfl ?_
        refine wl_nil ?_
        refine e_seq ?_
        refine w_cond_f rfl ?_
        refine w_skip ?_
        refine e_seq ?_
        refine w_seq ?_
        have hqt := recs_len e owner held t
        have hqu := recs_len e owner held u
        refine w_draw 12 rfl mixed ?_
        refine a_take (i := 0) rfl wanted_none (y_loadrs 0 ty_48 rfl rfl rfl rfl) (fun w h => h) (fun w h => h) rfl (pk_seq pk_fn) (by kernel_rfl) rfl ?_
        refine a_take (i := 1) rfl wanted_none (y_move rfl) (fun w h => h) (fun w h => h) rfl (pk_seq pk_fn) (by kernel_rfl) rfl ?_
        refine a_take (i := 2) rfl wanted_none (y_move rfl) (fun w h => h) (fun w h => h) rfl (pk_seq pk_fn) (by kernel_rfl) rfl ?_
        refine a_take (i := 3) rfl wanted_none (y_move rfl) (fun w h => h) (fun w h => h) rfl (pk_seq pk_fn) (by kernel_rfl) rfl ?_
        refine a_take (i := 5) rfl wanted_none (y_loadrs 0 ty_48 rfl rfl rfl rfl) (fun w h => h) (fun w h => h) rfl (pk_seq pk_fn) (by kernel_rfl) rfl ?_
        refine a_take (i := 6) rfl wanted_none (y_move rfl) (fun w h => h) (fun w h => h) rfl (pk_seq pk_fn) (by kernel_rfl) rfl ?_
        refine a_take (i := 7) rfl wanted_none (y_move rfl) (fun w h => h) (fun w h => h) rfl (pk_seq pk_fn) (by kernel_rfl) rfl ?_
        refine a_take (i := 8) rfl wanted_none (y_move rfl) (fun w h => h) (fun w h => h) rfl (pk_seq pk_fn) (by kernel_rfl) rfl ?_
        refine a_one (i := 4) rfl rfl rfl (tame_call rfl ent_31) (by kernel_rfl) rfl ?_
        refine o_callr1 rfl ent_31 rfl (c_entry_Records _ _ _ _ _ _ _ _ _ _ hwh (by omega) hwa (by omega) (by omega) hk) (fun w hw => (rd_cons (rd_S 0 rfl hw) (rd_cons (rd_S 1 rfl hw) (rd_cons (rd_S 2 rfl hw) rd_nil)))) (fun ⟨A1, c1⟩ => ?_)
        refine wl_nil ?_
        refine e_one (fun w h => h.weak (.cons _ (List.Sublist.refl _)) (fun s hs => hs)) ?_
        refine a_one (i := 9) rfl rfl rfl (tame_call rfl ent_31) (by kernel_rfl) rfl ?_
        refine o_callr1 rfl ent_31 rfl (c_entry_Records _ _ _ _ _ _ _ _ _ _ hwh (by omega) hwa (by omega) (by omega) hk) (fun w hw => (rd_cons (rd_S 0 rfl hw) (rd_cons (rd_S 1 rfl hw) (rd_cons (rd_S 2 rfl hw) rd_nil)))) (fun ⟨A2, c2⟩ => ?_)
        refine wl_nil ?_
        refine e_one (fun w h => h.weak (.cons _ (.cons _ (List.Sublist.refl _))) (fun s hs => hs)) ?_
        refine a_take (i := 10) rfl wanted_none (y_assign rfl) (fun w h => h.weak (.cons _ (.cons _ (List.Sublist.refl _))) (fun s hs => hs)) (fun w h => h) rfl (pk_seq pk_fn) (by kernel_rfl) rfl ?_
        refine a_take (i := 11) rfl wanted_none (y_assign rfl) (fun w h => h.weak (.cons _ (.cons _ (List.Sublist.refl _))) (fun s hs => hs)) (fun w h => h) rfl (pk_seq pk_fn) (by kernel_rfl) rfl ?_
        refine a_done (by kernel_rfl) ?_
        refine e_seq ?_
        refine w_seq ?_
        refine w_seq ?_
        refine w_region ?_
        refine o_y (y_assign rfl) rfl rfl ?_
        refine wl_nil ?_
        refine e_seq ?_
        refine w_block ?_
        refine w_loop0 (σ := Nat) [10, 13, 14, 44, 45, 46, 47, 48, 49, 50, 51, 52, 53, 54, 55, 56, 57, 58, 59, 60, 61, 62, 63, 64, 65, 66, 67, 68, 69, 70, 71, 72, 73, 74, 75, 76, 77, 78, 79, 80, 81, 82, 83, 84, 85, 86, 87, 88, 89, 90, 91, 92, 93, 94, 95, 96, 97, 98, 99, 100, 101, 102, 103, 104, 105, 106, 107, 108, 109, 110, 111] (fun k => k ≤ (recs e owner held t).length) (fun k => (recs e owner held t).length - k) (fun k => [(13, .int .i64 k)]) (0) ?_ ⟨rfl, trivial⟩ (fun k hI => ?_)
        · exact Nat.zero_le _
        refine w_seq ?_
        refine w_seq ?_
        refine w_region ?_
        refine o_y (y_move rfl) rfl rfl ?_
        refine o_y (y_move rfl) rfl rfl ?_
        refine o_y (y_lenl Try.underlying50 rfl) rfl rfl ?_
        refine o_y (y_lss rfl rfl) rfl rfl ?_
        refine wl_splitp (t := 47) rfl (fun h7_3 => ?_) (fun h7_3 => ?_)
        · skip
          refine wl_nil ?_
          refine e_seq ?_
          refine w_cond_t rfl ?_
          refine w_skip ?_
          refine e_seq ?_
          refine w_seq ?_
          refine w_block ?_
          refine w_seq ?_
          refine w_seq ?_
          have hrk := recs_ok (mem_getD (l := recs e owner held t) (d := rc0) (k := k) (by omega))
          have hrw := recs_wf hwa hwh (mem_getD (l := recs e owner held t) (d := rc0) (k := k) (by omega))
          refine w_draw 42 rfl mixed ?_
          refine a_take (i := 0) rfl wanted_none (y_move rfl) (fun w h => h) (fun w h => h) rfl (pk_seq (pk_seq (pk_blk (pk_seq (pk_loop (pk_blk (pk_seq pk_fn))))))) (by kernel_rfl) rfl ?_
          refine a_take (i := 1) rfl wanted_none (y_move rfl) (fun w h => h) (fun w h => h) rfl (pk_seq (pk_seq (pk_blk (pk_seq (pk_loop (pk_blk (pk_seq pk_fn))))))) (by kernel_rfl) rfl ?_
          refine a_take (i := 2) rfl wanted_none (y_ixm  Try.underlying50 ty_60 rfl rfl (rs_L 1 rfl) rfl (by omega)) (fun w h => h) (fun w h => h) rfl (pk_seq (pk_seq (pk_blk (pk_seq (pk_loop (pk_blk (pk_seq pk_fn))))))) (by kernel_rfl) rfl ?_
          refine a_take (i := 3) rfl wanted_none (y_ldsm0 enc_rc rc0 ty_60 rfl (rs_L 1 rfl) (by omega) rfl rfl rfl) (fun w h => h) (fun w h => h) rfl (pk_seq (pk_seq (pk_blk (pk_seq (pk_loop (pk_blk (pk_seq pk_fn))))))) (by kernel_rfl) rfl ?_
          refine a_one (i := 4) rfl rfl rfl (tame_call rfl ent_32) (by kernel_rfl) rfl ?_
          refine o_callp rfl ent_32 (c_ref10_Check _ hrw.1 (by have := hrw.2; omega)) rfl ?_
          refine wl_nil ?_
          refine e_one (fun w h => h) ?_
          refine a_take (i := 5) rfl wanted_none (y_neq rfl rfl) (fun w h => h) (fun w h => h) rfl (pk_seq (pk_seq (pk_blk (pk_seq (pk_loop (pk_blk (pk_seq pk_fn))))))) (by kernel_rfl) rfl ?_
          refine wa_af (t := 55) rfl (fun h => h hrk.1) ?_
          refine a_take (i := 6) rfl wanted_none (y_move rfl) (fun w h => h) (fun w h => h) rfl (pk_seq (pk_seq (pk_blk (pk_seq (pk_loop (pk_blk (pk_seq pk_fn))))))) (by kernel_rfl) rfl ?_
          refine a_take (i := 7) rfl (wanted_yes rfl rfl) (y_move rfl) (fun w h => h) (fun w h => h) rfl (pk_seq (pk_seq (pk_blk (pk_seq (pk_loop (pk_blk (pk_seq pk_fn))))))) (by kernel_rfl) rfl ?_
          refine a_take (i := 8) rfl (wanted_yes rfl rfl) (y_move rfl) (fun w h => h) (fun w h => h) rfl (pk_seq (pk_seq (pk_blk (pk_seq (pk_loop (pk_blk (pk_seq pk_fn))))))) (by kernel_rfl) rfl ?_
          refine a_take (i := 9) rfl (wanted_yes rfl rfl) (y_ixm  Try.underlying50 ty_60 rfl rfl (rs_L 1 rfl) rfl (by omega)) (fun w h => h) (fun w h => h) rfl (pk_seq (pk_seq (pk_blk (pk_seq (pk_loop (pk_blk (pk_seq pk_fn))))))) (by kernel_rfl) rfl ?_
          refine a_take (i := 10) rfl (wanted_yes rfl rfl) (y_field fa_60_0 rfl) (fun w h => h) (fun w h => h) rfl (pk_seq (pk_seq (pk_blk (pk_seq (pk_loop (pk_blk (pk_seq pk_fn))))))) (by kernel_rfl) rfl ?_
          refine a_take (i := 11) rfl (wanted_yes rfl rfl) (y_ldm0 enc_rc rc0 ty_22 rfl (rs_L 1 rfl) (by omega) rfl rfl) (fun w h => h) (fun w h => h) rfl (pk_seq (pk_seq (pk_blk (pk_seq (pk_loop (pk_blk (pk_seq pk_fn))))))) (by kernel_rfl) rfl ?_
          refine a_take (i := 12) rfl (wanted_yes rfl rfl) (y_move rfl) (fun w h => h) (fun w h => h) rfl (pk_seq (pk_seq (pk_blk (pk_seq (pk_loop (pk_blk (pk_seq pk_fn))))))) (by kernel_rfl) rfl ?_
          refine a_take (i := 13) rfl (wanted_yes rfl rfl) (y_neqs rfl rfl) (fun w h => h) (fun w h => h) rfl (pk_seq (pk_seq (pk_blk (pk_seq (pk_loop (pk_blk (pk_seq pk_fn))))))) (by kernel_rfl) rfl ?_
          refine wa_af (t := 63) rfl (fun h => h hrk.2.1) ?_
          refine a_take (i := 14) rfl wanted_none (y_pick_f rfl rfl) (fun w h => h) (fun w h => h) rfl (pk_seq (pk_seq (pk_blk (pk_seq (pk_loop (pk_blk (pk_seq pk_fn))))))) (by kernel_rfl) rfl ?_
          refine a_take (i := 15) rfl wanted_none (y_move rfl) (fun w h => h) (fun w h => h) rfl (pk_seq (pk_seq (pk_blk (pk_seq (pk_loop (pk_blk (pk_seq pk_fn))))))) (by kernel_rfl) rfl ?_
          refine a_take (i := 16) rfl (wanted_yes rfl rfl) (y_move rfl) (fun w h => h) (fun w h => h) rfl (pk_seq (pk_seq (pk_blk (pk_seq (pk_loop (pk_blk (pk_seq pk_fn))))))) (by kernel_rfl) rfl ?_
          refine a_take (i := 17) rfl (wanted_yes rfl rfl) (y_move rfl) (fun w h => h) (fun w h => h) rfl (pk_seq (pk_seq (pk_blk (pk_seq (pk_loop (pk_blk (pk_seq pk_fn))))))) (by kernel_rfl) rfl ?_
          refine a_take (i := 18) rfl (wanted_yes rfl rfl) (y_ixm  Try.underlying50 ty_60 rfl rfl (rs_L 1 rfl) rfl (by omega)) (fun w h => h) (fun w h => h) rfl (pk_seq (pk_seq (pk_blk (pk_seq (pk_loop (pk_blk (pk_seq pk_fn))))))) (by kernel_rfl) rfl ?_
          refine a_take (i := 19) rfl (wanted_yes rfl rfl) (y_field fa_60_1 rfl) (fun w h => h) (fun w h => h) rfl (pk_seq (pk_seq (pk_blk (pk_seq (pk_loop (pk_blk (pk_seq pk_fn))))))) (by kernel_rfl) rfl ?_
          refine a_take (i := 20) rfl (wanted_yes rfl rfl) (y_ldm 1 enc_rc rc0 ty_3 rfl (rs_L 1 rfl) (by omega) rfl rfl) (fun w h => h) (fun w h => h) rfl (pk_seq (pk_seq (pk_blk (pk_seq (pk_loop (pk_blk (pk_seq pk_fn))))))) (by kernel_rfl) rfl ?_
          refine a_take (i := 21) rfl (wanted_yes rfl rfl) (y_move rfl) (fun w h => h) (fun w h => h) rfl (pk_seq (pk_seq (pk_blk (pk_seq (pk_loop (pk_blk (pk_seq pk_fn))))))) (by kernel_rfl) rfl ?_
          refine a_take (i := 22) rfl (wanted_yes rfl rfl) (y_neq rfl rfl) (fun w h => h) (fun w h => h) rfl (pk_seq (pk_seq (pk_blk (pk_seq (pk_loop (pk_blk (pk_seq pk_fn))))))) (by kernel_rfl) rfl ?_
          refine wa_af (t := 72) rfl (fun h => h hrk.2.2.1) ?_
          refine a_take (i := 23) rfl wanted_none (y_pick_f rfl rfl) (fun w h => h) (fun w h => h) rfl (pk_seq (pk_seq (pk_blk (pk_seq (pk_loop (pk_blk (pk_seq pk_fn))))))) (by kernel_rfl) rfl ?_
          refine a_take (i := 24) rfl wanted_none (y_move rfl) (fun w h => h) (fun w h => h) rfl (pk_seq (pk_seq (pk_blk (pk_seq (pk_loop (pk_blk (pk_seq pk_fn))))))) (by kernel_rfl) rfl ?_
          refine a_take (i := 25) rfl (wanted_yes rfl rfl) (y_move rfl) (fun w h => h) (fun w h => h) rfl (pk_seq (pk_seq (pk_blk (pk_seq (pk_loop (pk_blk (pk_seq pk_fn))))))) (by kernel_rfl) rfl ?_
          refine a_take (i := 26) rfl (wanted_yes rfl rfl) (y_move rfl) (fun w h => h) (fun w h => h) rfl (pk_seq (pk_seq (pk_blk (pk_seq (pk_loop (pk_blk (pk_seq pk_fn))))))) (by kernel_rfl) rfl ?_
          refine a_take (i := 27) rfl (wanted_yes rfl rfl) (y_ixm  Try.underlying50 ty_60 rfl rfl (rs_L 1 rfl) rfl (by omega)) (fun w h => h) (fun w h => h) rfl (pk_seq (pk_seq (pk_blk (pk_seq (pk_loop (pk_blk (pk_seq pk_fn))))))) (by kernel_rfl) rfl ?_
          refine a_take (i := 28) rfl (wanted_yes rfl rfl) (y_field fa_60_2 rfl) (fun w h => h) (fun w h => h) rfl (pk_seq (pk_seq (pk_blk (pk_seq (pk_loop (pk_blk (pk_seq pk_fn))))))) (by kernel_rfl) rfl ?_
          refine a_take (i := 29) rfl (wanted_yes rfl rfl) (y_ldm 2 enc_rc rc0 ty_3 rfl (rs_L 1 rfl) (by omega) rfl rfl) (fun w h => h) (fun w h => h) rfl (pk_seq (pk_seq (pk_blk (pk_seq (pk_loop (pk_blk (pk_seq pk_fn))))))) (by kernel_rfl) rfl ?_
          refine a_take (i := 30) rfl (wanted_yes rfl rfl) (y_neq rfl rfl) (fun w h => h) (fun w h => h) rfl (pk_seq (pk_seq (pk_blk (pk_seq (pk_loop (pk_blk (pk_seq pk_fn))))))) (by kernel_rfl) rfl ?_
          refine wa_af (t := 80) rfl (fun h => h hrk.2.2.2.1) ?_
          refine a_take (i := 31) rfl wanted_none (y_pick_f rfl rfl) (fun w h => h) (fun w h => h) rfl (pk_seq (pk_seq (pk_blk (pk_seq (pk_loop (pk_blk (pk_seq pk_fn))))))) (by kernel_rfl) rfl ?_
          refine a_take (i := 32) rfl wanted_none (y_move rfl) (fun w h => h) (fun w h => h) rfl (pk_seq (pk_seq (pk_blk (pk_seq (pk_loop (pk_blk (pk_seq pk_fn))))))) (by kernel_rfl) rfl ?_
          refine a_take (i := 33) rfl (wanted_yes rfl rfl) (y_move rfl) (fun w h => h) (fun w h => h) rfl (pk_seq (pk_seq (pk_blk (pk_seq (pk_loop (pk_blk (pk_seq pk_fn))))))) (by kernel_rfl) rfl ?_
          refine a_take (i := 34) rfl (wanted_yes rfl rfl) (y_move rfl) (fun w h => h) (fun w h => h) rfl (pk_seq (pk_seq (pk_blk (pk_seq (pk_loop (pk_blk (pk_seq pk_fn))))))) (by kernel_rfl) rfl ?_
          refine a_take (i := 35) rfl (wanted_yes rfl rfl) (y_ixm  Try.underlying50 ty_60 rfl rfl (rs_L 1 rfl) rfl (by omega)) (fun w h => h) (fun w h => h) rfl (pk_seq (pk_seq (pk_blk (pk_seq (pk_loop (pk_blk (pk_seq pk_fn))))))) (by kernel_rfl) rfl ?_
          refine a_take (i := 36) rfl (wanted_yes rfl rfl) (y_field fa_60_3 rfl) (fun w h => h) (fun w h => h) rfl (pk_seq (pk_seq (pk_blk (pk_seq (pk_loop (pk_blk (pk_seq pk_fn))))))) (by kernel_rfl) rfl ?_
          refine a_take (i := 37) rfl (wanted_yes rfl rfl) (y_ldm 3 enc_rc rc0 ty_46 rfl (rs_L 1 rfl) (by omega) rfl rfl) (fun w h => h) (fun w h => h) rfl (pk_seq (pk_seq (pk_blk (pk_seq (pk_loop (pk_blk (pk_seq pk_fn))))))) (by kernel_rfl) rfl ?_
          refine a_take (i := 38) rfl (wanted_yes rfl rfl) (y_field fa_48_6 rfl) (fun w h => h) (fun w h => h) rfl (pk_seq (pk_seq (pk_blk (pk_seq (pk_loop (pk_blk (pk_seq pk_fn))))))) (by kernel_rfl) rfl ?_
          refine a_take (i := 39) rfl (wanted_yes rfl rfl) (y_loadr 2 ty_46 rfl rfl rfl) (fun w h => h) (fun w h => h) rfl (pk_seq (pk_seq (pk_blk (pk_seq (pk_loop (pk_blk (pk_seq pk_fn))))))) (by kernel_rfl) rfl ?_
          refine a_take (i := 40) rfl (wanted_yes rfl rfl) (y_neq rfl rfl) (fun w h => h) (fun w h => h) rfl (pk_seq (pk_seq (pk_blk (pk_seq (pk_loop (pk_blk (pk_seq pk_fn))))))) (by kernel_rfl) rfl ?_
          refine wa_af (t := 90) rfl (fun h => h hrk.2.2.2.2) ?_
          refine a_take (i := 41) rfl wanted_none (y_pick_f rfl rfl) (fun w h => h) (fun w h => h) rfl (pk_seq (pk_seq (pk_blk (pk_seq (pk_loop (pk_blk (pk_seq pk_fn))))))) (by kernel_rfl) rfl ?_
          refine a_done (by kernel_rfl) ?_
          refine e_seq ?_
          refine w_cond_f rfl ?_
          refine w_skip ?_
          refine e_seq ?_
          refine w_seq ?_
          refine w_region ?_
          refine o_y (y_assign rfl) rfl rfl ?_
          refine wl_nil ?_
          refine e_seq ?_
          refine w_block ?_
          refine w_loop0 (σ := Nat) [10, 14, 92, 93, 94, 95, 96, 97, 98, 99, 100, 101, 102, 103, 104, 105, 106, 107, 108, 109, 110, 111] (fun j => j ≤ (recs e owner held u).length) (fun j => (recs e owner held u).length - j) (fun j => [(14, .int .i64 j)]) (0) ?_ ⟨rfl, trivial⟩ (fun j hI => ?_)
          · exact Nat.zero_le _
          refine w_seq ?_
          refine w_seq ?_
          refine w_region ?_
          refine o_y (y_move rfl) rfl rfl ?_
          refine o_y (y_move rfl) rfl rfl ?_
          refine o_y (y_lenl Try.underlying50 rfl) rfl rfl ?_
          refine o_y (y_lss rfl rfl) rfl rfl ?_
          refine wl_splitp (t := 95) rfl (fun h12_3 => ?_) (fun h12_3 => ?_)
          · skip
            refine o_y (y_move rfl) rfl rfl ?_
            refine wl_gyes rfl rfl ?_
            refine o_y (y_move rfl) rfl rfl ?_
            refine wl_gyes rfl rfl ?_
            refine o_y (y_move rfl) rfl rfl ?_
            refine wl_gyes rfl rfl ?_
            refine o_y (y_neq rfl rfl) rfl rfl ?_
            refine wl_splitp (t := 99) rfl (fun h12_7 => ?_) (fun h12_7 => ?_)
            · skip
              refine o_y (y_pick_t rfl rfl) rfl rfl ?_
              refine wl_nil ?_
              refine e_seq ?_
              refine w_cond_t rfl ?_
              refine w_skip ?_
              refine e_seq ?_
              refine w_seq ?_
              refine w_block ?_
              refine w_seq ?_
              have hrj := recs_ok (mem_getD (l := recs e owner held u) (d := rc0) (k := j) (by omega))
              have hne : (recs e owner held t |>.getD k rc0) ≠ (recs e owner held u).getD j rc0 := fun h9 => h12_7 (by rw [← hrk.2.2.1, h9, hrj.2.2.1])
              refine w_draw 9 rfl mixed ?_
              refine a_take (i := 0) rfl wanted_none (y_move rfl) (fun w h => h) (fun w h => h) rfl (pk_seq (pk_blk (pk_seq (pk_loop (pk_blk (pk_blk (pk_seq (pk_loop (pk_blk (pk_seq pk_fn)))))))))) (by kernel_rfl) rfl ?_
              refine a_take (i := 1) rfl wanted_none (y_move rfl) (fun w h => h) (fun w h => h) rfl (pk_seq (pk_blk (pk_seq (pk_loop (pk_blk (pk_blk (pk_seq (pk_loop (pk_blk (pk_seq pk_fn)))))))))) (by kernel_rfl) rfl ?_
              refine a_take (i := 2) rfl wanted_none (y_ixm  Try.underlying50 ty_60 rfl rfl (rs_L 1 rfl) rfl (by omega)) (fun w h => h) (fun w h => h) rfl (pk_seq (pk_blk (pk_seq (pk_loop (pk_blk (pk_blk (pk_seq (pk_loop (pk_blk (pk_seq pk_fn)))))))))) (by kernel_rfl) rfl ?_
              refine a_take (i := 3) rfl wanted_none (y_ldsm0 enc_rc rc0 ty_60 rfl (rs_L 1 rfl) (by omega) rfl rfl rfl) (fun w h => h) (fun w h => h) rfl (pk_seq (pk_blk (pk_seq (pk_loop (pk_blk (pk_blk (pk_seq (pk_loop (pk_blk (pk_seq pk_fn)))))))))) (by kernel_rfl) rfl ?_
              refine a_take (i := 4) rfl wanted_none (y_move rfl) (fun w h => h) (fun w h => h) rfl (pk_seq (pk_blk (pk_seq (pk_loop (pk_blk (pk_blk (pk_seq (pk_loop (pk_blk (pk_seq pk_fn)))))))))) (by kernel_rfl) rfl ?_
              refine a_take (i := 5) rfl wanted_none (y_move rfl) (fun w h => h) (fun w h => h) rfl (pk_seq (pk_blk (pk_seq (pk_loop (pk_blk (pk_blk (pk_seq (pk_loop (pk_blk (pk_seq pk_fn)))))))))) (by kernel_rfl) rfl ?_
              refine a_take (i := 6) rfl wanted_none (y_ixm  Try.underlying50 ty_60 rfl rfl (rs_L 0 rfl) rfl (by omega)) (fun w h => h) (fun w h => h) rfl (pk_seq (pk_blk (pk_seq (pk_loop (pk_blk (pk_blk (pk_seq (pk_loop (pk_blk (pk_seq pk_fn)))))))))) (by kernel_rfl) rfl ?_
              refine a_take (i := 7) rfl wanted_none (y_ldsm0 enc_rc rc0 ty_60 rfl (rs_L 0 rfl) (by omega) rfl rfl rfl) (fun w h => h) (fun w h => h) rfl (pk_seq (pk_blk (pk_seq (pk_loop (pk_blk (pk_blk (pk_seq (pk_loop (pk_blk (pk_seq pk_fn)))))))))) (by kernel_rfl) rfl ?_
              refine a_one (i := 8) rfl rfl rfl (tame_call rfl ent_33) (by kernel_rfl) rfl ?_
              refine o_callp rfl ent_33 (c_ref10_Same _ _) rfl ?_
              refine wl_nil ?_
              refine e_one (fun w h => h) ?_
              refine wa_as (t := 111) (.bool false) rfl (congrArg Value.bool (decide_eq_false hne)) ?_
              refine a_done (by kernel_rfl) ?_
              refine e_seq ?_
              refine w_cond_f rfl ?_
              refine w_skip ?_
              refine e_blk ?_
              refine e_seq ?_
              refine w_region ?_
              refine o_y (y_move rfl) rfl rfl ?_
              refine o_y (y_addi rfl rfl (by omega) (by omega)) rfl rfl ?_
              refine o_y (y_assign rfl) rfl rfl ?_
              refine wl_nil ?_
              refine e_back (j + 1) ?_ ?_ ⟨rfl, trivial⟩ (by repeat (first | exact trivial | refine ⟨rfl, ?_⟩)) (fun w h => h)
              · omega
              · omega
            · skip
              refine o_y (y_pick_t rfl rfl) rfl rfl ?_
              refine wl_nil ?_
              refine e_seq ?_
              refine w_cond_f rfl ?_
              refine w_exit ?_
              refine e_seq_exit ?_
              refine e_loop_exit ?_
              refine e_blk_hit ?_
              refine e_blk ?_
              refine e_seq ?_
              refine w_region ?_
              refine o_y (y_move rfl) rfl rfl ?_
              refine o_y (y_addi rfl rfl (by omega) (by omega)) rfl rfl ?_
              refine o_y (y_assign rfl) rfl rfl ?_
              refine wl_nil ?_
              refine e_back (k + 1) ?_ ?_ ⟨rfl, trivial⟩ (by repeat (first | exact trivial | refine ⟨rfl, ?_⟩)) (fun w h => h)
              · omega
              · omega
          · skip
            refine o_y (y_move rfl) rfl rfl ?_
            refine wl_gno rfl rfl rfl rfl ?_
            refine wl_gno rfl rfl rfl rfl ?_
            refine wl_gno rfl rfl rfl rfl ?_
            refine o_y (y_pick_f rfl rfl) rfl rfl ?_
            refine wl_nil ?_
            refine e_seq ?_
            refine w_cond_f rfl ?_
            refine w_exit ?_
            refine e_seq_exit ?_
            refine e_loop_exit ?_
            refine e_blk_hit ?_
            refine e_blk ?_
            refine e_seq ?_
            refine w_region ?_
            refine o_y (y_move rfl) rfl rfl ?_
            refine o_y (y_addi rfl rfl (by omega) (by omega)) rfl rfl ?_
            refine o_y (y_assign rfl) rfl rfl ?_
            refine wl_nil ?_
            refine e_back (k + 1) ?_ ?_ ⟨rfl, trivial⟩ (by repeat (first | exact trivial | refine ⟨rfl, ?_⟩)) (fun w h => h)
            · omega
            · omega
        · skip
          refine wl_nil ?_
          refine e_seq ?_
          refine w_cond_f rfl ?_
          refine w_exit ?_
          refine e_seq_exit ?_
          refine e_loop_exit ?_
          refine e_blk_hit ?_
          refine e_seq ?_
          refine w_seq ?_
          refine w_seq ?_
          refine w_region ?_
          refine o_y (y_loadrs 2 ty_48 rfl rfl rfl rfl) rfl rfl ?_
          refine o_callq rfl ent_34 rfl (c_entry_Check _ _ _ _ _ hwa (by omega) (by omega) hk) (fun w hw => (rd_cons (rd_S 0 rfl hw) (rd_cons (rd_S 1 rfl hw) rd_nil))) ?_
          refine o_y (y_neq rfl rfl) rfl rfl ?_
          refine wl_splitp (t := 114) rfl (fun h16_2 => ?_) (fun h16_2 => ?_)
          · skip
            refine o_y (y_move rfl) rfl rfl ?_
            refine wl_gno rfl rfl rfl rfl ?_
            refine wl_gno rfl rfl rfl rfl ?_
            refine wl_gno rfl rfl rfl rfl ?_
            refine o_y (y_pick_t rfl rfl) rfl rfl ?_
            refine wl_nil ?_
            refine e_seq ?_
            refine w_cond_t rfl ?_
            refine w_seq ?_
            refine w_region ?_
            refine o_y (y_move rfl) rfl rfl ?_
            refine o_y (y_lenl Try.underlying50 rfl) rfl rfl ?_
            refine o_y (y_eql rfl rfl) rfl rfl ?_
            refine o_y (y_assign rfl) rfl rfl ?_
            refine wl_nil ?_
            refine e_seq ?_
            refine w_ret ?_
            refine e_seq_ret ?_
            refine e_ret (ts := [10]) rfl rfl rfl (fun w hw => ?_)
            first
              | exact ⟨(), rfl, hw.base, (hw.weak (List.nil_sublist _) (fun s hs => hs)).toNews⟩
              | (have hz : recs e owner held t = [] := recs_nil1 (by omega)
                 exact ⟨(), by rw [hz]; rfl, hw.base, (hw.weak (List.nil_sublist _) (fun s hs => hs)).toNews⟩)
              | (trace_state; fail)
          · skip
            refine o_y (y_move rfl) rfl rfl ?_
            refine wl_gyes rfl rfl ?_
            refine o_y (y_move rfl) rfl rfl ?_
            refine wl_gyes rfl rfl ?_
            refine o_callp rfl ent_35 (c_ref02_Check _) rfl ?_
            refine wl_gyes rfl rfl ?_
            refine o_y (y_neq rfl rfl) rfl rfl ?_
            refine wl_splitp (t := 118) rfl (fun h16_6 => ?_) (fun h16_6 => ?_)
            · skip
              refine o_y (y_pick_f rfl rfl) rfl rfl ?_
              refine wl_nil ?_
              refine e_seq ?_
              refine w_cond_t rfl ?_
              refine w_seq ?_
              refine w_region ?_
              refine o_y (y_move rfl) rfl rfl ?_
              refine o_y (y_lenl Try.underlying50 rfl) rfl rfl ?_
              refine o_y (y_eql rfl rfl) rfl rfl ?_
              refine o_y (y_assign rfl) rfl rfl ?_
              refine wl_nil ?_
              refine e_seq ?_
              refine w_ret ?_
              refine e_seq_ret ?_
              refine e_ret (ts := [10]) rfl rfl rfl (fun w hw => ?_)
              first
                | exact ⟨(), rfl, hw.base, (hw.weak (List.nil_sublist _) (fun s hs => hs)).toNews⟩
                | (have hz : recs e owner held t = [] := recs_nil1 (by omega)
                   exact ⟨(), by rw [hz]; rfl, hw.base, (hw.weak (List.nil_sublist _) (fun s hs => hs)).toNews⟩)
                | (trace_state; fail)
            · skip
              refine o_y (y_pick_f rfl rfl) rfl rfl ?_
              refine wl_nil ?_
              refine e_seq ?_
              refine w_cond_f rfl ?_
              refine w_skip ?_
              refine e_seq ?_
              refine w_seq ?_
              have hck : entCk e = 0 := by omega
              have hcn : nameCk owner = 0 := by omega
              refine w_draw 10 rfl mixed ?_
              refine a_take (i := 0) rfl wanted_none (y_loadrs 2 ty_48 rfl rfl rfl rfl) (fun w h => h) (fun w h => h) rfl (pk_seq pk_fn) (by kernel_rfl) rfl ?_
              refine a_take (i := 1) rfl wanted_none (y_move rfl) (fun w h => h) (fun w h => h) rfl (pk_seq pk_fn) (by kernel_rfl) rfl ?_
              refine a_take (i := 2) rfl wanted_none (y_move rfl) (fun w h => h) (fun w h => h) rfl (pk_seq pk_fn) (by kernel_rfl) rfl ?_
              refine a_take (i := 4) rfl wanted_none (y_loadrs 2 ty_48 rfl rfl rfl rfl) (fun w h => h) (fun w h => h) rfl (pk_seq pk_fn) (by kernel_rfl) rfl ?_
              refine a_take (i := 5) rfl wanted_none (y_move rfl) (fun w h => h) (fun w h => h) rfl (pk_seq pk_fn) (by kernel_rfl) rfl ?_
              refine a_take (i := 6) rfl wanted_none (y_move rfl) (fun w h => h) (fun w h => h) rfl (pk_seq pk_fn) (by kernel_rfl) rfl ?_
              refine a_one (i := 3) rfl rfl rfl (tame_call rfl ent_31) (by kernel_rfl) rfl ?_
              refine o_callr1 rfl ent_31 rfl (c_entry_Records _ _ _ _ _ _ _ _ _ _ hwh (by omega) hwa (by omega) (by omega) hk) (fun w hw => (rd_cons (rd_S 0 rfl hw) (rd_cons (rd_S 1 rfl hw) (rd_cons (rd_S 2 rfl hw) rd_nil)))) (fun ⟨A3, c3⟩ => ?_)
              refine wl_nil ?_
              refine e_one (fun w h => h.weak (.cons _ (List.Sublist.refl _)) (fun s hs => hs)) ?_
              refine a_one (i := 7) rfl rfl rfl (tame_call rfl ent_31) (by kernel_rfl) rfl ?_
              refine o_callr1 rfl ent_31 rfl (c_entry_Records _ _ _ _ _ _ _ _ _ _ hwh (by omega) hwa (by omega) (by omega) hk) (fun w hw => (rd_cons (rd_S 0 rfl hw) (rd_cons (rd_S 1 rfl hw) (rd_cons (rd_S 2 rfl hw) rd_nil)))) (fun ⟨A4, c4⟩ => ?_)
              refine wl_nil ?_
              refine e_one (fun w h => h.weak (.cons _ (.cons _ (List.Sublist.refl _))) (fun s hs => hs)) ?_
              refine a_take (i := 8) rfl wanted_none (y_assign rfl) (fun w h => h.weak (.cons _ (.cons _ (List.Sublist.refl _))) (fun s hs => hs)) (fun w h => h) rfl (pk_seq pk_fn) (by kernel_rfl) rfl ?_
              refine a_take (i := 9) rfl wanted_none (y_assign rfl) (fun w h => h.weak (.cons _ (.cons _ (List.Sublist.refl _))) (fun s hs => hs)) (fun w h => h) rfl (pk_seq pk_fn) (by kernel_rfl) rfl ?_
              refine a_done (by kernel_rfl) ?_
              refine e_seq ?_
              refine w_seq ?_
              refine w_draw 10 rfl mixed ?_
              refine a_take (i := 0) rfl wanted_none (y_loadrs 4 ty_48 rfl rfl rfl rfl) (fun w h => h) (fun w h => h) rfl (pk_seq pk_fn) (by kernel_rfl) rfl ?_
              refine a_take (i := 1) rfl wanted_none (y_move rfl) (fun w h => h) (fun w h => h) rfl (pk_seq pk_fn) (by kernel_rfl) rfl ?_
              refine a_take (i := 2) rfl wanted_none (y_move rfl) (fun w h => h) (fun w h => h) rfl (pk_seq pk_fn) (by kernel_rfl) rfl ?_
              refine a_take (i := 4) rfl wanted_none (y_loadrs 4 ty_48 rfl rfl rfl rfl) (fun w h => h) (fun w h => h) rfl (pk_seq pk_fn) (by kernel_rfl) rfl ?_
              refine a_take (i := 5) rfl wanted_none (y_move rfl) (fun w h => h) (fun w h => h) rfl (pk_seq pk_fn) (by kernel_rfl) rfl ?_
              refine a_take (i := 6) rfl wanted_none (y_move rfl) (fun w h => h) (fun w h => h) rfl (pk_seq pk_fn) (by kernel_rfl) rfl ?_
              refine a_one (i := 3) rfl rfl rfl (tame_call rfl ent_31) (by kernel_rfl) rfl ?_
              refine o_callr1 rfl ent_31 rfl (c_entry_Records _ _ _ _ _ _ _ _ _ _ hwh (by omega) hwa (by omega) (by omega) hk) (fun w hw => (rd_cons (rd_S 0 rfl hw) (rd_cons (rd_S 1 rfl hw) (rd_cons (rd_S 2 rfl hw) rd_nil)))) (fun ⟨A5, c5⟩ => ?_)
              refine wl_nil ?_
              refine e_one (fun w h => h.weak (.cons _ (List.Sublist.refl _)) (fun s hs => hs)) ?_
              refine a_one (i := 7) rfl rfl rfl (tame_call rfl ent_31) (by kernel_rfl) rfl ?_
              refine o_callr1 rfl ent_31 rfl (c_entry_Records _ _ _ _ _ _ _ _ _ _ hwh (by omega) hwa (by omega) (by omega) hk) (fun w hw => (rd_cons (rd_S 0 rfl hw) (rd_cons (rd_S 1 rfl hw) (rd_cons (rd_S 2 rfl hw) rd_nil)))) (fun ⟨A6, c6⟩ => ?_)
              refine wl_nil ?_
              refine e_one (fun w h => h.weak (.cons _ (.cons _ (List.Sublist.refl _))) (fun s hs => hs)) ?_
              refine a_take (i := 8) rfl wanted_none (y_assign rfl) (fun w h => h.weak (.cons _ (.cons _ (List.Sublist.refl _))) (fun s hs => hs)) (fun w h => h) rfl (pk_seq pk_fn) (by kernel_rfl) rfl ?_
              refine a_take (i := 9) rfl wanted_none (y_assign rfl) (fun w h => h.weak (.cons _ (.cons _ (List.Sublist.refl _))) (fun s hs => hs)) (fun w h => h) rfl (pk_seq pk_fn) (by kernel_rfl) rfl ?_
              refine a_done (by kernel_rfl) ?_
              refine e_seq ?_
              refine w_seq ?_
              have hq1 := recs_46 (held := held) hck hcn
              have hq2 := recs_srv (held := held) hck hcn
              have hqc := recs_cname (held := held) hck hcn
              have hq3 := recs_len e owner held 1
              have hq4 := recs_len e owner held 28
              refine w_region ?_
              refine o_y (y_move rfl) rfl rfl ?_
              refine o_y (y_lenl Try.underlying50 rfl) rfl rfl ?_
              refine o_y (y_move rfl) rfl rfl ?_
              refine o_y (y_lenl Try.underlying50 rfl) rfl rfl ?_
              refine o_y (y_addi rfl rfl (by omega) (by omega)) rfl rfl ?_
              refine o_y (y_loadrs 6 ty_48 rfl rfl rfl rfl) rfl rfl ?_
              refine o_y (y_move rfl) rfl rfl ?_
              refine o_callr1 rfl ent_36 rfl (c_entry_Addrs _ _ _ _ _ _ _ _ hwh (by omega) hwa (by omega) (by omega) hk) (fun w hw => (rd_cons (rd_S 0 rfl hw) (rd_cons (rd_S 1 rfl hw) (rd_cons (rd_S 2 rfl hw) rd_nil)))) (fun ⟨A7, c7⟩ => ?_)
              refine o_y (y_lenl Try.underlying45 rfl) rfl rfl ?_
              refine o_y (y_eql rfl rfl) rfl rfl ?_
              refine wl_at (t := 148) rfl (by omega) ?_
              refine o_y (y_move rfl) rfl rfl ?_
              refine wl_gyes rfl rfl ?_
              refine o_y (y_move rfl) rfl rfl ?_
              refine wl_gyes rfl rfl ?_
              refine o_y (y_lenl Try.underlying50 rfl) rfl rfl ?_
              refine wl_gyes rfl rfl ?_
              refine o_y (y_field fa_48_5 rfl) rfl rfl ?_
              refine wl_gyes rfl rfl ?_
              refine o_y (y_loadr 7 ty_34 rfl rfl rfl) rfl rfl ?_
              refine wl_gyes rfl rfl ?_
              refine o_y (y_lenl Try.underlying34 rfl) rfl rfl ?_
              refine wl_gyes rfl rfl ?_
              refine o_y (y_eql rfl rfl) rfl rfl ?_
              refine wl_at (t := 155) rfl (by omega) ?_
              refine o_y (y_pick_t rfl rfl) rfl rfl ?_
              refine o_y (y_move rfl) rfl rfl ?_
              refine wl_gyes rfl rfl ?_
              refine o_y (y_move rfl) rfl rfl ?_
              refine wl_gyes rfl rfl ?_
              refine o_y (y_lenl Try.underlying50 rfl) rfl rfl ?_
              refine wl_gyes rfl rfl ?_
              refine o_y (y_eql rfl rfl) rfl rfl ?_
              refine wl_gyes rfl rfl ?_
              refine o_y (y_field fa_48_1 rfl) rfl rfl ?_
              refine wl_gyes rfl rfl ?_
              refine o_y (y_loadr 7 ty_3 rfl rfl rfl) rfl rfl ?_
              refine wl_gyes rfl rfl ?_
              refine o_y (y_eql rfl rfl) rfl rfl ?_
              refine wl_gyes rfl rfl ?_
              refine o_y (y_eqlb Try.underlying4 rfl rfl) rfl rfl ?_
              refine wl_at (t := 164) rfl (by rw [decide_eq_decide, hqc]; split <;> simp [*]) ?_
              refine o_y (y_pick_t rfl rfl) rfl rfl ?_
              refine o_y (y_move rfl) rfl rfl ?_
              refine wl_gyes rfl rfl ?_
              refine o_y (y_loadrs 7 ty_48 rfl rfl rfl rfl) rfl rfl ?_
              refine wl_gyes rfl rfl ?_
              refine o_y (y_move rfl) rfl rfl ?_
              refine wl_gyes rfl rfl ?_
              refine o_y (y_move rfl) rfl rfl ?_
              refine wl_gyes rfl rfl ?_
              refine o_callr1 rfl ent_31 rfl (c_entry_Records _ _ _ _ _ _ _ _ _ _ hwh (by omega) hwa (by omega) (by omega) hk) (fun w hw => (rd_cons (rd_S 0 rfl hw) (rd_cons (rd_S 1 rfl hw) (rd_cons (rd_S 2 rfl hw) rd_nil)))) (fun ⟨A8, c8⟩ => ?_)
              refine wl_gyes rfl rfl ?_
              refine o_y (y_lenl Try.underlying50 rfl) rfl rfl ?_
              refine wl_gyes rfl rfl ?_
              refine o_y (y_eql rfl rfl) rfl rfl ?_
              refine wl_at (t := 172) rfl (by rw [recs_txt]; rfl) ?_
              refine o_y (y_pick_t rfl rfl) rfl rfl ?_
              refine o_y (y_assign rfl) rfl rfl ?_
              refine wl_nil ?_
              refine e_seq ?_
              refine w_ret ?_
              refine e_ret (ts := [10]) rfl rfl rfl (fun w hw => ?_)
              first
                | exact ⟨(), rfl, hw.base, (hw.weak (List.nil_sublist _) (fun s hs => hs)).toNews⟩
                | (have hz : recs e owner held t = [] := recs_nil1 (by omega)
                   exact ⟨(), by rw [hz]; rfl, hw.base, (hw.weak (List.nil_sublist _) (fun s hs => hs)).toNews⟩)
                | (trace_state; fail)
  · skip
    refine o_y (y_not rfl) rfl rfl ?_
    refine o_y (y_move rfl) rfl rfl ?_
    refine wl_gno rfl rfl rfl rfl ?_
    refine wl_gno rfl rfl rfl rfl ?_
    refine wl_gno rfl rfl rfl rfl ?_
    refine o_y (y_pick_t rfl rfl) rfl rfl ?_
    refine o_y (y_move rfl) rfl rfl ?_
    refine wl_gno rfl rfl rfl rfl ?_
    refine wl_gno rfl rfl rfl rfl ?_
    refine wl_gno rfl rfl rfl rfl ?_
    refine o_y (y_pick_t rfl rfl) rfl rfl ?_
    refine wl_nil ?_
    refine e_seq ?_
    refine w_cond_t rfl ?_
    refine w_seq ?_
    refine w_region ?_
    refine o_y (y_assign rfl) rfl rfl ?_
    refine wl_nil ?_
    refine e_seq ?_
    refine w_ret ?_
    refine e_seq_ret ?_
    refine e_ret (ts := [10]) rfl rfl rfl (fun w hw => ?_)
    first
      | exact ⟨(), rfl, hw.base, (hw.weak (List.nil_sublist _) (fun s hs => hs)).toNews⟩
      | (have hz : recs e owner held t = [] := recs_nil1 (by omega)
         exact ⟨(), by rw [hz]; rfl, hw.base, (hw.weak (List.nil_sublist _) (fun s hs => hs)).toNews⟩)
      | (trace_state; fail)
end Go.Proofs.Ytahpppncjbgpaaa
