import Derived.Test.YtfmelbpgkbiooaaGreatRgS
/- the laws of routes: the calls -/
namespace Go.Proofs.YtfmelbpgkbiooaaGreat
open Go.RowKit Go.Shelf
set_option linter.unusedVariables false
set_option linter.unusedSimpArgs false

theorem ent_21 : Enters Tryz.prog 21 := enters_of Tryz.func21 (by kernel_rfl) rfl
theorem ent_24 : Enters Tryz.prog 24 := enters_of Tryz.func24 (by kernel_rfl) rfl
theorem ent_25 : Enters Tryz.prog 25 := enters_of Tryz.func25 (by kernel_rfl) rfl
theorem ent_26 : Enters Tryz.prog 26 := enters_of Tryz.func26 (by kernel_rfl) rfl

def rfP : Option (Nat × Option Addr × Nat) → Option Addr
  | some p => some ⟨p.1, 0, none⟩
  | none => none
def rfE : Option (Nat × Option Addr × Nat) → Int
  | some _ => 0
  | none => 2
theorem rfV_pe (o : Option (Nat × Option Addr × Nat)) : rfV o = .tuple #[.pointer (rfP o), .int .i64 (rfE o)] := by cases o <;> rfl
theorem rfE_no {o : Option (Nat × Option Addr × Nat)} (h : rfE o ≠ 0) : o = none := by
  cases o with
  | none => rfl
  | some p => exact absurd rfl h
theorem rfE_yes {o : Option (Nat × Option Addr × Nat)} (h : ¬ rfE o ≠ 0) : ∃ b Q q, o = some (b, Q, q) := by
  cases o with
  | none => exact absurd (by decide) h
  | some p => exact ⟨p.1, p.2.1, p.2.2, rfl⟩
theorem ix_none {l : List Le} {hs : List Hd} {o : Option Ixd} (y1 : ∀ x, o = some x → HeldOk (l.map (·.e)) hs ∧ IxOk2 l hs x) (h : ¬ HeldOk (l.map (·.e)) hs) : o = none := by
  cases o with
  | none => rfl
  | some x => exact absurd (y1 x rfl).1 h
theorem ix_some {l : List Le} {hs : List Hd} {o : Option Ixd} (n1 : o = none → ¬ HeldOk (l.map (·.e)) hs) (h : HeldOk (l.map (·.e)) hs) : ∃ x, o = some x := by
  cases o with
  | none => exact absurd h (n1 rfl)
  | some x => exact ⟨x, rfl⟩
section
variable {l : List Le} {hs : List Hd} {x : Ixd} {v : Int} (hx : IxOk2 l hs x) (h : tabCk v l = 0) (H : HeldOk (l.map (·.e)) hs)
include hx h H
theorem of_adsE (n : Str) (a : Ad) (ha : a ∈ adsE (l.map (·.e)) hs n) : (ofE (l.map (·.e)) hs a).isSome = true := by
  rw [← ads_E hx] at ha
  obtain ⟨z, hz, -⟩ := of_ads hx h H ha
  rw [← am_s hx, hz]; rfl
theorem am_ka {a : Ad} (ha : (lkp x.am a).isSome = true) : KA l hs l.length [] 0 a := by
  obtain ⟨e, he, h2⟩ := (am_iff hx h H a).1 ha
  rw [ads_E hx] at h2
  have h3 : e.e ∈ l.map (·.e) := by rw [← hx.ix.es]; exact List.mem_map.2 ⟨e, he, rfl⟩
  obtain ⟨y, hy, e2⟩ := List.mem_map.1 h3
  obtain ⟨q, hq, e3⟩ := List.mem_iff_getElem.1 hy
  refine .inl ⟨q, hq, ?_⟩
  rw [List.getD_eq_getElem?_getD, List.getElem?_eq_getElem hq, Option.getD_some, e3, e2]; exact h2
theorem all_eq {us zs : List Rt} (hA : AllOk x hs us) (hz : AmS (l.map (·.e)) hs (KA l hs l.length [] 0) zs) : us = zs := up_eq hA.up hz.up fun r => by
  constructor
  · intro hr
    obtain ⟨h1, h2⟩ := hA.fd r hr
    obtain ⟨r', hr', e⟩ := (hz.keys r.ad).2 (am_ka hx h H h1)
    have h3 := (hz.fd r' hr').1
    rw [e, ← rt_E hx, h2] at h3
    rw [← h3]; exact hr'
  · intro hr
    obtain ⟨h1, h2⟩ := hz.fd r hr
    have h3 := hA.told r.ad
    rw [am_s hx, h2] at h3
    obtain ⟨r', hr', e⟩ := List.any_eq_true.1 h3.symm
    have h4 := (hA.fd r' hr').2
    rw [of_decide_eq_true e, rt_E hx, ← h1] at h4
    rw [h4]; exact hr'
end

set_option maxRecDepth 100000 in
set_option maxHeartbeats 1000000 in
theorem c_RouteCalls (v : Int) (l : List Le) (F : Option Addr) (d : Nat) (hs : List Hd) (Q : Option Addr) (qc : Nat) (a : Ad) (xs : List Rt) (A : Option Addr) (c : Nat) (ys : List Rt) (B : Option Addr) (e : Nat) (hen : ∀ x ∈ l, EnOk x.e) (hll : l.length ≤ 9223372036854775807) (hhen : ∀ h ∈ hs, h.host.length ≤ 9223372036854775807 ∧ AdOk h.ad) (hhl : hs.length ≤ 9223372036854775807) (hxl : xs.length ≤ 9223372036854775807) (hyl : ys.length ≤ 9223372036854775807) : RC Tryz.prog 7 #[.agg (tbC v F l.length d).toArray, .slice Q hs.length qc, .agg (adC a).toArray, .slice A xs.length c, .slice B ys.length e] [Ch.rd F 7 elC l, Ch.rall (l.flatMap elR), Ch.rd Q 4 hdC hs, Ch.rd A 5 rtC xs, Ch.rd B 5 rtC ys] (α := Unit) (fun _ => .bool true) (fun _ => []) := by
 refine rc_of_W (args := [.agg (tbC v F l.length d).toArray, .slice Q hs.length qc, .agg (adC a).toArray, .slice A xs.length c, .slice B ys.length e]) 106 Tryz.func7 rfl rfl rfl (fun w0 => ?_)
 rcases Decidable.em (tabCk v l = 0) with hT | hT
 refine w_seq ?_
 refine w_region ?_
 refine o_box rfl rfl rfl (fun b1 => ?_)
 refine o_box rfl rfl rfl (fun b2 => ?_)
 refine o_y (y_assign rfl) rfl rfl ?_
 refine wl_nil ?_
 refine e_seq ?_
 refine w_seq ?_
 refine w_seq ?_
 refine w_region ?_
 refine o_callp rfl ent_9 c_lives19 rfl ?_
 refine wl_as (t := 19) (.bool true) rfl (congrArg Value.bool rfl) ?_
 refine o_y (y_not rfl) rfl rfl ?_
 refine wl_nil ?_
 refine e_seq ?_
 refine w_cond_f rfl ?_
 refine w_skip ?_
 refine e_seq ?_
 refine w_seq ?_
 refine w_seq ?_
 refine w_region ?_
 refine o_y (y_field fa_24_1 rfl) rfl rfl ?_
 refine o_y (y_loadr 1 ty_22 rfl rfl rfl) rfl rfl ?_
 refine o_callq rfl ent_10 rfl (c_LightEntries _ _ _ _ (by omega)) (fun w hw => (rd_cons (rd_S 0 rfl hw) rd_nil)) ?_
 refine wl_splitb (t := 23) rfl (fun h3_2 => ?_) (fun h3_2 => ?_)
 have hle9 := lightEs_le h3_2
 have hok : TbOk l := fun x hx => ⟨hen x hx, hle9.1 x hx⟩
 have hl9 := hle9.2
 refine o_y (y_not rfl) rfl rfl ?_
 refine o_y (y_move rfl) rfl rfl ?_
 refine wl_gyes rfl rfl ?_
 refine o_y (y_move rfl) rfl rfl ?_
 refine wl_gyes rfl rfl ?_
 refine o_callq rfl ent_11 rfl (c_LightHeld _ _ _ _ (by omega)) (fun w hw => (rd_cons (rd_S 2 rfl hw) rd_nil)) ?_
 refine wl_splitb (t := 27) rfl (fun h3_6 => ?_) (fun h3_6 => ?_)
 have hlh := lightHs_le h3_6
 have hlh2 := hlh.2
 have hhs : ∀ h ∈ hs, 0 ≤ h.ad.lo := fun h hh => (hhen h hh).2.2.2.1
 have hhh : ∀ h ∈ hs, h.host.length ≤ 1000 ∧ 0 ≤ h.ad.lo := fun h hh => ⟨by have := hlh.1 h hh; omega, hhs h hh⟩
 refine wl_gyes rfl rfl ?_
 refine o_y (y_not rfl) rfl rfl ?_
 refine o_y (y_pick_f rfl rfl) rfl rfl ?_
 refine o_y (y_move rfl) rfl rfl ?_
 refine wl_gyes rfl rfl ?_
 refine o_y (y_move rfl) rfl rfl ?_
 refine wl_gyes rfl rfl ?_
 refine o_y (y_lenl Tryz.underlying50 rfl) rfl rfl ?_
 refine wl_gyes rfl rfl ?_
 refine o_y (y_gtr rfl rfl) rfl rfl ?_
 refine wl_splitp (t := 33) rfl (fun h3_12 => ?_) (fun h3_12 => ?_)
 refine o_y (y_pick_f rfl rfl) rfl rfl ?_
 refine o_y (y_move rfl) rfl rfl ?_
 refine wl_gno rfl rfl rfl rfl ?_
 refine wl_gno rfl rfl rfl rfl ?_
 refine wl_gno rfl rfl rfl rfl ?_
 refine o_y (y_pick_t rfl rfl) rfl rfl ?_
 refine wl_nil ?_
 refine e_seq ?_
 refine w_cond_t rfl ?_
 refine w_seq ?_
 refine w_region ?_
 refine o_y (y_assign rfl) rfl rfl ?_
 refine wl_nil ?_
 refine e_seq ?_
 refine w_ret ?_
 refine e_seq_ret ?_
 refine e_ret (ts := [10]) rfl rfl rfl (fun w hw => ?_)
 exact ⟨(), rfl, hw.base, (hw.weak (List.nil_sublist _) (fun s hs => hs)).toNews⟩
 refine o_y (y_pick_f rfl rfl) rfl rfl ?_
 refine o_y (y_move rfl) rfl rfl ?_
 refine wl_gyes rfl rfl ?_
 refine o_y (y_move rfl) rfl rfl ?_
 refine wl_gyes rfl rfl ?_
 refine o_y (y_lenl Tryz.underlying50 rfl) rfl rfl ?_
 refine wl_gyes rfl rfl ?_
 refine o_y (y_gtr rfl rfl) rfl rfl ?_
 refine wl_splitp (t := 38) rfl (fun h3_17 => ?_) (fun h3_17 => ?_)
 refine o_y (y_pick_f rfl rfl) rfl rfl ?_
 refine wl_nil ?_
 refine e_seq ?_
 refine w_cond_t rfl ?_
 refine w_seq ?_
 refine w_region ?_
 refine o_y (y_assign rfl) rfl rfl ?_
 refine wl_nil ?_
 refine e_seq ?_
 refine w_ret ?_
 refine e_seq_ret ?_
 refine e_ret (ts := [10]) rfl rfl rfl (fun w hw => ?_)
 exact ⟨(), rfl, hw.base, (hw.weak (List.nil_sublist _) (fun s hs => hs)).toNews⟩
 refine o_y (y_pick_f rfl rfl) rfl rfl ?_
 refine wl_nil ?_
 refine e_seq ?_
 refine w_cond_f rfl ?_
 refine w_skip ?_
 refine e_seq ?_
 refine w_seq ?_
 refine w_region ?_
 refine o_y (y_loadrs 1 ty_24 rfl rfl rfl rfl) rfl rfl ?_
 refine o_y (y_move rfl) rfl rfl ?_
 refine o_callr1 rfl ent_21 rfl (c_ref18_New v l _ _ Q hs qc hok (by omega) hT (by omega) hhh) (fun w hw => (rd_cons (rd_S 0 rfl hw) (rd_cons (rd_S 1 rfl hw) (rd_cons (rd_S 2 rfl hw) rd_nil)))) (fun ⟨orf, hrno, hryes⟩ => ?_)
 refine wl_as (t := 43) (.tuple #[.pointer (rfP orf), .int .i64 (rfE orf)]) rfl (rfV_pe orf) ?_
 refine o_y (y_move rfl) rfl rfl ?_
 refine o_y (y_extract rfl rfl) rfl rfl ?_
 refine o_y (y_extract rfl rfl) rfl rfl ?_
 refine o_y (y_assign rfl) rfl rfl ?_
 refine o_y (y_assign rfl) rfl rfl ?_
 refine wl_nil ?_
 refine e_seq ?_
 refine w_seq ?_
 refine w_region ?_
 refine o_y (y_loadrs 2 ty_24 rfl rfl rfl rfl) rfl rfl ?_
 refine o_y (y_move rfl) rfl rfl ?_
 refine o_callr1 rfl ent_12 rfl (c_index_NewH v l _ _ Q hs qc hok (by omega) hT (by omega) hhh) (fun w hw => (rd_cons (rd_S 0 rfl hw) (rd_cons (rd_S 1 rfl hw) (rd_cons (rd_S 2 rfl hw) rd_nil)))) (fun ⟨oix, hno, hyes⟩ => ?_)
 refine wl_as (t := 49) (.tuple #[.pointer (ixP oix), .int .i64 (ixE oix)]) rfl (ixV_pe oix) ?_
 refine o_y (y_move rfl) rfl rfl ?_
 refine o_y (y_extract rfl rfl) rfl rfl ?_
 refine o_y (y_extract rfl rfl) rfl rfl ?_
 refine o_y (y_assign rfl) rfl rfl ?_
 refine o_y (y_assign rfl) rfl rfl ?_
 refine wl_nil ?_
 refine e_seq ?_
 refine w_seq ?_
 refine w_seq ?_
 refine w_region ?_
 refine o_y (y_move rfl) rfl rfl ?_
 refine o_y (y_neq rfl rfl) rfl rfl ?_
 refine wl_splitp (t := 53) rfl (fun h7_1 => ?_) (fun h7_1 => ?_)
 obtain rfl := rfE_no h7_1
 obtain rfl := ix_none hyes (hrno rfl)
 refine wl_nil ?_
 refine e_seq ?_
 refine w_cond_t rfl ?_
 refine w_seq ?_
 refine w_region ?_
 refine o_y (y_move rfl) rfl rfl ?_
 refine o_y (y_move rfl) rfl rfl ?_
 refine o_y (y_eql rfl rfl) rfl rfl ?_
 refine wl_at (t := 56) rfl rfl ?_
 refine o_y (y_assign rfl) rfl rfl ?_
 refine wl_nil ?_
 refine e_seq ?_
 refine w_ret ?_
 refine e_seq_ret ?_
 refine e_ret (ts := [10]) rfl rfl rfl (fun w hw => ?_)
 exact ⟨(), rfl, hw.base, (hw.weak (List.nil_sublist _) (fun s hs => hs)).toNews⟩
 obtain ⟨rfb, rfQ, rfq, rfl⟩ := rfE_yes h7_1
 have hH := hryes nofun
 obtain ⟨ix, rfl⟩ := ix_some hno hH
 obtain ⟨-, hix2⟩ := hyes ix rfl
 have hix := hix2.ix
 refine wl_nil ?_
 refine e_seq ?_
 refine w_cond_f rfl ?_
 refine w_skip ?_
 refine e_seq ?_
 refine w_seq ?_
 refine w_region ?_
 refine o_y (y_move rfl) rfl rfl ?_
 refine o_y (y_loadrs 2 ty_28 rfl rfl rfl rfl) rfl rfl ?_
 refine o_callq rfl ent_13 rfl (c_route_Find ix a) (fun w hw => (rd_cons (rd_all (rd_L 0 rfl hw) (.head _)) (rd_cons (rd_all (rd_L 0 rfl hw) (.tail _ (.tail _ (.tail _ (.head _))))) rd_nil))) ?_
 refine o_y (y_move rfl) rfl rfl ?_
 refine o_y (y_extract rfl rfl) rfl rfl ?_
 refine o_y (y_extract rfl rfl) rfl rfl ?_
 refine o_alloc ty_38 rfl rfl (fun b5 => ?_)
 refine o_store ty_38 rfl rfl rfl .z rfl rfl rfl rfl ?_
 refine o_y (y_assign rfl) rfl rfl ?_
 refine wl_nil ?_
 refine e_seq ?_
 refine w_seq ?_
 refine w_region ?_
 refine o_y (y_move rfl) rfl rfl ?_
 refine o_y (y_loadrs 3 ty_28 rfl rfl rfl rfl) rfl rfl ?_
 refine o_callq rfl ent_22 rfl (c_ref19_Find v l F d rfb rfQ hs rfq a hok (by omega) hT hH (by omega) hhh) (fun w hw => (rd_cons (rd_all (rd_L 2 rfl hw) (.head _)) (rd_cons (rd_S 0 rfl hw) (rd_cons (rd_S 1 rfl hw) (rd_cons (rd_all (rd_L 2 rfl hw) (.tail _ (.head _))) rd_nil))))) ?_
 refine o_y (y_move rfl) rfl rfl ?_
 refine o_y (y_extract rfl rfl) rfl rfl ?_
 refine o_y (y_extract rfl rfl) rfl rfl ?_
 refine o_alloc ty_38 rfl rfl (fun b6 => ?_)
 refine o_store ty_38 rfl rfl rfl .z rfl rfl rfl rfl ?_
 refine o_y (y_assign rfl) rfl rfl ?_
 refine wl_nil ?_
 refine e_seq ?_
 refine w_seq ?_
 refine w_draw 38 rfl mixed ?_
 refine a_take (i := 0) rfl wanted_none (y_move rfl) (fun w h => h) (fun w h => h) rfl (pk_seq pk_fn) (by kernel_rfl) rfl ?_
 refine a_take (i := 1) rfl wanted_none (y_eql rfl rfl) (fun w h => h) (fun w h => h) rfl (pk_seq pk_fn) (by kernel_rfl) rfl ?_
 refine wa_at (t := 70) rfl rfl ?_
 refine a_take (i := 2) rfl wanted_none (y_move rfl) (fun w h => h) (fun w h => h) rfl (pk_seq pk_fn) (by kernel_rfl) rfl ?_
 refine a_take (i := 3) rfl (wanted_yes rfl rfl) (y_loadrs 1 ty_38 rfl rfl rfl rfl) (fun w h => h) (fun w h => h) rfl (pk_seq pk_fn) (by kernel_rfl) rfl ?_
 refine a_take (i := 4) rfl (wanted_yes rfl rfl) (y_loadrs 0 ty_38 rfl rfl rfl rfl) (fun w h => h) (fun w h => h) rfl (pk_seq pk_fn) (by kernel_rfl) rfl ?_
 refine a_take (i := 5) rfl (wanted_yes rfl rfl) (y_eqst (by kernel_rfl) rfl rfl (eqd_rt (rtI ix a) (rtE (l.map (·.e)) hs a)) rfl) (fun w h => h) (fun w h => h) rfl (pk_seq pk_fn) (by kernel_rfl) rfl ?_
 refine wa_at (t := 74) rfl (rt_E hix2 a) ?_
 refine a_take (i := 6) rfl wanted_none (y_pick_t rfl rfl) (fun w h => h) (fun w h => h) rfl (pk_seq pk_fn) (by kernel_rfl) rfl ?_
 refine a_take (i := 7) rfl wanted_none (y_move rfl) (fun w h => h) (fun w h => h) rfl (pk_seq pk_fn) (by kernel_rfl) rfl ?_
 refine a_take (i := 8) rfl (wanted_yes rfl rfl) (y_move rfl) (fun w h => h) (fun w h => h) rfl (pk_seq pk_fn) (by kernel_rfl) rfl ?_
 refine a_take (i := 9) rfl (wanted_yes rfl rfl) (y_move rfl) (fun w h => h) (fun w h => h) rfl (pk_seq pk_fn) (by kernel_rfl) rfl ?_
 refine a_take (i := 10) rfl (wanted_yes rfl rfl) (y_eqlb Tryz.underlying4 rfl rfl) (fun w h => h) (fun w h => h) rfl (pk_seq pk_fn) (by kernel_rfl) rfl ?_
 refine wa_at (t := 79) rfl (am_s hix2 a) ?_
 refine a_take (i := 11) rfl wanted_none (y_pick_t rfl rfl) (fun w h => h) (fun w h => h) rfl (pk_seq pk_fn) (by kernel_rfl) rfl ?_
 refine a_take (i := 12) rfl wanted_none (y_move rfl) (fun w h => h) (fun w h => h) rfl (pk_seq pk_fn) (by kernel_rfl) rfl ?_
 refine a_take (i := 13) rfl (wanted_yes rfl rfl) (y_move rfl) (fun w h => h) (fun w h => h) rfl (pk_seq pk_fn) (by kernel_rfl) rfl ?_
 refine a_take (i := 15) rfl (wanted_yes rfl rfl) (y_move rfl) (fun w h => h) (fun w h => h) rfl (pk_seq pk_fn) (by kernel_rfl) rfl ?_
 refine a_one (i := 14) rfl rfl rfl (tame_call rfl ent_15) (by kernel_rfl) rfl ?_
 refine wl_gyes rfl rfl ?_
 refine o_callr1 rfl ent_15 rfl (c_route_All ix l hs hix2 hok hhs (by omega)) (fun w hw => (rd_cons (rd_all (rd_L 2 rfl hw) (.head _)) (rd_cons (rd_all (rd_L 2 rfl hw) (.tail _ (.head _))) (rd_cons (rd_all (rd_L 2 rfl hw) (.tail _ (.tail _ (.head _)))) (rd_cons (rd_all (rd_L 2 rfl hw) (.tail _ (.tail _ (.tail _ (.head _))))) (rd_cons (rd_all (rd_L 2 rfl hw) (.tail _ (.tail _ (.tail _ (.tail _ (.head _)))))) (rd_cons (rd_sub (rd_L 2 rfl hw) (fun c hc => .tail _ (.tail _ (.tail _ (.tail _ (.tail _ hc)))))) rd_nil))))))) (fun ⟨⟨us, Au, cu⟩, hyp, hys⟩ => ?_)
 refine wl_nil ?_
 refine e_one (fun w h => h.weak (.cons _ (List.Sublist.refl _)) (fun s hs => hs)) ?_
 dsimp only at hyp hys
 have hA := all_okR hix2 hT hH hyp hys
 have hul : us.length ≤ 1000000 := by
   have h1 := hyp.length_eq
   have h2 := allM_len (ads_len hix hok) ix.l
   have h3 := ix_len hix
   rw [List.length_map] at h1
   omega
 refine a_one (i := 16) rfl rfl rfl (tame_call rfl ent_24) (by kernel_rfl) rfl ?_
 refine wl_gyes rfl rfl ?_
 refine o_callr1 rfl ent_24 rfl (c_ref19_All v l F d rfb rfQ hs rfq hok (by omega) hT hH (by omega) hhh (of_adsE hix2 hT hH) (fun n => by rw [← ads_E hix2]; exact ads_len hix hok n) (by omega)) (fun w hw => (rd_cons (rd_all (rd_L 4 rfl hw) (.head _)) (rd_cons (rd_S 0 rfl hw) (rd_cons (rd_S 1 rfl hw) (rd_cons (rd_all (rd_L 4 rfl hw) (.tail _ (.head _))) rd_nil))))) (fun ⟨⟨zs, Az, cz⟩, hzk, hzl⟩ => ?_)
 refine wl_nil ?_
 refine e_one (fun w h => h.weak (.cons _ (.cons _ (List.Sublist.refl _))) (fun s hs => hs)) ?_
 refine a_one (i := 17) rfl rfl rfl (tame_call rfl ent_23) (by kernel_rfl) rfl ?_
 refine wl_gyes rfl rfl ?_
 refine o_callq rfl ent_23 rfl (c_kit_Same_rt _ _ _ _ _ _ (Nat.le_trans hul (by decide))) (fun w hw => (rd_cons (rd_Ls 1 rfl hw) (rd_cons (rd_Ls 0 rfl hw) rd_nil))) ?_
 refine wl_nil ?_
 refine e_one (fun w h => h.weak (.cons _ (.cons _ (List.Sublist.refl _))) (fun s hs => hs)) ?_
 refine wa_as (t := 86) (.bool true) rfl (congrArg Value.bool (decide_eq_true (all_eq hix2 hT hH hA hzk))) ?_
 refine a_take (i := 18) rfl wanted_none (y_pick_t rfl rfl) (fun w h => h.weak (.cons _ (.cons _ (List.Sublist.refl _))) (fun s hs => hs)) (fun w h => h) rfl (pk_seq pk_fn) (by kernel_rfl) rfl ?_
 refine a_take (i := 19) rfl wanted_none (y_move rfl) (fun w h => h.weak (.cons _ (.cons _ (List.Sublist.refl _))) (fun s hs => hs)) (fun w h => h) rfl (pk_seq pk_fn) (by kernel_rfl) rfl ?_
 refine a_take (i := 20) rfl (wanted_yes rfl rfl) (y_move rfl) (fun w h => h.weak (.cons _ (.cons _ (List.Sublist.refl _))) (fun s hs => hs)) (fun w h => h) rfl (pk_seq pk_fn) (by kernel_rfl) rfl ?_
 refine a_take (i := 21) rfl (wanted_yes rfl rfl) (y_loadrs 4 ty_28 rfl rfl rfl rfl) (fun w h => h.weak (.cons _ (.cons _ (List.Sublist.refl _))) (fun s hs => hs)) (fun w h => h) rfl (pk_seq pk_fn) (by kernel_rfl) rfl ?_
 refine a_take (i := 23) rfl (wanted_yes rfl rfl) (y_move rfl) (fun w h => h.weak (.cons _ (.cons _ (List.Sublist.refl _))) (fun s hs => hs)) (fun w h => h) rfl (pk_seq pk_fn) (by kernel_rfl) rfl ?_
 refine a_take (i := 24) rfl (wanted_yes rfl rfl) (y_loadrs 4 ty_28 rfl rfl rfl rfl) (fun w h => h.weak (.cons _ (.cons _ (List.Sublist.refl _))) (fun s hs => hs)) (fun w h => h) rfl (pk_seq pk_fn) (by kernel_rfl) rfl ?_
 refine a_one (i := 22) rfl rfl rfl (tame_call rfl ent_17) (by kernel_rfl) rfl ?_
 refine wl_gyes rfl rfl ?_
 refine o_callq rfl ent_17 rfl (c_Cluster ix a) (fun w hw => (rd_cons (rd_all (rd_L 4 rfl hw) (.head _)) (rd_cons (rd_all (rd_L 4 rfl hw) (.tail _ (.tail _ (.tail _ (.head _))))) rd_nil))) ?_
 refine wl_nil ?_
 refine e_one (fun w h => h.weak (.cons _ (.cons _ (List.Sublist.refl _))) (fun s hs => hs)) ?_
 refine a_one (i := 25) rfl rfl rfl (tame_call rfl ent_25) (by kernel_rfl) rfl ?_
 refine wl_gyes rfl rfl ?_
 refine o_callq rfl ent_25 rfl (c_ref19_Cluster v l F d rfb rfQ hs rfq a hok (by omega) hT hH (by omega) hhh) (fun w hw => (rd_cons (rd_all (rd_L 5 rfl hw) (.head _)) (rd_cons (rd_S 0 rfl hw) (rd_cons (rd_S 1 rfl hw) (rd_cons (rd_all (rd_L 5 rfl hw) (.tail _ (.head _))) rd_nil))))) ?_
 refine wl_nil ?_
 refine e_one (fun w h => h.weak (.cons _ (.cons _ (List.Sublist.refl _))) (fun s hs => hs)) ?_
 refine a_take (i := 26) rfl (wanted_yes rfl rfl) (y_eqls rfl rfl) (fun w h => h.weak (.cons _ (.cons _ (List.Sublist.refl _))) (fun s hs => hs)) (fun w h => h) rfl (pk_seq pk_fn) (by kernel_rfl) rfl ?_
 refine wa_at (t := 95) rfl (by rw [rt_E hix2]) ?_
 refine a_take (i := 27) rfl wanted_none (y_pick_t rfl rfl) (fun w h => h.weak (.cons _ (.cons _ (List.Sublist.refl _))) (fun s hs => hs)) (fun w h => h) rfl (pk_seq pk_fn) (by kernel_rfl) rfl ?_
 refine a_take (i := 28) rfl wanted_none (y_move rfl) (fun w h => h.weak (.cons _ (.cons _ (List.Sublist.refl _))) (fun s hs => hs)) (fun w h => h) rfl (pk_seq pk_fn) (by kernel_rfl) rfl ?_
 refine a_take (i := 29) rfl (wanted_yes rfl rfl) (y_move rfl) (fun w h => h.weak (.cons _ (.cons _ (List.Sublist.refl _))) (fun s hs => hs)) (fun w h => h) rfl (pk_seq pk_fn) (by kernel_rfl) rfl ?_
 refine a_take (i := 30) rfl (wanted_yes rfl rfl) (y_move rfl) (fun w h => h.weak (.cons _ (.cons _ (List.Sublist.refl _))) (fun s hs => hs)) (fun w h => h) rfl (pk_seq pk_fn) (by kernel_rfl) rfl ?_
 refine a_take (i := 32) rfl (wanted_yes rfl rfl) (y_move rfl) (fun w h => h.weak (.cons _ (.cons _ (List.Sublist.refl _))) (fun s hs => hs)) (fun w h => h) rfl (pk_seq pk_fn) (by kernel_rfl) rfl ?_
 refine a_take (i := 33) rfl (wanted_yes rfl rfl) (y_move rfl) (fun w h => h.weak (.cons _ (.cons _ (List.Sublist.refl _))) (fun s hs => hs)) (fun w h => h) rfl (pk_seq pk_fn) (by kernel_rfl) rfl ?_
 refine a_one (i := 31) rfl rfl rfl (tame_call rfl ent_18) (by kernel_rfl) rfl ?_
 refine wl_gyes rfl rfl ?_
 refine o_callq rfl ent_18 rfl (c_route_Same xs ys _ _ _ _ (by omega)) (fun w hw => (rd_cons (rd_S 3 rfl hw) (rd_cons (rd_S 4 rfl hw) rd_nil))) ?_
 refine wl_nil ?_
 refine e_one (fun w h => h.weak (.cons _ (.cons _ (List.Sublist.refl _))) (fun s hs => hs)) ?_
 refine a_one (i := 34) rfl rfl rfl (tame_call rfl ent_26) (by kernel_rfl) rfl ?_
 refine wl_gyes rfl rfl ?_
 refine o_callq rfl ent_26 rfl (c_ref19_Same xs ys _ _ _ _ (by omega)) (fun w hw => (rd_cons (rd_S 3 rfl hw) (rd_cons (rd_S 4 rfl hw) rd_nil))) ?_
 refine wl_nil ?_
 refine e_one (fun w h => h.weak (.cons _ (.cons _ (List.Sublist.refl _))) (fun s hs => hs)) ?_
 refine a_take (i := 35) rfl (wanted_yes rfl rfl) (y_eqlb Tryz.underlying4 rfl rfl) (fun w h => h.weak (.cons _ (.cons _ (List.Sublist.refl _))) (fun s hs => hs)) (fun w h => h) rfl (pk_seq pk_fn) (by kernel_rfl) rfl ?_
 refine wa_at (t := 104) rfl rfl ?_
 refine a_take (i := 36) rfl wanted_none (y_pick_t rfl rfl) (fun w h => h.weak (.cons _ (.cons _ (List.Sublist.refl _))) (fun s hs => hs)) (fun w h => h) rfl (pk_seq pk_fn) (by kernel_rfl) rfl ?_
 refine a_take (i := 37) rfl wanted_none (y_assign rfl) (fun w h => h.weak (.cons _ (.cons _ (List.Sublist.refl _))) (fun s hs => hs)) (fun w h => h) rfl (pk_seq pk_fn) (by kernel_rfl) rfl ?_
 refine a_done (by kernel_rfl) ?_
 refine e_seq ?_
 refine w_ret ?_
 refine e_ret (ts := [10]) rfl rfl rfl (fun w hw => ?_)
 exact ⟨(), rfl, hw.base, (hw.weak (List.nil_sublist _) (fun s hs => hs)).toNews⟩
 refine wl_gyes rfl rfl ?_
 refine o_y (y_not rfl) rfl rfl ?_
 refine o_y (y_pick_f rfl rfl) rfl rfl ?_
 refine o_y (y_move rfl) rfl rfl ?_
 refine wl_gno rfl rfl rfl rfl ?_
 refine wl_gno rfl rfl rfl rfl ?_
 refine wl_gno rfl rfl rfl rfl ?_
 refine o_y (y_pick_t rfl rfl) rfl rfl ?_
 refine o_y (y_move rfl) rfl rfl ?_
 refine wl_gno rfl rfl rfl rfl ?_
 refine wl_gno rfl rfl rfl rfl ?_
 refine wl_gno rfl rfl rfl rfl ?_
 refine o_y (y_pick_t rfl rfl) rfl rfl ?_
 refine wl_nil ?_
 refine e_seq ?_
 refine w_cond_t rfl ?_
 refine w_seq ?_
 refine w_region ?_
 refine o_y (y_assign rfl) rfl rfl ?_
 refine wl_nil ?_
 refine e_seq ?_
 refine w_ret ?_
 refine e_seq_ret ?_
 refine e_ret (ts := [10]) rfl rfl rfl (fun w hw => ?_)
 exact ⟨(), rfl, hw.base, (hw.weak (List.nil_sublist _) (fun s hs => hs)).toNews⟩
 refine o_y (y_not rfl) rfl rfl ?_
 refine o_y (y_move rfl) rfl rfl ?_
 refine wl_gno rfl rfl rfl rfl ?_
 refine wl_gno rfl rfl rfl rfl ?_
 refine wl_gno rfl rfl rfl rfl ?_
 refine o_y (y_pick_t rfl rfl) rfl rfl ?_
 refine o_y (y_move rfl) rfl rfl ?_
 refine wl_gno rfl rfl rfl rfl ?_
 refine wl_gno rfl rfl rfl rfl ?_
 refine wl_gno rfl rfl rfl rfl ?_
 refine o_y (y_pick_t rfl rfl) rfl rfl ?_
 refine o_y (y_move rfl) rfl rfl ?_
 refine wl_gno rfl rfl rfl rfl ?_
 refine wl_gno rfl rfl rfl rfl ?_
 refine wl_gno rfl rfl rfl rfl ?_
 refine o_y (y_pick_t rfl rfl) rfl rfl ?_
 refine wl_nil ?_
 refine e_seq ?_
 refine w_cond_t rfl ?_
 refine w_seq ?_
 refine w_region ?_
 refine o_y (y_assign rfl) rfl rfl ?_
 refine wl_nil ?_
 refine e_seq ?_
 refine w_ret ?_
 refine e_seq_ret ?_
 refine e_ret (ts := [10]) rfl rfl rfl (fun w hw => ?_)
 exact ⟨(), rfl, hw.base, (hw.weak (List.nil_sublist _) (fun s hs => hs)).toNews⟩
 refine w_seq ?_
 refine w_region ?_
 refine o_box rfl rfl rfl (fun b9 => ?_)
 refine o_box rfl rfl rfl (fun b10 => ?_)
 refine o_y (y_assign rfl) rfl rfl ?_
 refine wl_nil ?_
 refine e_seq ?_
 refine w_seq ?_
 refine w_seq ?_
 refine w_region ?_
 refine o_callp rfl ent_9 c_lives19 rfl ?_
 refine wl_as (t := 19) (.bool true) rfl (congrArg Value.bool rfl) ?_
 refine o_y (y_not rfl) rfl rfl ?_
 refine wl_nil ?_
 refine e_seq ?_
 refine w_cond_f rfl ?_
 refine w_skip ?_
 refine e_seq ?_
 refine w_seq ?_
 refine w_seq ?_
 refine w_region ?_
 refine o_y (y_field fa_24_1 rfl) rfl rfl ?_
 refine o_y (y_loadr 1 ty_22 rfl rfl rfl) rfl rfl ?_
 refine o_callq rfl ent_10 rfl (c_LightEntries _ _ _ _ (by omega)) (fun w hw => (rd_cons (rd_S 0 rfl hw) rd_nil)) ?_
 refine wl_splitb (t := 23) rfl (fun h3_2 => ?_) (fun h3_2 => ?_)
 have hle9 := lightEs_le h3_2
 have hok : TbOk l := fun x hx => ⟨hen x hx, hle9.1 x hx⟩
 have hl9 := hle9.2
 refine o_y (y_not rfl) rfl rfl ?_
 refine o_y (y_move rfl) rfl rfl ?_
 refine wl_gyes rfl rfl ?_
 refine o_y (y_move rfl) rfl rfl ?_
 refine wl_gyes rfl rfl ?_
 refine o_callq rfl ent_11 rfl (c_LightHeld _ _ _ _ (by omega)) (fun w hw => (rd_cons (rd_S 2 rfl hw) rd_nil)) ?_
 refine wl_splitb (t := 27) rfl (fun h3_6 => ?_) (fun h3_6 => ?_)
 have hlh := lightHs_le h3_6
 have hlh2 := hlh.2
 have hhs : ∀ h ∈ hs, 0 ≤ h.ad.lo := fun h hh => (hhen h hh).2.2.2.1
 have hhh : ∀ h ∈ hs, h.host.length ≤ 1000 ∧ 0 ≤ h.ad.lo := fun h hh => ⟨by have := hlh.1 h hh; omega, hhs h hh⟩
 refine wl_gyes rfl rfl ?_
 refine o_y (y_not rfl) rfl rfl ?_
 refine o_y (y_pick_f rfl rfl) rfl rfl ?_
 refine o_y (y_move rfl) rfl rfl ?_
 refine wl_gyes rfl rfl ?_
 refine o_y (y_move rfl) rfl rfl ?_
 refine wl_gyes rfl rfl ?_
 refine o_y (y_lenl Tryz.underlying50 rfl) rfl rfl ?_
 refine wl_gyes rfl rfl ?_
 refine o_y (y_gtr rfl rfl) rfl rfl ?_
 refine wl_splitp (t := 33) rfl (fun h3_12 => ?_) (fun h3_12 => ?_)
 refine o_y (y_pick_f rfl rfl) rfl rfl ?_
 refine o_y (y_move rfl) rfl rfl ?_
 refine wl_gno rfl rfl rfl rfl ?_
 refine wl_gno rfl rfl rfl rfl ?_
 refine wl_gno rfl rfl rfl rfl ?_
 refine o_y (y_pick_t rfl rfl) rfl rfl ?_
 refine wl_nil ?_
 refine e_seq ?_
 refine w_cond_t rfl ?_
 refine w_seq ?_
 refine w_region ?_
 refine o_y (y_assign rfl) rfl rfl ?_
 refine wl_nil ?_
 refine e_seq ?_
 refine w_ret ?_
 refine e_seq_ret ?_
 refine e_ret (ts := [10]) rfl rfl rfl (fun w hw => ?_)
 exact ⟨(), rfl, hw.base, (hw.weak (List.nil_sublist _) (fun s hs => hs)).toNews⟩
 refine o_y (y_pick_f rfl rfl) rfl rfl ?_
 refine o_y (y_move rfl) rfl rfl ?_
 refine wl_gyes rfl rfl ?_
 refine o_y (y_move rfl) rfl rfl ?_
 refine wl_gyes rfl rfl ?_
 refine o_y (y_lenl Tryz.underlying50 rfl) rfl rfl ?_
 refine wl_gyes rfl rfl ?_
 refine o_y (y_gtr rfl rfl) rfl rfl ?_
 refine wl_splitp (t := 38) rfl (fun h3_17 => ?_) (fun h3_17 => ?_)
 refine o_y (y_pick_f rfl rfl) rfl rfl ?_
 refine wl_nil ?_
 refine e_seq ?_
 refine w_cond_t rfl ?_
 refine w_seq ?_
 refine w_region ?_
 refine o_y (y_assign rfl) rfl rfl ?_
 refine wl_nil ?_
 refine e_seq ?_
 refine w_ret ?_
 refine e_seq_ret ?_
 refine e_ret (ts := [10]) rfl rfl rfl (fun w hw => ?_)
 exact ⟨(), rfl, hw.base, (hw.weak (List.nil_sublist _) (fun s hs => hs)).toNews⟩
 refine o_y (y_pick_f rfl rfl) rfl rfl ?_
 refine wl_nil ?_
 refine e_seq ?_
 refine w_cond_f rfl ?_
 refine w_skip ?_
 refine e_seq ?_
 refine w_seq ?_
 refine w_region ?_
 refine o_y (y_loadrs 1 ty_24 rfl rfl rfl rfl) rfl rfl ?_
 refine o_y (y_move rfl) rfl rfl ?_
 refine o_callq rfl ent_21 rfl (c_ref18_Newbad v l _ _ hok (by omega) hT _ _ _) (fun w hw => (rd_cons (rd_S 0 rfl hw) (rd_cons (rd_S 1 rfl hw) rd_nil))) ?_
 refine o_y (y_move rfl) rfl rfl ?_
 refine o_y (y_extract rfl rfl) rfl rfl ?_
 refine o_y (y_extract rfl rfl) rfl rfl ?_
 refine o_y (y_assign rfl) rfl rfl ?_
 refine o_y (y_assign rfl) rfl rfl ?_
 refine wl_nil ?_
 refine e_seq ?_
 refine w_seq ?_
 refine w_region ?_
 refine o_y (y_loadrs 1 ty_24 rfl rfl rfl rfl) rfl rfl ?_
 refine o_y (y_move rfl) rfl rfl ?_
 refine o_callq rfl ent_12 rfl (c_index_Newbad v l _ _ hok (by omega) hT _ _ _) (fun w hw => (rd_cons (rd_S 0 rfl hw) (rd_cons (rd_S 1 rfl hw) rd_nil))) ?_
 refine o_y (y_move rfl) rfl rfl ?_
 refine o_y (y_extract rfl rfl) rfl rfl ?_
 refine o_y (y_extract rfl rfl) rfl rfl ?_
 refine o_y (y_assign rfl) rfl rfl ?_
 refine o_y (y_assign rfl) rfl rfl ?_
 refine wl_nil ?_
 refine e_seq ?_
 refine w_seq ?_
 refine w_seq ?_
 refine w_region ?_
 refine o_y (y_move rfl) rfl rfl ?_
 refine o_y (y_neq rfl rfl) rfl rfl ?_
 refine wl_at (t := 53) rfl hT ?_
 refine wl_nil ?_
 refine e_seq ?_
 refine w_cond_t rfl ?_
 refine w_seq ?_
 refine w_region ?_
 refine o_y (y_move rfl) rfl rfl ?_
 refine o_y (y_move rfl) rfl rfl ?_
 refine o_y (y_eql rfl rfl) rfl rfl ?_
 refine wl_at (t := 56) rfl rfl ?_
 refine o_y (y_assign rfl) rfl rfl ?_
 refine wl_nil ?_
 refine e_seq ?_
 refine w_ret ?_
 refine e_seq_ret ?_
 refine e_ret (ts := [10]) rfl rfl rfl (fun w hw => ?_)
 exact ⟨(), rfl, hw.base, (hw.weak (List.nil_sublist _) (fun s hs => hs)).toNews⟩
 refine wl_gyes rfl rfl ?_
 refine o_y (y_not rfl) rfl rfl ?_
 refine o_y (y_pick_f rfl rfl) rfl rfl ?_
 refine o_y (y_move rfl) rfl rfl ?_
 refine wl_gno rfl rfl rfl rfl ?_
 refine wl_gno rfl rfl rfl rfl ?_
 refine wl_gno rfl rfl rfl rfl ?_
 refine o_y (y_pick_t rfl rfl) rfl rfl ?_
 refine o_y (y_move rfl) rfl rfl ?_
 refine wl_gno rfl rfl rfl rfl ?_
 refine wl_gno rfl rfl rfl rfl ?_
 refine wl_gno rfl rfl rfl rfl ?_
 refine o_y (y_pick_t rfl rfl) rfl rfl ?_
 refine wl_nil ?_
 refine e_seq ?_
 refine w_cond_t rfl ?_
 refine w_seq ?_
 refine w_region ?_
 refine o_y (y_assign rfl) rfl rfl ?_
 refine wl_nil ?_
 refine e_seq ?_
 refine w_ret ?_
 refine e_seq_ret ?_
 refine e_ret (ts := [10]) rfl rfl rfl (fun w hw => ?_)
 exact ⟨(), rfl, hw.base, (hw.weak (List.nil_sublist _) (fun s hs => hs)).toNews⟩
 refine o_y (y_not rfl) rfl rfl ?_
 refine o_y (y_move rfl) rfl rfl ?_
 refine wl_gno rfl rfl rfl rfl ?_
 refine wl_gno rfl rfl rfl rfl ?_
 refine wl_gno rfl rfl rfl rfl ?_
 refine o_y (y_pick_t rfl rfl) rfl rfl ?_
 refine o_y (y_move rfl) rfl rfl ?_
 refine wl_gno rfl rfl rfl rfl ?_
 refine wl_gno rfl rfl rfl rfl ?_
 refine wl_gno rfl rfl rfl rfl ?_
 refine o_y (y_pick_t rfl rfl) rfl rfl ?_
 refine o_y (y_move rfl) rfl rfl ?_
 refine wl_gno rfl rfl rfl rfl ?_
 refine wl_gno rfl rfl rfl rfl ?_
 refine wl_gno rfl rfl rfl rfl ?_
 refine o_y (y_pick_t rfl rfl) rfl rfl ?_
 refine wl_nil ?_
 refine e_seq ?_
 refine w_cond_t rfl ?_
 refine w_seq ?_
 refine w_region ?_
 refine o_y (y_assign rfl) rfl rfl ?_
 refine wl_nil ?_
 refine e_seq ?_
 refine w_ret ?_
 refine e_seq_ret ?_
 refine e_ret (ts := [10]) rfl rfl rfl (fun w hw => ?_)
 exact ⟨(), rfl, hw.base, (hw.weak (List.nil_sublist _) (fun s hs => hs)).toNews⟩
end Go.Proofs.YtfmelbpgkbiooaaGreat
