import Derived.Test.YtfmelbpgkbiooaaGreatJaS
import Derived.Test.YtfmelbpgkbiooaaGreatLrS
/- an index asked for addresses, routes -/
namespace Go.Proofs.YtfmelbpgkbiooaaGreat
open Go.RowKit Go.Shelf
set_option linter.unusedVariables false
set_option linter.unusedSimpArgs false

theorem ent_100 : Enters Tryz.prog 100 := enters_of Tryz.func100 (by kernel_rfl) rfl
theorem ent_103 : Enters Tryz.prog 103 := enters_of Tryz.func103 (by kernel_rfl) rfl
theorem ent_104 : Enters Tryz.prog 104 := enters_of Tryz.func104 (by kernel_rfl) rfl

theorem c_ask_d (m : List (Str × Ad)) (r : Nat) (k : Str) : RC Tryz.prog 103 #[.map (some r), .string (ba k)] [Ch.mp r encN encA m] (α := Unit) (fun _ => .tuple #[.agg (adC ((lkp m k).getD ad0)).toArray, .bool (lkp m k).isSome]) (fun _ => []) := by
 refine rc_of_W (args := [.map (some r), .string (ba k)]) 16 Tryz.func103 rfl rfl rfl (fun w0 => ?_)
 refine w_seq ?_
 refine w_region ?_
 refine o_alloc ty_28 rfl rfl (fun b1 => ?_)
 refine o_y (y_assign rfl) rfl rfl ?_
 refine wl_nil ?_
 refine e_seq ?_
 refine w_seq ?_
 refine w_region ?_
 refine o_y (y_move rfl) rfl rfl ?_
 refine o_y (y_move rfl) rfl rfl ?_
 refine o_y (y_lookup2 Tryz.underlying87 (keyl_str Tryz.underlying36) ty_28 rfl rfl (fun w hw => hw.sh _ (List.mem_of_getElem? (i := 0) rfl))) rfl rfl ?_
 refine wl_as (t := 11) (.tuple #[.agg (adC ((lkp m k).getD ad0)).toArray, .bool (lkp m k).isSome]) rfl (by cases lkp m k <;> rfl) ?_
 refine o_y (y_move rfl) rfl rfl ?_
 refine o_y (y_extract rfl rfl) rfl rfl ?_
 refine o_y (y_extract rfl rfl) rfl rfl ?_
 refine o_alloc ty_28 rfl rfl (fun b2 => ?_)
 refine o_store ty_28 rfl rfl rfl .z rfl rfl rfl rfl ?_
 refine o_y (y_assign rfl) rfl rfl ?_
 refine wl_nil ?_
 refine e_seq ?_
 refine w_seq ?_
 refine w_region ?_
 refine o_y (y_loadrs 0 ty_28 rfl rfl rfl rfl) rfl rfl ?_
 refine o_y (y_move rfl) rfl rfl ?_
 refine o_store ty_28 rfl rfl rfl (.s (.z)) rfl rfl rfl rfl ?_
 refine o_y (y_assign rfl) rfl rfl ?_
 refine wl_nil ?_
 refine e_seq ?_
 refine w_ret ?_
 refine e_rsr (rs := [.cell 4 28, .tmp 5]) rfl (rs_cells 1 ty_28 rfl rfl rfl rfl (rs_tmp rfl rs_nil)) rfl (fun w hw => ?_)
 exact ⟨(), rfl, hw.base, (hw.weak (List.nil_sublist _) (fun s hs => hs)).toNews⟩

theorem c_ask_a (m : List (Ad × Le)) (r : Nat) (k : Ad) : RC Tryz.prog 100 #[.map (some r), .agg (adC k).toArray] [Ch.mp r encA encE m] (α := Unit) (fun _ => .tuple #[.agg (elC ((lkp m k).getD le0)).toArray, .bool (lkp m k).isSome]) (fun _ => []) := by
 refine rc_of_W (args := [.map (some r), .agg (adC k).toArray]) 16 Tryz.func100 rfl rfl rfl (fun w0 => ?_)
 refine w_seq ?_
 refine w_region ?_
 refine o_box rfl rfl rfl (fun b1 => ?_)
 refine o_alloc ty_47 rfl rfl (fun b2 => ?_)
 refine o_y (y_assign rfl) rfl rfl ?_
 refine wl_nil ?_
 refine e_seq ?_
 refine w_seq ?_
 refine w_region ?_
 refine o_y (y_move rfl) rfl rfl ?_
 refine o_y (y_loadrs 1 ty_28 rfl rfl rfl rfl) rfl rfl ?_
 refine o_y (y_lookup2 Tryz.underlying89 keyl_ad ty_47 rfl rfl (fun w hw => hw.sh _ (List.mem_of_getElem? (i := 0) rfl))) rfl rfl ?_
 refine wl_as (t := 11) (.tuple #[.agg (elC ((lkp m k).getD le0)).toArray, .bool (lkp m k).isSome]) rfl (by cases lkp m k <;> rfl) ?_
 refine o_y (y_move rfl) rfl rfl ?_
 refine o_y (y_extract rfl rfl) rfl rfl ?_
 refine o_y (y_extract rfl rfl) rfl rfl ?_
 refine o_alloc ty_47 rfl rfl (fun b3 => ?_)
 refine o_store ty_47 rfl rfl rfl .z rfl rfl rfl rfl ?_
 refine o_y (y_assign rfl) rfl rfl ?_
 refine wl_nil ?_
 refine e_seq ?_
 refine w_seq ?_
 refine w_region ?_
 refine o_y (y_loadrs 0 ty_47 rfl rfl rfl rfl) rfl rfl ?_
 refine o_y (y_move rfl) rfl rfl ?_
 refine o_store ty_47 rfl rfl rfl (.s (.z)) rfl rfl rfl rfl ?_
 refine o_y (y_assign rfl) rfl rfl ?_
 refine wl_nil ?_
 refine e_seq ?_
 refine w_ret ?_
 refine e_rsr (rs := [.cell 4 47, .tmp 5]) rfl (rs_cells 1 ty_47 rfl rfl rfl rfl (rs_tmp rfl rs_nil)) rfl (fun w hw => ?_)
 exact ⟨(), rfl, hw.base, (hw.weak (List.nil_sublist _) (fun s hs => hs)).toNews⟩

/-- The entry that is asked for, by its host. -/
def ownI (x : Ixd) (h : Str) : Option Le := if nameCk h ≠ 0 then none else lkp x.hm (foldN h)
def heldI (x : Ixd) (y : Le) : List Ad := (lkp x.dm (foldN y.e.host)).toList
/-- An entry's addresses. -/
def adsI (x : Ixd) (h : Str) : List Ad := match ownI x h with
  | none => []
  | some y => entAd y.e (heldI x y)
theorem adsI_bad {x : Ixd} {h : Str} (q : nameCk h ≠ 0) : adsI x h = [] := by rw [adsI, ownI, if_pos q]
theorem adsI_none {x : Ixd} {h : Str} (q : nameCk h = 0) (h2 : (lkp x.hm (foldN h)).isSome = false) : adsI x h = [] := by
  rw [adsI, ownI, if_neg (fun w => w q), none_of h2]
theorem some_getD {α : Type} {o : Option α} {d : α} (h : o.isSome = true) : o = some (o.getD d) := by cases o with
  | none => cases h
  | some q => rfl
theorem adsI_own {x : Ixd} {h : Str} (q : nameCk h = 0) (h2 : (lkp x.hm (foldN h)).isSome = true) : adsI x h = entAd ((lkp x.hm (foldN h)).getD le0).e (heldI x ((lkp x.hm (foldN h)).getD le0)) := by
  rw [adsI, ownI, if_neg (fun w => w q), some_getD (d := le0) h2]; rfl
theorem heldI_none {x : Ixd} {y : Le} (h : (lkp x.dm (foldN y.e.host)).isSome = false) : heldI x y = [] := by rw [heldI, none_of h]; rfl
theorem heldI_some {x : Ixd} {y : Le} (h : (lkp x.dm (foldN y.e.host)).isSome = true) : heldI x y = [(lkp x.dm (foldN y.e.host)).getD ad0] := by rw [heldI, some_getD (d := ad0) h]; rfl
theorem own_mem {l : List Le} {x : Ixd} (hx : IxOk l x) {key : Str} (h : (lkp x.hm key).isSome = true) : (lkp x.hm key).getD le0 ∈ x.l := (hm_some hx.hm h).1
theorem own_bnd {l : List Le} {x : Ixd} (hx : IxOk l x) (hok : TbOk l) {key : Str} (h : (lkp x.hm key).isSome = true) : EnB ((lkp x.hm key).getD le0).e := es_bnd hx.es hok (own_mem hx h)
theorem dm_mem {l : List Le} {hs : List Hd} {x : Ixd} (hx : IxOk2 l hs x) {key : Str} (h : (lkp x.dm key).isSome = true) : ∃ p ∈ hs, p.ad = (lkp x.dm key).getD ad0 := by
  rw [hx.dm key] at h ⊢
  cases hf : hs.find? fun h => decide (foldN h.host = key) with
  | none => rw [hf] at h; cases h
  | some z => exact ⟨z, List.mem_of_find?_eq_some hf, rfl⟩

theorem rd_none1 {w : World} {sz : Nat} {α : Type} {enc : α → List Value} : (Ch.rd none sz enc ([] : List α)).P w ∧ ∀ b, (Ch.rd none sz enc ([] : List α)).ok b → b < w.heap.size := ⟨⟨by simp [fl], (by simp [fl]), .inl rfl⟩, fun b hb => absurd hb.1 (by simp)⟩

set_option maxRecDepth 100000 in
set_option maxHeartbeats 1000000 in
theorem c_Addrs (x : Ixd) (l : List Le) (hs : List Hd) (y : Le) (hix : IxOk2 l hs x) (hok : TbOk l) (hhs : ∀ h ∈ hs, 0 ≤ h.ad.lo) : RC Tryz.prog 58 #[.pointer (some ⟨x.b, 0, none⟩), .agg (elC y).toArray] [Ch.row x.b (ixC x) 91, Ch.mp x.rh encN encE x.hm, Ch.mp x.rd encN encA x.dm, Ch.mp x.ra encA encE x.am, Ch.rall ((le0 :: x.l).flatMap elR)] (α := Option Addr × Nat) (fun p => .slice p.1 (adsI x y.e.host).length p.2) (fun p => [Ch.ls p.1 p.2 28 3 adC (adsI x y.e.host)]) := by
 refine rc_of_W (args := [.pointer (some ⟨x.b, 0, none⟩), .agg (elC y).toArray]) 48 Tryz.func58 rfl rfl rfl (fun w0 => ?_)
 refine w_seq ?_
 refine w_region ?_
 refine o_box rfl rfl rfl (fun b1 => ?_)
 refine o_y (y_assign rfl) rfl rfl ?_
 refine wl_nil ?_
 refine e_seq ?_
 refine w_seq ?_
 refine w_seq ?_
 refine w_region ?_
 refine o_y (y_move rfl) rfl rfl ?_
 refine o_y (y_eqp Tryz.underlying32 rfl rfl) rfl rfl ?_
 refine wl_as (t := 11) (.bool false) rfl (congrArg Value.bool rfl) ?_
 refine o_y (y_move rfl) rfl rfl ?_
 refine wl_gyes rfl rfl ?_
 refine o_y (y_field fa_47_0 rfl) rfl rfl ?_
 refine wl_gyes rfl rfl ?_
 refine o_y (y_loadr 0 ty_36 rfl rfl rfl) rfl rfl ?_
 refine wl_gyes rfl rfl ?_
 refine o_callp rfl ent_51 (c_name_Check _) rfl ?_
 refine wl_gyes rfl rfl ?_
 refine o_y (y_neq rfl rfl) rfl rfl ?_
 refine wl_splitp (t := 16) rfl (fun h1_6 => ?_) (fun h1_6 => ?_)
 refine o_y (y_pick_f rfl rfl) rfl rfl ?_
 refine wl_nil ?_
 refine e_seq ?_
 refine w_cond_t rfl ?_
 refine w_seq ?_
 refine w_region ?_
 refine o_y (y_assign rfl) rfl rfl ?_
 refine wl_nil ?_
 refine e_seq ?_
 refine w_ret ?_
 refine e_seq_ret ?_
 refine e_ret (ts := [4]) rfl rfl rfl (fun w hw => ?_)
 rw [adsI_bad h1_6]
 exact ⟨(none, 0), rfl, hw.base, ((hw.weak (List.nil_sublist _) (fun s hs => hs)).nilsl 28 3).toNews⟩
 have hn0 : nameCk y.e.host = 0 := by omega
 have hnl := (nameCk_zero.1 hn0).1
 refine o_y (y_pick_f rfl rfl) rfl rfl ?_
 refine wl_nil ?_
 refine e_seq ?_
 refine w_cond_f rfl ?_
 refine w_skip ?_
 refine e_seq ?_
 refine w_joinX (σ := Nat) (fun q => [(5, .pointer (some ⟨q, 0, none⟩)), (6, .bool (lkp x.hm (foldN y.e.host)).isSome)]) (fun q => [Ch.row q (elC ((lkp x.hm (foldN y.e.host)).getD le0)) 47]) (fun q => ?_) (fun J3 => ?_)
 refine w_seq ?_
 refine w_seq ?_
 refine w_region ?_
 refine o_y (y_move rfl) rfl rfl ?_
 refine wl_splitb (t := 28) rfl (fun h4_0 => ?_) (fun h4_0 => ?_)
 refine o_y (y_not rfl) rfl rfl ?_
 refine wl_nil ?_
 refine e_seq ?_
 refine w_cond_f rfl ?_
 refine w_skip ?_
 refine e_seq ?_
 refine w_seq ?_
 have hom := own_mem hix.ix h4_0
 have hob := own_bnd hix.ix hok h4_0
 refine w_region ?_
 refine o_y (y_assign rfl) rfl rfl ?_
 refine wl_nil ?_
 refine e_seq ?_
 refine w_seq ?_
 refine w_joinX (σ := Nat) (fun qa => [(8, .pointer (some ⟨qa, 0, none⟩)), (9, .bool (lkp x.dm (foldN ((lkp x.hm (foldN y.e.host)).getD le0).e.host)).isSome)]) (fun qa => [Ch.row qa (adC ((lkp x.dm (foldN ((lkp x.hm (foldN y.e.host)).getD le0).e.host)).getD ad0)) 28]) (fun qa => ?_) (fun J7 => ?_)
 refine w_seq ?_
 refine w_region ?_
 refine o_y (y_move rfl) rfl rfl ?_
 refine wl_splitb (t := 40) rfl (fun h8_0 => ?_) (fun h8_0 => ?_)
 refine wl_nil ?_
 refine e_seq ?_
 refine w_cond_t rfl ?_
 have hhd : ∀ a ∈ [((lkp x.dm (foldN ((lkp x.hm (foldN y.e.host)).getD le0).e.host)).getD ad0)], 0 ≤ a.lo := fun a ha => by
   obtain ⟨p, hp, e⟩ := dm_mem hix h8_0
   rw [List.mem_singleton] at ha; rw [ha, ← e]; exact hhs p hp
 refine w_region ?_
 refine o_y (y_move rfl) rfl rfl ?_
 refine o_y (y_loadrs 0 ty_28 rfl rfl rfl rfl) rfl rfl ?_
 refine o_bsl (vs := [_]) ([((lkp x.dm (foldN ((lkp x.hm (foldN y.e.host)).getD le0).e.host)).getD ad0)] : List (Ad)) enc_ad Tryz.underlying43 ty_28 rfl rfl rfl rfl rfl rfl (fun As2 => ?_)
 refine wl_heap (fun w h => h.nilsl 28 3) ?_
 refine o_appm (xs := ([] : List (Ad))) (enc := adC) (sz := 3) [((lkp x.dm (foldN ((lkp x.hm (foldN y.e.host)).getD le0).e.host)).getD ad0)] Tryz.underlying43 ty_28 rfl rfl rfl (fun A c => .z) (src_L 1 Tryz.underlying43 rfl) (by simp only [List.length_cons, List.length_nil, Nat.zero_add]; omega) (by simp only [List.length_cons, List.length_nil, Nat.zero_add]; omega) rfl (fun A3 c3 => ?_)
 refine o_y (y_assign rfl) rfl rfl ?_
 refine wl_nil ?_
 refine e_seq ?_
 refine w_seq ?_
 refine w_region ?_
 refine o_y (y_loadrs 3 ty_47 rfl rfl rfl rfl) rfl rfl ?_
 refine o_y (y_move rfl) rfl rfl ?_
 refine o_callr1 rfl ent_104 rfl (c_entry_Addrs ((lkp x.hm (foldN y.e.host)).getD le0).e ((lkp x.hm (foldN y.e.host)).getD le0).A ((lkp x.hm (foldN y.e.host)).getD le0).B ((lkp x.hm (foldN y.e.host)).getD le0).c ((lkp x.hm (foldN y.e.host)).getD le0).d _ _ [((lkp x.dm (foldN ((lkp x.hm (foldN y.e.host)).getD le0).e.host)).getD ad0)] hhd (by simp) hob.wa (by have := hob.la; omega) (by have := hob.lp; omega) hob.k) (fun w hw => (rd_cons (rd_all (rd_S 4 rfl hw) (mem_flatR (.tail _ hom) _ (elRA _))) (rd_cons (rd_all (rd_S 4 rfl hw) (mem_flatR (.tail _ hom) _ (elRB _))) (rd_cons (rd_Ls 0 rfl hw) rd_nil)))) (fun ⟨A4, c4⟩ => ?_)
 refine o_y (y_assign rfl) rfl rfl ?_
 refine wl_nil ?_
 refine e_seq ?_
 refine w_ret ?_
 refine e_ret (ts := [4]) rfl rfl rfl (fun w hw => ?_)
 have hE : adsI x y.e.host = entAd ((lkp x.hm (foldN y.e.host)).getD le0).e [((lkp x.dm (foldN ((lkp x.hm (foldN y.e.host)).getD le0).e.host)).getD ad0)] := by rw [adsI_own hn0 h4_0, heldI_some h8_0]
 rw [hE]
 exact ⟨(A4, c4), rfl, hw.base, (hw.weak (.cons_cons _ (List.nil_sublist _)) (fun s hs => hs)).toNews⟩
 refine wl_nil ?_
 refine e_seq ?_
 refine w_cond_f rfl ?_
 refine w_skip ?_
 refine e_seq ?_
 refine w_seq ?_
 refine w_region ?_
 refine o_y (y_loadrs 1 ty_47 rfl rfl rfl rfl) rfl rfl ?_
 refine o_y (y_move rfl) rfl rfl ?_
 refine o_callr1 rfl ent_104 rfl (c_entry_Addrs ((lkp x.hm (foldN y.e.host)).getD le0).e ((lkp x.hm (foldN y.e.host)).getD le0).A ((lkp x.hm (foldN y.e.host)).getD le0).B ((lkp x.hm (foldN y.e.host)).getD le0).c ((lkp x.hm (foldN y.e.host)).getD le0).d _ _ [] (by simp) (by simp) hob.wa (by have := hob.la; omega) (by have := hob.lp; omega) hob.k) (fun w hw => (rd_cons (rd_all (rd_S 4 rfl hw) (mem_flatR (.tail _ hom) _ (elRA _))) (rd_cons (rd_all (rd_S 4 rfl hw) (mem_flatR (.tail _ hom) _ (elRB _))) (rd_cons (rd_none1) rd_nil)))) (fun ⟨A5, c5⟩ => ?_)
 refine o_y (y_assign rfl) rfl rfl ?_
 refine wl_nil ?_
 refine e_seq ?_
 refine w_ret ?_
 refine e_ret (ts := [4]) rfl rfl rfl (fun w hw => ?_)
 have hE : adsI x y.e.host = entAd ((lkp x.hm (foldN y.e.host)).getD le0).e [] := by rw [adsI_own hn0 h4_0, heldI_none h8_0]
 rw [hE]
 exact ⟨(A5, c5), rfl, hw.base, (hw.weak (.cons_cons _ (List.nil_sublist _)) (fun s hs => hs)).toNews⟩
 refine w_seq ?_
 refine w_drawU 11 rfl mixed ?_
 refine u_take (i := 0) rfl wanted_none (y_move rfl) (fun w h => h) (fun w h => h) rfl (pk_seq (pk_seq pk_fn)) (by kernel_rfl) rfl ?_
 refine u_take (i := 1) rfl wanted_none (y_nilCheck rfl) (fun w h => h) (fun w h => h) rfl (pk_seq (pk_seq pk_fn)) (by kernel_rfl) rfl ?_
 refine u_take (i := 2) rfl wanted_none (y_field fa_91_2 rfl) (fun w h => h) (fun w h => h) rfl (pk_seq (pk_seq pk_fn)) (by kernel_rfl) rfl ?_
 refine u_take (i := 3) rfl wanted_none (y_loadSo 0 ty_87 rfl rfl rfl) (fun w h => h) (fun w h => h) rfl (pk_seq (pk_seq pk_fn)) (by kernel_rfl) rfl ?_
 refine u_take (i := 4) rfl wanted_none (y_loadrs 0 ty_47 rfl rfl rfl rfl) (fun w h => h) (fun w h => h) rfl (pk_seq (pk_seq pk_fn)) (by kernel_rfl) rfl ?_
 refine u_many (js := [5, 10]) (by kernel_rfl) rfl ?_
 refine wru_cons (i := 5) rfl rfl rfl (tame_call rfl ent_48) rfl ?_ ?_
 refine o_callp rfl ent_48 (c_entry_Key ((lkp x.hm (foldN y.e.host)).getD le0).e _ _ _ _ (by have := hob.h; omega)) rfl ?_
 refine wl_nil ?_
 refine eu_one (fun w h => h) ?_
 refine u_many (js := [6, 10]) (by kernel_rfl) rfl ?_
 refine wru_cons (i := 6) rfl rfl rfl (tame_call rfl ent_103) rfl ?_ ?_
 refine o_callq rfl ent_103 rfl (c_ask_d _ _ _) (fun w hw => (rd_cons (rd_S 2 rfl hw) rd_nil)) ?_
 refine wl_nil ?_
 refine eu_one (fun w h => h) ?_
 refine u_take (i := 7) rfl wanted_none (y_move rfl) (fun w h => h) (fun w h => h) rfl (pk_seq (pk_seq pk_fn)) (by kernel_rfl) rfl ?_
 refine u_take (i := 8) rfl wanted_none (y_extract rfl rfl) (fun w h => h) (fun w h => h) rfl (pk_seq (pk_seq pk_fn)) (by kernel_rfl) rfl ?_
 refine u_many (js := [9, 10]) (by kernel_rfl) rfl ?_
 refine wru_cons (i := 9) rfl rfl rfl (fun _ _ _ => tame_op (by kernel_rfl)) rfl ?_ ?_
 refine o_y (y_extract rfl rfl) rfl rfl ?_
 refine wl_nil ?_
 refine eu_one (fun w h => h) ?_
 refine u_one (i := 10) rfl rfl rfl (fun _ _ _ => tame_op (by kernel_rfl)) (by kernel_rfl) rfl ?_
 refine o_alloc ty_28 rfl rfl (fun b7 => ?_)
 refine wl_nil ?_
 refine eu_one (fun w h => h.weak (.cons _ (List.Sublist.refl _)) (fun s hs => hs)) ?_
 refine u_one (i := 11) rfl rfl rfl (fun _ _ _ => tame_op (by kernel_rfl)) (by kernel_rfl) rfl ?_
 refine o_store ty_28 rfl rfl rfl .z rfl rfl rfl rfl ?_
 refine wl_nil ?_
 refine eu_tail rfl ?_
 refine u_one (i := 12) rfl rfl rfl (fun _ _ _ => tame_op (by kernel_rfl)) (by kernel_rfl) rfl ?_
 refine o_y (y_assign rfl) rfl rfl ?_
 refine wl_nil ?_
 refine eu_tail rfl ?_
 refine u_done (by kernel_rfl) ?_
 refine e_seq ?_
 refine w_heap (fun w h => h.weak (.cons_cons _ (List.Sublist.refl _)) (fun s hs => hs)) ?_
 exact J7 b7 _ (by repeat (first | exact trivial | refine ⟨rfl, ?_⟩))
 refine wru_cons (i := 10) rfl rfl rfl (fun _ _ _ => tame_op (by kernel_rfl)) rfl ?_ ?_
 refine o_alloc ty_28 rfl rfl (fun b8 => ?_)
 refine wl_nil ?_
 refine eu_one (fun w h => h.weak (.cons _ (List.Sublist.refl _)) (fun s hs => hs)) ?_
 refine u_many (js := [9, 11]) (by kernel_rfl) rfl ?_
 refine wru_cons (i := 9) rfl rfl rfl (fun _ _ _ => tame_op (by kernel_rfl)) rfl ?_ ?_
 refine o_y (y_extract rfl rfl) rfl rfl ?_
 refine wl_nil ?_
 refine eu_one (fun w h => h.weak (.cons _ (List.Sublist.refl _)) (fun s hs => hs)) ?_
 refine u_one (i := 11) rfl rfl rfl (fun _ _ _ => tame_op (by kernel_rfl)) (by kernel_rfl) rfl ?_
 refine o_store ty_28 rfl rfl rfl .z rfl rfl rfl rfl ?_
 refine wl_nil ?_
 refine eu_tail rfl ?_
 refine u_one (i := 12) rfl rfl rfl (fun _ _ _ => tame_op (by kernel_rfl)) (by kernel_rfl) rfl ?_
 refine o_y (y_assign rfl) rfl rfl ?_
 refine wl_nil ?_
 refine eu_tail rfl ?_
 refine u_done (by kernel_rfl) ?_
 refine e_seq ?_
 refine w_heap (fun w h => h.weak (.cons_cons _ (List.Sublist.refl _)) (fun s hs => hs)) ?_
 exact J7 b8 _ (by repeat (first | exact trivial | refine ⟨rfl, ?_⟩))
 refine wru_cons (i := 11) rfl rfl rfl (fun _ _ _ => tame_op (by kernel_rfl)) rfl ?_ ?_
 refine o_store ty_28 rfl rfl rfl .z rfl rfl rfl rfl ?_
 refine wl_nil ?_
 refine eu_tail rfl ?_
 refine u_one (i := 9) rfl rfl rfl (fun _ _ _ => tame_op (by kernel_rfl)) (by kernel_rfl) rfl ?_
 refine o_y (y_extract rfl rfl) rfl rfl ?_
 refine wl_nil ?_
 refine eu_tail rfl ?_
 refine u_one (i := 12) rfl rfl rfl (fun _ _ _ => tame_op (by kernel_rfl)) (by kernel_rfl) rfl ?_
 refine o_y (y_assign rfl) rfl rfl ?_
 refine wl_nil ?_
 refine eu_tail rfl ?_
 refine u_done (by kernel_rfl) ?_
 refine e_seq ?_
 refine w_heap (fun w h => h.weak (.cons_cons _ (List.Sublist.refl _)) (fun s hs => hs)) ?_
 exact J7 b8 _ (by repeat (first | exact trivial | refine ⟨rfl, ?_⟩))
 exact wru_nil
 exact wru_nil
 refine wru_cons (i := 10) rfl rfl rfl (fun _ _ _ => tame_op (by kernel_rfl)) rfl ?_ ?_
 refine o_alloc ty_28 rfl rfl (fun b9 => ?_)
 refine wl_nil ?_
 refine eu_one (fun w h => h.weak (.cons _ (List.Sublist.refl _)) (fun s hs => hs)) ?_
 refine u_one (i := 6) rfl rfl rfl (tame_call rfl ent_103) (by kernel_rfl) rfl ?_
 refine o_callq rfl ent_103 rfl (c_ask_d _ _ _) (fun w hw => (rd_cons (rd_S 2 rfl hw) rd_nil)) ?_
 refine wl_nil ?_
 refine eu_one (fun w h => h.weak (.cons _ (List.Sublist.refl _)) (fun s hs => hs)) ?_
 refine u_take (i := 7) rfl wanted_none (y_move rfl) (fun w h => h.weak (.cons _ (List.Sublist.refl _)) (fun s hs => hs)) (fun w h => h) rfl (pk_seq (pk_seq pk_fn)) (by kernel_rfl) rfl ?_
 refine u_take (i := 8) rfl wanted_none (y_extract rfl rfl) (fun w h => h.weak (.cons _ (List.Sublist.refl _)) (fun s hs => hs)) (fun w h => h) rfl (pk_seq (pk_seq pk_fn)) (by kernel_rfl) rfl ?_
 refine u_many (js := [9, 11]) (by kernel_rfl) rfl ?_
 refine wru_cons (i := 9) rfl rfl rfl (fun _ _ _ => tame_op (by kernel_rfl)) rfl ?_ ?_
 refine o_y (y_extract rfl rfl) rfl rfl ?_
 refine wl_nil ?_
 refine eu_one (fun w h => h.weak (.cons _ (List.Sublist.refl _)) (fun s hs => hs)) ?_
 refine u_one (i := 11) rfl rfl rfl (fun _ _ _ => tame_op (by kernel_rfl)) (by kernel_rfl) rfl ?_
 refine o_store ty_28 rfl rfl rfl .z rfl rfl rfl rfl ?_
 refine wl_nil ?_
 refine eu_tail rfl ?_
 refine u_one (i := 12) rfl rfl rfl (fun _ _ _ => tame_op (by kernel_rfl)) (by kernel_rfl) rfl ?_
 refine o_y (y_assign rfl) rfl rfl ?_
 refine wl_nil ?_
 refine eu_tail rfl ?_
 refine u_done (by kernel_rfl) ?_
 refine e_seq ?_
 refine w_heap (fun w h => h.weak (.cons_cons _ (List.Sublist.refl _)) (fun s hs => hs)) ?_
 exact J7 b9 _ (by repeat (first | exact trivial | refine ⟨rfl, ?_⟩))
 refine wru_cons (i := 11) rfl rfl rfl (fun _ _ _ => tame_op (by kernel_rfl)) rfl ?_ ?_
 refine o_store ty_28 rfl rfl rfl .z rfl rfl rfl rfl ?_
 refine wl_nil ?_
 refine eu_tail rfl ?_
 refine u_one (i := 9) rfl rfl rfl (fun _ _ _ => tame_op (by kernel_rfl)) (by kernel_rfl) rfl ?_
 refine o_y (y_extract rfl rfl) rfl rfl ?_
 refine wl_nil ?_
 refine eu_tail rfl ?_
 refine u_one (i := 12) rfl rfl rfl (fun _ _ _ => tame_op (by kernel_rfl)) (by kernel_rfl) rfl ?_
 refine o_y (y_assign rfl) rfl rfl ?_
 refine wl_nil ?_
 refine eu_tail rfl ?_
 refine u_done (by kernel_rfl) ?_
 refine e_seq ?_
 refine w_heap (fun w h => h.weak (.cons_cons _ (List.Sublist.refl _)) (fun s hs => hs)) ?_
 exact J7 b9 _ (by repeat (first | exact trivial | refine ⟨rfl, ?_⟩))
 exact wru_nil
 exact wru_nil
 refine wru_cons (i := 10) rfl rfl rfl (fun _ _ _ => tame_op (by kernel_rfl)) rfl ?_ ?_
 refine o_alloc ty_28 rfl rfl (fun b10 => ?_)
 refine wl_nil ?_
 refine eu_one (fun w h => h.weak (.cons _ (List.Sublist.refl _)) (fun s hs => hs)) ?_
 refine u_one (i := 5) rfl rfl rfl (tame_call rfl ent_48) (by kernel_rfl) rfl ?_
 refine o_callp rfl ent_48 (c_entry_Key ((lkp x.hm (foldN y.e.host)).getD le0).e _ _ _ _ (by have := hob.h; omega)) rfl ?_
 refine wl_nil ?_
 refine eu_one (fun w h => h.weak (.cons _ (List.Sublist.refl _)) (fun s hs => hs)) ?_
 refine u_one (i := 6) rfl rfl rfl (tame_call rfl ent_103) (by kernel_rfl) rfl ?_
 refine o_callq rfl ent_103 rfl (c_ask_d _ _ _) (fun w hw => (rd_cons (rd_S 2 rfl hw) rd_nil)) ?_
 refine wl_nil ?_
 refine eu_one (fun w h => h.weak (.cons _ (List.Sublist.refl _)) (fun s hs => hs)) ?_
 refine u_take (i := 7) rfl wanted_none (y_move rfl) (fun w h => h.weak (.cons _ (List.Sublist.refl _)) (fun s hs => hs)) (fun w h => h) rfl (pk_seq (pk_seq pk_fn)) (by kernel_rfl) rfl ?_
 refine u_take (i := 8) rfl wanted_none (y_extract rfl rfl) (fun w h => h.weak (.cons _ (List.Sublist.refl _)) (fun s hs => hs)) (fun w h => h) rfl (pk_seq (pk_seq pk_fn)) (by kernel_rfl) rfl ?_
 refine u_many (js := [9, 11]) (by kernel_rfl) rfl ?_
 refine wru_cons (i := 9) rfl rfl rfl (fun _ _ _ => tame_op (by kernel_rfl)) rfl ?_ ?_
 refine o_y (y_extract rfl rfl) rfl rfl ?_
 refine wl_nil ?_
 refine eu_one (fun w h => h.weak (.cons _ (List.Sublist.refl _)) (fun s hs => hs)) ?_
 refine u_one (i := 11) rfl rfl rfl (fun _ _ _ => tame_op (by kernel_rfl)) (by kernel_rfl) rfl ?_
 refine o_store ty_28 rfl rfl rfl .z rfl rfl rfl rfl ?_
 refine wl_nil ?_
 refine eu_tail rfl ?_
 refine u_one (i := 12) rfl rfl rfl (fun _ _ _ => tame_op (by kernel_rfl)) (by kernel_rfl) rfl ?_
 refine o_y (y_assign rfl) rfl rfl ?_
 refine wl_nil ?_
 refine eu_tail rfl ?_
 refine u_done (by kernel_rfl) ?_
 refine e_seq ?_
 refine w_heap (fun w h => h.weak (.cons_cons _ (List.Sublist.refl _)) (fun s hs => hs)) ?_
 exact J7 b10 _ (by repeat (first | exact trivial | refine ⟨rfl, ?_⟩))
 refine wru_cons (i := 11) rfl rfl rfl (fun _ _ _ => tame_op (by kernel_rfl)) rfl ?_ ?_
 refine o_store ty_28 rfl rfl rfl .z rfl rfl rfl rfl ?_
 refine wl_nil ?_
 refine eu_tail rfl ?_
 refine u_one (i := 9) rfl rfl rfl (fun _ _ _ => tame_op (by kernel_rfl)) (by kernel_rfl) rfl ?_
 refine o_y (y_extract rfl rfl) rfl rfl ?_
 refine wl_nil ?_
 refine eu_tail rfl ?_
 refine u_one (i := 12) rfl rfl rfl (fun _ _ _ => tame_op (by kernel_rfl)) (by kernel_rfl) rfl ?_
 refine o_y (y_assign rfl) rfl rfl ?_
 refine wl_nil ?_
 refine eu_tail rfl ?_
 refine u_done (by kernel_rfl) ?_
 refine e_seq ?_
 refine w_heap (fun w h => h.weak (.cons_cons _ (List.Sublist.refl _)) (fun s hs => hs)) ?_
 exact J7 b10 _ (by repeat (first | exact trivial | refine ⟨rfl, ?_⟩))
 exact wru_nil
 exact wru_nil
 refine o_y (y_not rfl) rfl rfl ?_
 refine wl_nil ?_
 refine e_seq ?_
 refine w_cond_t rfl ?_
 refine w_seq ?_
 refine w_region ?_
 refine o_y (y_assign rfl) rfl rfl ?_
 refine wl_nil ?_
 refine e_seq ?_
 refine w_ret ?_
 refine e_seq_ret ?_
 refine e_ret (ts := [4]) rfl rfl rfl (fun w hw => ?_)
 rw [adsI_none hn0 h4_0]
 exact ⟨(none, 0), rfl, hw.base, ((hw.weak (List.nil_sublist _) (fun s hs => hs)).nilsl 28 3).toNews⟩
 refine w_seq ?_
 refine w_drawU 11 rfl mixed ?_
 refine u_take (i := 0) rfl wanted_none (y_move rfl) (fun w h => h) (fun w h => h) rfl (pk_seq pk_fn) (by kernel_rfl) rfl ?_
 refine u_take (i := 1) rfl wanted_none (y_nilCheck rfl) (fun w h => h) (fun w h => h) rfl (pk_seq pk_fn) (by kernel_rfl) rfl ?_
 refine u_take (i := 2) rfl wanted_none (y_field fa_91_1 rfl) (fun w h => h) (fun w h => h) rfl (pk_seq pk_fn) (by kernel_rfl) rfl ?_
 refine u_take (i := 3) rfl wanted_none (y_loadSo 0 ty_85 rfl rfl rfl) (fun w h => h) (fun w h => h) rfl (pk_seq pk_fn) (by kernel_rfl) rfl ?_
 refine u_take (i := 4) rfl wanted_none (y_loadrs 0 ty_47 rfl rfl rfl rfl) (fun w h => h) (fun w h => h) rfl (pk_seq pk_fn) (by kernel_rfl) rfl ?_
 refine u_many (js := [5, 10]) (by kernel_rfl) rfl ?_
 refine wru_cons (i := 5) rfl rfl rfl (tame_call rfl ent_48) rfl ?_ ?_
 refine o_callp rfl ent_48 (c_entry_Key _ _ _ _ _ (by omega)) rfl ?_
 refine wl_nil ?_
 refine eu_one (fun w h => h) ?_
 refine u_many (js := [6, 10]) (by kernel_rfl) rfl ?_
 refine wru_cons (i := 6) rfl rfl rfl (tame_call rfl ent_49) rfl ?_ ?_
 refine o_callq rfl ent_49 rfl (c_ask_h _ _ _) (fun w hw => (rd_cons (rd_S 1 rfl hw) rd_nil)) ?_
 refine wl_nil ?_
 refine eu_one (fun w h => h) ?_
 refine u_take (i := 7) rfl wanted_none (y_move rfl) (fun w h => h) (fun w h => h) rfl (pk_seq pk_fn) (by kernel_rfl) rfl ?_
 refine u_take (i := 8) rfl wanted_none (y_extract rfl rfl) (fun w h => h) (fun w h => h) rfl (pk_seq pk_fn) (by kernel_rfl) rfl ?_
 refine u_many (js := [9, 10]) (by kernel_rfl) rfl ?_
 refine wru_cons (i := 9) rfl rfl rfl (fun _ _ _ => tame_op (by kernel_rfl)) rfl ?_ ?_
 refine o_y (y_extract rfl rfl) rfl rfl ?_
 refine wl_nil ?_
 refine eu_one (fun w h => h) ?_
 refine u_one (i := 10) rfl rfl rfl (fun _ _ _ => tame_op (by kernel_rfl)) (by kernel_rfl) rfl ?_
 refine o_alloc ty_47 rfl rfl (fun b11 => ?_)
 refine wl_nil ?_
 refine eu_one (fun w h => h.weak (.cons _ (List.Sublist.refl _)) (fun s hs => hs)) ?_
 refine u_one (i := 11) rfl rfl rfl (fun _ _ _ => tame_op (by kernel_rfl)) (by kernel_rfl) rfl ?_
 refine o_store ty_47 rfl rfl rfl .z rfl rfl rfl rfl ?_
 refine wl_nil ?_
 refine eu_tail rfl ?_
 refine u_one (i := 12) rfl rfl rfl (fun _ _ _ => tame_op (by kernel_rfl)) (by kernel_rfl) rfl ?_
 refine o_y (y_assign rfl) rfl rfl ?_
 refine wl_nil ?_
 refine eu_tail rfl ?_
 refine u_done (by kernel_rfl) ?_
 refine e_seq ?_
 refine w_heap (fun w h => h.weak (.cons_cons _ (List.Sublist.refl _)) (fun s hs => hs)) ?_
 exact J3 b11 _ (by repeat (first | exact trivial | refine ⟨rfl, ?_⟩))
 refine wru_cons (i := 10) rfl rfl rfl (fun _ _ _ => tame_op (by kernel_rfl)) rfl ?_ ?_
 refine o_alloc ty_47 rfl rfl (fun b12 => ?_)
 refine wl_nil ?_
 refine eu_one (fun w h => h.weak (.cons _ (List.Sublist.refl _)) (fun s hs => hs)) ?_
 refine u_many (js := [9, 11]) (by kernel_rfl) rfl ?_
 refine wru_cons (i := 9) rfl rfl rfl (fun _ _ _ => tame_op (by kernel_rfl)) rfl ?_ ?_
 refine o_y (y_extract rfl rfl) rfl rfl ?_
 refine wl_nil ?_
 refine eu_one (fun w h => h.weak (.cons _ (List.Sublist.refl _)) (fun s hs => hs)) ?_
 refine u_one (i := 11) rfl rfl rfl (fun _ _ _ => tame_op (by kernel_rfl)) (by kernel_rfl) rfl ?_
 refine o_store ty_47 rfl rfl rfl .z rfl rfl rfl rfl ?_
 refine wl_nil ?_
 refine eu_tail rfl ?_
 refine u_one (i := 12) rfl rfl rfl (fun _ _ _ => tame_op (by kernel_rfl)) (by kernel_rfl) rfl ?_
 refine o_y (y_assign rfl) rfl rfl ?_
 refine wl_nil ?_
 refine eu_tail rfl ?_
 refine u_done (by kernel_rfl) ?_
 refine e_seq ?_
 refine w_heap (fun w h => h.weak (.cons_cons _ (List.Sublist.refl _)) (fun s hs => hs)) ?_
 exact J3 b12 _ (by repeat (first | exact trivial | refine ⟨rfl, ?_⟩))
 refine wru_cons (i := 11) rfl rfl rfl (fun _ _ _ => tame_op (by kernel_rfl)) rfl ?_ ?_
 refine o_store ty_47 rfl rfl rfl .z rfl rfl rfl rfl ?_
 refine wl_nil ?_
 refine eu_tail rfl ?_
 refine u_one (i := 9) rfl rfl rfl (fun _ _ _ => tame_op (by kernel_rfl)) (by kernel_rfl) rfl ?_
 refine o_y (y_extract rfl rfl) rfl rfl ?_
 refine wl_nil ?_
 refine eu_tail rfl ?_
 refine u_one (i := 12) rfl rfl rfl (fun _ _ _ => tame_op (by kernel_rfl)) (by kernel_rfl) rfl ?_
 refine o_y (y_assign rfl) rfl rfl ?_
 refine wl_nil ?_
 refine eu_tail rfl ?_
 refine u_done (by kernel_rfl) ?_
 refine e_seq ?_
 refine w_heap (fun w h => h.weak (.cons_cons _ (List.Sublist.refl _)) (fun s hs => hs)) ?_
 exact J3 b12 _ (by repeat (first | exact trivial | refine ⟨rfl, ?_⟩))
 exact wru_nil
 exact wru_nil
 refine wru_cons (i := 10) rfl rfl rfl (fun _ _ _ => tame_op (by kernel_rfl)) rfl ?_ ?_
 refine o_alloc ty_47 rfl rfl (fun b13 => ?_)
 refine wl_nil ?_
 refine eu_one (fun w h => h.weak (.cons _ (List.Sublist.refl _)) (fun s hs => hs)) ?_
 refine u_one (i := 6) rfl rfl rfl (tame_call rfl ent_49) (by kernel_rfl) rfl ?_
 refine o_callq rfl ent_49 rfl (c_ask_h _ _ _) (fun w hw => (rd_cons (rd_S 1 rfl hw) rd_nil)) ?_
 refine wl_nil ?_
 refine eu_one (fun w h => h.weak (.cons _ (List.Sublist.refl _)) (fun s hs => hs)) ?_
 refine u_take (i := 7) rfl wanted_none (y_move rfl) (fun w h => h.weak (.cons _ (List.Sublist.refl _)) (fun s hs => hs)) (fun w h => h) rfl (pk_seq pk_fn) (by kernel_rfl) rfl ?_
 refine u_take (i := 8) rfl wanted_none (y_extract rfl rfl) (fun w h => h.weak (.cons _ (List.Sublist.refl _)) (fun s hs => hs)) (fun w h => h) rfl (pk_seq pk_fn) (by kernel_rfl) rfl ?_
 refine u_many (js := [9, 11]) (by kernel_rfl) rfl ?_
 refine wru_cons (i := 9) rfl rfl rfl (fun _ _ _ => tame_op (by kernel_rfl)) rfl ?_ ?_
 refine o_y (y_extract rfl rfl) rfl rfl ?_
 refine wl_nil ?_
 refine eu_one (fun w h => h.weak (.cons _ (List.Sublist.refl _)) (fun s hs => hs)) ?_
 refine u_one (i := 11) rfl rfl rfl (fun _ _ _ => tame_op (by kernel_rfl)) (by kernel_rfl) rfl ?_
 refine o_store ty_47 rfl rfl rfl .z rfl rfl rfl rfl ?_
 refine wl_nil ?_
 refine eu_tail rfl ?_
 refine u_one (i := 12) rfl rfl rfl (fun _ _ _ => tame_op (by kernel_rfl)) (by kernel_rfl) rfl ?_
 refine o_y (y_assign rfl) rfl rfl ?_
 refine wl_nil ?_
 refine eu_tail rfl ?_
 refine u_done (by kernel_rfl) ?_
 refine e_seq ?_
 refine w_heap (fun w h => h.weak (.cons_cons _ (List.Sublist.refl _)) (fun s hs => hs)) ?_
 exact J3 b13 _ (by repeat (first | exact trivial | refine ⟨rfl, ?_⟩))
 refine wru_cons (i := 11) rfl rfl rfl (fun _ _ _ => tame_op (by kernel_rfl)) rfl ?_ ?_
 refine o_store ty_47 rfl rfl rfl .z rfl rfl rfl rfl ?_
 refine wl_nil ?_
 refine eu_tail rfl ?_
 refine u_one (i := 9) rfl rfl rfl (fun _ _ _ => tame_op (by kernel_rfl)) (by kernel_rfl) rfl ?_
 refine o_y (y_extract rfl rfl) rfl rfl ?_
 refine wl_nil ?_
 refine eu_tail rfl ?_
 refine u_one (i := 12) rfl rfl rfl (fun _ _ _ => tame_op (by kernel_rfl)) (by kernel_rfl) rfl ?_
 refine o_y (y_assign rfl) rfl rfl ?_
 refine wl_nil ?_
 refine eu_tail rfl ?_
 refine u_done (by kernel_rfl) ?_
 refine e_seq ?_
 refine w_heap (fun w h => h.weak (.cons_cons _ (List.Sublist.refl _)) (fun s hs => hs)) ?_
 exact J3 b13 _ (by repeat (first | exact trivial | refine ⟨rfl, ?_⟩))
 exact wru_nil
 exact wru_nil
 refine wru_cons (i := 10) rfl rfl rfl (fun _ _ _ => tame_op (by kernel_rfl)) rfl ?_ ?_
 refine o_alloc ty_47 rfl rfl (fun b14 => ?_)
 refine wl_nil ?_
 refine eu_one (fun w h => h.weak (.cons _ (List.Sublist.refl _)) (fun s hs => hs)) ?_
 refine u_one (i := 5) rfl rfl rfl (tame_call rfl ent_48) (by kernel_rfl) rfl ?_
 refine o_callp rfl ent_48 (c_entry_Key _ _ _ _ _ (by omega)) rfl ?_
 refine wl_nil ?_
 refine eu_one (fun w h => h.weak (.cons _ (List.Sublist.refl _)) (fun s hs => hs)) ?_
 refine u_one (i := 6) rfl rfl rfl (tame_call rfl ent_49) (by kernel_rfl) rfl ?_
 refine o_callq rfl ent_49 rfl (c_ask_h _ _ _) (fun w hw => (rd_cons (rd_S 1 rfl hw) rd_nil)) ?_
 refine wl_nil ?_
 refine eu_one (fun w h => h.weak (.cons _ (List.Sublist.refl _)) (fun s hs => hs)) ?_
 refine u_take (i := 7) rfl wanted_none (y_move rfl) (fun w h => h.weak (.cons _ (List.Sublist.refl _)) (fun s hs => hs)) (fun w h => h) rfl (pk_seq pk_fn) (by kernel_rfl) rfl ?_
 refine u_take (i := 8) rfl wanted_none (y_extract rfl rfl) (fun w h => h.weak (.cons _ (List.Sublist.refl _)) (fun s hs => hs)) (fun w h => h) rfl (pk_seq pk_fn) (by kernel_rfl) rfl ?_
 refine u_many (js := [9, 11]) (by kernel_rfl) rfl ?_
 refine wru_cons (i := 9) rfl rfl rfl (fun _ _ _ => tame_op (by kernel_rfl)) rfl ?_ ?_
 refine o_y (y_extract rfl rfl) rfl rfl ?_
 refine wl_nil ?_
 refine eu_one (fun w h => h.weak (.cons _ (List.Sublist.refl _)) (fun s hs => hs)) ?_
 refine u_one (i := 11) rfl rfl rfl (fun _ _ _ => tame_op (by kernel_rfl)) (by kernel_rfl) rfl ?_
 refine o_store ty_47 rfl rfl rfl .z rfl rfl rfl rfl ?_
 refine wl_nil ?_
 refine eu_tail rfl ?_
 refine u_one (i := 12) rfl rfl rfl (fun _ _ _ => tame_op (by kernel_rfl)) (by kernel_rfl) rfl ?_
 refine o_y (y_assign rfl) rfl rfl ?_
 refine wl_nil ?_
 refine eu_tail rfl ?_
 refine u_done (by kernel_rfl) ?_
 refine e_seq ?_
 refine w_heap (fun w h => h.weak (.cons_cons _ (List.Sublist.refl _)) (fun s hs => hs)) ?_
 exact J3 b14 _ (by repeat (first | exact trivial | refine ⟨rfl, ?_⟩))
 refine wru_cons (i := 11) rfl rfl rfl (fun _ _ _ => tame_op (by kernel_rfl)) rfl ?_ ?_
 refine o_store ty_47 rfl rfl rfl .z rfl rfl rfl rfl ?_
 refine wl_nil ?_
 refine eu_tail rfl ?_
 refine u_one (i := 9) rfl rfl rfl (fun _ _ _ => tame_op (by kernel_rfl)) (by kernel_rfl) rfl ?_
 refine o_y (y_extract rfl rfl) rfl rfl ?_
 refine wl_nil ?_
 refine eu_tail rfl ?_
 refine u_one (i := 12) rfl rfl rfl (fun _ _ _ => tame_op (by kernel_rfl)) (by kernel_rfl) rfl ?_
 refine o_y (y_assign rfl) rfl rfl ?_
 refine wl_nil ?_
 refine eu_tail rfl ?_
 refine u_done (by kernel_rfl) ?_
 refine e_seq ?_
 refine w_heap (fun w h => h.weak (.cons_cons _ (List.Sublist.refl _)) (fun s hs => hs)) ?_
 exact J3 b14 _ (by repeat (first | exact trivial | refine ⟨rfl, ?_⟩))
 exact wru_nil
 exact wru_nil

set_option maxRecDepth 100000 in
theorem c_Of (x : Ixd) (a : Ad) : RC Tryz.prog 55 #[.pointer (some ⟨x.b, 0, none⟩), .agg (adC a).toArray] [Ch.row x.b (ixC x) 91, Ch.mp x.ra encA encE x.am] (α := Unit) (fun _ => .tuple #[.agg (elC ((lkp x.am a).getD le0)).toArray, .bool (lkp x.am a).isSome]) (fun _ => []) := by
 refine rc_of_W (args := [.pointer (some ⟨x.b, 0, none⟩), .agg (adC a).toArray]) 17 Tryz.func55 rfl rfl rfl (fun w0 => ?_)
 refine w_seq ?_
 refine w_region ?_
 refine o_box rfl rfl rfl (fun b1 => ?_)
 refine o_alloc ty_47 rfl rfl (fun b2 => ?_)
 refine o_y (y_assign rfl) rfl rfl ?_
 refine wl_nil ?_
 refine e_seq ?_
 refine w_seq ?_
 refine w_seq ?_
 refine w_region ?_
 refine o_y (y_move rfl) rfl rfl ?_
 refine o_y (y_eqp Tryz.underlying32 rfl rfl) rfl rfl ?_
 refine wl_as (t := 7) (.bool false) rfl (congrArg Value.bool rfl) ?_
 refine wl_nil ?_
 refine e_seq ?_
 refine w_cond_f rfl ?_
 refine w_skip ?_
 refine e_seq ?_
 refine w_seq ?_
 refine w_draw 8 rfl mixed ?_
 refine a_take (i := 0) rfl wanted_none (y_move rfl) (fun w h => h) (fun w h => h) rfl (pk_seq pk_fn) (by kernel_rfl) rfl ?_
 refine a_take (i := 1) rfl wanted_none (y_nilCheck rfl) (fun w h => h) (fun w h => h) rfl (pk_seq pk_fn) (by kernel_rfl) rfl ?_
 refine a_take (i := 2) rfl wanted_none (y_field fa_91_3 rfl) (fun w h => h) (fun w h => h) rfl (pk_seq pk_fn) (by kernel_rfl) rfl ?_
 refine a_take (i := 3) rfl wanted_none (y_loadSo 0 ty_89 rfl rfl rfl) (fun w h => h) (fun w h => h) rfl (pk_seq pk_fn) (by kernel_rfl) rfl ?_
 refine a_take (i := 4) rfl wanted_none (y_loadrs 1 ty_28 rfl rfl rfl rfl) (fun w h => h) (fun w h => h) rfl (pk_seq pk_fn) (by kernel_rfl) rfl ?_
 refine a_one (i := 5) rfl rfl rfl (tame_call rfl ent_100) (by kernel_rfl) rfl ?_
 refine o_callq rfl ent_100 rfl (c_ask_a _ _ _) (fun w hw => (rd_cons (rd_S 1 rfl hw) rd_nil)) ?_
 refine wl_nil ?_
 refine e_one (fun w h => h) ?_
 refine a_take (i := 6) rfl wanted_none (y_extract rfl rfl) (fun w h => h) (fun w h => h) rfl (pk_seq pk_fn) (by kernel_rfl) rfl ?_
 refine a_take (i := 7) rfl wanted_none (y_extract rfl rfl) (fun w h => h) (fun w h => h) rfl (pk_seq pk_fn) (by kernel_rfl) rfl ?_
 refine a_one (i := 8) rfl rfl rfl (fun _ _ _ => tame_op (by kernel_rfl)) (by kernel_rfl) rfl ?_
 refine o_store ty_47 rfl rfl rfl .z rfl rfl rfl rfl ?_
 refine wl_nil ?_
 refine e_tail rfl ?_
 refine a_one (i := 9) rfl rfl rfl (fun _ _ _ => tame_op (by kernel_rfl)) (by kernel_rfl) rfl ?_
 refine o_y (y_assign rfl) rfl rfl ?_
 refine wl_nil ?_
 refine e_tail rfl ?_
 refine a_done (by kernel_rfl) ?_
 refine e_seq ?_
 refine w_ret ?_
 refine e_rsr (rs := [.cell 4 47, .tmp 5]) rfl (rs_cells 0 ty_47 rfl rfl rfl rfl (rs_tmp rfl rs_nil)) rfl (fun w hw => ?_)
 exact ⟨(), rfl, hw.base, (hw.weak (List.nil_sublist _) (fun s hs => hs)).toNews⟩

def lightHs (l : List Hd) (m : Int) : Bool := decide (∀ x ∈ l, x.host.length ≤ 300) && decide ((l.length : Int) ≤ m)
theorem lightHs_bad {l : List Hd} {m : Int} {k : Nat} (hk : k < l.length) (h : ¬ (l.getD k hd0).host.length ≤ 300) : lightHs l m = false := by
  rw [lightHs, decide_eq_false (fun q => h (q _ (mem_getD (d := hd0) hk))), Bool.false_and]
theorem lightHs_ok {l : List Hd} {m : Int} (h : ∀ i, i < l.length → (l.getD i hd0).host.length ≤ 300) : lightHs l m = decide ((l.length : Int) ≤ m) := by
  rw [lightHs, decide_eq_true, Bool.true_and]
  intro s hs
  obtain ⟨i, hi, rfl⟩ := List.mem_iff_getElem.1 hs
  have := h i hi
  rwa [List.getD_eq_getElem?_getD, List.getElem?_eq_getElem hi] at this
theorem lightHs_le {l : List Hd} {m : Int} (h : lightHs l m = true) : (∀ x ∈ l, x.host.length ≤ 300) ∧ (l.length : Int) ≤ m := by
  simpa [lightHs] using h

theorem c_LightHeld (l : List Hd) (A : Option Addr) (c : Nat) (m : Int) (hl : l.length ≤ 9223372036854775807) : RC Tryz.prog 11 #[.slice A l.length c, .int .i64 m] [Ch.rd A 4 hdC l] (α := Unit) (fun _ => .bool (lightHs l m)) (fun _ => []) := by
 refine rc_of_W (args := [.slice A l.length c, .int .i64 m]) 23 Tryz.func11 rfl rfl rfl (fun w0 => ?_)
 refine w_seq ?_
 refine w_region ?_
 refine o_y (y_assign rfl) rfl rfl ?_
 refine wl_nil ?_
 refine e_seq ?_
 refine w_seq ?_
 refine w_seq ?_
 refine w_region ?_
 refine o_y (y_assign rfl) rfl rfl ?_
 refine wl_nil ?_
 refine e_seq ?_
 refine w_block ?_
 refine w_loop0 (σ := Nat) [4, 5, 6, 7, 8, 9, 10, 11, 12, 13, 14, 15, 16, 17, 18] (fun k => k ≤ l.length ∧ ∀ i, i < k → (l.getD i hd0).host.length ≤ 300) (fun k => l.length - k) (fun k => [(5, .int .i64 k)]) (0) ?_ ⟨rfl, trivial⟩ (fun k hI => ?_)
 exact ⟨Nat.zero_le _, nofun⟩
 refine w_seq ?_
 refine w_seq ?_
 refine w_region ?_
 refine o_y (y_move rfl) rfl rfl ?_
 refine o_y (y_move rfl) rfl rfl ?_
 refine o_y (y_lenl Tryz.underlying25 rfl) rfl rfl ?_
 refine o_y (y_lss rfl rfl) rfl rfl ?_
 refine wl_splitp (t := 9) rfl (fun h2_3 => ?_) (fun h2_3 => ?_)
 refine wl_nil ?_
 refine e_seq ?_
 refine w_cond_t rfl ?_
 refine w_skip ?_
 refine e_seq ?_
 refine w_seq ?_
 refine w_block ?_
 refine w_seq ?_
 refine w_region ?_
 refine o_y (y_move rfl) rfl rfl ?_
 refine o_y (y_move rfl) rfl rfl ?_
 refine o_y (y_ixm  Tryz.underlying25 ty_42 rfl rfl (rs_S 0 rfl) rfl (by omega)) rfl rfl ?_
 refine o_y (y_field fa_42_0 rfl) rfl rfl ?_
 refine o_y (y_ldm0 enc_hd hd0 ty_36 rfl (rs_S 0 rfl) (by omega) rfl rfl) rfl rfl ?_
 refine o_y (y_lens Tryz.underlying36 rfl) rfl rfl ?_
 refine o_y (y_gtr rfl rfl) rfl rfl ?_
 refine wl_splitp (t := 18) rfl (fun h4_6 => ?_) (fun h4_6 => ?_)
 refine wl_nil ?_
 refine e_seq ?_
 refine w_cond_t rfl ?_
 refine w_seq ?_
 refine w_region ?_
 refine o_y (y_assign rfl) rfl rfl ?_
 refine wl_nil ?_
 refine e_seq ?_
 refine w_ret ?_
 refine e_blk_ret ?_
 refine e_seq_ret ?_
 refine e_loop_ret ?_
 refine e_blk_ret ?_
 refine e_seq_ret ?_
 refine e_ret (ts := [4]) rfl rfl rfl (fun w hw => ?_)
 exact ⟨(), by rw [lightHs_bad (k := k) (by omega) (by omega)]; rfl, hw.base, (hw.weak (List.nil_sublist _) (fun s hs => hs)).toNews⟩
 refine wl_nil ?_
 refine e_seq ?_
 refine w_cond_f rfl ?_
 refine w_skip ?_
 refine e_blk ?_
 refine e_seq ?_
 refine w_region ?_
 refine o_y (y_move rfl) rfl rfl ?_
 refine o_y (y_addi rfl rfl (by omega) (by omega)) rfl rfl ?_
 refine o_y (y_assign rfl) rfl rfl ?_
 refine wl_nil ?_
 refine e_back (k + 1) ?_ ?_ ⟨rfl, trivial⟩ (by repeat (first | exact trivial | refine ⟨rfl, ?_⟩)) (fun w h => h)
 exact ⟨by omega, all_succ hI.2 (by omega)⟩
 omega
 refine wl_nil ?_
 refine e_seq ?_
 refine w_cond_f rfl ?_
 refine w_exit ?_
 refine e_seq_exit ?_
 refine e_loop_exit ?_
 refine e_blk_hit ?_
 refine e_seq ?_
 refine w_seq ?_
 refine w_region ?_
 refine o_y (y_move rfl) rfl rfl ?_
 refine o_y (y_lenl Tryz.underlying25 rfl) rfl rfl ?_
 refine o_y (y_move rfl) rfl rfl ?_
 refine o_y (y_leq rfl rfl) rfl rfl ?_
 refine o_y (y_assign rfl) rfl rfl ?_
 refine wl_nil ?_
 refine e_seq ?_
 refine w_ret ?_
 refine e_ret (ts := [4]) rfl rfl rfl (fun w hw => ?_)
 exact ⟨(), by rw [lightHs_ok (fun i hi => hI.2 i (by omega))]; rfl, hw.base, (hw.weak (List.nil_sublist _) (fun s hs => hs)).toNews⟩
end Go.Proofs.YtfmelbpgkbiooaaGreat

/- law 18: its tables, its examples -/
namespace Go.Proofs.YtfmelbpgkbiooaaGreat
open Go.RowKit Go.Shelf
set_option linter.unusedVariables false
set_option linter.unusedSimpArgs false

def lft (e : En) : Le := ⟨e, none, 0, none, 0⟩
def putEE (es : List En) (x : En) : List En := (putE (es.map lft) (lft x)).map (·.e)
theorem putG_e (x : Le) : ∀ (l : List Le) (d : Bool), (putG x d l).map (·.e) = (putG (lft x.e) d ((l.map (·.e)).map lft)).map (·.e)
  | [], d => by cases d <;> rfl
  | y :: r, d => by
    have ih := fun d => putG_e x r d
    simp only [List.map_cons, putG, List.map_append, ih]
    show _ ++ _ ++ _ = (if (!d && decide (cmpN x.e.host y.e.host ≤ 0)) = true then [lft x.e] else []).map (·.e) ++ (if cmpN x.e.host y.e.host ≠ 0 then [lft y.e] else []).map (·.e) ++ _
    congr 1
    congr 1
    · split <;> rfl
    · split <;> rfl
theorem putE_e (l : List Le) (x : Le) : (putE l x).map (·.e) = putEE (l.map (·.e)) x.e := putG_e x l false
theorem lft_e (es : List En) : (es.map lft).map (·.e) = es := by
  rw [List.map_map]; exact List.map_id'' (fun _ => rfl) es
theorem getD_e (l : List Le) (i : Nat) : (l.getD i le0).e = (l.map (·.e)).getD i en0 := by
  rw [List.getD_eq_getElem?_getD, List.getD_eq_getElem?_getD, List.getElem?_map]
  cases l[i]? <;> rfl
theorem entsCk_e : ∀ l l' : List Le, l.map (·.e) = l'.map (·.e) → entsCk l = entsCk l'
  | [], [], _ => rfl
  | [], _ :: _, h => by cases h
  | _ :: _, [], h => by cases h
  | x :: r, y :: s, h => by
    rw [List.map_cons, List.map_cons, List.cons.injEq] at h
    rw [entsCk, entsCk, h.1, entsCk_e r s h.2]
theorem tab_e (v : Int) {l l' : List Le} (h : l.map (·.e) = l'.map (·.e)) : tabCk v l = tabCk v l' := by
  have h1 : l.length = l'.length := by have := congrArg List.length h; simpa using this
  have h2 : Rises l ↔ Rises l' := by
    unfold Rises
    rw [h1]
    simp only [getD_e, h]
  unfold tabCk
  rw [h1, entsCk_e l l' h]
  simp only [h2]
/-- An entry of few octets. -/
def smE (e : En) : Bool := decide (e.host.length ≤ 300) && decide (e.alias.length ≤ 300) && decide (e.cluster.length ≤ 300) && decide (e.addrs.length ≤ 20) && decide (e.ports.length ≤ 20) && decide (0 ≤ e.kind ∧ e.kind ≤ 9) && decide (0 ≤ e.ttl ∧ e.ttl ≤ 1000) && (e.addrs.all fun a => decide (0 ≤ a.hi ∧ a.hi ≤ 1000000) && decide (0 ≤ a.lo ∧ a.lo ≤ 4294967295)) && (e.ports.all fun p => decide (0 ≤ p ∧ p ≤ 1000000))
theorem smE_ok {e : En} (h : smE e = true) : EnOk e ∧ lightE e = true := by
  simp only [smE, Bool.and_eq_true, decide_eq_true_eq, List.all_eq_true] at h
  obtain ⟨⟨⟨⟨⟨⟨⟨⟨h1, h2⟩, h3⟩, h4⟩, h5⟩, h6⟩, h7⟩, h8⟩, h9⟩ := h
  refine ⟨⟨by omega, by omega, by omega, fun a ha => ?_, by omega, by omega, fun p hp => by have := h9 p hp; omega, by omega, h7.1, by omega⟩, ?_⟩
  · have := h8 a ha
    refine ⟨this.1.1, ?_, this.2.1, ?_⟩ <;> omega
  · simp only [lightE, Bool.and_eq_true, decide_eq_true_eq]
    exact ⟨⟨⟨⟨h1, h2⟩, h3⟩, h4⟩, h5⟩
theorem sm_tb {l : List Le} (h : (l.map (·.e)).all smE = true) : TbOk l := fun x hx => smE_ok (List.all_eq_true.1 h _ (List.mem_map.2 ⟨x, hx, rfl⟩))
def fxE (h : Str) (i : Nat) : En := ⟨h, 1, [120], [⟨false, 0, (i : Int) + 1⟩], [], [], 0⟩
def tabN (hs : List Str) : Nat → List En
  | 0 => []
  | i + 1 => putEE (tabN hs i) (fxE (hs.getD i []) i)
theorem Hp.rallSub {ok0 : Nat → Prop} {w0 w : World} {M M' L S : List Ch} (h : Hp ok0 w0 (Ch.rall M :: L) S w) (hs : ∀ c ∈ M', c ∈ M) : Hp ok0 w0 (Ch.rall M' :: L) S w :=
  h.turn (c' := Ch.rall M') .z (fun hp d hd => hp d (hs d hd)) (fun b ⟨d, hd, hb⟩ => ⟨d, hs d hd, hb⟩)
theorem ix_len {l : List Le} {x : Ixd} (h : IxOk l x) : x.l.length = l.length := by have := congrArg List.length h.es; simpa using this
theorem es_len {l : List Le} {es : List En} (h : l.map (·.e) = es) : l.length = es.length := by rw [← h, List.length_map]
def hl1 : List Str := [(makeN [[97], [98]]).1, (makeN [[42], [98]]).1, (makeN [[42], [99], [98]]).1]
theorem rd_sub {w : World} {M M' : List Ch} (h : (Ch.rall M).P w ∧ ∀ b, (Ch.rall M).ok b → b < w.heap.size) (hs : ∀ c ∈ M', c ∈ M) : (Ch.rall M').P w ∧ ∀ b, (Ch.rall M').ok b → b < w.heap.size := ⟨fun c hc => h.1 c (hs c hc), fun b ⟨c, hc, hb⟩ => h.2 b ⟨c, hs c hc, hb⟩⟩

end Go.Proofs.YtfmelbpgkbiooaaGreat

/- what an index finds, in plain words -/
namespace Go.Proofs.YtfmelbpgkbiooaaGreat
open Go.RowKit Go.Shelf
set_option linter.unusedVariables false
set_option linter.unusedSimpArgs false

theorem xl_src {x : Ixd} {l : List Le} (h : IxOk l x) {y : Le} (hy : y ∈ x.l) : ∃ z ∈ l, z.e = y.e := by
  have : y.e ∈ l.map (·.e) := by rw [← h.es]; exact List.mem_map.2 ⟨y, hy, rfl⟩
  obtain ⟨z, hz, e⟩ := List.mem_map.1 this
  exact ⟨z, hz, e⟩
theorem fi_bnd {x : Ixd} {l : List Le} (h : IxOk l x) (hok : TbOk l) {y : Le} (hy : y ∈ le0 :: x.l) : EnB y.e := by
  rcases List.mem_cons.1 hy with rfl | hy
  · exact ⟨nofun, by decide, by decide, by decide, by decide, by decide⟩
  · obtain ⟨z, hz, e⟩ := xl_src h hy
    exact (hok.mem' hz).eq e.symm
theorem map_some {α β : Type} {o : Option α} {f : α → β} {b : β} (d : α) (h : o.map f = some b) : o.isSome = true ∧ f (o.getD d) = b := by
  cases o with
  | none => cases h
  | some a => exact ⟨rfl, Option.some.inj h⟩
theorem ck_nofix {e : En} (h : entCk e = 0) (hk : e.kind ≠ 1) : e.addrs = [] := by
  have hm : mayOk e = true := by
    unfold entCk at h
    split at h
    · omega
    · split at h
      · omega
      · rename_i h2
        cases hq : mayOk e with
        | true => rfl
        | false => exact absurd (.inr (.inr (.inr hq))) h2
  unfold mayOk at hm
  rw [if_neg hk] at hm
  split at hm
  · simp only [Bool.and_eq_true, decide_eq_true_eq] at hm; exact List.length_eq_zero_iff.1 hm.1.1
  · split at hm
    · simp only [Bool.and_eq_true, decide_eq_true_eq] at hm; exact List.length_eq_zero_iff.1 hm.1.1.1.1.1
    · cases hm
theorem find_first {α : Type} {F : α → Bool} {l : List α} {i : Nat} (hi : i < l.length) (h : ∀ q ∈ l.take i, F q = false) (h2 : F l[i] = true) : l.find? F = some l[i] := by
  have e : l = l.take i ++ l[i] :: l.drop (i + 1) := by rw [← List.drop_eq_getElem_cons hi, List.take_append_drop]
  conv => lhs; rw [e]
  rw [List.find?_append, List.find?_eq_none.2 (fun q hq => by rw [h q hq]; decide), List.find?_cons_of_pos h2]; rfl
theorem held_at {es : List En} {hs : List Hd} (H : HeldOk es hs) {p : Hd} (hp : p ∈ hs) : (nameCk p.host = 0 ∧ (∃ e, lookE es (foldN p.host) = some e ∧ e.kind = 2) ∧ addrCk p.ad = 0) ∧ hs.find? (fun h => decide (h.ad = p.ad)) = some p ∧ hs.find? (fun h => decide (foldN h.host = foldN p.host)) = some p := by
  obtain ⟨i, hi, rfl⟩ := List.mem_iff_getElem.1 hp
  have h1 := H i hi
  rw [List.getD_eq_getElem?_getD, List.getElem?_eq_getElem hi] at h1
  obtain ⟨q1, q2, q3, q4, q5⟩ := h1
  exact ⟨⟨q1, q2, q3⟩, find_first hi (fun q hq => decide_eq_false (q5 q hq)) (decide_eq_true rfl), find_first hi (fun q hq => decide_eq_false (q4 q hq)) (decide_eq_true rfl)⟩
theorem xl_ck {v : Int} {l : List Le} {x : Ixd} (hx : IxOk l x) (h : tabCk v l = 0) {y : Le} (hy : y ∈ x.l) : entCk y.e = 0 := by
  obtain ⟨z, hz, e⟩ := xl_src hx hy
  rw [← e]; exact (tab_zero h).1 z hz
theorem own_some {x : Ixd} {h : Str} {y : Le} (hy : ownI x h = some y) : nameCk h = 0 ∧ lkp x.hm (foldN h) = some y := by
  unfold ownI at hy
  split at hy
  · cases hy
  · exact ⟨by omega, hy⟩
theorem hm_mem {m : List (Str × Le)} {lc : List Le} (h : HmOk m lc) {key : Str} {y : Le} (hl : lkp m key = some y) : y ∈ lc ∧ foldN y.e.host = key := by
  have := hm_some h (key := key) (by rw [hl]; rfl)
  rw [hl] at this; exact this
theorem own_self {v : Int} {l : List Le} {x : Ixd} (hx : IxOk l x) (h : tabCk v l = 0) {key : Str} {y : Le} (hl : lkp x.hm key = some y) : adsI x y.e.host = entAd y.e (heldI x y) := by
  obtain ⟨hm, hf⟩ := hm_mem hx.hm hl
  have hn := ck_host (xl_ck hx h hm)
  rw [adsI, ownI, if_neg (fun q => q hn), hf, hl]
theorem own_like {v : Int} {l : List Le} {x : Ixd} (hx : IxOk l x) (h : tabCk v l = 0) {z : Le} (hz : z ∈ x.l) : ∃ y, lkp x.hm (foldN z.e.host) = some y ∧ y.e = z.e ∧ adsI x z.e.host = entAd z.e (heldI x y) := by
  have h1 : (lkp x.hm (foldN z.e.host)).map (·.e) = some z.e := by
    rw [hm_look hx.hm]
    exact look_some (by rw [hx.es]; exact tab_hosts h) (List.mem_map.2 ⟨z, hz, rfl⟩)
  cases hl : lkp x.hm (foldN z.e.host) with
  | none => rw [hl] at h1; cases h1
  | some y =>
    rw [hl] at h1
    have e : y.e = z.e := Option.some.inj h1
    refine ⟨y, rfl, e, ?_⟩
    rw [← e]; exact own_self hx h hl
theorem held_ads {v : Int} {l : List Le} {hs : List Hd} {x : Ixd} (hx : IxOk2 l hs x) (h : tabCk v l = 0) (H : HeldOk (l.map (·.e)) hs) {p : Hd} (hp : p ∈ hs) : ∃ z, lkp x.hm (foldN p.host) = some z ∧ adsI x z.e.host = [p.ad] ∧ z.e.kind = 2 := by
  obtain ⟨⟨q1, ⟨e, q2, q3⟩, q4⟩, q5, q6⟩ := held_at H hp
  have h1 : (lkp x.hm (foldN p.host)).map (·.e) = some e := by rw [hm_look hx.ix.hm, hx.ix.es]; exact q2
  cases hl : lkp x.hm (foldN p.host) with
  | none => rw [hl] at h1; cases h1
  | some z =>
    rw [hl] at h1
    have e2 : z.e = e := Option.some.inj h1
    obtain ⟨hm, hf⟩ := hm_mem hx.ix.hm hl
    have hk : z.e.kind = 2 := by rw [e2]; exact q3
    refine ⟨z, rfl, ?_, hk⟩
    rw [own_self hx.ix h hl, entAd, if_neg (fun q => q (xl_ck hx.ix h hm)), if_neg (by omega), if_neg (by omega), heldI, hf, hx.dm, q6]
    show List.filter (fun a => decide (addrCk a = 0)) [p.ad] = _
    rw [List.filter_cons_of_pos (by simpa using q4)]; rfl
theorem am_held {l : List Le} {hs : List Hd} {x : Ixd} (hx : IxOk2 l hs x) (H : HeldOk (l.map (·.e)) hs) {p : Hd} (hp : p ∈ hs) {z : Le} (hl : lkp x.hm (foldN p.host) = some z) : lkp x.am p.ad = some z := by
  rw [hx.am, (held_at H hp).2.1, Option.bind_some, hl]; rfl
theorem ads_len {l : List Le} {x : Ixd} (hx : IxOk l x) (hok : TbOk l) (n : Str) : (adsI x n).length ≤ 1000 := by
  cases ho : ownI x n with
  | none => rw [adsI, ho]; exact Nat.zero_le _
  | some y =>
    rw [adsI, ho]
    have hb := (fi_bnd hx hok (.tail _ (hm_mem hx.hm (own_some ho).2).1)).la
    show (entAd y.e (heldI x y)).length ≤ 1000
    unfold entAd
    split
    · exact Nat.zero_le _
    · split
      · exact hb
      · split
        · exact Nat.zero_le _
        · refine Nat.le_trans (List.length_filter_le _ _) ?_
          unfold heldI
          cases lkp x.dm (foldN y.e.host) <;> simp
/-- What an entry's address leads to has it. -/
theorem of_ads {v : Int} {l : List Le} {hs : List Hd} {x : Ixd} (hx : IxOk2 l hs x) (h : tabCk v l = 0) (H : HeldOk (l.map (·.e)) hs) {n : Str} {a : Ad} (ha : a ∈ adsI x n) : ∃ z, lkp x.am a = some z ∧ a ∈ adsI x z.e.host := by
  cases ho : ownI x n with
  | none => rw [adsI, ho] at ha; cases ha
  | some y =>
    rw [adsI, ho] at ha
    obtain ⟨hn, hl⟩ := own_some ho
    obtain ⟨hym, hyf⟩ := hm_mem hx.ix.hm hl
    have hyc := xl_ck hx.ix h hym
    simp only [entAd] at ha
    rw [if_neg (fun q => q hyc)] at ha
    by_cases k1 : y.e.kind = 1
    · rw [if_pos k1] at ha
      cases hf : hs.find? (fun p => decide (p.ad = a)) with
      | some p =>
        have hp := List.mem_of_find?_eq_some hf
        have e : p.ad = a := by have := List.find?_some hf; simpa using this
        subst e
        obtain ⟨z, h1, h2, _⟩ := held_ads hx h H hp
        exact ⟨z, am_held hx H hp h1, by rw [h2]; exact .head _⟩
      | none =>
        have hm : lkp x.am a = x.l.find? fun y => decide (a ∈ y.e.addrs) := by rw [hx.am, hf]; rfl
        cases hg : x.l.find? fun y => decide (a ∈ y.e.addrs) with
        | none => have := List.find?_eq_none.1 hg y hym; simp [ha] at this
        | some z =>
          have hz := List.mem_of_find?_eq_some hg
          have hza : a ∈ z.e.addrs := by have := List.find?_some hg; simpa using this
          have hzk : z.e.kind = 1 := by
            by_cases q : z.e.kind = 1
            · exact q
            · rw [ck_nofix (xl_ck hx.ix h hz) q] at hza; cases hza
          obtain ⟨y2, _, _, e3⟩ := own_like hx.ix h hz
          refine ⟨z, by rw [hm, hg], ?_⟩
          rw [e3, entAd, if_neg (fun q => q (xl_ck hx.ix h hz)), if_pos hzk]; exact hza
    · rw [if_neg k1] at ha
      split at ha
      · cases ha
      · rename_i k2
        have hb := List.mem_filter.1 ha
        have h3 : lkp x.dm (foldN y.e.host) = some a := by
          have := hb.1
          unfold heldI at this
          cases hq : lkp x.dm (foldN y.e.host) with
          | none => rw [hq] at this; cases this
          | some b => rw [hq] at this; rw [List.mem_singleton.1 this]
        rw [hx.dm] at h3
        cases hf : hs.find? fun p => decide (foldN p.host = foldN y.e.host) with
        | none => rw [hf] at h3; cases h3
        | some p =>
          rw [hf] at h3
          have e : p.ad = a := Option.some.inj h3
          subst e
          have hp := List.mem_of_find?_eq_some hf
          have e4 : foldN p.host = foldN y.e.host := by have := List.find?_some hf; simpa using this
          obtain ⟨z, h1, h2, _⟩ := held_ads hx h H hp
          exact ⟨z, am_held hx H hp h1, by rw [h2]; exact .head _⟩
def ixP : Option Ixd → Option Addr
  | some x => some ⟨x.b, 0, none⟩
  | none => none
def ixE : Option Ixd → Int
  | some _ => 0
  | none => 2
theorem ixV_pe (o : Option Ixd) : ixV o = .tuple #[.pointer (ixP o), .int .i64 (ixE o)] := by cases o <;> rfl
end Go.Proofs.YtfmelbpgkbiooaaGreat

/- Parts of slices that are read. -/
namespace Go.Proofs.YtfmelbpgkbiooaaGreat
open Go.RowKit Go.Shelf
set_option linter.unusedVariables false

section
variable {x : Cx} {l : Fr} {L S : List Ch}
end
section
variable {x : Cx} {C : World → Prop} {l : Fr} {L S : List Ch} {Q : Exit → Act → World → Prop} {ops : Array Oper} {fuel m : Nat} {listed : Array Bool}
theorem wu_at {t : Nat} {p : Prop} [Decidable p] (h : look l t = some (.bool (decide p))) (hp : p) (k : WU x C m ops fuel listed ((t, .bool true) :: l) L S Q) : WU x C m ops fuel listed l L S Q := wu_as (.bool true) h (by rw [decide_eq_true hp]) k
theorem wu_af {t : Nat} {p : Prop} [Decidable p] (h : look l t = some (.bool (decide p))) (hp : ¬ p) (k : WU x C m ops fuel listed ((t, .bool false) :: l) L S Q) : WU x C m ops fuel listed l L S Q := wu_as (.bool false) h (by rw [decide_eq_false hp]) k
theorem wu_splitb {t : Nat} {b : Bool} (h : look l t = some (.bool b)) (ht : b = true → WU x C m ops fuel listed ((t, .bool true) :: l) L S Q) (hf : b = false → WU x C m ops fuel listed ((t, .bool false) :: l) L S Q) : WU x C m ops fuel listed l L S Q := by
  cases hb : b with
  | true => exact wu_as (.bool true) h (by rw [hb]) (ht hb)
  | false => exact wu_as (.bool false) h (by rw [hb]) (hf hb)
theorem wu_splitp {t : Nat} {p : Prop} [Decidable p] (h : look l t = some (.bool (decide p))) (ht : p → WU x C m ops fuel listed ((t, .bool true) :: l) L S Q) (hf : ¬ p → WU x C m ops fuel listed ((t, .bool false) :: l) L S Q) : WU x C m ops fuel listed l L S Q := by
  by_cases hp : p
  · exact wu_at h hp (ht hp)
  · exact wu_af h hp (hf hp)
end
theorem split_at {α : Type} {l : List α} {k : Nat} (d : α) (hk : k < l.length) : l = l.take k ++ l.getD k d :: l.drop (k + 1) := by
  rw [List.getD_eq_getElem?_getD, List.getElem?_eq_getElem hk]
  show l = l.take k ++ l[k] :: l.drop (k + 1)
  rw [← List.drop_eq_getElem_cons hk, List.take_append_drop]
theorem take_succ_getD {α : Type} {l : List α} {k : Nat} (d : α) (hk : k < l.length) : l.take (k + 1) = l.take k ++ [l.getD k d] := by
  rw [List.getD_eq_getElem?_getD, List.getElem?_eq_getElem hk, List.take_succ_eq_append_getElem hk]; rfl
end Go.Proofs.YtfmelbpgkbiooaaGreat
