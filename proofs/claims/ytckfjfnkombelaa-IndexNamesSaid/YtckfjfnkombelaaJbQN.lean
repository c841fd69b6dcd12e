/- an index asked for addresses, routes -/
import Derived.Test.YtckfjfnkombelaaJaQN
namespace Go.Proofs.Ytckfjfnkombelaa
open Go.RowKit Go.Shelf
set_option linter.unusedVariables false
set_option linter.unusedSimpArgs false

theorem ent_75 : Enters Try.prog 75 := enters_of Try.func75 (by kernel_rfl) rfl
theorem ent_76 : Enters Try.prog 76 := enters_of Try.func76 (by kernel_rfl) rfl
theorem ent_77 : Enters Try.prog 77 := enters_of Try.func77 (by kernel_rfl) rfl

theorem c_ask_d (m : List (Str × Ad)) (r : Nat) (k : Str) : RC Try.prog 75 #[.map (some r), .string (ba k)] [Ch.mp r encN encA m] (α := Unit) (fun _ => .tuple #[.agg (adC ((lkp m k).getD ad0)).toArray, .bool (lkp m k).isSome]) (fun _ => []) := by
  refine rc_of_W (args := [.map (some r), .string (ba k)]) 16 Try.func75 rfl rfl rfl (fun w0 => ?_)
  refine w_seq ?_
  refine w_region ?_
  refine o_alloc ty_66 rfl rfl (fun b1 => ?_)
  refine o_y (y_assign rfl) rfl rfl ?_
  refine wl_nil ?_
  refine e_seq ?_
  refine w_seq ?_
  refine w_region ?_
  refine o_y (y_move rfl) rfl rfl ?_
  refine o_y (y_move rfl) rfl rfl ?_
  refine o_y (y_lookup2 Try.underlying115 (keyl_str Try.underlying25) ty_66 rfl rfl (fun w hw => hw.sh _ (List.mem_of_getElem? (i := 0) rfl))) rfl rfl ?_
  refine wl_as (t := 11) (.tuple #[.agg (adC ((lkp m k).getD ad0)).toArray, .bool (lkp m k).isSome]) rfl (by cases lkp m k <;> rfl) ?_
  refine o_y (y_move rfl) rfl rfl ?_
  refine o_y (y_extract rfl rfl) rfl rfl ?_
  refine o_y (y_extract rfl rfl) rfl rfl ?_
  refine o_alloc ty_66 rfl rfl (fun b2 => ?_)
  refine o_store ty_66 rfl rfl rfl .z rfl rfl rfl rfl ?_
  refine o_y (y_assign rfl) rfl rfl ?_
  refine wl_nil ?_
  refine e_seq ?_
  refine w_seq ?_
  refine w_region ?_
  refine o_y (y_loadrs 0 ty_66 rfl rfl rfl rfl) rfl rfl ?_
  refine o_y (y_move rfl) rfl rfl ?_
  refine o_store ty_66 rfl rfl rfl (.s (.z)) rfl rfl rfl rfl ?_
  refine o_y (y_assign rfl) rfl rfl ?_
  refine wl_nil ?_
  refine e_seq ?_
  refine w_ret ?_
  refine e_rsr (rs := [.cell 4 66, .tmp 5]) rfl (rs_cells 1 ty_66 rfl rfl rfl rfl (rs_tmp rfl rs_nil)) rfl (fun w hw => ?_)
  exact ⟨(), rfl, hw.base, (hw.weak (List.nil_sublist _) (fun s hs => hs)).toNews⟩

theorem c_ask_a (m : List (Ad × Le)) (r : Nat) (k : Ad) : RC Try.prog 77 #[.map (some r), .agg (adC k).toArray] [Ch.mp r encA encE m] (α := Unit) (fun _ => .tuple #[.agg (elC ((lkp m k).getD le0)).toArray, .bool (lkp m k).isSome]) (fun _ => []) := by
  refine rc_of_W (args := [.map (some r), .agg (adC k).toArray]) 16 Try.func77 rfl rfl rfl (fun w0 => ?_)
  refine w_seq ?_
  refine w_region ?_
  refine o_box rfl rfl rfl (fun b1 => ?_)
  refine o_alloc ty_50 rfl rfl (fun b2 => ?_)
  refine o_y (y_assign rfl) rfl rfl ?_
  refine wl_nil ?_
  refine e_seq ?_
  refine w_seq ?_
  refine w_region ?_
  refine o_y (y_move rfl) rfl rfl ?_
  refine o_y (y_loadrs 1 ty_66 rfl rfl rfl rfl) rfl rfl ?_
  refine o_y (y_lookup2 Try.underlying117 keyl_ad ty_50 rfl rfl (fun w hw => hw.sh _ (List.mem_of_getElem? (i := 0) rfl))) rfl rfl ?_
  refine wl_as (t := 11) (.tuple #[.agg (elC ((lkp m k).getD le0)).toArray, .bool (lkp m k).isSome]) rfl (by cases lkp m k <;> rfl) ?_
  refine o_y (y_move rfl) rfl rfl ?_
  refine o_y (y_extract rfl rfl) rfl rfl ?_
  refine o_y (y_extract rfl rfl) rfl rfl ?_
  refine o_alloc ty_50 rfl rfl (fun b3 => ?_)
  refine o_store ty_50 rfl rfl rfl .z rfl rfl rfl rfl ?_
  refine o_y (y_assign rfl) rfl rfl ?_
  refine wl_nil ?_
  refine e_seq ?_
  refine w_seq ?_
  refine w_region ?_
  refine o_y (y_loadrs 0 ty_50 rfl rfl rfl rfl) rfl rfl ?_
  refine o_y (y_move rfl) rfl rfl ?_
  refine o_store ty_50 rfl rfl rfl (.s (.z)) rfl rfl rfl rfl ?_
  refine o_y (y_assign rfl) rfl rfl ?_
  refine wl_nil ?_
  refine e_seq ?_
  refine w_ret ?_
  refine e_rsr (rs := [.cell 4 50, .tmp 5]) rfl (rs_cells 1 ty_50 rfl rfl rfl rfl (rs_tmp rfl rs_nil)) rfl (fun w hw => ?_)
  exact ⟨(), rfl, hw.base, (hw.weak (List.nil_sublist _) (fun s hs => hs)).toNews⟩

/-- The entry that is asked for, by its host. -/
def ownI (x : Ixd) (h : Str) : Option Le := if nameCk h ≠ 0 then none else lkp x.hm (foldN h)
def heldI (x : Ixd) (y : Le) : List Ad := (lkp x.dm (foldN y.e.host)).toList
/-- An entry's addresses. -/
def adsI (x : Ixd) (h : Str) : List Ad := match ownI x h with
  | none => []
  | some y => entAd y.e (heldI x y)
theorem adsI_bad {x : Ixd} {h : Str} (q : nameCk h ≠ 0) : adsI x h = [] := by rw [adsI, ownI, if_pos q]
theorem adsI_none {x : Ixd} {h : Str} (q : nameCk h = 0) (h2 : (lkp x.hm (foldN h)).isSome = false) : adsI x h = [] := by
  rw [adsI, ownI, if_neg (fun w => w q), none_of h2]
theorem some_getD {α : Type} {o : Option α} {d : α} (h : o.isSome = true) : o = some (o.getD d) := by cases o with
  | none => cases h
  | some q => rfl
theorem adsI_own {x : Ixd} {h : Str} (q : nameCk h = 0) (h2 : (lkp x.hm (foldN h)).isSome = true) : adsI x h = entAd ((lkp x.hm (foldN h)).getD le0).e (heldI x ((lkp x.hm (foldN h)).getD le0)) := by
  rw [adsI, ownI, if_neg (fun w => w q), some_getD (d := le0) h2]; rfl
theorem heldI_none {x : Ixd} {y : Le} (h : (lkp x.dm (foldN y.e.host)).isSome = false) : heldI x y = [] := by rw [heldI, none_of h]; rfl
theorem heldI_some {x : Ixd} {y : Le} (h : (lkp x.dm (foldN y.e.host)).isSome = true) : heldI x y = [(lkp x.dm (foldN y.e.host)).getD ad0] := by rw [heldI, some_getD (d := ad0) h]; rfl
theorem own_mem {l : List Le} {x : Ixd} (hx : IxOk l x) {key : Str} (h : (lkp x.hm key).isSome = true) : (lkp x.hm key).getD le0 ∈ x.l := (hm_some hx.hm h).1
theorem own_bnd {l : List Le} {x : Ixd} (hx : IxOk l x) (hok : TbOk l) {key : Str} (h : (lkp x.hm key).isSome = true) : EnB ((lkp x.hm key).getD le0).e := es_bnd hx.es hok (own_mem hx h)
theorem dm_mem {l : List Le} {hs : List Hd} {x : Ixd} (hx : IxOk2 l hs x) {key : Str} (h : (lkp x.dm key).isSome = true) : ∃ p ∈ hs, p.ad = (lkp x.dm key).getD ad0 := by
  rw [hx.dm key] at h ⊢
  cases hf : hs.find? fun h => decide (foldN h.host = key) with
  | none => rw [hf] at h; cases h
  | some z => exact ⟨z, List.mem_of_find?_eq_some hf, rfl⟩

theorem rd_none1 {w : World} {sz : Nat} {α : Type} {enc : α → List Value} : (Ch.rd none sz enc ([] : List α)).P w ∧ ∀ b, (Ch.rd none sz enc ([] : List α)).ok b → b < w.heap.size := ⟨⟨by simp [fl], (by simp [fl]), .inl rfl⟩, fun b hb => absurd hb.1 (by simp)⟩

set_option maxRecDepth 100000 in
set_option maxHeartbeats 1000000 in
theorem c_Addrs (x : Ixd) (l : List Le) (hs : List Hd) (y : Le) (hix : IxOk2 l hs x) (hok : TbOk l) (hhs : ∀ h ∈ hs, 0 ≤ h.ad.lo) : RC Try.prog 33 #[.pointer (some ⟨x.b, 0, none⟩), .agg (elC y).toArray] [Ch.row x.b (ixC x) 119, Ch.mp x.rh encN encE x.hm, Ch.mp x.rd encN encA x.dm, Ch.mp x.ra encA encE x.am, Ch.rall ((le0 :: x.l).flatMap elR)] (α := Option Addr × Nat) (fun p => .slice p.1 (adsI x y.e.host).length p.2) (fun p => [Ch.ls p.1 p.2 66 3 adC (adsI x y.e.host)]) := by
  refine rc_of_W (args := [.pointer (some ⟨x.b, 0, none⟩), .agg (elC y).toArray]) 48 Try.func33 rfl rfl rfl (fun w0 => ?_)
  refine w_seq ?_
  refine w_region ?_
  refine o_box rfl rfl rfl (fun b1 => ?_)
  refine o_y (y_assign rfl) rfl rfl ?_
  refine wl_nil ?_
  refine e_seq ?_
  refine w_seq ?_
  refine w_seq ?_
  refine w_region ?_
  refine o_y (y_move rfl) rfl rfl ?_
  refine o_y (y_eqp Try.underlying43 rfl rfl) rfl rfl ?_
  refine wl_as (t := 11) (.bool false) rfl (congrArg Value.bool rfl) ?_
  refine o_y (y_move rfl) rfl rfl ?_
  refine wl_gyes rfl rfl ?_
  refine o_y (y_field fa_50_0 rfl) rfl rfl ?_
  refine wl_gyes rfl rfl ?_
  refine o_y (y_loadr 0 ty_25 rfl rfl rfl) rfl rfl ?_
  refine wl_gyes rfl rfl ?_
  refine o_callp rfl ent_57 (c_name_Check _) rfl ?_
  refine wl_gyes rfl rfl ?_
  refine o_y (y_neq rfl rfl) rfl rfl ?_
  refine wl_splitp (t := 16) rfl (fun h1_6 => ?_) (fun h1_6 => ?_)
  · skip
    refine o_y (y_pick_f rfl rfl) rfl rfl ?_
    refine wl_nil ?_
    refine e_seq ?_
    refine w_cond_t rfl ?_
    refine w_seq ?_
    refine w_region ?_
    refine o_y (y_assign rfl) rfl rfl ?_
    refine wl_nil ?_
    refine e_seq ?_
    refine w_ret ?_
    refine e_seq_ret ?_
    refine e_ret (ts := [4]) rfl rfl rfl (fun w hw => ?_)
    rw [adsI_bad h1_6]
    exact ⟨(none, 0), rfl, hw.base, ((hw.weak (List.nil_sublist _) (fun s hs => hs)).nilsl 66 3).toNews⟩
  · skip
    have hn0 : nameCk y.e.host = 0 := by omega
    have hnl := (nameCk_zero.1 hn0).1
    refine o_y (y_pick_f rfl rfl) rfl rfl ?_
    refine wl_nil ?_
    refine e_seq ?_
    refine w_cond_f rfl ?_
    refine w_skip ?_
    refine e_seq ?_
    refine w_joinX (σ := Nat) (fun q => [(5, .pointer (some ⟨q, 0, none⟩)), (6, .bool (lkp x.hm (foldN y.e.host)).isSome)]) (fun q => [Ch.row q (elC ((lkp x.hm (foldN y.e.host)).getD le0)) 50]) (fun q => ?_) (fun J3 => ?_)
    · skip
      refine w_seq ?_
      refine w_seq ?_
      refine w_region ?_
      refine o_y (y_move rfl) rfl rfl ?_
      refine wl_splitb (t := 28) rfl (fun h4_0 => ?_) (fun h4_0 => ?_)
      · skip
        refine o_y (y_not rfl) rfl rfl ?_
        refine wl_nil ?_
        refine e_seq ?_
        refine w_cond_f rfl ?_
        refine w_skip ?_
        refine e_seq ?_
        refine w_seq ?_
        have hom := own_mem hix.ix h4_0
        have hob := own_bnd hix.ix hok h4_0
        refine w_region ?_
        refine o_y (y_assign rfl) rfl rfl ?_
        refine wl_nil ?_
        refine e_seq ?_
        refine w_seq ?_
        refine w_joinX (σ := Nat) (fun qa => [(8, .pointer (some ⟨qa, 0, none⟩)), (9, .bool (lkp x.dm (foldN ((lkp x.hm (foldN y.e.host)).getD le0).e.host)).isSome)]) (fun qa => [Ch.row qa (adC ((lkp x.dm (foldN ((lkp x.hm (foldN y.e.host)).getD le0).e.host)).getD ad0)) 66]) (fun qa => ?_) (fun J7 => ?_)
        · skip
          refine w_seq ?_
          refine w_region ?_
          refine o_y (y_move rfl) rfl rfl ?_
          refine wl_splitb (t := 40) rfl (fun h8_0 => ?_) (fun h8_0 => ?_)
          · skip
            refine wl_nil ?_
            refine e_seq ?_
            refine w_cond_t rfl ?_
            have hhd : ∀ a ∈ [((lkp x.dm (foldN ((lkp x.hm (foldN y.e.host)).getD le0).e.host)).getD ad0)], 0 ≤ a.lo := fun a ha => by
              obtain ⟨p, hp, e⟩ := dm_mem hix h8_0
              rw [List.mem_singleton] at ha; rw [ha, ← e]; exact hhs p hp
            refine w_region ?_
            refine o_y (y_move rfl) rfl rfl ?_
            refine o_y (y_loadrs 0 ty_66 rfl rfl rfl rfl) rfl rfl ?_
            refine o_bsl (vs := [_]) ([((lkp x.dm (foldN ((lkp x.hm (foldN y.e.host)).getD le0).e.host)).getD ad0)] : List (Ad)) enc_ad Try.underlying46 ty_66 rfl rfl rfl rfl rfl rfl (fun As2 => ?_)
            refine wl_heap (fun w h => h.nilsl 66 3) ?_
            refine o_appm (xs := ([] : List (Ad))) (enc := adC) (sz := 3) [((lkp x.dm (foldN ((lkp x.hm (foldN y.e.host)).getD le0).e.host)).getD ad0)] Try.underlying46 ty_66 rfl rfl rfl (fun A c => .z) (src_L 1 Try.underlying46 rfl) (by simp only [List.length_cons, List.length_nil, Nat.zero_add]; omega) (by simp only [List.length_cons, List.length_nil, Nat.zero_add]; omega) rfl (fun A3 c3 => ?_)
            refine o_y (y_assign rfl) rfl rfl ?_
            refine wl_nil ?_
            refine e_seq ?_
            refine w_seq ?_
            refine w_region ?_
            refine o_y (y_loadrs 3 ty_50 rfl rfl rfl rfl) rfl rfl ?_
            refine o_y (y_move rfl) rfl rfl ?_
            refine o_callr1 rfl ent_76 rfl (c_entry_Addrs ((lkp x.hm (foldN y.e.host)).getD le0).e ((lkp x.hm (foldN y.e.host)).getD le0).A ((lkp x.hm (foldN y.e.host)).getD le0).B ((lkp x.hm (foldN y.e.host)).getD le0).c ((lkp x.hm (foldN y.e.host)).getD le0).d _ _ [((lkp x.dm (foldN ((lkp x.hm (foldN y.e.host)).getD le0).e.host)).getD ad0)] hhd (by simp) hob.wa (by have := hob.la; omega) (by have := hob.lp; omega) hob.k) (fun w hw => (rd_cons (rd_all (rd_S 4 rfl hw) (mem_flatR (.tail _ hom) _ (elRA _))) (rd_cons (rd_all (rd_S 4 rfl hw) (mem_flatR (.tail _ hom) _ (elRB _))) (rd_cons (rd_Ls 0 rfl hw) rd_nil)))) (fun ⟨A4, c4⟩ => ?_)
            refine o_y (y_assign rfl) rfl rfl ?_
            refine wl_nil ?_
            refine e_seq ?_
            refine w_ret ?_
            refine e_ret (ts := [4]) rfl rfl rfl (fun w hw => ?_)
            have hE : adsI x y.e.host = entAd ((lkp x.hm (foldN y.e.host)).getD le0).e [((lkp x.dm (foldN ((lkp x.hm (foldN y.e.host)).getD le0).e.host)).getD ad0)] := by rw [adsI_own hn0 h4_0, heldI_some h8_0]
            rw [hE]
            exact ⟨(A4, c4), rfl, hw.base, (hw.weak (.cons_cons _ (List.nil_sublist _)) (fun s hs => hs)).toNews⟩
          · skip
            refine wl_nil ?_
            refine e_seq ?_
            refine w_cond_f rfl ?_
            refine w_skip ?_
            refine e_seq ?_
            refine w_seq ?_
            refine w_region ?_
            refine o_y (y_loadrs 1 ty_50 rfl rfl rfl rfl) rfl rfl ?_
            refine o_y (y_move rfl) rfl rfl ?_
            refine o_callr1 rfl ent_76 rfl (c_entry_Addrs ((lkp x.hm (foldN y.e.host)).getD le0).e ((lkp x.hm (foldN y.e.host)).getD le0).A ((lkp x.hm (foldN y.e.host)).getD le0).B ((lkp x.hm (foldN y.e.host)).getD le0).c ((lkp x.hm (foldN y.e.host)).getD le0).d _ _ [] (by simp) (by simp) hob.wa (by have := hob.la; omega) (by have := hob.lp; omega) hob.k) (fun w hw => (rd_cons (rd_all (rd_S 4 rfl hw) (mem_flatR (.tail _ hom) _ (elRA _))) (rd_cons (rd_all (rd_S 4 rfl hw) (mem_flatR (.tail _ hom) _ (elRB _))) (rd_cons (rd_none1) rd_nil)))) (fun ⟨A5, c5⟩ => ?_)
            refine o_y (y_assign rfl) rfl rfl ?_
            refine wl_nil ?_
            refine e_seq ?_
            refine w_ret ?_
            refine e_ret (ts := [4]) rfl rfl rfl (fun w hw => ?_)
            have hE : adsI x y.e.host = entAd ((lkp x.hm (foldN y.e.host)).getD le0).e [] := by rw [adsI_own hn0 h4_0, heldI_none h8_0]
            rw [hE]
            exact ⟨(A5, c5), rfl, hw.base, (hw.weak (.cons_cons _ (List.nil_sublist _)) (fun s hs => hs)).toNews⟩
        · skip
          refine w_seq ?_
          refine w_drawU 11 rfl mixed ?_
          refine u_take (i := 0) rfl wanted_none (y_move rfl) (fun w h => h) (fun w h => h) rfl (pk_seq (pk_seq pk_fn)) (by kernel_rfl) rfl ?_
          refine u_take (i := 1) rfl wanted_none (y_nilCheck rfl) (fun w h => h) (fun w h => h) rfl (pk_seq (pk_seq pk_fn)) (by kernel_rfl) rfl ?_
          refine u_take (i := 2) rfl wanted_none (y_field fa_119_2 rfl) (fun w h => h) (fun w h => h) rfl (pk_seq (pk_seq pk_fn)) (by kernel_rfl) rfl ?_
          refine u_take (i := 3) rfl wanted_none (y_loadSo 0 ty_115 rfl rfl rfl) (fun w h => h) (fun w h => h) rfl (pk_seq (pk_seq pk_fn)) (by kernel_rfl) rfl ?_
          refine u_take (i := 4) rfl wanted_none (y_loadrs 0 ty_50 rfl rfl rfl rfl) (fun w h => h) (fun w h => h) rfl (pk_seq (pk_seq pk_fn)) (by kernel_rfl) rfl ?_
          refine u_many (js := [5, 10]) (by kernel_rfl) rfl ?_
          refine wru_cons (i := 5) rfl rfl rfl (tame_call rfl ent_67) rfl ?_ ?_
          · skip
            refine o_callp rfl ent_67 (c_entry_Key ((lkp x.hm (foldN y.e.host)).getD le0).e _ _ _ _ (by have := hob.h; omega)) rfl ?_
            refine wl_nil ?_
            refine eu_one (fun w h => h) ?_
            refine u_many (js := [6, 10]) (by kernel_rfl) rfl ?_
            refine wru_cons (i := 6) rfl rfl rfl (tame_call rfl ent_75) rfl ?_ ?_
            · skip
              refine o_callq rfl ent_75 rfl (c_ask_d _ _ _) (fun w hw => (rd_cons (rd_S 2 rfl hw) rd_nil)) ?_
              refine wl_nil ?_
              refine eu_one (fun w h => h) ?_
              refine u_take (i := 7) rfl wanted_none (y_move rfl) (fun w h => h) (fun w h => h) rfl (pk_seq (pk_seq pk_fn)) (by kernel_rfl) rfl ?_
              refine u_take (i := 8) rfl wanted_none (y_extract rfl rfl) (fun w h => h) (fun w h => h) rfl (pk_seq (pk_seq pk_fn)) (by kernel_rfl) rfl ?_
              refine u_many (js := [9, 10]) (by kernel_rfl) rfl ?_
              refine wru_cons (i := 9) rfl rfl rfl (fun _ _ _ => tame_op (by kernel_rfl)) rfl ?_ ?_
              · skip
                refine o_y (y_extract rfl rfl) rfl rfl ?_
                refine wl_nil ?_
                refine eu_one (fun w h => h) ?_
                refine u_one (i := 10) rfl rfl rfl (fun _ _ _ => tame_op (by kernel_rfl)) (by kernel_rfl) rfl ?_
                refine o_alloc ty_66 rfl rfl (fun b7 => ?_)
                refine wl_nil ?_
                refine eu_one (fun w h => h.weak (.cons _ (List.Sublist.refl _)) (fun s hs => hs)) ?_
                refine u_one (i := 11) rfl rfl rfl (fun _ _ _ => tame_op (by kernel_rfl)) (by kernel_rfl) rfl ?_
                refine o_store ty_66 rfl rfl rfl .z rfl rfl rfl rfl ?_
                refine wl_nil ?_
                refine eu_tail rfl ?_
                refine u_one (i := 12) rfl rfl rfl (fun _ _ _ => tame_op (by kernel_rfl)) (by kernel_rfl) rfl ?_
                refine o_y (y_assign rfl) rfl rfl ?_
                refine wl_nil ?_
                refine eu_tail rfl ?_
                refine u_done (by kernel_rfl) ?_
                refine e_seq ?_
                refine w_heap (fun w h => h.weak (.cons_cons _ (List.Sublist.refl _)) (fun s hs => hs)) ?_
                exact J7 b7 _ (by repeat (first | exact trivial | refine ⟨rfl, ?_⟩))
              refine wru_cons (i := 10) rfl rfl rfl (fun _ _ _ => tame_op (by kernel_rfl)) rfl ?_ ?_
              · skip
                refine o_alloc ty_66 rfl rfl (fun b8 => ?_)
                refine wl_nil ?_
                refine eu_one (fun w h => h.weak (.cons _ (List.Sublist.refl _)) (fun s hs => hs)) ?_
                refine u_many (js := [9, 11]) (by kernel_rfl) rfl ?_
                refine wru_cons (i := 9) rfl rfl rfl (fun _ _ _ => tame_op (by kernel_rfl)) rfl ?_ ?_
                · skip
                  refine o_y (y_extract rfl rfl) rfl rfl ?_
                  refine wl_nil ?_
                  refine eu_one (fun w h => h.weak (.cons _ (List.Sublist.refl _)) (fun s hs => hs)) ?_
                  refine u_one (i := 11) rfl rfl rfl (fun _ _ _ => tame_op (by kernel_rfl)) (by kernel_rfl) rfl ?_
                  refine o_store ty_66 rfl rfl rfl .z rfl rfl rfl rfl ?_
                  refine wl_nil ?_
                  refine eu_tail rfl ?_
                  refine u_one (i := 12) rfl rfl rfl (fun _ _ _ => tame_op (by kernel_rfl)) (by kernel_rfl) rfl ?_
                  refine o_y (y_assign rfl) rfl rfl ?_
                  refine wl_nil ?_
                  refine eu_tail rfl ?_
                  refine u_done (by kernel_rfl) ?_
                  refine e_seq ?_
                  refine w_heap (fun w h => h.weak (.cons_cons _ (List.Sublist.refl _)) (fun s hs => hs)) ?_
                  exact J7 b8 _ (by repeat (first | exact trivial | refine ⟨rfl, ?_⟩))
                refine wru_cons (i := 11) rfl rfl rfl (fun _ _ _ => tame_op (by kernel_rfl)) rfl ?_ ?_
                · skip
                  refine o_store ty_66 rfl rfl rfl .z rfl rfl rfl rfl ?_
                  refine wl_nil ?_
                  refine eu_tail rfl ?_
                  refine u_one (i := 9) rfl rfl rfl (fun _ _ _ => tame_op (by kernel_rfl)) (by kernel_rfl) rfl ?_
                  refine o_y (y_extract rfl rfl) rfl rfl ?_
                  refine wl_nil ?_
                  refine eu_tail rfl ?_
                  refine u_one (i := 12) rfl rfl rfl (fun _ _ _ => tame_op (by kernel_rfl)) (by kernel_rfl) rfl ?_
                  refine o_y (y_assign rfl) rfl rfl ?_
                  refine wl_nil ?_
                  refine eu_tail rfl ?_
                  refine u_done (by kernel_rfl) ?_
                  refine e_seq ?_
                  refine w_heap (fun w h => h.weak (.cons_cons _ (List.Sublist.refl _)) (fun s hs => hs)) ?_
                  exact J7 b8 _ (by repeat (first | exact trivial | refine ⟨rfl, ?_⟩))
                exact wru_nil
              exact wru_nil
            refine wru_cons (i := 10) rfl rfl rfl (fun _ _ _ => tame_op (by kernel_rfl)) rfl ?_ ?_
            · skip
              refine o_alloc ty_66 rfl rfl (fun b9 => ?_)
              refine wl_nil ?_
              refine eu_one (fun w h => h.weak (.cons _ (List.Sublist.refl _)) (fun s hs => hs)) ?_
              refine u_one (i := 6) rfl rfl rfl (tame_call rfl ent_75) (by kernel_rfl) rfl ?_
              refine o_callq rfl ent_75 rfl (c_ask_d _ _ _) (fun w hw => (rd_cons (rd_S 2 rfl hw) rd_nil)) ?_
              refine wl_nil ?_
              refine eu_one (fun w h => h.weak (.cons _ (List.Sublist.refl _)) (fun s hs => hs)) ?_
              refine u_take (i := 7) rfl wanted_none (y_move rfl) (fun w h => h.weak (.cons _ (List.Sublist.refl _)) (fun s hs => hs)) (fun w h => h) rfl (pk_seq (pk_seq pk_fn)) (by kernel_rfl) rfl ?_
              refine u_take (i := 8) rfl wanted_none (y_extract rfl rfl) (fun w h => h.weak (.cons _ (List.Sublist.refl _)) (fun s hs => hs)) (fun w h => h) rfl (pk_seq (pk_seq pk_fn)) (by kernel_rfl) rfl ?_
              refine u_many (js := [9, 11]) (by kernel_rfl) rfl ?_
              refine wru_cons (i := 9) rfl rfl rfl (fun _ _ _ => tame_op (by kernel_rfl)) rfl ?_ ?_
              · skip
                refine o_y (y_extract rfl rfl) rfl rfl ?_
                refine wl_nil ?_
                refine eu_one (fun w h => h.weak (.cons _ (List.Sublist.refl _)) (fun s hs => hs)) ?_
                refine u_one (i := 11) rfl rfl rfl (fun _ _ _ => tame_op (by kernel_rfl)) (by kernel_rfl) rfl ?_
                refine o_store ty_66 rfl rfl rfl .z rfl rfl rfl rfl ?_
                refine wl_nil ?_
                refine eu_tail rfl ?_
                refine u_one (i := 12) rfl rfl rfl (fun _ _ _ => tame_op (by kernel_rfl)) (by kernel_rfl) rfl ?_
                refine o_y (y_assign rfl) rfl rfl ?_
                refine wl_nil ?_
                refine eu_tail rfl ?_
                refine u_done (by kernel_rfl) ?_
                refine e_seq ?_
                refine w_heap (fun w h => h.weak (.cons_cons _ (List.Sublist.refl _)) (fun s hs => hs)) ?_
                exact J7 b9 _ (by repeat (first | exact trivial | refine ⟨rfl, ?_⟩))
              refine wru_cons (i := 11) rfl rfl rfl (fun _ _ _ => tame_op (by kernel_rfl)) rfl ?_ ?_
              · skip
                refine o_store ty_66 rfl rfl rfl .z rfl rfl rfl rfl ?_
                refine wl_nil ?_
                refine eu_tail rfl ?_
                refine u_one (i := 9) rfl rfl rfl (fun _ _ _ => tame_op (by kernel_rfl)) (by kernel_rfl) rfl ?_
                refine o_y (y_extract rfl rfl) rfl rfl ?_
                refine wl_nil ?_
                refine eu_tail rfl ?_
                refine u_one (i := 12) rfl rfl rfl (fun _ _ _ => tame_op (by kernel_rfl)) (by kernel_rfl) rfl ?_
                refine o_y (y_assign rfl) rfl rfl ?_
                refine wl_nil ?_
                refine eu_tail rfl ?_
                refine u_done (by kernel_rfl) ?_
                refine e_seq ?_
                refine w_heap (fun w h => h.weak (.cons_cons _ (List.Sublist.refl _)) (fun s hs => hs)) ?_
                exact J7 b9 _ (by repeat (first | exact trivial | refine ⟨rfl, ?_⟩))
              exact wru_nil
            exact wru_nil
          refine wru_cons (i := 10) rfl rfl rfl (fun _ _ _ => tame_op (by kernel_rfl)) rfl ?_ ?_
          · skip
            refine o_alloc ty_66 rfl rfl (fun b10 => ?_)
            refine wl_nil ?_
            refine eu_one (fun w h => h.weak (.cons _ (List.Sublist.refl _)) (fun s hs => hs)) ?_
            refine u_one (i := 5) rfl rfl rfl (tame_call rfl ent_67) (by kernel_rfl) rfl ?_
            refine o_callp rfl ent_67 (c_entry_Key ((lkp x.hm (foldN y.e.host)).getD le0).e _ _ _ _ (by have := hob.h; omega)) rfl ?_
            refine wl_nil ?_
            refine eu_one (fun w h => h.weak (.cons _ (List.Sublist.refl _)) (fun s hs => hs)) ?_
            refine u_one (i := 6) rfl rfl rfl (tame_call rfl ent_75) (by kernel_rfl) rfl ?_
            refine o_callq rfl ent_75 rfl (c_ask_d _ _ _) (fun w hw => (rd_cons (rd_S 2 rfl hw) rd_nil)) ?_
            refine wl_nil ?_
            refine eu_one (fun w h => h.weak (.cons _ (List.Sublist.refl _)) (fun s hs => hs)) ?_
            refine u_take (i := 7) rfl wanted_none (y_move rfl) (fun w h => h.weak (.cons _ (List.Sublist.refl _)) (fun s hs => hs)) (fun w h => h) rfl (pk_seq (pk_seq pk_fn)) (by kernel_rfl) rfl ?_
            refine u_take (i := 8) rfl wanted_none (y_extract rfl rfl) (fun w h => h.weak (.cons _ (List.Sublist.refl _)) (fun s hs => hs)) (fun w h => h) rfl (pk_seq (pk_seq pk_fn)) (by kernel_rfl) rfl ?_
            refine u_many (js := [9, 11]) (by kernel_rfl) rfl ?_
            refine wru_cons (i := 9) rfl rfl rfl (fun _ _ _ => tame_op (by kernel_rfl)) rfl ?_ ?_
            · skip
              refine o_y (y_extract rfl rfl) rfl rfl ?_
              refine wl_nil ?_
              refine eu_one (fun w h => h.weak (.cons _ (List.Sublist.refl _)) (fun s hs => hs)) ?_
              refine u_one (i := 11) rfl rfl rfl (fun _ _ _ => tame_op (by kernel_rfl)) (by kernel_rfl) rfl ?_
              refine o_store ty_66 rfl rfl rfl .z rfl rfl rfl rfl ?_
              refine wl_nil ?_
              refine eu_tail rfl ?_
              refine u_one (i := 12) rfl rfl rfl (fun _ _ _ => tame_op (by kernel_rfl)) (by kernel_rfl) rfl ?_
              refine o_y (y_assign rfl) rfl rfl ?_
              refine wl_nil ?_
              refine eu_tail rfl ?_
              refine u_done (by kernel_rfl) ?_
              refine e_seq ?_
              refine w_heap (fun w h => h.weak (.cons_cons _ (List.Sublist.refl _)) (fun s hs => hs)) ?_
              exact J7 b10 _ (by repeat (first | exact trivial | refine ⟨rfl, ?_⟩))
            refine wru_cons (i := 11) rfl rfl rfl (fun _ _ _ => tame_op (by kernel_rfl)) rfl ?_ ?_
            · skip
              refine o_store ty_66 rfl rfl rfl .z rfl rfl rfl rfl ?_
              refine wl_nil ?_
              refine eu_tail rfl ?_
              refine u_one (i := 9) rfl rfl rfl (fun _ _ _ => tame_op (by kernel_rfl)) (by kernel_rfl) rfl ?_
              refine o_y (y_extract rfl rfl) rfl rfl ?_
              refine wl_nil ?_
              refine eu_tail rfl ?_
              refine u_one (i := 12) rfl rfl rfl (fun _ _ _ => tame_op (by kernel_rfl)) (by kernel_rfl) rfl ?_
              refine o_y (y_assign rfl) rfl rfl ?_
              refine wl_nil ?_
              refine eu_tail rfl ?_
              refine u_done (by kernel_rfl) ?_
              refine e_seq ?_
              refine w_heap (fun w h => h.weak (.cons_cons _ (List.Sublist.refl _)) (fun s hs => hs)) ?_
              exact J7 b10 _ (by repeat (first | exact trivial | refine ⟨rfl, ?_⟩))
            exact wru_nil
          exact wru_nil
      · skip
        refine o_y (y_not rfl) rfl rfl ?_
        refine wl_nil ?_
        refine e_seq ?_
        refine w_cond_t rfl ?_
        refine w_seq ?_
        refine w_region ?_
        refine o_y (y_assign rfl) rfl rfl ?_
        refine wl_nil ?_
        refine e_seq ?_
        refine w_ret ?_
        refine e_seq_ret ?_
        refine e_ret (ts := [4]) rfl rfl rfl (fun w hw => ?_)
        rw [adsI_none hn0 h4_0]
        exact ⟨(none, 0), rfl, hw.base, ((hw.weak (List.nil_sublist _) (fun s hs => hs)).nilsl 66 3).toNews⟩
    · skip
      refine w_seq ?_
      refine w_drawU 11 rfl mixed ?_
      refine u_take (i := 0) rfl wanted_none (y_move rfl) (fun w h => h) (fun w h => h) rfl (pk_seq pk_fn) (by kernel_rfl) rfl ?_
      refine u_take (i := 1) rfl wanted_none (y_nilCheck rfl) (fun w h => h) (fun w h => h) rfl (pk_seq pk_fn) (by kernel_rfl) rfl ?_
      refine u_take (i := 2) rfl wanted_none (y_field fa_119_1 rfl) (fun w h => h) (fun w h => h) rfl (pk_seq pk_fn) (by kernel_rfl) rfl ?_
      refine u_take (i := 3) rfl wanted_none (y_loadSo 0 ty_113 rfl rfl rfl) (fun w h => h) (fun w h => h) rfl (pk_seq pk_fn) (by kernel_rfl) rfl ?_
      refine u_take (i := 4) rfl wanted_none (y_loadrs 0 ty_50 rfl rfl rfl rfl) (fun w h => h) (fun w h => h) rfl (pk_seq pk_fn) (by kernel_rfl) rfl ?_
      refine u_many (js := [5, 10]) (by kernel_rfl) rfl ?_
      refine wru_cons (i := 5) rfl rfl rfl (tame_call rfl ent_67) rfl ?_ ?_
      · skip
        refine o_callp rfl ent_67 (c_entry_Key _ _ _ _ _ (by omega)) rfl ?_
        refine wl_nil ?_
        refine eu_one (fun w h => h) ?_
        refine u_many (js := [6, 10]) (by kernel_rfl) rfl ?_
        refine wru_cons (i := 6) rfl rfl rfl (tame_call rfl ent_68) rfl ?_ ?_
        · skip
          refine o_callq rfl ent_68 rfl (c_ask_h _ _ _) (fun w hw => (rd_cons (rd_S 1 rfl hw) rd_nil)) ?_
          refine wl_nil ?_
          refine eu_one (fun w h => h) ?_
          refine u_take (i := 7) rfl wanted_none (y_move rfl) (fun w h => h) (fun w h => h) rfl (pk_seq pk_fn) (by kernel_rfl) rfl ?_
          refine u_take (i := 8) rfl wanted_none (y_extract rfl rfl) (fun w h => h) (fun w h => h) rfl (pk_seq pk_fn) (by kernel_rfl) rfl ?_
          refine u_many (js := [9, 10]) (by kernel_rfl) rfl ?_
          refine wru_cons (i := 9) rfl rfl rfl (fun _ _ _ => tame_op (by kernel_rfl)) rfl ?_ ?_
          · skip
            refine o_y (y_extract rfl rfl) rfl rfl ?_
            refine wl_nil ?_
            refine eu_one (fun w h => h) ?_
            refine u_one (i := 10) rfl rfl rfl (fun _ _ _ => tame_op (by kernel_rfl)) (by kernel_rfl) rfl ?_
            refine o_alloc ty_50 rfl rfl (fun b11 => ?_)
            refine wl_nil ?_
            refine eu_one (fun w h => h.weak (.cons _ (List.Sublist.refl _)) (fun s hs => hs)) ?_
            refine u_one (i := 11) rfl rfl rfl (fun _ _ _ => tame_op (by kernel_rfl)) (by kernel_rfl) rfl ?_
            refine o_store ty_50 rfl rfl rfl .z rfl rfl rfl rfl ?_
            refine wl_nil ?_
            refine eu_tail rfl ?_
            refine u_one (i := 12) rfl rfl rfl (fun _ _ _ => tame_op (by kernel_rfl)) (by kernel_rfl) rfl ?_
            refine o_y (y_assign rfl) rfl rfl ?_
            refine wl_nil ?_
            refine eu_tail rfl ?_
            refine u_done (by kernel_rfl) ?_
            refine e_seq ?_
            refine w_heap (fun w h => h.weak (.cons_cons _ (List.Sublist.refl _)) (fun s hs => hs)) ?_
            exact J3 b11 _ (by repeat (first | exact trivial | refine ⟨rfl, ?_⟩))
          refine wru_cons (i := 10) rfl rfl rfl (fun _ _ _ => tame_op (by kernel_rfl)) rfl ?_ ?_
          · skip
            refine o_alloc ty_50 rfl rfl (fun b12 => ?_)
            refine wl_nil ?_
            refine eu_one (fun w h => h.weak (.cons _ (List.Sublist.refl _)) (fun s hs => hs)) ?_
            refine u_many (js := [9, 11]) (by kernel_rfl) rfl ?_
            refine wru_cons (i := 9) rfl rfl rfl (fun _ _ _ => tame_op (by kernel_rfl)) rfl ?_ ?_
            · skip
              refine o_y (y_extract rfl rfl) rfl rfl ?_
              refine wl_nil ?_
              refine eu_one (fun w h => h.weak (.cons _ (List.Sublist.refl _)) (fun s hs => hs)) ?_
              refine u_one (i := 11) rfl rfl rfl (fun _ _ _ => tame_op (by kernel_rfl)) (by kernel_rfl) rfl ?_
              refine o_store ty_50 rfl rfl rfl .z rfl rfl rfl rfl ?_
              refine wl_nil ?_
              refine eu_tail rfl ?_
              refine u_one (i := 12) rfl rfl rfl (fun _ _ _ => tame_op (by kernel_rfl)) (by kernel_rfl) rfl ?_
              refine o_y (y_assign rfl) rfl rfl ?_
              refine wl_nil ?_
              refine eu_tail rfl ?_
              refine u_done (by kernel_rfl) ?_
              refine e_seq ?_
              refine w_heap (fun w h => h.weak (.cons_cons _ (List.Sublist.refl _)) (fun s hs => hs)) ?_
              exact J3 b12 _ (by repeat (first | exact trivial | refine ⟨rfl, ?_⟩))
            refine wru_cons (i := 11) rfl rfl rfl (fun _ _ _ => tame_op (by kernel_rfl)) rfl ?_ ?_
            · skip
              refine o_store ty_50 rfl rfl rfl .z rfl rfl rfl rfl ?_
              refine wl_nil ?_
              refine eu_tail rfl ?_
              refine u_one (i := 9) rfl rfl rfl (fun _ _ _ => tame_op (by kernel_rfl)) (by kernel_rfl) rfl ?_
              refine o_y (y_extract rfl rfl) rfl rfl ?_
              refine wl_nil ?_
              refine eu_tail rfl ?_
              refine u_one (i := 12) rfl rfl rfl (fun _ _ _ => tame_op (by kernel_rfl)) (by kernel_rfl) rfl ?_
              refine o_y (y_assign rfl) rfl rfl ?_
              refine wl_nil ?_
              refine eu_tail rfl ?_
              refine u_done (by kernel_rfl) ?_
              refine e_seq ?_
              refine w_heap (fun w h => h.weak (.cons_cons _ (List.Sublist.refl _)) (fun s hs => hs)) ?_
              exact J3 b12 _ (by repeat (first | exact trivial | refine ⟨rfl, ?_⟩))
            exact wru_nil
          exact wru_nil
        refine wru_cons (i := 10) rfl rfl rfl (fun _ _ _ => tame_op (by kernel_rfl)) rfl ?_ ?_
        · skip
          refine o_alloc ty_50 rfl rfl (fun b13 => ?_)
          refine wl_nil ?_
          refine eu_one (fun w h => h.weak (.cons _ (List.Sublist.refl _)) (fun s hs => hs)) ?_
          refine u_one (i := 6) rfl rfl rfl (tame_call rfl ent_68) (by kernel_rfl) rfl ?_
          refine o_callq rfl ent_68 rfl (c_ask_h _ _ _) (fun w hw => (rd_cons (rd_S 1 rfl hw) rd_nil)) ?_
          refine wl_nil ?_
          refine eu_one (fun w h => h.weak (.cons _ (List.Sublist.refl _)) (fun s hs => hs)) ?_
          refine u_take (i := 7) rfl wanted_none (y_move rfl) (fun w h => h.weak (.cons _ (List.Sublist.refl _)) (fun s hs => hs)) (fun w h => h) rfl (pk_seq pk_fn) (by kernel_rfl) rfl ?_
          refine u_take (i := 8) rfl wanted_none (y_extract rfl rfl) (fun w h => h.weak (.cons _ (List.Sublist.refl _)) (fun s hs => hs)) (fun w h => h) rfl (pk_seq pk_fn) (by kernel_rfl) rfl ?_
          refine u_many (js := [9, 11]) (by kernel_rfl) rfl ?_
          refine wru_cons (i := 9) rfl rfl rfl (fun _ _ _ => tame_op (by kernel_rfl)) rfl ?_ ?_
          · skip
            refine o_y (y_extract rfl rfl) rfl rfl ?_
            refine wl_nil ?_
            refine eu_one (fun w h => h.weak (.cons _ (List.Sublist.refl _)) (fun s hs => hs)) ?_
            refine u_one (i := 11) rfl rfl rfl (fun _ _ _ => tame_op (by kernel_rfl)) (by kernel_rfl) rfl ?_
            refine o_store ty_50 rfl rfl rfl .z rfl rfl rfl rfl ?_
            refine wl_nil ?_
            refine eu_tail rfl ?_
            refine u_one (i := 12) rfl rfl rfl (fun _ _ _ => tame_op (by kernel_rfl)) (by kernel_rfl) rfl ?_
            refine o_y (y_assign rfl) rfl rfl ?_
            refine wl_nil ?_
            refine eu_tail rfl ?_
            refine u_done (by kernel_rfl) ?_
            refine e_seq ?_
            refine w_heap (fun w h => h.weak (.cons_cons _ (List.Sublist.refl _)) (fun s hs => hs)) ?_
            exact J3 b13 _ (by repeat (first | exact trivial | refine ⟨rfl, ?_⟩))
          refine wru_cons (i := 11) rfl rfl rfl (fun _ _ _ => tame_op (by kernel_rfl)) rfl ?_ ?_
          · skip
            refine o_store ty_50 rfl rfl rfl .z rfl rfl rfl rfl ?_
            refine wl_nil ?_
            refine eu_tail rfl ?_
            refine u_one (i := 9) rfl rfl rfl (fun _ _ _ => tame_op (by kernel_rfl)) (by kernel_rfl) rfl ?_
            refine o_y (y_extract rfl rfl) rfl rfl ?_
            refine wl_nil ?_
            refine eu_tail rfl ?_
            refine u_one (i := 12) rfl rfl rfl (fun _ _ _ => tame_op (by kernel_rfl)) (by kernel_rfl) rfl ?_
            refine o_y (y_assign rfl) rfl rfl ?_
            refine wl_nil ?_
            refine eu_tail rfl ?_
            refine u_done (by kernel_rfl) ?_
            refine e_seq ?_
            refine w_heap (fun w h => h.weak (.cons_cons _ (List.Sublist.refl _)) (fun s hs => hs)) ?_
            exact J3 b13 _ (by repeat (first | exact trivial | refine ⟨rfl, ?_⟩))
          exact wru_nil
        exact wru_nil
      refine wru_cons (i := 10) rfl rfl rfl (fun _ _ _ => tame_op (by kernel_rfl)) rfl ?_ ?_
      · skip
        refine o_alloc ty_50 rfl rfl (fun b14 => ?_)
        refine wl_nil ?_
        refine eu_one (fun w h => h.weak (.cons _ (List.Sublist.refl _)) (fun s hs => hs)) ?_
        refine u_one (i := 5) rfl rfl rfl (tame_call rfl ent_67) (by kernel_rfl) rfl ?_
        refine o_callp rfl ent_67 (c_entry_Key _ _ _ _ _ (by omega)) rfl ?_
        refine wl_nil ?_
        refine eu_one (fun w h => h.weak (.cons _ (List.Sublist.refl _)) (fun s hs => hs)) ?_
        refine u_one (i := 6) rfl rfl rfl (tame_call rfl ent_68) (by kernel_rfl) rfl ?_
        refine o_callq rfl ent_68 rfl (c_ask_h _ _ _) (fun w hw => (rd_cons (rd_S 1 rfl hw) rd_nil)) ?_
        refine wl_nil ?_
        refine eu_one (fun w h => h.weak (.cons _ (List.Sublist.refl _)) (fun s hs => hs)) ?_
        refine u_take (i := 7) rfl wanted_none (y_move rfl) (fun w h => h.weak (.cons _ (List.Sublist.refl _)) (fun s hs => hs)) (fun w h => h) rfl (pk_seq pk_fn) (by kernel_rfl) rfl ?_
        refine u_take (i := 8) rfl wanted_none (y_extract rfl rfl) (fun w h => h.weak (.cons _ (List.Sublist.refl _)) (fun s hs => hs)) (fun w h => h) rfl (pk_seq pk_fn) (by kernel_rfl) rfl ?_
        refine u_many (js := [9, 11]) (by kernel_rfl) rfl ?_
        refine wru_cons (i := 9) rfl rfl rfl (fun _ _ _ => tame_op (by kernel_rfl)) rfl ?_ ?_
        · skip
          refine o_y (y_extract rfl rfl) rfl rfl ?_
          refine wl_nil ?_
          refine eu_one (fun w h => h.weak (.cons _ (List.Sublist.refl _)) (fun s hs => hs)) ?_
          refine u_one (i := 11) rfl rfl rfl (fun _ _ _ => tame_op (by kernel_rfl)) (by kernel_rfl) rfl ?_
          refine o_store ty_50 rfl rfl rfl .z rfl rfl rfl rfl ?_
          refine wl_nil ?_
          refine eu_tail rfl ?_
          refine u_one (i := 12) rfl rfl rfl (fun _ _ _ => tame_op (by kernel_rfl)) (by kernel_rfl) rfl ?_
          refine o_y (y_assign rfl) rfl rfl ?_
          refine wl_nil ?_
          refine eu_tail rfl ?_
          refine u_done (by kernel_rfl) ?_
          refine e_seq ?_
          refine w_heap (fun w h => h.weak (.cons_cons _ (List.Sublist.refl _)) (fun s hs => hs)) ?_
          exact J3 b14 _ (by repeat (first | exact trivial | refine ⟨rfl, ?_⟩))
        refine wru_cons (i := 11) rfl rfl rfl (fun _ _ _ => tame_op (by kernel_rfl)) rfl ?_ ?_
        · skip
          refine o_store ty_50 rfl rfl rfl .z rfl rfl rfl rfl ?_
          refine wl_nil ?_
          refine eu_tail rfl ?_
          refine u_one (i := 9) rfl rfl rfl (fun _ _ _ => tame_op (by kernel_rfl)) (by kernel_rfl) rfl ?_
          refine o_y (y_extract rfl rfl) rfl rfl ?_
          refine wl_nil ?_
          refine eu_tail rfl ?_
          refine u_one (i := 12) rfl rfl rfl (fun _ _ _ => tame_op (by kernel_rfl)) (by kernel_rfl) rfl ?_
          refine o_y (y_assign rfl) rfl rfl ?_
          refine wl_nil ?_
          refine eu_tail rfl ?_
          refine u_done (by kernel_rfl) ?_
          refine e_seq ?_
          refine w_heap (fun w h => h.weak (.cons_cons _ (List.Sublist.refl _)) (fun s hs => hs)) ?_
          exact J3 b14 _ (by repeat (first | exact trivial | refine ⟨rfl, ?_⟩))
        exact wru_nil
      exact wru_nil

set_option maxRecDepth 100000 in
theorem c_Of (x : Ixd) (a : Ad) : RC Try.prog 34 #[.pointer (some ⟨x.b, 0, none⟩), .agg (adC a).toArray] [Ch.row x.b (ixC x) 119, Ch.mp x.ra encA encE x.am] (α := Unit) (fun _ => .tuple #[.agg (elC ((lkp x.am a).getD le0)).toArray, .bool (lkp x.am a).isSome]) (fun _ => []) := by
  refine rc_of_W (args := [.pointer (some ⟨x.b, 0, none⟩), .agg (adC a).toArray]) 17 Try.func34 rfl rfl rfl (fun w0 => ?_)
  refine w_seq ?_
  refine w_region ?_
  refine o_box rfl rfl rfl (fun b1 => ?_)
  refine o_alloc ty_50 rfl rfl (fun b2 => ?_)
  refine o_y (y_assign rfl) rfl rfl ?_
  refine wl_nil ?_
  refine e_seq ?_
  refine w_seq ?_
  refine w_seq ?_
  refine w_region ?_
  refine o_y (y_move rfl) rfl rfl ?_
  refine o_y (y_eqp Try.underlying43 rfl rfl) rfl rfl ?_
  refine wl_as (t := 7) (.bool false) rfl (congrArg Value.bool rfl) ?_
  refine wl_nil ?_
  refine e_seq ?_
  refine w_cond_f rfl ?_
  refine w_skip ?_
  refine e_seq ?_
  refine w_seq ?_
  refine w_draw 8 rfl mixed ?_
  refine a_take (i := 0) rfl wanted_none (y_move rfl) (fun w h => h) (fun w h => h) rfl (pk_seq pk_fn) (by kernel_rfl) rfl ?_
  refine a_take (i := 1) rfl wanted_none (y_nilCheck rfl) (fun w h => h) (fun w h => h) rfl (pk_seq pk_fn) (by kernel_rfl) rfl ?_
  refine a_take (i := 2) rfl wanted_none (y_field fa_119_3 rfl) (fun w h => h) (fun w h => h) rfl (pk_seq pk_fn) (by kernel_rfl) rfl ?_
  refine a_take (i := 3) rfl wanted_none (y_loadSo 0 ty_117 rfl rfl rfl) (fun w h => h) (fun w h => h) rfl (pk_seq pk_fn) (by kernel_rfl) rfl ?_
  refine a_take (i := 4) rfl wanted_none (y_loadrs 1 ty_66 rfl rfl rfl rfl) (fun w h => h) (fun w h => h) rfl (pk_seq pk_fn) (by kernel_rfl) rfl ?_
  refine a_one (i := 5) rfl rfl rfl (tame_call rfl ent_77) (by kernel_rfl) rfl ?_
  refine o_callq rfl ent_77 rfl (c_ask_a _ _ _) (fun w hw => (rd_cons (rd_S 1 rfl hw) rd_nil)) ?_
  refine wl_nil ?_
  refine e_one (fun w h => h) ?_
  refine a_take (i := 6) rfl wanted_none (y_extract rfl rfl) (fun w h => h) (fun w h => h) rfl (pk_seq pk_fn) (by kernel_rfl) rfl ?_
  refine a_take (i := 7) rfl wanted_none (y_extract rfl rfl) (fun w h => h) (fun w h => h) rfl (pk_seq pk_fn) (by kernel_rfl) rfl ?_
  refine a_one (i := 8) rfl rfl rfl (fun _ _ _ => tame_op (by kernel_rfl)) (by kernel_rfl) rfl ?_
  refine o_store ty_50 rfl rfl rfl .z rfl rfl rfl rfl ?_
  refine wl_nil ?_
  refine e_tail rfl ?_
  refine a_one (i := 9) rfl rfl rfl (fun _ _ _ => tame_op (by kernel_rfl)) (by kernel_rfl) rfl ?_
  refine o_y (y_assign rfl) rfl rfl ?_
  refine wl_nil ?_
  refine e_tail rfl ?_
  refine a_done (by kernel_rfl) ?_
  refine e_seq ?_
  refine w_ret ?_
  refine e_rsr (rs := [.cell 4 50, .tmp 5]) rfl (rs_cells 0 ty_50 rfl rfl rfl rfl (rs_tmp rfl rs_nil)) rfl (fun w hw => ?_)
  exact ⟨(), rfl, hw.base, (hw.weak (List.nil_sublist _) (fun s hs => hs)).toNews⟩

theorem c_Len (x : Ixd) : RC Try.prog 48 #[.pointer (some ⟨x.b, 0, none⟩)] [Ch.row x.b (ixC x) 119] (α := Unit) (fun _ => .int .i64 x.l.length) (fun _ => []) := by
  refine rc_of_W (args := [.pointer (some ⟨x.b, 0, none⟩)]) 10 Try.func48 rfl rfl rfl (fun w0 => ?_)
  refine w_seq ?_
  refine w_region ?_
  refine o_y (y_assign rfl) rfl rfl ?_
  refine wl_nil ?_
  refine e_seq ?_
  refine w_seq ?_
  refine w_seq ?_
  refine w_region ?_
  refine o_y (y_move rfl) rfl rfl ?_
  refine o_y (y_eqp Try.underlying43 rfl rfl) rfl rfl ?_
  refine wl_as (t := 4) (.bool false) rfl (congrArg Value.bool rfl) ?_
  refine wl_nil ?_
  refine e_seq ?_
  refine w_cond_f rfl ?_
  refine w_skip ?_
  refine e_seq ?_
  refine w_seq ?_
  refine w_region ?_
  refine o_y (y_move rfl) rfl rfl ?_
  refine o_y (y_nilCheck rfl) rfl rfl ?_
  refine o_y (y_field fa_119_0 rfl) rfl rfl ?_
  refine o_y (y_loadSo 0 ty_39 rfl rfl rfl) rfl rfl ?_
  refine o_y (y_lenl Try.underlying39 rfl) rfl rfl ?_
  refine o_y (y_assign rfl) rfl rfl ?_
  refine wl_nil ?_
  refine e_seq ?_
  refine w_ret ?_
  refine e_ret (ts := [2]) rfl rfl rfl (fun w hw => ?_)
  exact ⟨(), rfl, hw.base, (hw.weak (List.nil_sublist _) (fun s hs => hs)).toNews⟩

end Go.Proofs.Ytckfjfnkombelaa
