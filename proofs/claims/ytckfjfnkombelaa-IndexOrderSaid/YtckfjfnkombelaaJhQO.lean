/- the laws of an index: whatever order; the examples -/
import Derived.Test.YtckfjfnkombelaaJgQO
namespace Go.Proofs.Ytckfjfnkombelaa
open Go.RowKit Go.Shelf
set_option linter.unusedVariables false
set_option linter.unusedSimpArgs false

theorem ent_27 : Enters Try.prog 27 := enters_of Try.func27 (by kernel_rfl) rfl
theorem ent_29 : Enters Try.prog 29 := enters_of Try.func29 (by kernel_rfl) rfl
theorem ent_30 : Enters Try.prog 30 := enters_of Try.func30 (by kernel_rfl) rfl
theorem ent_31 : Enters Try.prog 31 := enters_of Try.func31 (by kernel_rfl) rfl
theorem ent_33 : Enters Try.prog 33 := enters_of Try.func33 (by kernel_rfl) rfl
theorem ent_34 : Enters Try.prog 34 := enters_of Try.func34 (by kernel_rfl) rfl
theorem ent_45 : Enters Try.prog 45 := enters_of Try.func45 (by kernel_rfl) rfl
theorem ent_46 : Enters Try.prog 46 := enters_of Try.func46 (by kernel_rfl) rfl
theorem ent_47 : Enters Try.prog 47 := enters_of Try.func47 (by kernel_rfl) rfl

theorem c_Own_hd (l : List Hd) (A : Option Addr) (c : Nat) (hl : l.length ≤ 1000000) : RC Try.prog 46 #[.slice A l.length c] [Ch.rd A 4 hdC l] (α := Option Addr × Nat) (fun p => .slice p.1 l.length p.2) (fun p => [Ch.ls p.1 p.2 88 4 hdC l]) := by
  refine rc_of_W (args := [.slice A l.length c]) 6 Try.func46 rfl rfl rfl (fun w0 => ?_)
  refine w_seq ?_
  refine w_region ?_
  refine o_y (y_assign rfl) rfl rfl ?_
  refine wl_nil ?_
  refine e_seq ?_
  refine w_seq ?_
  refine w_region ?_
  refine o_bsl (vs := []) (([] : List Hd) : List (Hd)) enc_hd Try.underlying58 ty_88 rfl rfl rfl rfl rfl rfl (fun As1 => ?_)
  refine o_y (y_move rfl) rfl rfl ?_
  refine o_appm (enc := hdC) (sz := 4) l Try.underlying58 ty_88 rfl rfl rfl (fun A c => .z) (src_S 0 Try.underlying58 rfl) (by simp only [List.length_cons, List.length_nil, Nat.zero_add]; omega) (by simp only [List.length_cons, List.length_nil, Nat.zero_add]; omega) rfl (fun A1 c1 => ?_)
  refine o_y (y_assign rfl) rfl rfl ?_
  refine wl_nil ?_
  refine e_seq ?_
  refine w_ret ?_
  refine e_ret (ts := [2]) rfl rfl rfl (fun w hw => ?_)
  exact ⟨(A1, c1), rfl, hw.base, (hw.weak (.cons_cons _ .slnil) (fun s hs => hs)).toNews⟩

theorem pick_nat (n : Int) (m : Nat) : ∃ k : Nat, pickI n ((m : Int) + 1) = (k : Int) ∧ k ≤ m := by
  unfold pickI
  split
  · exact ⟨0, rfl, Nat.zero_le _⟩
  · have h1 : 0 ≤ n % ((m : Int) + 1) := Int.emod_nonneg _ (by omega)
    have h2 : n % ((m : Int) + 1) < (m : Int) + 1 := Int.emod_lt_of_pos _ (by omega)
    exact ⟨(n % ((m : Int) + 1)).toNat, by first | omega | (simp; omega), by omega⟩
theorem rot_perm {α : Type} (l : List α) (m : Nat) : (l.drop m ++ l.take m).Perm l := by
  have h := List.perm_append_comm (l₁ := l.drop m) (l₂ := l.take m)
  rw [List.take_append_drop] at h; exact h

set_option maxRecDepth 100000 in
set_option maxHeartbeats 1000000 in
theorem c_IndexOrder (v : Int) (l : List Le) (F : Option Addr) (d : Nat) (hs : List Hd) (Q : Option Addr) (qc : Nat) (bq : Int) (n : Str) (a : Ad) (hnl : n.length ≤ 9223372036854775807) (hen : ∀ x ∈ l, EnOk x.e) (hll : l.length ≤ 9223372036854775807) (hhen : ∀ h ∈ hs, h.host.length ≤ 9223372036854775807 ∧ AdOk h.ad) (hhl : hs.length ≤ 9223372036854775807) (hcap : hs.length ≤ qc) : RC Try.prog 10 #[.agg (tbC v F l.length d).toArray, .slice Q hs.length qc, .int .i64 bq, .string (ba n), .agg (adC a).toArray] [Ch.rd F 7 elC l, Ch.rall (l.flatMap elR), Ch.rd Q 4 hdC hs] (α := Unit) (fun _ => .bool true) (fun _ => []) := by
  refine rc_of_W (args := [.agg (tbC v F l.length d).toArray, .slice Q hs.length qc, .int .i64 bq, .string (ba n), .agg (adC a).toArray]) 138 Try.func10 rfl rfl rfl (fun w0 => ?_)
  rcases Decidable.em (tabCk v l = 0) with hT | hT
  · skip
    refine w_seq ?_
    refine w_region ?_
    refine o_box rfl rfl rfl (fun b1 => ?_)
    refine o_box rfl rfl rfl (fun b2 => ?_)
    refine o_y (y_assign rfl) rfl rfl ?_
    refine wl_nil ?_
    refine e_seq ?_
    refine w_seq ?_
    refine w_seq ?_
    refine w_region ?_
    refine o_callp rfl ent_30 c_lives18 rfl ?_
    refine wl_as (t := 23) (.bool true) rfl (congrArg Value.bool rfl) ?_
    refine o_y (y_not rfl) rfl rfl ?_
    refine wl_nil ?_
    refine e_seq ?_
    refine w_cond_f rfl ?_
    refine w_skip ?_
    refine e_seq ?_
    refine w_seq ?_
    refine w_seq ?_
    refine w_region ?_
    refine o_y (y_field fa_41_1 rfl) rfl rfl ?_
    refine o_y (y_loadr 1 ty_39 rfl rfl rfl) rfl rfl ?_
    refine o_callq rfl ent_24 rfl (c_LightEntries _ _ _ _ (by omega)) (fun w hw => (rd_cons (rd_S 0 rfl hw) rd_nil)) ?_
    refine wl_splitb (t := 27) rfl (fun h3_2 => ?_) (fun h3_2 => ?_)
    · skip
      have hle9 := lightEs_le h3_2
      have hok : TbOk l := fun x hx => ⟨hen x hx, hle9.1 x hx⟩
      have hl9 := hle9.2
      refine o_y (y_not rfl) rfl rfl ?_
      refine o_y (y_move rfl) rfl rfl ?_
      refine wl_gyes rfl rfl ?_
      refine o_y (y_move rfl) rfl rfl ?_
      refine wl_gyes rfl rfl ?_
      refine o_callq rfl ent_31 rfl (c_LightHeld _ _ _ _ (by omega)) (fun w hw => (rd_cons (rd_S 2 rfl hw) rd_nil)) ?_
      refine wl_splitb (t := 31) rfl (fun h3_6 => ?_) (fun h3_6 => ?_)
      · skip
        have hlh := lightHs_le h3_6
        have hlh2 := hlh.2
        have hhs : ∀ h ∈ hs, 0 ≤ h.ad.lo := fun h hh => (hhen h hh).2.2.2.1
        have hhh : ∀ h ∈ hs, h.host.length ≤ 1000 ∧ 0 ≤ h.ad.lo := fun h hh => ⟨by have := hlh.1 h hh; omega, hhs h hh⟩
        refine wl_gyes rfl rfl ?_
        refine o_y (y_not rfl) rfl rfl ?_
        refine o_y (y_pick_f rfl rfl) rfl rfl ?_
        refine o_y (y_move rfl) rfl rfl ?_
        refine wl_gyes rfl rfl ?_
        refine o_y (y_move rfl) rfl rfl ?_
        refine wl_gyes rfl rfl ?_
        refine o_y (y_lens Try.underlying25 rfl) rfl rfl ?_
        refine wl_gyes rfl rfl ?_
        refine o_y (y_gtr rfl rfl) rfl rfl ?_
        refine wl_splitp (t := 37) rfl (fun h3_12 => ?_) (fun h3_12 => ?_)
        · skip
          refine o_y (y_pick_f rfl rfl) rfl rfl ?_
          refine wl_nil ?_
          refine e_seq ?_
          refine w_cond_t rfl ?_
          refine w_seq ?_
          refine w_region ?_
          refine o_y (y_assign rfl) rfl rfl ?_
          refine wl_nil ?_
          refine e_seq ?_
          refine w_ret ?_
          refine e_seq_ret ?_
          refine e_ret (ts := [10]) rfl rfl rfl (fun w hw => ?_)
          exact ⟨(), rfl, hw.base, (hw.weak (List.nil_sublist _) (fun s hs => hs)).toNews⟩
        · skip
          refine o_y (y_pick_f rfl rfl) rfl rfl ?_
          refine wl_nil ?_
          refine e_seq ?_
          refine w_cond_f rfl ?_
          refine w_skip ?_
          refine e_seq ?_
          refine w_seq ?_
          refine w_region ?_
          refine o_y (y_move rfl) rfl rfl ?_
          refine o_y (y_move rfl) rfl rfl ?_
          refine o_y (y_lenl Try.underlying58 rfl) rfl rfl ?_
          refine o_y (y_addi rfl rfl (by omega) (by omega)) rfl rfl ?_
          refine o_callp rfl ent_27 (c_kit_Pick _ _ (by omega) (by omega)) rfl ?_
          obtain ⟨m, hm9, hm8⟩ := pick_nat bq hs.length
          refine wl_as (t := 43) (.int .i64 (m : Int)) rfl (by rw [hm9]) ?_
          refine o_y (y_assign rfl) rfl rfl ?_
          refine wl_nil ?_
          refine e_seq ?_
          refine w_seq ?_
          refine w_region ?_
          refine o_y (y_loadrs 1 ty_41 rfl rfl rfl rfl) rfl rfl ?_
          refine o_y (y_move rfl) rfl rfl ?_
          refine o_callr1 rfl ent_25 rfl (c_index_NewH v l _ _ Q hs qc hok (by omega) hT (by omega) hhh) (fun w hw => (rd_cons (rd_S 0 rfl hw) (rd_cons (rd_S 1 rfl hw) (rd_cons (rd_S 2 rfl hw) rd_nil)))) (fun ⟨oix1, hno1, hyes1⟩ => ?_)
          refine wl_as (t := 47) (.tuple #[.pointer (ixP oix1), .int .i64 (ixE oix1)]) rfl (ixV_pe oix1) ?_
          refine o_y (y_move rfl) rfl rfl ?_
          refine o_y (y_extract rfl rfl) rfl rfl ?_
          refine o_y (y_extract rfl rfl) rfl rfl ?_
          refine o_y (y_assign rfl) rfl rfl ?_
          refine o_y (y_assign rfl) rfl rfl ?_
          refine wl_nil ?_
          refine e_seq ?_
          refine w_seq ?_
          refine w_drawU 15 rfl mixed ?_
          refine u_take (i := 0) rfl wanted_none (y_loadrs 2 ty_41 rfl rfl rfl rfl) (fun w h => h) (fun w h => h) rfl (pk_seq pk_fn) (by kernel_rfl) rfl ?_
          refine u_take (i := 1) rfl wanted_none (y_move rfl) (fun w h => h) (fun w h => h) rfl (pk_seq pk_fn) (by kernel_rfl) rfl ?_
          refine u_take (i := 2) rfl wanted_none (y_move rfl) (fun w h => h) (fun w h => h) rfl (pk_seq pk_fn) (by kernel_rfl) rfl ?_
          refine u_take (i := 3) rfl wanted_none (y_drop (m := m) Try.underlying58 ty_88 rfl rfl (by omega) (by omega)) (fun w h => h) (fun w h => h) rfl (pk_seq pk_fn) (by kernel_rfl) rfl ?_
          refine u_take (i := 5) rfl wanted_none (y_move rfl) (fun w h => h) (fun w h => h) rfl (pk_seq pk_fn) (by kernel_rfl) rfl ?_
          refine u_take (i := 6) rfl wanted_none (y_move rfl) (fun w h => h) (fun w h => h) rfl (pk_seq pk_fn) (by kernel_rfl) rfl ?_
          refine u_take (i := 7) rfl wanted_none (y_takes (m := m) Try.underlying58 ty_88 rfl rfl (by omega) (by omega) (fun w hw => hcap)) (fun w h => h) (fun w h => h) rfl (pk_seq pk_fn) (by kernel_rfl) rfl ?_
          refine u_one (i := 4) rfl rfl rfl (tame_call rfl ent_46) (by kernel_rfl) rfl ?_
          refine o_callr1 rfl ent_46 rfl (c_Own_hd _ _ _ (by simp only [List.length_drop, List.length_take]; omega)) (fun w hw => (rd_cons (rd_dropS enc_hd 2 rfl (by omega) hcap hw) rd_nil)) (fun ⟨A3, c3⟩ => ?_)
          refine wl_nil ?_
          refine eu_one (fun w h => h.weak (.cons _ (List.Sublist.refl _)) (fun s hs => hs)) ?_
          refine u_one (i := 8) rfl rfl rfl (fun _ _ _ => tame_op (by kernel_rfl)) (by kernel_rfl) rfl ?_
          refine o_appm (enc := hdC) (sz := 4) (hs.take m) Try.underlying58 ty_88 rfl rfl rfl (fun A c => .z) (fun w hw => RsP.src Try.underlying58 (rd_takeS enc_hd 2 rfl (by omega) hw).1) (by simp only [List.length_drop, List.length_take]; omega) (by simp only [List.length_drop, List.length_take]; omega) rfl (fun A4 c4 => ?_)
          refine wl_nil ?_
          refine eu_one (fun w h => h.weak (.cons _ (List.Sublist.refl _)) (fun s hs => hs)) ?_
          refine u_one (i := 9) rfl rfl rfl (tame_call rfl ent_25) (by kernel_rfl) rfl ?_
          refine o_callr1 rfl ent_25 rfl (c_index_NewH v l _ _ _ (hs.drop m ++ hs.take m) _ hok (by omega) hT (by simp only [List.length_append, List.length_drop, List.length_take]; omega) (fun h hh => hhh h ((rot_perm hs m).mem_iff.1 hh))) (fun w hw => (rd_cons (rd_S 0 rfl hw) (rd_cons (rd_S 1 rfl hw) (rd_cons (rd_Ls 0 rfl hw) rd_nil)))) (fun ⟨oix2, hno2, hyes2⟩ => ?_)
          refine wl_nil ?_
          refine eu_one (fun w h => h.weak (.cons _ (.cons _ (List.Sublist.refl _))) (fun s hs => hs)) ?_
          refine wu_as (t := 60) (.tuple #[.pointer (ixP oix2), .int .i64 (ixE oix2)]) rfl (ixV_pe oix2) ?_
          refine u_take (i := 10) rfl wanted_none (y_move rfl) (fun w h => h.weak (.cons _ (.cons _ (List.Sublist.refl _))) (fun s hs => hs)) (fun w h => h) rfl (pk_seq pk_fn) (by kernel_rfl) rfl ?_
          refine u_take (i := 11) rfl wanted_none (y_extract rfl rfl) (fun w h => h.weak (.cons _ (.cons _ (List.Sublist.refl _))) (fun s hs => hs)) (fun w h => h) rfl (pk_seq pk_fn) (by kernel_rfl) rfl ?_
          refine u_take (i := 13) rfl wanted_none (y_assign rfl) (fun w h => h.weak (.cons _ (.cons _ (List.Sublist.refl _))) (fun s hs => hs)) (fun w h => h) rfl (pk_seq pk_fn) (by kernel_rfl) rfl ?_
          refine u_one (i := 12) rfl rfl rfl (fun _ _ _ => tame_op (by kernel_rfl)) (by kernel_rfl) rfl ?_
          refine o_y (y_extract rfl rfl) rfl rfl ?_
          refine wl_nil ?_
          refine eu_one (fun w h => h.weak (.cons _ (.cons _ (List.Sublist.refl _))) (fun s hs => hs)) ?_
          refine u_take (i := 14) rfl wanted_none (y_assign rfl) (fun w h => h.weak (.cons _ (.cons _ (List.Sublist.refl _))) (fun s hs => hs)) (fun w h => h) rfl (pk_seq pk_fn) (by kernel_rfl) rfl ?_
          refine u_done (by kernel_rfl) ?_
          refine e_seq ?_
          refine w_seq ?_
          refine w_seq ?_
          have heq9 : ixE oix1 = ixE oix2 := ixE_eq ⟨held_perm (rot_perm hs m), held_perm (rot_perm hs m).symm⟩ hno1 hyes1 hno2 hyes2
          refine w_region ?_
          refine o_y (y_move rfl) rfl rfl ?_
          refine o_y (y_move rfl) rfl rfl ?_
          refine o_y (y_neq rfl rfl) rfl rfl ?_
          refine wl_af (t := 65) rfl (fun h => h heq9) ?_
          refine o_y (y_move rfl) rfl rfl ?_
          refine wl_gyes rfl rfl ?_
          refine o_y (y_move rfl) rfl rfl ?_
          refine wl_gyes rfl rfl ?_
          refine o_y (y_neq rfl rfl) rfl rfl ?_
          refine wl_splitp (t := 68) rfl (fun h8_5 => ?_) (fun h8_5 => ?_)
          · skip
            refine o_y (y_pick_f rfl rfl) rfl rfl ?_
            refine wl_nil ?_
            refine e_seq ?_
            refine w_cond_t rfl ?_
            refine w_seq ?_
            refine w_region ?_
            refine o_y (y_move rfl) rfl rfl ?_
            refine o_y (y_move rfl) rfl rfl ?_
            refine o_y (y_eql rfl rfl) rfl rfl ?_
            refine wl_at (t := 72) rfl heq9 ?_
            refine o_y (y_assign rfl) rfl rfl ?_
            refine wl_nil ?_
            refine e_seq ?_
            refine w_ret ?_
            refine e_seq_ret ?_
            refine e_ret (ts := [10]) rfl rfl rfl (fun w hw => ?_)
            exact ⟨(), rfl, hw.base, (hw.weak (List.nil_sublist _) (fun s hs => hs)).toNews⟩
          · skip
            obtain ⟨ix2, rfl⟩ := ixE_yes (o := oix2) (by rw [← heq9]; exact h8_5)
            obtain ⟨ix1, rfl⟩ := ixE_yes (o := oix1) h8_5
            obtain ⟨hH1, hix21⟩ := hyes1 ix1 rfl
            obtain ⟨hH2, hix22⟩ := hyes2 ix2 rfl
            have hi1 := hix21.ix
            have hi2 := hix22.ix
            have hhs2 : ∀ h ∈ (hs.drop m ++ hs.take m), 0 ≤ h.ad.lo := fun h hh => hhs h ((rot_perm hs m).mem_iff.1 hh)
            have hF := opt_e (o := findI ix1.hm n) (p := findI ix2.hm n) (by rw [find_E hi1.hm, hi1.es, find_E hi2.hm, hi2.es])
            have hO := opt_e (o := lkp ix1.am a) (p := lkp ix2.am a) (by rw [am_E hix21, am_E hix22, ofE_perm (rot_perm hs m) hH1])
            have hA : adsI ix1 ((findI ix1.hm n).getD le0).e.host = adsI ix2 ((findI ix1.hm n).getD le0).e.host := by rw [ads_E hix21, ads_E hix22, adsE_perm (rot_perm hs m) hH1]
            have hLs : lostI ix1 ix1.l = lostI ix2 ix2.l := by rw [lost_E hix21, lost_E hix22, lostE_perm (rot_perm hs m) hH1]
            have hln1 := lost_len ix1 ix1.l
            have hxl1 := ix_len hi1
            have hal1 := ads_len hi1 hok ((findI ix1.hm n).getD le0).e.host
            have hbF := fi_bnd hi1 hok (fi_mem2 hi1 n)
            have hbO := fi_bnd hi1 hok (am_mem hix21 a)
            refine o_y (y_pick_f rfl rfl) rfl rfl ?_
            refine wl_nil ?_
            refine e_seq ?_
            refine w_cond_f rfl ?_
            refine w_skip ?_
            refine e_seq ?_
            refine w_seq ?_
            refine w_region ?_
            refine o_y (y_move rfl) rfl rfl ?_
            refine o_y (y_move rfl) rfl rfl ?_
            refine o_callq rfl ent_32 rfl (c_Find ix1 _) (fun w hw => (rd_cons (rd_all (rd_L 2 rfl hw) (.head _)) (rd_cons (rd_all (rd_L 2 rfl hw) (.tail _ (.head _))) rd_nil))) ?_
            refine o_y (y_move rfl) rfl rfl ?_
            refine o_y (y_extract rfl rfl) rfl rfl ?_
            refine o_y (y_extract rfl rfl) rfl rfl ?_
            refine o_alloc ty_50 rfl rfl (fun b7 => ?_)
            refine o_store ty_50 rfl rfl rfl .z rfl rfl rfl rfl ?_
            refine o_y (y_assign rfl) rfl rfl ?_
            refine wl_nil ?_
            refine e_seq ?_
            refine w_seq ?_
            refine w_region ?_
            refine o_y (y_move rfl) rfl rfl ?_
            refine o_y (y_move rfl) rfl rfl ?_
            refine o_callq rfl ent_32 rfl (c_Find ix2 _) (fun w hw => (rd_cons (rd_all (rd_L 1 rfl hw) (.head _)) (rd_cons (rd_all (rd_L 1 rfl hw) (.tail _ (.head _))) rd_nil))) ?_
            refine o_y (y_move rfl) rfl rfl ?_
            refine o_y (y_extract rfl rfl) rfl rfl ?_
            refine o_y (y_extract rfl rfl) rfl rfl ?_
            refine o_alloc ty_50 rfl rfl (fun b8 => ?_)
            refine o_store ty_50 rfl rfl rfl .z rfl rfl rfl rfl ?_
            refine o_y (y_assign rfl) rfl rfl ?_
            refine wl_nil ?_
            refine e_seq ?_
            refine w_seq ?_
            refine w_region ?_
            refine o_y (y_move rfl) rfl rfl ?_
            refine o_y (y_loadrs 5 ty_66 rfl rfl rfl rfl) rfl rfl ?_
            refine o_callq rfl ent_34 rfl (c_Of ix1 _) (fun w hw => (rd_cons (rd_all (rd_L 4 rfl hw) (.head _)) (rd_cons (rd_all (rd_L 4 rfl hw) (.tail _ (.tail _ (.tail _ (.head _))))) rd_nil))) ?_
            refine o_y (y_move rfl) rfl rfl ?_
            refine o_y (y_extract rfl rfl) rfl rfl ?_
            refine o_y (y_extract rfl rfl) rfl rfl ?_
            refine o_alloc ty_50 rfl rfl (fun b9 => ?_)
            refine o_store ty_50 rfl rfl rfl .z rfl rfl rfl rfl ?_
            refine o_y (y_assign rfl) rfl rfl ?_
            refine wl_nil ?_
            refine e_seq ?_
            refine w_seq ?_
            refine w_region ?_
            refine o_y (y_move rfl) rfl rfl ?_
            refine o_y (y_loadrs 6 ty_66 rfl rfl rfl rfl) rfl rfl ?_
            refine o_callq rfl ent_34 rfl (c_Of ix2 _) (fun w hw => (rd_cons (rd_all (rd_L 3 rfl hw) (.head _)) (rd_cons (rd_all (rd_L 3 rfl hw) (.tail _ (.tail _ (.tail _ (.head _))))) rd_nil))) ?_
            refine o_y (y_move rfl) rfl rfl ?_
            refine o_y (y_extract rfl rfl) rfl rfl ?_
            refine o_y (y_extract rfl rfl) rfl rfl ?_
            refine o_alloc ty_50 rfl rfl (fun b10 => ?_)
            refine o_store ty_50 rfl rfl rfl .z rfl rfl rfl rfl ?_
            refine o_y (y_assign rfl) rfl rfl ?_
            refine wl_nil ?_
            refine e_seq ?_
            refine w_seq ?_
            refine w_drawU 42 rfl mixed ?_
            refine u_take (i := 0) rfl wanted_none (y_move rfl) (fun w h => h) (fun w h => h) rfl (pk_seq pk_fn) (by kernel_rfl) rfl ?_
            refine u_take (i := 1) rfl wanted_none (y_move rfl) (fun w h => h) (fun w h => h) rfl (pk_seq pk_fn) (by kernel_rfl) rfl ?_
            refine u_take (i := 2) rfl wanted_none (y_eqlb Try.underlying4 rfl rfl) (fun w h => h) (fun w h => h) rfl (pk_seq pk_fn) (by kernel_rfl) rfl ?_
            refine wu_at (t := 99) rfl hF.1 ?_
            refine u_take (i := 3) rfl wanted_none (y_move rfl) (fun w h => h) (fun w h => h) rfl (pk_seq pk_fn) (by kernel_rfl) rfl ?_
            refine u_take (i := 4) rfl (wanted_yes rfl rfl) (y_loadrs 3 ty_50 rfl rfl rfl rfl) (fun w h => h) (fun w h => h) rfl (pk_seq pk_fn) (by kernel_rfl) rfl ?_
            refine u_take (i := 5) rfl (wanted_yes rfl rfl) (y_loadrs 2 ty_50 rfl rfl rfl rfl) (fun w h => h) (fun w h => h) rfl (pk_seq pk_fn) (by kernel_rfl) rfl ?_
            refine u_one (i := 6) rfl rfl rfl (tame_call rfl ent_29) (by kernel_rfl) rfl ?_
            refine wl_gyes rfl rfl ?_
            refine o_callq rfl ent_29 rfl (c_ref16_Same ((findI ix1.hm n).getD le0).e ((findI ix1.hm n).getD le0).A ((findI ix1.hm n).getD le0).B ((findI ix1.hm n).getD le0).c ((findI ix1.hm n).getD le0).d ((findI ix2.hm n).getD le0).e ((findI ix2.hm n).getD le0).A ((findI ix2.hm n).getD le0).B ((findI ix2.hm n).getD le0).c ((findI ix2.hm n).getD le0).d (by have := (hbF).la; omega) (by have := (hbF).lp; omega)) (fun w hw => (rd_cons (rd_all (rd_L 6 rfl hw) (.tail _ (.tail _ (.tail _ (.tail _ (.tail _ (mem_flatR (fi_mem2 hi1 _) _ (elRA _)))))))) (rd_cons (rd_all (rd_L 6 rfl hw) (.tail _ (.tail _ (.tail _ (.tail _ (.tail _ (mem_flatR (fi_mem2 hi1 _) _ (elRB _)))))))) (rd_cons (rd_all (rd_L 4 rfl hw) (.tail _ (.tail _ (.tail _ (.tail _ (.tail _ (mem_flatR (fi_mem2 hi2 _) _ (elRA _)))))))) (rd_cons (rd_all (rd_L 4 rfl hw) (.tail _ (.tail _ (.tail _ (.tail _ (.tail _ (mem_flatR (fi_mem2 hi2 _) _ (elRB _)))))))) rd_nil))))) ?_
            refine wl_nil ?_
            refine eu_one (fun w h => h) ?_
            refine wu_as (t := 103) (.bool true) rfl (congrArg Value.bool (decide_eq_true hF.2)) ?_
            refine u_take (i := 7) rfl wanted_none (y_pick_t rfl rfl) (fun w h => h) (fun w h => h) rfl (pk_seq pk_fn) (by kernel_rfl) rfl ?_
            refine u_take (i := 8) rfl wanted_none (y_move rfl) (fun w h => h) (fun w h => h) rfl (pk_seq pk_fn) (by kernel_rfl) rfl ?_
            refine u_take (i := 9) rfl (wanted_yes rfl rfl) (y_move rfl) (fun w h => h) (fun w h => h) rfl (pk_seq pk_fn) (by kernel_rfl) rfl ?_
            refine u_take (i := 10) rfl (wanted_yes rfl rfl) (y_move rfl) (fun w h => h) (fun w h => h) rfl (pk_seq pk_fn) (by kernel_rfl) rfl ?_
            refine u_take (i := 11) rfl (wanted_yes rfl rfl) (y_eqlb Try.underlying4 rfl rfl) (fun w h => h) (fun w h => h) rfl (pk_seq pk_fn) (by kernel_rfl) rfl ?_
            refine wu_at (t := 108) rfl hO.1 ?_
            refine u_take (i := 12) rfl wanted_none (y_pick_t rfl rfl) (fun w h => h) (fun w h => h) rfl (pk_seq pk_fn) (by kernel_rfl) rfl ?_
            refine u_take (i := 13) rfl wanted_none (y_move rfl) (fun w h => h) (fun w h => h) rfl (pk_seq pk_fn) (by kernel_rfl) rfl ?_
            refine u_take (i := 14) rfl (wanted_yes rfl rfl) (y_loadrs 1 ty_50 rfl rfl rfl rfl) (fun w h => h) (fun w h => h) rfl (pk_seq pk_fn) (by kernel_rfl) rfl ?_
            refine u_take (i := 15) rfl (wanted_yes rfl rfl) (y_loadrs 0 ty_50 rfl rfl rfl rfl) (fun w h => h) (fun w h => h) rfl (pk_seq pk_fn) (by kernel_rfl) rfl ?_
            refine u_one (i := 16) rfl rfl rfl (tame_call rfl ent_29) (by kernel_rfl) rfl ?_
            refine wl_gyes rfl rfl ?_
            refine o_callq rfl ent_29 rfl (c_ref16_Same ((lkp ix1.am a).getD le0).e ((lkp ix1.am a).getD le0).A ((lkp ix1.am a).getD le0).B ((lkp ix1.am a).getD le0).c ((lkp ix1.am a).getD le0).d ((lkp ix2.am a).getD le0).e ((lkp ix2.am a).getD le0).A ((lkp ix2.am a).getD le0).B ((lkp ix2.am a).getD le0).c ((lkp ix2.am a).getD le0).d (by have := (hbO).la; omega) (by have := (hbO).lp; omega)) (fun w hw => (rd_cons (rd_all (rd_L 6 rfl hw) (.tail _ (.tail _ (.tail _ (.tail _ (.tail _ (mem_flatR (am_mem hix21 _) _ (elRA _)))))))) (rd_cons (rd_all (rd_L 6 rfl hw) (.tail _ (.tail _ (.tail _ (.tail _ (.tail _ (mem_flatR (am_mem hix21 _) _ (elRB _)))))))) (rd_cons (rd_all (rd_L 4 rfl hw) (.tail _ (.tail _ (.tail _ (.tail _ (.tail _ (mem_flatR (am_mem hix22 _) _ (elRA _)))))))) (rd_cons (rd_all (rd_L 4 rfl hw) (.tail _ (.tail _ (.tail _ (.tail _ (.tail _ (mem_flatR (am_mem hix22 _) _ (elRB _)))))))) rd_nil))))) ?_
            refine wl_nil ?_
            refine eu_one (fun w h => h) ?_
            refine wu_as (t := 113) (.bool true) rfl (congrArg Value.bool (decide_eq_true hO.2)) ?_
            refine u_take (i := 17) rfl wanted_none (y_pick_t rfl rfl) (fun w h => h) (fun w h => h) rfl (pk_seq pk_fn) (by kernel_rfl) rfl ?_
            refine u_take (i := 18) rfl wanted_none (y_move rfl) (fun w h => h) (fun w h => h) rfl (pk_seq pk_fn) (by kernel_rfl) rfl ?_
            refine u_take (i := 19) rfl (wanted_yes rfl rfl) (y_move rfl) (fun w h => h) (fun w h => h) rfl (pk_seq pk_fn) (by kernel_rfl) rfl ?_
            refine u_take (i := 20) rfl (wanted_yes rfl rfl) (y_loadrs 3 ty_50 rfl rfl rfl rfl) (fun w h => h) (fun w h => h) rfl (pk_seq pk_fn) (by kernel_rfl) rfl ?_
            refine u_take (i := 22) rfl (wanted_yes rfl rfl) (y_move rfl) (fun w h => h) (fun w h => h) rfl (pk_seq pk_fn) (by kernel_rfl) rfl ?_
            refine u_take (i := 23) rfl (wanted_yes rfl rfl) (y_loadrs 3 ty_50 rfl rfl rfl rfl) (fun w h => h) (fun w h => h) rfl (pk_seq pk_fn) (by kernel_rfl) rfl ?_
            refine u_one (i := 21) rfl rfl rfl (tame_call rfl ent_33) (by kernel_rfl) rfl ?_
            refine wl_gyes rfl rfl ?_
            refine o_callr1 rfl ent_33 rfl (c_Addrs ix1 l hs ((findI ix1.hm n).getD le0) hix21 hok hhs) (fun w hw => (rd_cons (rd_all (rd_L 6 rfl hw) (.head _)) (rd_cons (rd_all (rd_L 6 rfl hw) (.tail _ (.head _))) (rd_cons (rd_all (rd_L 6 rfl hw) (.tail _ (.tail _ (.head _)))) (rd_cons (rd_all (rd_L 6 rfl hw) (.tail _ (.tail _ (.tail _ (.head _))))) (rd_cons (rd_sub (rd_L 6 rfl hw) (fun c hc => .tail _ (.tail _ (.tail _ (.tail _ (.tail _ hc)))))) rd_nil)))))) (fun ⟨A10, c10⟩ => ?_)
            refine wl_nil ?_
            refine eu_one (fun w h => h.weak (.cons _ (List.Sublist.refl _)) (fun s hs => hs)) ?_
            refine u_one (i := 24) rfl rfl rfl (tame_call rfl ent_33) (by kernel_rfl) rfl ?_
            refine wl_gyes rfl rfl ?_
            refine o_callr1 rfl ent_33 rfl (c_Addrs ix2 l (hs.drop m ++ hs.take m) ((findI ix1.hm n).getD le0) hix22 hok hhs2) (fun w hw => (rd_cons (rd_all (rd_L 5 rfl hw) (.head _)) (rd_cons (rd_all (rd_L 5 rfl hw) (.tail _ (.head _))) (rd_cons (rd_all (rd_L 5 rfl hw) (.tail _ (.tail _ (.head _)))) (rd_cons (rd_all (rd_L 5 rfl hw) (.tail _ (.tail _ (.tail _ (.head _))))) (rd_cons (rd_sub (rd_L 5 rfl hw) (fun c hc => .tail _ (.tail _ (.tail _ (.tail _ (.tail _ hc)))))) rd_nil)))))) (fun ⟨A11, c11⟩ => ?_)
            refine wl_nil ?_
            refine eu_one (fun w h => h.weak (.cons _ (.cons _ (List.Sublist.refl _))) (fun s hs => hs)) ?_
            refine u_one (i := 25) rfl rfl rfl (tame_call rfl ent_47) (by kernel_rfl) rfl ?_
            refine wl_gyes rfl rfl ?_
            refine o_callq rfl ent_47 rfl (c_kit_Same_ad _ _ _ _ _ _ (by omega)) (fun w hw => (rd_cons (rd_Ls 1 rfl hw) (rd_cons (rd_Ls 0 rfl hw) rd_nil))) ?_
            refine wl_nil ?_
            refine eu_one (fun w h => h.weak (.cons _ (.cons _ (List.Sublist.refl _))) (fun s hs => hs)) ?_
            refine wu_as (t := 122) (.bool true) rfl (congrArg Value.bool (decide_eq_true hA)) ?_
            refine u_take (i := 26) rfl wanted_none (y_pick_t rfl rfl) (fun w h => h.weak (.cons _ (.cons _ (List.Sublist.refl _))) (fun s hs => hs)) (fun w h => h) rfl (pk_seq pk_fn) (by kernel_rfl) rfl ?_
            refine u_take (i := 27) rfl wanted_none (y_move rfl) (fun w h => h.weak (.cons _ (.cons _ (List.Sublist.refl _))) (fun s hs => hs)) (fun w h => h) rfl (pk_seq pk_fn) (by kernel_rfl) rfl ?_
            refine u_take (i := 28) rfl (wanted_yes rfl rfl) (y_move rfl) (fun w h => h.weak (.cons _ (.cons _ (List.Sublist.refl _))) (fun s hs => hs)) (fun w h => h) rfl (pk_seq pk_fn) (by kernel_rfl) rfl ?_
            refine u_take (i := 30) rfl (wanted_yes rfl rfl) (y_move rfl) (fun w h => h.weak (.cons _ (.cons _ (List.Sublist.refl _))) (fun s hs => hs)) (fun w h => h) rfl (pk_seq pk_fn) (by kernel_rfl) rfl ?_
            refine u_one (i := 29) rfl rfl rfl (tame_call rfl ent_45) (by kernel_rfl) rfl ?_
            refine wl_gyes rfl rfl ?_
            refine o_callr1 rfl ent_45 rfl (c_Lost ix1 (by rw [ix_len hi1]; omega) (fun y hy => (fi_bnd hi1 hok (.tail _ hy)).h)) (fun w hw => (rd_cons (rd_all (rd_L 8 rfl hw) (.head _)) (rd_cons (rd_all (rd_L 8 rfl hw) (.tail _ (.tail _ (.head _)))) (rd_cons (rd_all (rd_L 8 rfl hw) (.tail _ (.tail _ (.tail _ (.tail _ (.head _)))))) rd_nil)))) (fun ⟨A12, c12⟩ => ?_)
            refine wl_nil ?_
            refine eu_one (fun w h => h.weak (.cons _ (.cons _ (.cons _ (List.Sublist.refl _)))) (fun s hs => hs)) ?_
            refine u_one (i := 31) rfl rfl rfl (tame_call rfl ent_45) (by kernel_rfl) rfl ?_
            refine wl_gyes rfl rfl ?_
            refine o_callr1 rfl ent_45 rfl (c_Lost ix2 (by rw [ix_len hi2]; omega) (fun y hy => (fi_bnd hi2 hok (.tail _ hy)).h)) (fun w hw => (rd_cons (rd_all (rd_L 7 rfl hw) (.head _)) (rd_cons (rd_all (rd_L 7 rfl hw) (.tail _ (.tail _ (.head _)))) (rd_cons (rd_all (rd_L 7 rfl hw) (.tail _ (.tail _ (.tail _ (.tail _ (.head _)))))) rd_nil)))) (fun ⟨A13, c13⟩ => ?_)
            refine wl_nil ?_
            refine eu_one (fun w h => h.weak (.cons _ (.cons _ (.cons _ (.cons _ (List.Sublist.refl _))))) (fun s hs => hs)) ?_
            refine u_one (i := 32) rfl rfl rfl (tame_call rfl ent_28) (by kernel_rfl) rfl ?_
            refine wl_gyes rfl rfl ?_
            refine o_callq rfl ent_28 rfl (c_kit_Same_n _ _ _ _ _ _ (by omega)) (fun w hw => (rd_cons (rd_Ls 1 rfl hw) (rd_cons (rd_Ls 0 rfl hw) rd_nil))) ?_
            refine wl_nil ?_
            refine eu_one (fun w h => h.weak (.cons _ (.cons _ (.cons _ (.cons _ (List.Sublist.refl _))))) (fun s hs => hs)) ?_
            refine wu_as (t := 129) (.bool true) rfl (congrArg Value.bool (decide_eq_true hLs)) ?_
            refine u_take (i := 33) rfl wanted_none (y_pick_t rfl rfl) (fun w h => h.weak (.cons _ (.cons _ (.cons _ (.cons _ (List.Sublist.refl _))))) (fun s hs => hs)) (fun w h => h) rfl (pk_seq pk_fn) (by kernel_rfl) rfl ?_
            refine u_take (i := 34) rfl wanted_none (y_move rfl) (fun w h => h.weak (.cons _ (.cons _ (.cons _ (.cons _ (List.Sublist.refl _))))) (fun s hs => hs)) (fun w h => h) rfl (pk_seq pk_fn) (by kernel_rfl) rfl ?_
            refine u_take (i := 35) rfl (wanted_yes rfl rfl) (y_move rfl) (fun w h => h.weak (.cons _ (.cons _ (.cons _ (.cons _ (List.Sublist.refl _))))) (fun s hs => hs)) (fun w h => h) rfl (pk_seq pk_fn) (by kernel_rfl) rfl ?_
            refine u_take (i := 37) rfl (wanted_yes rfl rfl) (y_move rfl) (fun w h => h.weak (.cons _ (.cons _ (.cons _ (.cons _ (List.Sublist.refl _))))) (fun s hs => hs)) (fun w h => h) rfl (pk_seq pk_fn) (by kernel_rfl) rfl ?_
            refine u_one (i := 36) rfl rfl rfl (tame_call rfl ent_48) (by kernel_rfl) rfl ?_
            refine wl_gyes rfl rfl ?_
            refine o_callq rfl ent_48 rfl (c_Len ix1) (fun w hw => (rd_cons (rd_all (rd_L 10 rfl hw) (.head _)) rd_nil)) ?_
            refine wl_nil ?_
            refine eu_one (fun w h => h.weak (.cons _ (.cons _ (.cons _ (.cons _ (List.Sublist.refl _))))) (fun s hs => hs)) ?_
            refine u_one (i := 38) rfl rfl rfl (tame_call rfl ent_48) (by kernel_rfl) rfl ?_
            refine wl_gyes rfl rfl ?_
            refine o_callq rfl ent_48 rfl (c_Len ix2) (fun w hw => (rd_cons (rd_all (rd_L 8 rfl hw) (.head _)) rd_nil)) ?_
            refine wl_nil ?_
            refine eu_one (fun w h => h.weak (.cons _ (.cons _ (.cons _ (.cons _ (List.Sublist.refl _))))) (fun s hs => hs)) ?_
            refine u_take (i := 39) rfl (wanted_yes rfl rfl) (y_eql rfl rfl) (fun w h => h.weak (.cons _ (.cons _ (.cons _ (.cons _ (List.Sublist.refl _))))) (fun s hs => hs)) (fun w h => h) rfl (pk_seq pk_fn) (by kernel_rfl) rfl ?_
            refine wu_at (t := 136) rfl (by rw [ix_len hi1, ix_len hi2]) ?_
            refine u_take (i := 40) rfl wanted_none (y_pick_t rfl rfl) (fun w h => h.weak (.cons _ (.cons _ (.cons _ (.cons _ (List.Sublist.refl _))))) (fun s hs => hs)) (fun w h => h) rfl (pk_seq pk_fn) (by kernel_rfl) rfl ?_
            refine u_take (i := 41) rfl wanted_none (y_assign rfl) (fun w h => h.weak (.cons _ (.cons _ (.cons _ (.cons _ (List.Sublist.refl _))))) (fun s hs => hs)) (fun w h => h) rfl (pk_seq pk_fn) (by kernel_rfl) rfl ?_
            refine u_done (by kernel_rfl) ?_
            refine e_seq ?_
            refine w_ret ?_
            refine e_ret (ts := [10]) rfl rfl rfl (fun w hw => ?_)
            exact ⟨(), rfl, hw.base, (hw.weak (List.nil_sublist _) (fun s hs => hs)).toNews⟩
      · skip
        refine wl_gyes rfl rfl ?_
        refine o_y (y_not rfl) rfl rfl ?_
        refine o_y (y_pick_f rfl rfl) rfl rfl ?_
        refine o_y (y_move rfl) rfl rfl ?_
        refine wl_gno rfl rfl rfl rfl ?_
        refine wl_gno rfl rfl rfl rfl ?_
        refine wl_gno rfl rfl rfl rfl ?_
        refine o_y (y_pick_t rfl rfl) rfl rfl ?_
        refine wl_nil ?_
        refine e_seq ?_
        refine w_cond_t rfl ?_
        refine w_seq ?_
        refine w_region ?_
        refine o_y (y_assign rfl) rfl rfl ?_
        refine wl_nil ?_
        refine e_seq ?_
        refine w_ret ?_
        refine e_seq_ret ?_
        refine e_ret (ts := [10]) rfl rfl rfl (fun w hw => ?_)
        exact ⟨(), rfl, hw.base, (hw.weak (List.nil_sublist _) (fun s hs => hs)).toNews⟩
    · skip
      refine o_y (y_not rfl) rfl rfl ?_
      refine o_y (y_move rfl) rfl rfl ?_
      refine wl_gno rfl rfl rfl rfl ?_
      refine wl_gno rfl rfl rfl rfl ?_
      refine wl_gno rfl rfl rfl rfl ?_
      refine o_y (y_pick_t rfl rfl) rfl rfl ?_
      refine o_y (y_move rfl) rfl rfl ?_
      refine wl_gno rfl rfl rfl rfl ?_
      refine wl_gno rfl rfl rfl rfl ?_
      refine wl_gno rfl rfl rfl rfl ?_
      refine o_y (y_pick_t rfl rfl) rfl rfl ?_
      refine wl_nil ?_
      refine e_seq ?_
      refine w_cond_t rfl ?_
      refine w_seq ?_
      refine w_region ?_
      refine o_y (y_assign rfl) rfl rfl ?_
      refine wl_nil ?_
      refine e_seq ?_
      refine w_ret ?_
      refine e_seq_ret ?_
      refine e_ret (ts := [10]) rfl rfl rfl (fun w hw => ?_)
      exact ⟨(), rfl, hw.base, (hw.weak (List.nil_sublist _) (fun s hs => hs)).toNews⟩
  · skip
    refine w_seq ?_
    refine w_region ?_
    refine o_box rfl rfl rfl (fun b15 => ?_)
    refine o_box rfl rfl rfl (fun b16 => ?_)
    refine o_y (y_assign rfl) rfl rfl ?_
    refine wl_nil ?_
    refine e_seq ?_
    refine w_seq ?_
    refine w_seq ?_
    refine w_region ?_
    refine o_callp rfl ent_30 c_lives18 rfl ?_
    refine wl_as (t := 23) (.bool true) rfl (congrArg Value.bool rfl) ?_
    refine o_y (y_not rfl) rfl rfl ?_
    refine wl_nil ?_
    refine e_seq ?_
    refine w_cond_f rfl ?_
    refine w_skip ?_
    refine e_seq ?_
    refine w_seq ?_
    refine w_seq ?_
    refine w_region ?_
    refine o_y (y_field fa_41_1 rfl) rfl rfl ?_
    refine o_y (y_loadr 1 ty_39 rfl rfl rfl) rfl rfl ?_
    refine o_callq rfl ent_24 rfl (c_LightEntries _ _ _ _ (by omega)) (fun w hw => (rd_cons (rd_S 0 rfl hw) rd_nil)) ?_
    refine wl_splitb (t := 27) rfl (fun h3_2 => ?_) (fun h3_2 => ?_)
    · skip
      have hle9 := lightEs_le h3_2
      have hok : TbOk l := fun x hx => ⟨hen x hx, hle9.1 x hx⟩
      have hl9 := hle9.2
      refine o_y (y_not rfl) rfl rfl ?_
      refine o_y (y_move rfl) rfl rfl ?_
      refine wl_gyes rfl rfl ?_
      refine o_y (y_move rfl) rfl rfl ?_
      refine wl_gyes rfl rfl ?_
      refine o_callq rfl ent_31 rfl (c_LightHeld _ _ _ _ (by omega)) (fun w hw => (rd_cons (rd_S 2 rfl hw) rd_nil)) ?_
      refine wl_splitb (t := 31) rfl (fun h3_6 => ?_) (fun h3_6 => ?_)
      · skip
        have hlh := lightHs_le h3_6
        have hlh2 := hlh.2
        have hhs : ∀ h ∈ hs, 0 ≤ h.ad.lo := fun h hh => (hhen h hh).2.2.2.1
        have hhh : ∀ h ∈ hs, h.host.length ≤ 1000 ∧ 0 ≤ h.ad.lo := fun h hh => ⟨by have := hlh.1 h hh; omega, hhs h hh⟩
        refine wl_gyes rfl rfl ?_
        refine o_y (y_not rfl) rfl rfl ?_
        refine o_y (y_pick_f rfl rfl) rfl rfl ?_
        refine o_y (y_move rfl) rfl rfl ?_
        refine wl_gyes rfl rfl ?_
        refine o_y (y_move rfl) rfl rfl ?_
        refine wl_gyes rfl rfl ?_
        refine o_y (y_lens Try.underlying25 rfl) rfl rfl ?_
        refine wl_gyes rfl rfl ?_
        refine o_y (y_gtr rfl rfl) rfl rfl ?_
        refine wl_splitp (t := 37) rfl (fun h3_12 => ?_) (fun h3_12 => ?_)
        · skip
          refine o_y (y_pick_f rfl rfl) rfl rfl ?_
          refine wl_nil ?_
          refine e_seq ?_
          refine w_cond_t rfl ?_
          refine w_seq ?_
          refine w_region ?_
          refine o_y (y_assign rfl) rfl rfl ?_
          refine wl_nil ?_
          refine e_seq ?_
          refine w_ret ?_
          refine e_seq_ret ?_
          refine e_ret (ts := [10]) rfl rfl rfl (fun w hw => ?_)
          exact ⟨(), rfl, hw.base, (hw.weak (List.nil_sublist _) (fun s hs => hs)).toNews⟩
        · skip
          refine o_y (y_pick_f rfl rfl) rfl rfl ?_
          refine wl_nil ?_
          refine e_seq ?_
          refine w_cond_f rfl ?_
          refine w_skip ?_
          refine e_seq ?_
          refine w_seq ?_
          refine w_region ?_
          refine o_y (y_move rfl) rfl rfl ?_
          refine o_y (y_move rfl) rfl rfl ?_
          refine o_y (y_lenl Try.underlying58 rfl) rfl rfl ?_
          refine o_y (y_addi rfl rfl (by omega) (by omega)) rfl rfl ?_
          refine o_callp rfl ent_27 (c_kit_Pick _ _ (by omega) (by omega)) rfl ?_
          obtain ⟨m, hm9, hm8⟩ := pick_nat bq hs.length
          refine wl_as (t := 43) (.int .i64 (m : Int)) rfl (by rw [hm9]) ?_
          refine o_y (y_assign rfl) rfl rfl ?_
          refine wl_nil ?_
          refine e_seq ?_
          refine w_seq ?_
          refine w_region ?_
          refine o_y (y_loadrs 1 ty_41 rfl rfl rfl rfl) rfl rfl ?_
          refine o_y (y_move rfl) rfl rfl ?_
          refine o_callq rfl ent_25 rfl (c_index_Newbad v l _ _ hok (by omega) hT _ _ _) (fun w hw => (rd_cons (rd_S 0 rfl hw) (rd_cons (rd_S 1 rfl hw) rd_nil))) ?_
          refine o_y (y_move rfl) rfl rfl ?_
          refine o_y (y_extract rfl rfl) rfl rfl ?_
          refine o_y (y_extract rfl rfl) rfl rfl ?_
          refine o_y (y_assign rfl) rfl rfl ?_
          refine o_y (y_assign rfl) rfl rfl ?_
          refine wl_nil ?_
          refine e_seq ?_
          refine w_seq ?_
          refine w_drawU 15 rfl mixed ?_
          refine u_take (i := 0) rfl wanted_none (y_loadrs 1 ty_41 rfl rfl rfl rfl) (fun w h => h) (fun w h => h) rfl (pk_seq pk_fn) (by kernel_rfl) rfl ?_
          refine u_take (i := 1) rfl wanted_none (y_move rfl) (fun w h => h) (fun w h => h) rfl (pk_seq pk_fn) (by kernel_rfl) rfl ?_
          refine u_take (i := 2) rfl wanted_none (y_move rfl) (fun w h => h) (fun w h => h) rfl (pk_seq pk_fn) (by kernel_rfl) rfl ?_
          refine u_take (i := 3) rfl wanted_none (y_drop (m := m) Try.underlying58 ty_88 rfl rfl (by omega) (by omega)) (fun w h => h) (fun w h => h) rfl (pk_seq pk_fn) (by kernel_rfl) rfl ?_
          refine u_take (i := 5) rfl wanted_none (y_move rfl) (fun w h => h) (fun w h => h) rfl (pk_seq pk_fn) (by kernel_rfl) rfl ?_
          refine u_take (i := 6) rfl wanted_none (y_move rfl) (fun w h => h) (fun w h => h) rfl (pk_seq pk_fn) (by kernel_rfl) rfl ?_
          refine u_take (i := 7) rfl wanted_none (y_takes (m := m) Try.underlying58 ty_88 rfl rfl (by omega) (by omega) (fun w hw => hcap)) (fun w h => h) (fun w h => h) rfl (pk_seq pk_fn) (by kernel_rfl) rfl ?_
          refine u_one (i := 4) rfl rfl rfl (tame_call rfl ent_46) (by kernel_rfl) rfl ?_
          refine o_callr1 rfl ent_46 rfl (c_Own_hd _ _ _ (by simp only [List.length_drop, List.length_take]; omega)) (fun w hw => (rd_cons (rd_dropS enc_hd 2 rfl (by omega) hcap hw) rd_nil)) (fun ⟨A16, c16⟩ => ?_)
          refine wl_nil ?_
          refine eu_one (fun w h => h.weak (.cons _ (List.Sublist.refl _)) (fun s hs => hs)) ?_
          refine u_one (i := 8) rfl rfl rfl (fun _ _ _ => tame_op (by kernel_rfl)) (by kernel_rfl) rfl ?_
          refine o_appm (enc := hdC) (sz := 4) (hs.take m) Try.underlying58 ty_88 rfl rfl rfl (fun A c => .z) (fun w hw => RsP.src Try.underlying58 (rd_takeS enc_hd 2 rfl (by omega) hw).1) (by simp only [List.length_drop, List.length_take]; omega) (by simp only [List.length_drop, List.length_take]; omega) rfl (fun A17 c17 => ?_)
          refine wl_nil ?_
          refine eu_one (fun w h => h.weak (.cons _ (List.Sublist.refl _)) (fun s hs => hs)) ?_
          refine u_one (i := 9) rfl rfl rfl (tame_call rfl ent_25) (by kernel_rfl) rfl ?_
          refine o_callq rfl ent_25 rfl (c_index_Newbad v l _ _ hok (by omega) hT _ _ _) (fun w hw => (rd_cons (rd_S 0 rfl hw) (rd_cons (rd_S 1 rfl hw) rd_nil))) ?_
          refine wl_nil ?_
          refine eu_one (fun w h => h.weak (.cons _ (List.Sublist.refl _)) (fun s hs => hs)) ?_
          refine u_take (i := 10) rfl wanted_none (y_move rfl) (fun w h => h.weak (.cons _ (List.Sublist.refl _)) (fun s hs => hs)) (fun w h => h) rfl (pk_seq pk_fn) (by kernel_rfl) rfl ?_
          refine u_take (i := 11) rfl wanted_none (y_extract rfl rfl) (fun w h => h.weak (.cons _ (List.Sublist.refl _)) (fun s hs => hs)) (fun w h => h) rfl (pk_seq pk_fn) (by kernel_rfl) rfl ?_
          refine u_take (i := 13) rfl wanted_none (y_assign rfl) (fun w h => h.weak (.cons _ (List.Sublist.refl _)) (fun s hs => hs)) (fun w h => h) rfl (pk_seq pk_fn) (by kernel_rfl) rfl ?_
          refine u_one (i := 12) rfl rfl rfl (fun _ _ _ => tame_op (by kernel_rfl)) (by kernel_rfl) rfl ?_
          refine o_y (y_extract rfl rfl) rfl rfl ?_
          refine wl_nil ?_
          refine eu_one (fun w h => h.weak (.cons _ (List.Sublist.refl _)) (fun s hs => hs)) ?_
          refine u_take (i := 14) rfl wanted_none (y_assign rfl) (fun w h => h.weak (.cons _ (List.Sublist.refl _)) (fun s hs => hs)) (fun w h => h) rfl (pk_seq pk_fn) (by kernel_rfl) rfl ?_
          refine u_done (by kernel_rfl) ?_
          refine e_seq ?_
          refine w_seq ?_
          refine w_seq ?_
          refine w_region ?_
          refine o_y (y_move rfl) rfl rfl ?_
          refine o_y (y_move rfl) rfl rfl ?_
          refine o_y (y_neq rfl rfl) rfl rfl ?_
          refine wl_af (t := 65) rfl (fun h => h rfl) ?_
          refine o_y (y_move rfl) rfl rfl ?_
          refine wl_gyes rfl rfl ?_
          refine o_y (y_move rfl) rfl rfl ?_
          refine wl_gyes rfl rfl ?_
          refine o_y (y_neq rfl rfl) rfl rfl ?_
          refine wl_at (t := 68) rfl hT ?_
          refine o_y (y_pick_f rfl rfl) rfl rfl ?_
          refine wl_nil ?_
          refine e_seq ?_
          refine w_cond_t rfl ?_
          refine w_seq ?_
          refine w_region ?_
          refine o_y (y_move rfl) rfl rfl ?_
          refine o_y (y_move rfl) rfl rfl ?_
          refine o_y (y_eql rfl rfl) rfl rfl ?_
          refine wl_at (t := 72) rfl rfl ?_
          refine o_y (y_assign rfl) rfl rfl ?_
          refine wl_nil ?_
          refine e_seq ?_
          refine w_ret ?_
          refine e_seq_ret ?_
          refine e_ret (ts := [10]) rfl rfl rfl (fun w hw => ?_)
          exact ⟨(), rfl, hw.base, (hw.weak (List.nil_sublist _) (fun s hs => hs)).toNews⟩
      · skip
        refine wl_gyes rfl rfl ?_
        refine o_y (y_not rfl) rfl rfl ?_
        refine o_y (y_pick_f rfl rfl) rfl rfl ?_
        refine o_y (y_move rfl) rfl rfl ?_
        refine wl_gno rfl rfl rfl rfl ?_
        refine wl_gno rfl rfl rfl rfl ?_
        refine wl_gno rfl rfl rfl rfl ?_
        refine o_y (y_pick_t rfl rfl) rfl rfl ?_
        refine wl_nil ?_
        refine e_seq ?_
        refine w_cond_t rfl ?_
        refine w_seq ?_
        refine w_region ?_
        refine o_y (y_assign rfl) rfl rfl ?_
        refine wl_nil ?_
        refine e_seq ?_
        refine w_ret ?_
        refine e_seq_ret ?_
        refine e_ret (ts := [10]) rfl rfl rfl (fun w hw => ?_)
        exact ⟨(), rfl, hw.base, (hw.weak (List.nil_sublist _) (fun s hs => hs)).toNews⟩
    · skip
      refine o_y (y_not rfl) rfl rfl ?_
      refine o_y (y_move rfl) rfl rfl ?_
      refine wl_gno rfl rfl rfl rfl ?_
      refine wl_gno rfl rfl rfl rfl ?_
      refine wl_gno rfl rfl rfl rfl ?_
      refine o_y (y_pick_t rfl rfl) rfl rfl ?_
      refine o_y (y_move rfl) rfl rfl ?_
      refine wl_gno rfl rfl rfl rfl ?_
      refine wl_gno rfl rfl rfl rfl ?_
      refine wl_gno rfl rfl rfl rfl ?_
      refine o_y (y_pick_t rfl rfl) rfl rfl ?_
      refine wl_nil ?_
      refine e_seq ?_
      refine w_cond_t rfl ?_
      refine w_seq ?_
      refine w_region ?_
      refine o_y (y_assign rfl) rfl rfl ?_
      refine wl_nil ?_
      refine e_seq ?_
      refine w_ret ?_
      refine e_seq_ret ?_
      refine e_ret (ts := [10]) rfl rfl rfl (fun w hw => ?_)
      exact ⟨(), rfl, hw.base, (hw.weak (List.nil_sublist _) (fun s hs => hs)).toNews⟩

theorem dc_hd {w : World} : Dc Try.prog w 88 (α := Hd) (hdC) (fun _ => []) (fun h => h.host.length ≤ 9223372036854775807 ∧ AdOk h.ad) := fun H enc base sp hd fuel cs x h => by
  obtain ⟨xs, n, rfl, _, hcl, hxl, hf⟩ := DataW.trod_struct Try.underlying88 h
  have hcl2 : cs.length = 4 := hcl.trans (by kernel_rfl)
  obtain ⟨x0, c0, r0, o0⟩ := dc_field hxl hf 0 (ft := 25) (off := 0) (k := 1) (by kernel_rfl) (by kernel_rfl) (dc_str Try.underlying25)
  obtain ⟨x1, c1, r1, o1⟩ := dc_field hxl hf 1 (ft := 66) (off := 1) (k := 3) (by kernel_rfl) (by kernel_rfl) dc_ad
  have hcs := cut0 (cutc c0 (cutc c1 (cutn hcl2) rfl) rfl)
  exact ⟨⟨x0, x1⟩, hcs, nofun, o0, o1⟩

theorem dc_hds {w : World} : Dc Try.prog w 58 (fun p : List Hd × Option Addr × Nat => [.slice p.2.1 p.1.length p.2.2]) (fun p => Ch.rd p.2.1 4 hdC p.1 :: p.1.flatMap (fun _ => [])) (fun p => p.1.length ≤ 9223372036854775807 ∧ ∀ h ∈ p.1, h.host.length ≤ 9223372036854775807 ∧ AdOk h.ad) := dc_slice Try.underlying58 (by kernel_rfl) (by decide) enc_hd dc_hd

end Go.Proofs.Ytckfjfnkombelaa
