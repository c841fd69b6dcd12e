/- search: each candidate once; the laws of candidates -/
import Derived.Test.YtckfjfnkombelaaGreatSa
namespace Go.Proofs.YtckfjfnkombelaaGreat
open Go.RowKit Go.Shelf
set_option linter.unusedVariables false
set_option linter.unusedSimpArgs false

theorem bu_82_0_1 (x0 : Int) (x1 : Option Addr) (x2 : Nat) (x3 : Nat) : Tryz.prog.built 82 [(0, .int .i64 x0), (1, .slice x1 x2 x3)] = some [.int .i64 x0, .slice x1 x2 x3].toArray := by kernel_rfl
theorem ent_114 : Enters Tryz.prog 114 := enters_of Tryz.func114 (by kernel_rfl) rfl
theorem ent_115 : Enters Tryz.prog 115 := enters_of Tryz.func115 (by kernel_rfl) rfl
theorem ent_116 : Enters Tryz.prog 116 := enters_of Tryz.func116 (by kernel_rfl) rfl
theorem ent_140 : Enters Tryz.prog 140 := enters_of Tryz.func140 (by kernel_rfl) rfl
theorem ent_23 : Enters Tryz.prog 23 := enters_of Tryz.func23 (by kernel_rfl) rfl
theorem ent_28 : Enters Tryz.prog 28 := enters_of Tryz.func28 (by kernel_rfl) rfl
theorem ent_40 : Enters Tryz.prog 40 := enters_of Tryz.func40 (by kernel_rfl) rfl
theorem ent_43 : Enters Tryz.prog 43 := enters_of Tryz.func43 (by kernel_rfl) rfl
theorem ent_83 : Enters Tryz.prog 83 := enters_of Tryz.func83 (by kernel_rfl) rfl
theorem ent_84 : Enters Tryz.prog 84 := enters_of Tryz.func84 (by kernel_rfl) rfl
theorem ent_85 : Enters Tryz.prog 85 := enters_of Tryz.func85 (by kernel_rfl) rfl
theorem ent_86 : Enters Tryz.prog 86 := enters_of Tryz.func86 (by kernel_rfl) rfl
theorem ty_157 : TyI Tryz.prog 157 false 1 8 (.nilFunc) := TyI.mk' (by kernel_rfl) (fun _ => by kernel_rfl)
theorem ty_161 : TyI Tryz.prog 161 false 1 8 (.map none) := TyI.mk' (by kernel_rfl) (fun _ => by kernel_rfl)
theorem ty_82 : TyI Tryz.prog 82 true 2 32 (.agg #[.int .i64 0, .slice none 0 0]) := TyI.mk' (by kernel_rfl) (fun _ => by kernel_rfl)


def SeenS (m : List (Str × Bool)) (pre : List Str) : Prop := ∀ k, lkp m k = if k ∈ dedS [] pre then some true else none
theorem seenS_nil : SeenS [] [] := fun k => by simp [lkp, dedS]
theorem seenS_val {m : List (Str × Bool)} {pre : List Str} (h : SeenS m pre) (a : Str) : ((lkp m a).map fun b : Bool => Value.bool b).getD (.bool false) = .bool (decide (a ∈ dedS [] pre)) := by
  rw [h a]; split
  · rename_i h1; rw [decide_eq_true h1]; rfl
  · rename_i h1; rw [decide_eq_false h1]; rfl
theorem dedS_no {pre : List Str} {e : Str} (h : foldN e ∈ dedS [] pre) : dedS [] (pre ++ [e]) = dedS [] pre ∧ ded [] (pre ++ [e]) = ded [] pre := by
  rw [dedS_append, ded_append, dedS, if_pos h, dedS, ded, if_pos h, ded, List.append_nil]
  exact ⟨rfl, rfl⟩
theorem dedS_yes {pre : List Str} {e : Str} (h : ¬ foldN e ∈ dedS [] pre) : dedS [] (pre ++ [e]) = foldN e :: dedS [] pre ∧ ded [] (pre ++ [e]) = ded [] pre ++ [e] := by
  rw [dedS_append, ded_append, dedS, if_neg h, dedS, ded, if_neg h, ded]
  exact ⟨rfl, rfl⟩
theorem seenS_no {m : List (Str × Bool)} {pre : List Str} {e : Str} (h : SeenS m pre) (h2 : foldN e ∈ dedS [] pre) : SeenS m (pre ++ [e]) := fun k => by
  rw [(dedS_no h2).1]; exact h k
theorem seenS_yes {m : List (Str × Bool)} {pre : List Str} {e : Str} (h : SeenS m pre) (h2 : ¬ foldN e ∈ dedS [] pre) : SeenS (upd m (foldN e) true) (pre ++ [e]) := fun k => by
  rw [(dedS_yes h2).1, lkp_upd, h k]
  by_cases e2 : k = foldN e
  · rw [if_pos e2, if_pos (by rw [e2]; exact .head _)]
  · rw [if_neg e2]
    by_cases h3 : k ∈ dedS [] pre
    · rw [if_pos h3, if_pos (.tail _ h3)]
    · rw [if_neg h3, if_neg (fun q => (List.mem_cons.1 q).elim e2 h3)]
theorem Ok.bnds {s : Sr} {n : Str} (h : Ok s n) : s.doms.length ≤ 1000000000 ∧ n.length ≤ 1000000000 ∧ (∀ d ∈ s.doms, d.length ≤ 1000000000) ∧ (-1000000 ≤ s.ndots ∧ s.ndots ≤ 1000000) := by
  obtain ⟨h1, h2, h3, h4⟩ := srCk_zero h.s0
  have h5 := (nameCk_zero.1 h.n0).1
  exact ⟨by omega, by omega, fun d hd => by have := (nameCk_zero.1 (h2 d hd).1).1; omega, by omega, by omega⟩


theorem c_Each1 (s : Sr) (A : Option Addr) (c : Nat) (n : Str) (bs bn : Nat) : Iter Tryz.prog 115 [.pointer (some ⟨bs, 0, none⟩), .pointer (some ⟨bn, 0, none⟩)] [Ch.row bs (srC s A c) 82, Ch.row bn [.string (ba n)] 26, Ch.rd A 1 encs s.doms] encs (eachS s n) := by
  refine iter_of_WM 31 Tryz.func115 rfl rfl rfl (fun lr σ I Ix C Sc hy g0 hg0 w0 => ?_)
  refine w_seq ?_
  refine w_region ?_
  refine o_box rfl rfl rfl (fun b1 => ?_)
  refine wl_nil ?_
  refine e_seq ?_
  refine w_seq ?_
  refine w_seq ?_
  refine w_region ?_
  refine o_y (y_loadSos 0 ty_82 rfl rfl rfl rfl) rfl rfl ?_
  refine o_callq rfl ent_43 rfl (c_search_Check _ _ _) (fun w hw => (rd_cons (rd_S 2 rfl hw) rd_nil)) ?_
  refine o_y (y_neq rfl rfl) rfl rfl ?_
  refine wl_splitp (t := 9) rfl (fun h1_2 => ?_) (fun h1_2 => ?_)
  · skip
    refine o_y (y_move rfl) rfl rfl ?_
    refine wl_gno rfl rfl rfl rfl ?_
    refine wl_gno rfl rfl rfl rfl ?_
    refine wl_gno rfl rfl rfl rfl ?_
    refine o_y (y_pick_t rfl rfl) rfl rfl ?_
    refine wl_nil ?_
    refine e_seq ?_
    refine w_cond_t rfl ?_
    refine w_ret ?_
    refine e_seq_ret ?_
    refine e_lvr ?_
    refine lv_nil (rs := []) rfl rs_nil (fun w hw => ?_)
    first
      | exact iter_end _ (.inl (by rw [eachS, if_pos (by omega)]; exact hg0)) (hw.weak (.cons _ (.cons_cons _ .slnil)) (fun s hs => hs))
      | exact iter_end _ (.inl (by rw [hok.each]; exact hI)) (hw.weak (.cons _ (.cons_cons _ .slnil)) (fun s hs => hs))
      | exact iter_end _ (.inr ⟨ded [] pre, ded (dedS [] pre) post, by rw [hok.each, hxs, ded_append], hF⟩) (hw.weak (.cons _ (.cons_cons _ .slnil)) (fun s hs => hs))
      | (trace_state; fail)
  · skip
    refine o_y (y_move rfl) rfl rfl ?_
    refine wl_gyes rfl rfl ?_
    refine o_y (y_loadSo 1 ty_26 rfl rfl rfl) rfl rfl ?_
    refine wl_gyes rfl rfl ?_
    refine o_callp rfl ent_56 (c_name_Check _) rfl ?_
    refine wl_gyes rfl rfl ?_
    refine o_y (y_neq rfl rfl) rfl rfl ?_
    refine wl_splitp (t := 13) rfl (fun h1_6 => ?_) (fun h1_6 => ?_)
    · skip
      refine o_y (y_pick_f rfl rfl) rfl rfl ?_
      refine wl_nil ?_
      refine e_seq ?_
      refine w_cond_t rfl ?_
      refine w_ret ?_
      refine e_seq_ret ?_
      refine e_lvr ?_
      refine lv_nil (rs := []) rfl rs_nil (fun w hw => ?_)
      first
        | exact iter_end _ (.inl (by rw [eachS, if_pos (by omega)]; exact hg0)) (hw.weak (.cons _ (.cons_cons _ .slnil)) (fun s hs => hs))
        | exact iter_end _ (.inl (by rw [hok.each]; exact hI)) (hw.weak (.cons _ (.cons_cons _ .slnil)) (fun s hs => hs))
        | exact iter_end _ (.inr ⟨ded [] pre, ded (dedS [] pre) post, by rw [hok.each, hxs, ded_append], hF⟩) (hw.weak (.cons _ (.cons_cons _ .slnil)) (fun s hs => hs))
        | (trace_state; fail)
    · skip
      refine o_y (y_pick_f rfl rfl) rfl rfl ?_
      refine wl_nil ?_
      refine e_seq ?_
      refine w_cond_f rfl ?_
      refine w_skip ?_
      refine e_seq ?_
      refine w_seq ?_
      have hok : Ok s n := ⟨by omega, by omega⟩
      obtain ⟨hb1, hb2, hb3, hb4⟩ := hok.bnds
      refine w_region ?_
      refine o_makeMap (fun s : Str => .string (ba s)) (fun b : Bool => .bool b) rfl (fun r1 => ?_)
      refine o_alloc ty_161 rfl rfl (fun b3 => ?_)
      refine o_store ty_161 rfl rfl rfl .z rfl rfl rfl rfl ?_
      refine wl_nil ?_
      refine e_seq ?_
      refine w_seq ?_
      refine w_region ?_
      refine o_y (y_loadSos 0 ty_82 rfl rfl rfl rfl) rfl rfl ?_
      refine o_y (y_loadSo 1 ty_26 rfl rfl rfl) rfl rfl ?_
      refine o_callr2 rfl ent_116 rfl (c_candidates _ _ _ _) (fun w hw => rd_nil) (fun ⟨p3, q3⟩ => ?_)
      refine wl_heap (fun w h => h.freeze.freeze) ?_
      refine wl_nil ?_
      refine e_seq ?_
      refine w_block ?_
      refine w_range (σ := σ × List (Str × Bool)) (fun pre q => I (ded [] pre) q.1 ∧ SeenS q.2 pre) (fun c pre q => c = .ret ∧ Ix (ded [] pre) q.1) (fun q => [Ch.row b3 [.map (some r1)] 161, Ch.mp r1 (fun s : Str => .string (ba s)) (fun b : Bool => .bool b) q.2, Ch.row b1 [.func (.yield lr) #[] #[]] 157, C q.1]) ((g0, [])) rfl rfl ent_140 (c_cand1 s A c n p3 q3 hb1 hb2 hb3 hb4) (List.forall_mem_cons.2 ⟨.tail _ (.head _), List.forall_mem_cons.2 ⟨.head _, List.forall_mem_cons.2 ⟨.tail _ (.tail _ (.tail _ (.tail _ (.head _)))), nofun⟩⟩⟩) rfl (fun _ => rfl) (⟨hg0, seenS_nil⟩) rfl (fun pre e post q hxs hI lr D r hr okb wb => ?_) (fun q D0 hI => ?_) (fun c pre post q D0 hxs hI => ?_)
      · skip
        obtain ⟨g, m⟩ := q
        obtain ⟨hI, hsn⟩ := hI
        dsimp only at hI hsn ⊢
        have hel : e.length ≤ 254 := (nameCk_zero.1 (hok.xck (by rw [hxs]; simp))).1
        refine w_region ?_
        refine o_y (y_assign rfl) rfl rfl ?_
        refine wl_nil ?_
        refine e_begin rfl hr .z ?_
        refine w_block ?_
        refine w_seq ?_
        refine w_region ?_
        refine o_y (y_move rfl) rfl rfl ?_
        refine o_callp rfl ent_55 (p_name_Fold _ (by omega)) rfl ?_
        refine o_y (y_assign rfl) rfl rfl ?_
        refine wl_nil ?_
        refine e_seq ?_
        refine w_seq ?_
        refine w_seq ?_
        refine w_region ?_
        refine o_y (y_loadr 2 ty_161 rfl rfl rfl) rfl rfl ?_
        refine o_y (y_move rfl) rfl rfl ?_
        refine o_y (y_lookup Tryz.underlying161 (keyl_str Tryz.underlying26) ty_4 rfl rfl (fun w hw => hw.own _ (List.mem_of_getElem? (i := 3) rfl))) rfl rfl ?_
        refine wl_as (t := 24) (.bool (decide (foldN e ∈ dedS [] pre))) rfl (seenS_val hsn _) ?_
        refine wl_splitb (t := 24) rfl (fun h6_2 => ?_) (fun h6_2 => ?_)
        · skip
          have hys : foldN e ∈ dedS [] pre := of_decide_eq_true h6_2
          refine wl_nil ?_
          refine e_seq ?_
          refine w_cond_t rfl ?_
          refine w_exit ?_
          refine e_seq_exit ?_
          refine e_blk_hit ?_
          refine e_rend ((g, m)) ?_ (fun w h => h)
          · exact ⟨by show I (ded [] (pre ++ [e])) _; rw [(dedS_no hys).2]; exact hI, seenS_no hsn hys⟩
        · skip
          have hns : ¬ foldN e ∈ dedS [] pre := of_decide_eq_false h6_2
          have hx2 : eachS s n = ded [] pre ++ e :: ded (dedS [] (pre ++ [e])) post := by
            rw [hok.each, hxs, show pre ++ e :: post = (pre ++ [e]) ++ post by simp, ded_append, (dedS_yes hns).2, List.append_assoc]; rfl
          refine wl_nil ?_
          refine e_seq ?_
          refine w_cond_f rfl ?_
          refine w_skip ?_
          refine e_seq ?_
          refine w_seq ?_
          refine w_region ?_
          refine o_y (y_loadr 2 ty_161 rfl rfl rfl) rfl rfl ?_
          refine o_y (y_move rfl) rfl rfl ?_
          refine o_mapUpd Tryz.underlying161 (keyl_str Tryz.underlying26) rfl rfl rfl (.s (.s (.s (.z)))) ?_
          refine wl_nil ?_
          refine e_seq ?_
          refine w_seq ?_
          refine w_region ?_
          refine o_y (y_loadr 4 ty_157 rfl rfl rfl) rfl rfl ?_
          refine o_y (y_move rfl) rfl rfl ?_
          refine o_yield rfl rfl (hy (ded [] pre) e (ded (dedS [] (pre ++ [e])) post) g hx2 hI) (fun _ => (.s (.s (.s (.s (.s (.z))))))) (fun s hs => .tail _ (.tail _ (List.mem_append_right _ hs))) rfl (fun g' hT => ?_) (fun g' hF => ?_)
          · skip
            refine o_y (y_not rfl) rfl rfl ?_
            refine wl_nil ?_
            refine e_seq ?_
            refine w_cond_f rfl ?_
            refine w_skip ?_
            refine e_blk ?_
            refine e_rend ((g', upd m (foldN e) true)) ?_ (fun w h => h)
            · exact ⟨by show I (ded [] (pre ++ [e])) _; rw [(dedS_yes hns).2]; exact hT, seenS_yes hsn hns⟩
          · skip
            refine o_y (y_not rfl) rfl rfl ?_
            refine wl_nil ?_
            refine e_seq ?_
            refine w_cond_t rfl ?_
            refine w_ret ?_
            refine e_blk_ret ?_
            refine e_rret ((g', upd m (foldN e) true)) ?_ (fun w h => h)
            · exact ⟨rfl, by show Ix (ded [] (pre ++ [e])) _; rw [(dedS_yes hns).2]; exact hF⟩
      · skip
        obtain ⟨g, m⟩ := q
        obtain ⟨hI, hsn⟩ := hI
        dsimp only at hI ⊢
        refine e_blk ?_
        refine e_lvn ?_
        refine lv_take .z ?_
        refine lv_nil (rs := []) rfl rs_nil (fun w hw => ?_)
        first
          | exact iter_end _ (.inl (by rw [eachS, if_pos (by omega)]; exact hg0)) (hw.weak (.cons _ (.cons _ (.cons _ (.cons _ (.cons_cons _ .slnil))))) (fun s hs => hs))
          | exact iter_end _ (.inl (by rw [hok.each]; exact hI)) (hw.weak (.cons _ (.cons _ (.cons _ (.cons _ (.cons_cons _ .slnil))))) (fun s hs => hs))
          | exact iter_end _ (.inr ⟨ded [] pre, ded (dedS [] pre) post, by rw [hok.each, hxs, ded_append], hF⟩) (hw.weak (.cons _ (.cons _ (.cons _ (.cons _ (.cons_cons _ .slnil))))) (fun s hs => hs))
          | (trace_state; fail)
      · skip
        obtain ⟨g, m⟩ := q
        obtain ⟨rfl, hF⟩ := hI
        dsimp only at hF ⊢
        refine w_ret ?_
        refine e_blk_ret ?_
        refine e_lvr ?_
        refine lv_take .z ?_
        refine lv_nil (rs := []) rfl rs_nil (fun w hw => ?_)
        first
          | exact iter_end _ (.inl (by rw [eachS, if_pos (by omega)]; exact hg0)) (hw.weak (.cons _ (.cons _ (.cons _ (.cons _ (.cons_cons _ .slnil))))) (fun s hs => hs))
          | exact iter_end _ (.inl (by rw [hok.each]; exact hI)) (hw.weak (.cons _ (.cons _ (.cons _ (.cons _ (.cons_cons _ .slnil))))) (fun s hs => hs))
          | exact iter_end _ (.inr ⟨ded [] pre, ded (dedS [] pre) post, by rw [hok.each, hxs, ded_append], hF⟩) (hw.weak (.cons _ (.cons _ (.cons _ (.cons _ (.cons_cons _ .slnil))))) (fun s hs => hs))
          | (trace_state; fail)

theorem c_Each (s : Sr) (A : Option Addr) (c : Nat) (n : Str) : RC Tryz.prog 86 #[.agg (srC s A c).toArray, .string (ba n)] [] (α := Nat × Nat) (fun p => .func (.func 115) #[] #[.pointer (some ⟨p.1, 0, none⟩), .pointer (some ⟨p.2, 0, none⟩)]) (fun p => [Ch.row p.2 [.string (ba n)] 26, Ch.row p.1 (srC s A c) 82]) := by
  refine rc_of_W (args := [.agg (srC s A c).toArray, .string (ba n)]) 6 Tryz.func86 rfl rfl rfl (fun w0 => ?_)
  refine w_seq ?_
  refine w_region ?_
  refine o_box rfl rfl rfl (fun b1 => ?_)
  refine o_box rfl rfl rfl (fun b2 => ?_)
  refine o_y (y_assign rfl) rfl rfl ?_
  refine wl_nil ?_
  refine e_seq ?_
  refine w_seq ?_
  refine w_region ?_
  refine o_y (y_makeFunc rfl rfl) rfl rfl ?_
  refine o_y (y_assign rfl) rfl rfl ?_
  refine wl_nil ?_
  refine e_seq ?_
  refine w_ret ?_
  refine e_ret (ts := [4]) rfl rfl rfl (fun w hw => ?_)
  exact ⟨(b1, b2), rfl, hw.base, (hw.weak (.cons_cons _ (.cons_cons _ .slnil)) (fun s hs => hs)).toNews⟩

theorem c_AppendSeq_n (xs : List Str) (gf : Nat) (lb : List Value) (Sx : List Ch) (hit : Iter Tryz.prog gf lb Sx encs xs) (hen : Enters Tryz.prog gf) (hl : xs.length ≤ 1000000000000) : RC Tryz.prog 114 #[.slice none 0 0, .func (.func gf) #[] lb.toArray] Sx (α := Option Addr × Nat) (fun p => .slice p.1 xs.length p.2) (fun p => [Ch.ls p.1 p.2 26 1 encs xs]) := by
  refine rc_of_WM (args := [.slice none 0 0, .func (.func gf) #[] lb.toArray]) 13 Tryz.func114 rfl rfl rfl (fun w0 => ?_)
  refine w_seq ?_
  refine w_region ?_
  refine o_box rfl rfl rfl (fun b1 => ?_)
  refine o_y (y_assign rfl) rfl rfl ?_
  refine wl_nil ?_
  refine e_seq ?_
  refine w_seq ?_
  refine w_seq ?_
  refine w_region ?_
  refine o_y (y_move rfl) rfl rfl ?_
  refine wl_nil ?_
  refine e_seq ?_
  refine w_block ?_
  refine w_heap (fun w h => h.nilsl 26 1) ?_
  refine w_range (σ := List Str × Option Addr × Nat) (fun pre g => g.1 = pre) (fun c pre g => False) (fun g => [Ch.ls g.2.1 g.2.2 26 1 encs g.1, Ch.row b1 [.slice g.2.1 g.1.length g.2.2] 59]) (([], none, 0)) rfl rfl hen (hit) (fun s hs => hs) rfl (fun _ => rfl) (rfl) rfl (fun pre e post g hxs hI lr D r hr okb wb => ?_) (fun g D0 hI => ?_) (fun c pre post g D0 hxs hI => ?_)
  · skip
    obtain ⟨q, A, c⟩ := g
    dsimp only at hI ⊢
    subst hI
    refine w_region ?_
    refine o_y (y_assign rfl) rfl rfl ?_
    refine wl_nil ?_
    refine e_begin rfl hr .z ?_
    refine w_block ?_
    refine w_region ?_
    have hql : q.length < xs.length := by rw [hxs]; simp
    refine o_y (y_loadr 3 ty_59 rfl rfl rfl) rfl rfl ?_
    refine o_y (y_move rfl) rfl rfl ?_
    refine o_bsl (vs := [_]) ([_] : List (Str)) enc_s Tryz.underlying59 ty_26 rfl rfl rfl rfl rfl rfl (fun As2 => ?_)
    refine o_appm (enc := encs) (sz := 1) _ Tryz.underlying59 ty_26 rfl rfl rfl (fun A c => (.s (.s (.s (.z))))) (src_L 0 Tryz.underlying59 rfl) (by simp only [List.length_cons, List.length_nil, Nat.zero_add]; omega) (by simp only [List.length_cons, List.length_nil, Nat.zero_add]; omega) rfl (fun A2 c2 => ?_)
    refine o_store ty_59 rfl rfl rfl (.s (.s (.s (.s (.z))))) rfl rfl rfl rfl ?_
    refine wl_nil ?_
    refine e_blk ?_
    refine e_rend ((q ++ [e], A2, c2)) ?_ (fun w h => h.weak (.cons _ (List.Sublist.refl _)) (fun s hs => hs))
    · rfl
  · skip
    obtain ⟨q, A, c⟩ := g
    dsimp only at hI ⊢
    subst hI
    refine e_blk ?_
    refine e_seq ?_
    refine w_seq ?_
    refine w_region ?_
    refine o_y (y_loadr 2 ty_59 rfl rfl rfl) rfl rfl ?_
    refine o_y (y_assign rfl) rfl rfl ?_
    refine wl_nil ?_
    refine e_seq ?_
    refine w_ret ?_
    refine e_lvr ?_
    refine lv_take .z ?_
    refine lv_nil (rs := [.tmp 4]) rfl (rs_tmp rfl rs_nil) (fun w hw => ?_)
    exact ⟨(A, c), rfl, hw.base, (hw.weak (.cons _ (.cons_cons _ (.cons _ .slnil))) (fun s hs => hs)).toNews⟩
  · skip
    exact hI.elim

theorem c_Collect_n (xs : List Str) (gf : Nat) (lb : List Value) (Sx : List Ch) (hit : Iter Tryz.prog gf lb Sx encs xs) (hen : Enters Tryz.prog gf) (hl : xs.length ≤ 1000000000000) : RC Tryz.prog 85 #[.func (.func gf) #[] lb.toArray] Sx (α := Option Addr × Nat) (fun p => .slice p.1 xs.length p.2) (fun p => [Ch.ls p.1 p.2 26 1 encs xs]) := by
  refine rc_of_W (args := [.func (.func gf) #[] lb.toArray]) 5 Tryz.func85 rfl rfl rfl (fun w0 => ?_)
  refine w_seq ?_
  refine w_region ?_
  refine o_y (y_assign rfl) rfl rfl ?_
  refine wl_nil ?_
  refine e_seq ?_
  refine w_seq ?_
  refine w_region ?_
  refine o_y (y_move rfl) rfl rfl ?_
  refine o_callr1 rfl ent_114 rfl (c_AppendSeq_n xs gf lb Sx hit hen hl) (fun w hw => hw.rd) (fun ⟨A0, c0⟩ => ?_)
  refine o_y (y_assign rfl) rfl rfl ?_
  refine wl_nil ?_
  refine e_seq ?_
  refine w_ret ?_
  refine e_ret (ts := [2]) rfl rfl rfl (fun w hw => ?_)
  exact ⟨(A0, c0), rfl, hw.base, (hw.weak (.cons_cons _ .slnil) (fun s hs => hs)).toNews⟩


def namesE (s : Sr) (n : Str) : Int := if srCk s ≠ 0 then srCk s else nameCk n
theorem each_bad {s : Sr} {n : Str} (h : srCk s ≠ 0 ∨ nameCk n ≠ 0) : eachS s n = [] := if_pos h


theorem c_search_Names (s : Sr) (A : Option Addr) (c : Nat) (n : Str) : RC Tryz.prog 40 #[.agg (srC s A c).toArray, .string (ba n)] [Ch.rd A 1 encs s.doms] (α := Option Addr × Nat) (fun p => .tuple #[.slice p.1 (eachS s n).length p.2, .int .i64 (namesE s n)]) (fun p => [Ch.ls p.1 p.2 26 1 encs (eachS s n)]) := by
  refine rc_of_W (args := [.agg (srC s A c).toArray, .string (ba n)]) 22 Tryz.func40 rfl rfl rfl (fun w0 => ?_)
  refine w_seq ?_
  refine w_region ?_
  refine o_box rfl rfl rfl (fun b1 => ?_)
  refine o_y (y_assign rfl) rfl rfl ?_
  refine o_y (y_assign rfl) rfl rfl ?_
  refine wl_nil ?_
  refine e_seq ?_
  refine w_seq ?_
  refine w_seq ?_
  refine w_region ?_
  refine o_y (y_loadrs 0 ty_82 rfl rfl rfl rfl) rfl rfl ?_
  refine o_callq rfl ent_43 rfl (c_search_Check _ _ _) (fun w hw => (rd_cons (rd_S 0 rfl hw) rd_nil)) ?_
  refine o_y (y_assign rfl) rfl rfl ?_
  refine wl_nil ?_
  refine e_seq ?_
  refine w_seq ?_
  refine w_region ?_
  refine o_y (y_move rfl) rfl rfl ?_
  refine o_y (y_neq rfl rfl) rfl rfl ?_
  refine wl_splitp (t := 11) rfl (fun h2_1 => ?_) (fun h2_1 => ?_)
  · skip
    refine wl_nil ?_
    refine e_seq ?_
    refine w_cond_t rfl ?_
    refine w_seq ?_
    refine w_region ?_
    refine o_y (y_move rfl) rfl rfl ?_
    refine o_y (y_assign rfl) rfl rfl ?_
    refine o_y (y_assign rfl) rfl rfl ?_
    refine wl_nil ?_
    refine e_seq ?_
    refine w_ret ?_
    refine e_seq_ret ?_
    refine e_ret (ts := [4, 5]) rfl rfl rfl (fun w hw => ?_)
    first
      | (have hE : eachS s n = [] := each_bad (.inl h2_1)
         have hF : namesE s n = srCk s := if_pos h2_1
         exact ⟨(none, 0), by rw [hE, hF]; rfl, hw.base, by rw [hE]; exact ((hw.weak (List.nil_sublist _) (fun s hs => hs)).nilsl 26 1).toNews⟩)
      | (have hE : eachS s n = [] := each_bad (.inr h5_1)
         have hF : namesE s n = nameCk n := if_neg h2_1
         exact ⟨(none, 0), by rw [hE, hF]; rfl, hw.base, by rw [hE]; exact ((hw.weak (List.nil_sublist _) (fun s hs => hs)).nilsl 26 1).toNews⟩)
      | (have hF : namesE s n = 0 := by rw [namesE, if_neg h2_1]; omega
         exact ⟨(A0, c0), by rw [hF]; rfl, hw.base, (hw).toNews⟩)
      | (trace_state; fail)
  · skip
    refine wl_nil ?_
    refine e_seq ?_
    refine w_cond_f rfl ?_
    refine w_skip ?_
    refine e_seq ?_
    refine w_seq ?_
    refine w_seq ?_
    refine w_region ?_
    refine o_y (y_move rfl) rfl rfl ?_
    refine o_callp rfl ent_56 (c_name_Check _) rfl ?_
    refine o_y (y_assign rfl) rfl rfl ?_
    refine wl_nil ?_
    refine e_seq ?_
    refine w_seq ?_
    refine w_region ?_
    refine o_y (y_move rfl) rfl rfl ?_
    refine o_y (y_neq rfl rfl) rfl rfl ?_
    refine wl_splitp (t := 16) rfl (fun h5_1 => ?_) (fun h5_1 => ?_)
    · skip
      refine wl_nil ?_
      refine e_seq ?_
      refine w_cond_t rfl ?_
      refine w_seq ?_
      refine w_region ?_
      refine o_y (y_move rfl) rfl rfl ?_
      refine o_y (y_assign rfl) rfl rfl ?_
      refine o_y (y_assign rfl) rfl rfl ?_
      refine wl_nil ?_
      refine e_seq ?_
      refine w_ret ?_
      refine e_seq_ret ?_
      refine e_ret (ts := [4, 5]) rfl rfl rfl (fun w hw => ?_)
      first
        | (have hE : eachS s n = [] := each_bad (.inl h2_1)
           have hF : namesE s n = srCk s := if_pos h2_1
           exact ⟨(none, 0), by rw [hE, hF]; rfl, hw.base, by rw [hE]; exact ((hw.weak (List.nil_sublist _) (fun s hs => hs)).nilsl 26 1).toNews⟩)
        | (have hE : eachS s n = [] := each_bad (.inr h5_1)
           have hF : namesE s n = nameCk n := if_neg h2_1
           exact ⟨(none, 0), by rw [hE, hF]; rfl, hw.base, by rw [hE]; exact ((hw.weak (List.nil_sublist _) (fun s hs => hs)).nilsl 26 1).toNews⟩)
        | (have hF : namesE s n = 0 := by rw [namesE, if_neg h2_1]; omega
           exact ⟨(A0, c0), by rw [hF]; rfl, hw.base, (hw).toNews⟩)
        | (trace_state; fail)
    · skip
      refine wl_nil ?_
      refine e_seq ?_
      refine w_cond_f rfl ?_
      refine w_skip ?_
      refine e_seq ?_
      refine w_seq ?_
      have hok : Ok s n := ⟨by omega, by omega⟩
      refine w_region ?_
      refine o_y (y_loadrs 0 ty_82 rfl rfl rfl rfl) rfl rfl ?_
      refine o_y (y_move rfl) rfl rfl ?_
      refine o_callr2 rfl ent_86 rfl (c_Each _ _ _ _) (fun w hw => rd_nil) (fun ⟨p1, q1⟩ => ?_)
      refine wl_heap (fun w h => h.freeze.freeze) ?_
      refine o_callr1 rfl ent_85 rfl (c_Collect_n (eachS s n) 115 [.pointer (some ⟨p1, 0, none⟩), .pointer (some ⟨q1, 0, none⟩)] [Ch.row p1 (srC s A c) 82, Ch.row q1 [.string (ba n)] 26, Ch.rd A 1 encs s.doms] (c_Each1 s A c n p1 q1) ent_115 (by have := hok.len; have := hok.bnds.1; omega)) (fun w hw => (rd_cons (rd_S 0 rfl hw) (rd_cons (rd_S 1 rfl hw) (rd_cons (rd_S 2 rfl hw) rd_nil)))) (fun ⟨A2, c2⟩ => ?_)
      refine o_y (y_assign rfl) rfl rfl ?_
      refine o_y (y_assign rfl) rfl rfl ?_
      refine wl_nil ?_
      refine e_seq ?_
      refine w_ret ?_
      refine e_ret (ts := [4, 5]) rfl rfl rfl (fun w hw => ?_)
      first
        | (have hE : eachS s n = [] := each_bad (.inl h2_1)
           have hF : namesE s n = srCk s := if_pos h2_1
           exact ⟨(none, 0), by rw [hE, hF]; rfl, hw.base, by rw [hE]; exact ((hw.weak (List.nil_sublist _) (fun s hs => hs)).nilsl 26 1).toNews⟩)
        | (have hE : eachS s n = [] := each_bad (.inr h5_1)
           have hF : namesE s n = nameCk n := if_neg h2_1
           exact ⟨(none, 0), by rw [hE, hF]; rfl, hw.base, by rw [hE]; exact ((hw.weak (List.nil_sublist _) (fun s hs => hs)).nilsl 26 1).toNews⟩)
        | (have hF : namesE s n = 0 := by rw [namesE, if_neg h2_1]; omega
           exact ⟨(A2, c2), by rw [hF]; rfl, hw.base, (hw.weak (.cons_cons _ (.cons _ .slnil)) (fun s hs => hs)).toNews⟩)
        | (trace_state; fail)


def lightN (l : List Str) (m : Int) : Bool := decide (∀ s ∈ l, s.length ≤ 300) && decide ((l.length : Int) ≤ m)
theorem lightN_bad {l : List Str} {m : Int} {k : Nat} (hk : k < l.length) (h : 300 < ((l.getD k []).length : Int)) : lightN l m = false := by
  rw [lightN, decide_eq_false (fun q => by have := q _ (mem_getD (d := []) hk); omega), Bool.false_and]
theorem lightN_ok {l : List Str} {m : Int} (h : ∀ i, i < l.length → (l.getD i []).length ≤ 300) : lightN l m = decide ((l.length : Int) ≤ m) := by
  rw [lightN, decide_eq_true, Bool.true_and]
  intro s hs
  obtain ⟨i, hi, rfl⟩ := List.mem_iff_getElem.1 hs
  have := h i hi
  rwa [List.getD_eq_getElem?_getD, List.getElem?_eq_getElem hi] at this
theorem lightN_le {l : List Str} {m : Int} (h : lightN l m = true) : (∀ s ∈ l, s.length ≤ 300) ∧ (l.length : Int) ≤ m := by
  simpa [lightN] using h


theorem c_LightNames (l : List Str) (A : Option Addr) (c : Nat) (m : Int) (hl : l.length ≤ 9223372036854775807) : RC Tryz.prog 28 #[.slice A l.length c, .int .i64 m] [Ch.rd A 1 encs l] (α := Unit) (fun _ => .bool (lightN l m)) (fun _ => []) := by
  refine rc_of_W (args := [.slice A l.length c, .int .i64 m]) 22 Tryz.func28 rfl rfl rfl (fun w0 => ?_)
  refine w_seq ?_
  refine w_region ?_
  refine o_y (y_assign rfl) rfl rfl ?_
  refine wl_nil ?_
  refine e_seq ?_
  refine w_seq ?_
  refine w_seq ?_
  refine w_region ?_
  refine o_y (y_assign rfl) rfl rfl ?_
  refine wl_nil ?_
  refine e_seq ?_
  refine w_block ?_
  refine w_loop0 (σ := Nat) [4, 5, 6, 7, 8, 9, 10, 11, 12, 13, 14, 15, 16, 17] (fun k => k ≤ l.length ∧ ∀ i, i < k → (l.getD i []).length ≤ 300) (fun k => l.length - k) (fun k => [(5, .int .i64 k)]) (0) ?_ ⟨rfl, trivial⟩ (fun k hI => ?_)
  · exact ⟨Nat.zero_le _, nofun⟩
  refine w_seq ?_
  refine w_seq ?_
  refine w_region ?_
  refine o_y (y_move rfl) rfl rfl ?_
  refine o_y (y_move rfl) rfl rfl ?_
  refine o_y (y_lenl Tryz.underlying59 rfl) rfl rfl ?_
  refine o_y (y_lss rfl rfl) rfl rfl ?_
  refine wl_splitp (t := 9) rfl (fun h2_3 => ?_) (fun h2_3 => ?_)
  · skip
    refine wl_nil ?_
    refine e_seq ?_
    refine w_cond_t rfl ?_
    refine w_skip ?_
    refine e_seq ?_
    refine w_seq ?_
    refine w_block ?_
    refine w_seq ?_
    refine w_region ?_
    refine o_y (y_move rfl) rfl rfl ?_
    refine o_y (y_move rfl) rfl rfl ?_
    refine o_y (y_ixm  Tryz.underlying59 ty_26 rfl rfl (rs_S 0 rfl) rfl (by omega)) rfl rfl ?_
    refine o_y (y_ldm0 enc_s ([] : Str) ty_26 rfl (rs_S 0 rfl) (by omega) rfl rfl) rfl rfl ?_
    refine o_y (y_lens Tryz.underlying26 rfl) rfl rfl ?_
    refine o_y (y_gtr rfl rfl) rfl rfl ?_
    refine wl_splitp (t := 17) rfl (fun h4_5 => ?_) (fun h4_5 => ?_)
    · skip
      refine wl_nil ?_
      refine e_seq ?_
      refine w_cond_t rfl ?_
      refine w_seq ?_
      refine w_region ?_
      refine o_y (y_assign rfl) rfl rfl ?_
      refine wl_nil ?_
      refine e_seq ?_
      refine w_ret ?_
      refine e_blk_ret ?_
      refine e_seq_ret ?_
      refine e_loop_ret ?_
      refine e_blk_ret ?_
      refine e_seq_ret ?_
      refine e_ret (ts := [4]) rfl rfl rfl (fun w hw => ?_)
      exact ⟨(), by rw [lightN_bad (k := k) (by omega) (by omega)]; rfl, hw.base, (hw.weak (List.nil_sublist _) (fun s hs => hs)).toNews⟩
    · skip
      refine wl_nil ?_
      refine e_seq ?_
      refine w_cond_f rfl ?_
      refine w_skip ?_
      refine e_blk ?_
      refine e_seq ?_
      refine w_region ?_
      refine o_y (y_move rfl) rfl rfl ?_
      refine o_y (y_addi rfl rfl (by omega) (by omega)) rfl rfl ?_
      refine o_y (y_assign rfl) rfl rfl ?_
      refine wl_nil ?_
      refine e_back (k + 1) ?_ ?_ ⟨rfl, trivial⟩ (by repeat (first | exact trivial | refine ⟨rfl, ?_⟩)) (fun w h => h)
      · exact ⟨by omega, all_succ hI.2 (by omega)⟩
      · omega
  · skip
    refine wl_nil ?_
    refine e_seq ?_
    refine w_cond_f rfl ?_
    refine w_exit ?_
    refine e_seq_exit ?_
    refine e_loop_exit ?_
    refine e_blk_hit ?_
    refine e_seq ?_
    refine w_seq ?_
    refine w_region ?_
    refine o_y (y_move rfl) rfl rfl ?_
    refine o_y (y_lenl Tryz.underlying59 rfl) rfl rfl ?_
    refine o_y (y_move rfl) rfl rfl ?_
    refine o_y (y_leq rfl rfl) rfl rfl ?_
    refine o_y (y_assign rfl) rfl rfl ?_
    refine wl_nil ?_
    refine e_seq ?_
    refine w_ret ?_
    refine e_ret (ts := [4]) rfl rfl rfl (fun w hw => ?_)
    exact ⟨(), by rw [lightN_ok (fun i hi => hI.2 i (by omega))]; rfl, hw.base, (hw.weak (List.nil_sublist _) (fun s hs => hs)).toNews⟩

theorem c_light20 (s : Sr) (A : Option Addr) (c : Nat) (n : Str) (hl : s.doms.length ≤ 9223372036854775807) : RC Tryz.prog 39 #[.agg (srC s A c).toArray, .string (ba n)] [Ch.rd A 1 encs s.doms] (α := Unit) (fun _ => .bool (lightN s.doms 40 && decide (n.length ≤ 300))) (fun _ => []) := by
  refine rc_of_W (args := [.agg (srC s A c).toArray, .string (ba n)]) 13 Tryz.func39 rfl rfl rfl (fun w0 => ?_)
  refine w_seq ?_
  refine w_region ?_
  refine o_box rfl rfl rfl (fun b1 => ?_)
  refine o_y (y_assign rfl) rfl rfl ?_
  refine wl_nil ?_
  refine e_seq ?_
  refine w_seq ?_
  refine w_region ?_
  refine o_y (y_field fa_82_1 rfl) rfl rfl ?_
  refine o_y (y_loadr 0 ty_59 rfl rfl rfl) rfl rfl ?_
  refine o_callq rfl ent_28 rfl (c_LightNames _ _ _ _ (by omega)) (fun w hw => (rd_cons (rd_S 0 rfl hw) rd_nil)) ?_
  refine wl_splitb (t := 7) rfl (fun h1_2 => ?_) (fun h1_2 => ?_)
  · skip
    refine o_y (y_move rfl) rfl rfl ?_
    refine wl_gyes rfl rfl ?_
    refine o_y (y_move rfl) rfl rfl ?_
    refine wl_gyes rfl rfl ?_
    refine o_y (y_lens Tryz.underlying26 rfl) rfl rfl ?_
    refine wl_gyes rfl rfl ?_
    refine o_y (y_leq rfl rfl) rfl rfl ?_
    refine o_y (y_pick_t rfl rfl) rfl rfl ?_
    refine o_y (y_assign rfl) rfl rfl ?_
    refine wl_nil ?_
    refine e_seq ?_
    refine w_ret ?_
    refine e_ret (ts := [4]) rfl rfl rfl (fun w hw => ?_)
    refine ⟨(), ?_, hw.base, (hw.weak (List.nil_sublist _) (fun s hs => hs)).toNews⟩
    show Ending.returned (.bool _) = _
    congr 2
    simp only [*, Bool.true_and, Bool.false_and]
    first
      | done
      | (rw [decide_eq_decide]; omega)
      | (trace_state; fail)
  · skip
    refine o_y (y_move rfl) rfl rfl ?_
    refine wl_gno rfl rfl rfl rfl ?_
    refine wl_gno rfl rfl rfl rfl ?_
    refine wl_gno rfl rfl rfl rfl ?_
    refine o_y (y_pick_f rfl rfl) rfl rfl ?_
    refine o_y (y_assign rfl) rfl rfl ?_
    refine wl_nil ?_
    refine e_seq ?_
    refine w_ret ?_
    refine e_ret (ts := [4]) rfl rfl rfl (fun w hw => ?_)
    refine ⟨(), ?_, hw.base, (hw.weak (List.nil_sublist _) (fun s hs => hs)).toNews⟩
    show Ending.returned (.bool _) = _
    congr 2
    simp only [*, Bool.true_and, Bool.false_and]
    first
      | done
      | (rw [decide_eq_decide]; omega)
      | (trace_state; fail)

theorem c_host20 (ls : List Str) (A : Option Addr) (ca : Nat) (hl : ls.length ≤ 1000000000000) : RC Tryz.prog 84 #[.slice A ls.length ca] [Ch.rd A 1 encs ls] (α := Unit) (fun _ => .string (ba (makeN ls).1)) (fun _ => []) := by
  refine rc_of_W (args := [.slice A ls.length ca]) 11 Tryz.func84 rfl rfl rfl (fun w0 => ?_)
  refine w_seq ?_
  refine w_region ?_
  refine o_y (y_assign rfl) rfl rfl ?_
  refine wl_nil ?_
  refine e_seq ?_
  refine w_seq ?_
  refine w_region ?_
  refine o_y (y_move rfl) rfl rfl ?_
  refine o_callq rfl ent_90 rfl (c_ref02_Make _ _ _ (by omega)) (fun w hw => (rd_cons (rd_S 0 rfl hw) rd_nil)) ?_
  refine o_y (y_move rfl) rfl rfl ?_
  refine o_y (y_extract rfl rfl) rfl rfl ?_
  refine o_y (y_extract rfl rfl) rfl rfl ?_
  refine o_y (y_assign rfl) rfl rfl ?_
  refine o_y (y_assign rfl) rfl rfl ?_
  refine wl_nil ?_
  refine e_seq ?_
  refine w_seq ?_
  refine w_region ?_
  refine o_y (y_move rfl) rfl rfl ?_
  refine o_y (y_assign rfl) rfl rfl ?_
  refine wl_nil ?_
  refine e_seq ?_
  refine w_ret ?_
  refine e_ret (ts := [2]) rfl rfl rfl (fun w hw => ?_)
  exact ⟨(), rfl, hw.base, (hw.weak (List.nil_sublist _) (fun s hs => hs)).toNews⟩


def exS : Sr := ⟨1, [(makeN [[120], [121]]).1]⟩


theorem c_example20  : RC Tryz.prog 83 #[] [] (α := Option Addr × Nat) (fun p => .agg (srC exS p.1 p.2).toArray) (fun p => [Ch.ls p.1 p.2 26 1 encs exS.doms]) := by
  refine rc_of_W (args := []) 5 Tryz.func83 rfl rfl rfl (fun w0 => ?_)
  refine w_seq ?_
  refine w_region ?_
  refine o_alloc ty_82 rfl rfl (fun b1 => ?_)
  refine wl_nil ?_
  refine e_seq ?_
  refine w_seq ?_
  refine w_region ?_
  refine o_bsl (vs := [_, _]) ([[120], [121]] : List (Str)) enc_s Tryz.underlying71 ty_9 rfl rfl rfl rfl rfl rfl (fun As2 => ?_)
  refine o_callq rfl ent_84 rfl (c_host20 _ _ _ (by decide)) (fun w hw => (rd_cons (rd_Ls 0 rfl hw) rd_nil)) ?_
  refine o_bsl (vs := [_]) ([(makeN [[120], [121]]).1] : List (Str)) enc_s Tryz.underlying59 ty_26 rfl rfl rfl rfl rfl rfl (fun As3 => ?_)
  refine o_y (y_build rfl (bu_82_0_1 _ _ _ _)) rfl rfl ?_
  refine o_store ty_82 rfl rfl rfl (.s (.s (.z))) rfl rfl rfl rfl ?_
  refine wl_nil ?_
  refine e_seq ?_
  refine w_ret ?_
  refine e_rsr (rs := [.cell 0 82]) rfl (rs_cells 2 ty_82 rfl rfl rfl rfl rs_nil) rfl (fun w hw => ?_)
  exact ⟨(As3, 1), rfl, hw.base, (hw.weak (.cons_cons _ (.cons _ (.cons _ .slnil))) (fun s hs => hs)).toNews⟩

theorem c_lives20  : Pure Tryz.prog 38 #[] (.bool true) := by
  intro w0
  refine calls_of_W (ok0 := no) (S := []) (args := []) 43 Tryz.func38 rfl rfl rfl (by simp) (by simp) ?_
  refine w_seq ?_
  refine w_region ?_
  refine o_y (y_assign rfl) rfl rfl ?_
  refine wl_nil ?_
  refine e_seq ?_
  refine w_seq ?_
  refine w_region ?_
  refine o_callr1 rfl ent_83 rfl c_example20 (fun w hw => rd_nil) (fun ⟨A0, c0⟩ => ?_)
  refine o_bsl (vs := [_]) ([[97]] : List (Str)) enc_s Tryz.underlying71 ty_9 rfl rfl rfl rfl rfl rfl (fun As2 => ?_)
  refine o_callq rfl ent_84 rfl (c_host20 _ _ _ (by decide)) (fun w hw => (rd_cons (rd_Ls 0 rfl hw) rd_nil)) ?_
  refine o_callr1 rfl ent_40 rfl (c_search_Names exS _ _ (makeN [[97]]).1) (fun w hw => (rd_cons (rd_Ls 1 rfl hw) rd_nil)) (fun ⟨A2, c2⟩ => ?_)
  refine o_y (y_move rfl) rfl rfl ?_
  refine o_y (y_extract rfl rfl) rfl rfl ?_
  refine o_y (y_extract rfl rfl) rfl rfl ?_
  refine o_y (y_assign rfl) rfl rfl ?_
  refine o_y (y_assign rfl) rfl rfl ?_
  refine wl_nil ?_
  refine e_seq ?_
  refine w_seq ?_
  refine w_region ?_
  refine o_callr1 rfl ent_83 rfl c_example20 (fun w hw => rd_nil) (fun ⟨A3, c3⟩ => ?_)
  refine o_bsl (vs := [_, _]) ([[97], [98]] : List (Str)) enc_s Tryz.underlying71 ty_9 rfl rfl rfl rfl rfl rfl (fun As5 => ?_)
  refine o_callq rfl ent_84 rfl (c_host20 _ _ _ (by decide)) (fun w hw => (rd_cons (rd_Ls 0 rfl hw) rd_nil)) ?_
  refine o_callr1 rfl ent_40 rfl (c_search_Names exS _ _ (makeN [[97], [98]]).1) (fun w hw => (rd_cons (rd_Ls 1 rfl hw) rd_nil)) (fun ⟨A5, c5⟩ => ?_)
  refine o_y (y_move rfl) rfl rfl ?_
  refine o_y (y_extract rfl rfl) rfl rfl ?_
  refine o_y (y_extract rfl rfl) rfl rfl ?_
  refine o_y (y_assign rfl) rfl rfl ?_
  refine o_y (y_assign rfl) rfl rfl ?_
  refine wl_nil ?_
  refine e_seq ?_
  refine w_seq ?_
  refine w_region ?_
  refine o_y (y_move rfl) rfl rfl ?_
  refine o_y (y_eql rfl rfl) rfl rfl ?_
  refine wl_at (t := 20) rfl (by decide +kernel) ?_
  refine o_y (y_move rfl) rfl rfl ?_
  refine wl_gyes rfl rfl ?_
  refine o_y (y_move rfl) rfl rfl ?_
  refine wl_gyes rfl rfl ?_
  refine o_bsl (vs := [_, _, _]) ([[97], [120], [121]] : List (Str)) enc_s Tryz.underlying71 ty_9 rfl rfl rfl rfl rfl rfl (fun As7 => ?_)
  refine wl_gyes rfl rfl ?_
  refine o_callq rfl ent_84 rfl (c_host20 _ _ _ (by decide)) (fun w hw => (rd_cons (rd_Ls 0 rfl hw) rd_nil)) ?_
  refine wl_gyes rfl rfl ?_
  refine o_bsl (vs := [_]) ([[97]] : List (Str)) enc_s Tryz.underlying71 ty_9 rfl rfl rfl rfl rfl rfl (fun As8 => ?_)
  refine wl_gyes rfl rfl ?_
  refine o_callq rfl ent_84 rfl (c_host20 _ _ _ (by decide)) (fun w hw => (rd_cons (rd_Ls 0 rfl hw) rd_nil)) ?_
  refine wl_gyes rfl rfl ?_
  refine o_bsl (vs := [_, _]) ([(makeN [[97], [120], [121]]).1, (makeN [[97]]).1] : List (Str)) enc_s Tryz.underlying59 ty_26 rfl rfl rfl rfl rfl rfl (fun As9 => ?_)
  refine wl_gyes rfl rfl ?_
  refine o_callq rfl ent_23 rfl (c_kit_Same_n _ _ _ _ _ _ (by decide +kernel)) (fun w hw => (rd_cons (rd_Ls 6 rfl hw) (rd_cons (rd_Ls 0 rfl hw) rd_nil))) ?_
  refine wl_as (t := 28) (.bool true) rfl (congrArg Value.bool (by decide +kernel)) ?_
  refine o_y (y_pick_t rfl rfl) rfl rfl ?_
  refine o_y (y_move rfl) rfl rfl ?_
  refine wl_gyes rfl rfl ?_
  refine o_y (y_move rfl) rfl rfl ?_
  refine wl_gyes rfl rfl ?_
  refine o_y (y_eql rfl rfl) rfl rfl ?_
  refine wl_at (t := 32) rfl (by decide +kernel) ?_
  refine o_y (y_pick_t rfl rfl) rfl rfl ?_
  refine o_y (y_move rfl) rfl rfl ?_
  refine wl_gyes rfl rfl ?_
  refine o_y (y_move rfl) rfl rfl ?_
  refine wl_gyes rfl rfl ?_
  refine o_bsl (vs := [_, _]) ([[97], [98]] : List (Str)) enc_s Tryz.underlying71 ty_9 rfl rfl rfl rfl rfl rfl (fun As10 => ?_)
  refine wl_gyes rfl rfl ?_
  refine o_callq rfl ent_84 rfl (c_host20 _ _ _ (by decide)) (fun w hw => (rd_cons (rd_Ls 0 rfl hw) rd_nil)) ?_
  refine wl_gyes rfl rfl ?_
  refine o_bsl (vs := [_, _, _, _]) ([[97], [98], [120], [121]] : List (Str)) enc_s Tryz.underlying71 ty_9 rfl rfl rfl rfl rfl rfl (fun As11 => ?_)
  refine wl_gyes rfl rfl ?_
  refine o_callq rfl ent_84 rfl (c_host20 _ _ _ (by decide)) (fun w hw => (rd_cons (rd_Ls 0 rfl hw) rd_nil)) ?_
  refine wl_gyes rfl rfl ?_
  refine o_bsl (vs := [_, _]) ([(makeN [[97], [98]]).1, (makeN [[97], [98], [120], [121]]).1] : List (Str)) enc_s Tryz.underlying59 ty_26 rfl rfl rfl rfl rfl rfl (fun As12 => ?_)
  refine wl_gyes rfl rfl ?_
  refine o_callq rfl ent_23 rfl (c_kit_Same_n _ _ _ _ _ _ (by decide +kernel)) (fun w hw => (rd_cons (rd_Ls 6 rfl hw) (rd_cons (rd_Ls 0 rfl hw) rd_nil))) ?_
  refine wl_as (t := 41) (.bool true) rfl (congrArg Value.bool (by decide +kernel)) ?_
  refine o_y (y_pick_t rfl rfl) rfl rfl ?_
  refine o_y (y_assign rfl) rfl rfl ?_
  refine wl_nil ?_
  refine e_seq ?_
  refine w_ret ?_
  refine e_ret (ts := [0]) rfl rfl rfl (fun w hw => ?_)
  exact ⟨rfl, hw.base⟩
end Go.Proofs.YtckfjfnkombelaaGreat
