/- an index gone through; who holds nothing -/
import Derived.Test.YtckfjfnkombelaaJdQN
import Derived.Test.YtckfjfnkombelaaLsQN
namespace Go.Proofs.Ytckfjfnkombelaa
open Go.RowKit Go.Shelf
set_option linter.unusedVariables false
set_option linter.unusedSimpArgs false

theorem ent_113 : Enters Try.prog 113 := enters_of Try.func113 (by kernel_rfl) rfl
theorem ent_132 : Enters Try.prog 132 := enters_of Try.func132 (by kernel_rfl) rfl
theorem ent_89 : Enters Try.prog 89 := enters_of Try.func89 (by kernel_rfl) rfl

def encV1 (x : Le) : List Value := [.agg (elC x).toArray]

theorem c_Values1 (l : List Le) (A : Option Addr) (c bn : Nat) (hl : l.length ≤ 1000000000) : Iter Try.prog 132 [.pointer (some ⟨bn, 0, none⟩)] [Ch.row bn [.slice A l.length c] 39, Ch.rd A 7 elC l] encV1 (l) := by
  refine iter_of_W 16 Try.func132 rfl rfl rfl (fun lr σ I Ix C Sc hy g0 hg0 w0 => ?_)
  refine w_seq ?_
  refine w_region ?_
  refine o_y (y_loadSo 0 ty_39 rfl rfl rfl) rfl rfl ?_
  refine o_y (y_lenl Try.underlying39 rfl) rfl rfl ?_
  refine o_y (y_move rfl) rfl rfl ?_
  refine wl_nil ?_
  refine e_seq ?_
  refine w_block ?_
  refine w_loop1 (σ := Nat × σ) [4, 7, 8, 9, 10, 11, 12, 13, 14, 15] (fun q => q.1 ≤ l.length ∧ I (l.take q.1) q.2) (fun q => l.length - q.1) (fun q => [(7, .int .i64 q.1)]) (fun q => C q.2) ((0, g0)) ?_ ⟨rfl, trivial⟩ rfl (fun q hI => ?_)
  · exact ⟨Nat.zero_le _, hg0⟩
  obtain ⟨k, g⟩ := q
  dsimp only at hI ⊢
  refine w_seq ?_
  refine w_region ?_
  refine o_y (y_lss rfl rfl) rfl rfl ?_
  refine wl_splitp (t := 8) rfl (fun h1_0 => ?_) (fun h1_0 => ?_)
  · skip
    have hk : k < l.length := by omega
    have hx2 := split_at le0 hk
    refine wl_nil ?_
    refine e_seq ?_
    refine w_seq ?_
    refine w_cond_t rfl ?_
    refine w_skip ?_
    refine e_seq ?_
    refine w_seq ?_
    refine w_block ?_
    refine w_seq ?_
    refine w_region ?_
    refine o_y (y_ixm  Try.underlying39 ty_50 rfl rfl (rs_S 1 rfl) rfl (by omega)) rfl rfl ?_
    refine o_y (y_ldsm0 enc_le le0 ty_50 rfl (rs_S 1 rfl) (by omega) rfl rfl rfl) rfl rfl ?_
    refine o_alloc ty_50 rfl rfl (fun b1 => ?_)
    refine o_store ty_50 rfl rfl rfl .z rfl rfl rfl rfl ?_
    refine wl_nil ?_
    refine e_seq ?_
    refine w_seq ?_
    refine w_region ?_
    refine o_y (y_move rfl) rfl rfl ?_
    refine o_y (y_loadrs 0 ty_50 rfl rfl rfl rfl) rfl rfl ?_
    refine o_yield rfl rfl (hy _ (l.getD k le0) _ g hx2 hI.2) (fun _ => (.s (.z))) (fun s hs => List.mem_append_right _ hs) rfl (fun g' hT => ?_) (fun g' hF => ?_)
    · skip
      refine o_y (y_not rfl) rfl rfl ?_
      refine wl_nil ?_
      refine e_seq ?_
      refine w_cond_f rfl ?_
      refine w_skip ?_
      refine e_blk ?_
      refine e_seq ?_
      refine w_region ?_
      refine o_y (y_addi rfl rfl (by omega) (by omega)) rfl rfl ?_
      refine o_y (y_move rfl) rfl rfl ?_
      refine wl_nil ?_
      refine e_back ((k + 1, g')) ?_ ?_ ⟨rfl, trivial⟩ (by repeat (first | exact trivial | refine ⟨rfl, ?_⟩)) (fun w h => h.weak (.cons _ (List.Sublist.refl _)) (fun s hs => hs))
      · exact ⟨by show k + 1 ≤ _; omega, by show I (l.take (k + 1)) _; rw [take_succ_getD le0 hk]; exact hT⟩
      · show l.length - (k + 1) < l.length - k
        omega
    · skip
      refine o_y (y_not rfl) rfl rfl ?_
      refine wl_nil ?_
      refine e_seq ?_
      refine w_cond_t rfl ?_
      refine w_ret ?_
      refine e_blk_ret ?_
      refine e_seq_ret ?_
      refine e_loop_ret ?_
      refine e_blk_ret ?_
      refine e_ret (ts := []) rfl rfl rfl (fun w hw => ?_)
      first
        | exact iter_end _ (.inr ⟨_, l.drop (k + 1), by rw [List.append_assoc]; exact hx2, hF⟩) (hw.weak (.cons _ (.cons_cons _ .slnil)) (fun s hs => hs))
        | exact iter_end _ (.inl (by rw [List.take_of_length_le (by omega)] at hI; exact hI.2)) (hw.weak (.cons _ (.cons_cons _ .slnil)) (fun s hs => hs))
        | (trace_state; fail)
  · skip
    refine wl_nil ?_
    refine e_seq ?_
    refine w_seq ?_
    refine w_cond_f rfl ?_
    refine w_exit ?_
    refine e_seq_exit ?_
    refine e_loop_exit ?_
    refine e_blk_hit ?_
    refine e_end (ts := []) rfl rfl rfl (fun w hw => ?_)
    first
      | exact iter_end _ (.inr ⟨_, l.drop (k + 1), by rw [List.append_assoc]; exact hx2, hF⟩) (hw.weak (.cons_cons _ .slnil) (fun s hs => hs))
      | exact iter_end _ (.inl (by rw [List.take_of_length_le (by omega)] at hI; exact hI.2)) (hw.weak (.cons_cons _ .slnil) (fun s hs => hs))
      | (trace_state; fail)

theorem c_Values (l : List Le) (A : Option Addr) (c : Nat) : RC Try.prog 113 #[.slice A l.length c] [] (α := Nat) (fun p => .func (.func 132) #[] #[.pointer (some ⟨p, 0, none⟩)]) (fun p => [Ch.row p [.slice A l.length c] 39]) := by
  refine rc_of_W (args := [.slice A l.length c]) 4 Try.func113 rfl rfl rfl (fun w0 => ?_)
  refine w_seq ?_
  refine w_region ?_
  refine o_box rfl rfl rfl (fun b1 => ?_)
  refine o_y (y_assign rfl) rfl rfl ?_
  refine wl_nil ?_
  refine e_seq ?_
  refine w_seq ?_
  refine w_region ?_
  refine o_y (y_makeFunc rfl rfl) rfl rfl ?_
  refine o_y (y_assign rfl) rfl rfl ?_
  refine wl_nil ?_
  refine e_seq ?_
  refine w_ret ?_
  refine e_ret (ts := [2]) rfl rfl rfl (fun w hw => ?_)
  exact ⟨b1, rfl, hw.base, (hw.weak (.cons_cons _ .slnil) (fun s hs => hs)).toNews⟩

theorem c_Entries (x : Ixd) : RC Try.prog 89 #[.pointer (some ⟨x.b, 0, none⟩)] [Ch.row x.b (ixC x) 119] (α := Nat) (fun p => .func (.func 132) #[] #[.pointer (some ⟨p, 0, none⟩)]) (fun p => [Ch.row p [.slice x.A x.l.length x.c] 39]) := by
  refine rc_of_W (args := [.pointer (some ⟨x.b, 0, none⟩)]) 10 Try.func89 rfl rfl rfl (fun w0 => ?_)
  refine w_seq ?_
  refine w_region ?_
  refine o_y (y_assign rfl) rfl rfl ?_
  refine wl_nil ?_
  refine e_seq ?_
  refine w_seq ?_
  refine w_seq ?_
  refine w_region ?_
  refine o_y (y_move rfl) rfl rfl ?_
  refine o_y (y_eqp Try.underlying43 rfl rfl) rfl rfl ?_
  refine wl_as (t := 4) (.bool false) rfl (congrArg Value.bool rfl) ?_
  refine wl_nil ?_
  refine e_seq ?_
  refine w_cond_f rfl ?_
  refine w_skip ?_
  refine e_seq ?_
  refine w_seq ?_
  refine w_region ?_
  refine o_y (y_move rfl) rfl rfl ?_
  refine o_y (y_nilCheck rfl) rfl rfl ?_
  refine o_y (y_field fa_119_0 rfl) rfl rfl ?_
  refine o_y (y_loadSo 0 ty_39 rfl rfl rfl) rfl rfl ?_
  refine o_callr1 rfl ent_113 rfl (c_Values _ _ _) (fun w hw => rd_nil) (fun p0 => ?_)
  refine o_y (y_assign rfl) rfl rfl ?_
  refine wl_nil ?_
  refine e_seq ?_
  refine w_ret ?_
  refine e_ret (ts := [2]) rfl rfl rfl (fun w hw => ?_)
  exact ⟨p0, rfl, hw.base, (hw.weak (.cons_cons _ .slnil) (fun s hs => hs)).toNews⟩

def lostP (x : Ixd) (y : Le) : Bool := decide (y.e.kind = 2) && !(lkp x.dm (foldN y.e.host)).isSome
def lostI (x : Ixd) (l : List Le) : List Str := (l.filter (lostP x)).map (·.e.host)
theorem lost_len (x : Ixd) (l : List Le) : (lostI x l).length ≤ l.length := by rw [lostI, List.length_map]; exact List.length_filter_le _ _
theorem lost_yes {x : Ixd} {pre : List Le} {e : Le} (h1 : e.e.kind = 2) (h2 : (lkp x.dm (foldN e.e.host)).isSome = false) : lostI x (pre ++ [e]) = lostI x pre ++ [e.e.host] := by
  have : lostP x e = true := by rw [lostP, decide_eq_true h1, h2]; rfl
  rw [lostI, List.filter_append, List.map_append, List.filter_cons_of_pos this]; rfl
theorem lost_no {x : Ixd} {pre : List Le} {e : Le} (h : ¬ e.e.kind = 2 ∨ (lkp x.dm (foldN e.e.host)).isSome = true) : lostI x (pre ++ [e]) = lostI x pre := by
  have : lostP x e = false := by
    rcases h with h | h
    · rw [lostP, decide_eq_false h]; rfl
    · rw [lostP, h, Bool.not_true, Bool.and_false]
  rw [lostI, List.filter_append, List.map_append, List.filter_cons_of_neg (by rw [this]; decide)]; exact List.append_nil _

set_option maxRecDepth 100000 in
set_option maxHeartbeats 1000000 in
theorem c_Lost (x : Ixd) (hxl : x.l.length ≤ 1000000000) (hxb : ∀ y ∈ x.l, y.e.host.length ≤ 1000) : RC Try.prog 45 #[.pointer (some ⟨x.b, 0, none⟩)] [Ch.row x.b (ixC x) 119, Ch.mp x.rd encN encA x.dm, Ch.rd x.A 7 elC x.l] (α := Option Addr × Nat) (fun p => .slice p.1 (lostI x x.l).length p.2) (fun p => [Ch.ls p.1 p.2 25 1 encs (lostI x x.l)]) := by
  refine rc_of_WM (args := [.pointer (some ⟨x.b, 0, none⟩)]) 33 Try.func45 rfl rfl rfl (fun w0 => ?_)
  refine w_seq ?_
  refine w_region ?_
  refine o_box rfl rfl rfl (fun b1 => ?_)
  refine o_y (y_assign rfl) rfl rfl ?_
  refine wl_nil ?_
  refine e_seq ?_
  refine w_seq ?_
  refine w_region ?_
  refine o_alloc ty_22 rfl rfl (fun b2 => ?_)
  refine wl_nil ?_
  refine e_seq ?_
  refine w_seq ?_
  refine w_seq ?_
  refine w_region ?_
  refine o_y (y_loadr 1 ty_43 rfl rfl rfl) rfl rfl ?_
  refine o_callr1 rfl ent_89 rfl (c_Entries x) (fun w hw => (rd_cons (rd_S 0 rfl hw) rd_nil)) (fun p2 => ?_)
  refine wl_heap (fun w h => h.freeze) ?_
  refine wl_nil ?_
  refine e_seq ?_
  refine w_block ?_
  refine w_heap (fun w h => h.nilsl 25 1) ?_
  refine w_range (σ := List Str × Option Addr × Nat) (fun pre g => g.1 = lostI x pre) (fun c pre g => False) (fun g => [Ch.ls g.2.1 g.2.2 25 1 encs g.1, Ch.row b2 [.slice g.2.1 g.1.length g.2.2] 22, Ch.row b1 [.pointer (some ⟨x.b, 0, none⟩)] 43]) (([], none, 0)) rfl rfl ent_132 (c_Values1 x.l x.A x.c p2 hxl) (List.forall_mem_cons.2 ⟨.head _, List.forall_mem_cons.2 ⟨.tail _ (.tail _ (.tail _ (.head _))), nofun⟩⟩) rfl (fun _ => rfl) (rfl) rfl (fun pre e post g hxs hI lr D r hr okb wb => ?_) (fun g D0 hI => ?_) (fun c pre post g D0 hxs hI => ?_)
  · skip
    obtain ⟨q, Ax, cx⟩ := g
    dsimp only at hI ⊢
    subst hI
    have hpl : pre.length ≤ x.l.length := by rw [hxs]; simp
    have hq9 := lost_len x pre
    have heb := hxb e (by rw [hxs]; simp)
    refine w_region ?_
    refine o_alloc ty_50 rfl rfl (fun b4 => ?_)
    refine o_store ty_50 rfl rfl rfl .z rfl rfl rfl rfl ?_
    refine wl_nil ?_
    refine e_begin rfl hr (.s (.z)) ?_
    refine w_block ?_
    refine w_joinX (σ := Nat) (fun qd => [(5, .pointer (some ⟨qd, 0, none⟩)), (6, .bool (lkp x.dm (foldN e.e.host)).isSome)]) (fun qd => [Ch.row qd (adC ((lkp x.dm (foldN e.e.host)).getD ad0)) 66]) (fun qd => ?_) (fun J4 => ?_)
    · skip
      refine w_seq ?_
      refine w_region ?_
      refine o_y (y_field fa_50_1 rfl) rfl rfl ?_
      refine o_y (y_loadr 1 ty_3 rfl rfl rfl) rfl rfl ?_
      refine o_y (y_eql rfl rfl) rfl rfl ?_
      refine wl_splitp (t := 22) rfl (fun h5_2 => ?_) (fun h5_2 => ?_)
      · skip
        refine o_y (y_move rfl) rfl rfl ?_
        refine wl_gyes rfl rfl ?_
        refine o_y (y_move rfl) rfl rfl ?_
        refine wl_splitb (t := 24) rfl (fun h5_4 => ?_) (fun h5_4 => ?_)
        · skip
          refine wl_gyes rfl rfl ?_
          refine o_y (y_not rfl) rfl rfl ?_
          refine o_y (y_pick_t rfl rfl) rfl rfl ?_
          refine wl_nil ?_
          refine e_seq ?_
          refine w_cond_f rfl ?_
          refine w_skip ?_
          refine e_blk ?_
          refine e_rend ((lostI x pre, Ax, cx)) ?_ (fun w h => h.weak (.cons _ (.cons _ (List.Sublist.refl _))) (fun s hs => hs))
          · rw [lost_no (by first | exact .inl h5_2 | exact .inr (by simpa using h5_4))]
        · skip
          refine wl_gyes rfl rfl ?_
          refine o_y (y_not rfl) rfl rfl ?_
          refine o_y (y_pick_t rfl rfl) rfl rfl ?_
          refine wl_nil ?_
          refine e_seq ?_
          refine w_cond_t rfl ?_
          refine w_region ?_
          refine o_y (y_loadr 5 ty_22 rfl rfl rfl) rfl rfl ?_
          refine o_y (y_field fa_50_0 rfl) rfl rfl ?_
          refine o_y (y_loadr 1 ty_25 rfl rfl rfl) rfl rfl ?_
          refine o_bsl (vs := [_]) ([e.e.host] : List (Str)) enc_s Try.underlying22 ty_25 rfl rfl rfl rfl rfl rfl (fun As5 => ?_)
          refine o_appm (enc := encs) (sz := 1) [e.e.host] Try.underlying22 ty_25 rfl rfl rfl (fun A c => (.s (.s (.s (.s (.s (.z))))))) (src_L 0 Try.underlying22 rfl) (by simp only [List.length_cons, List.length_nil, Nat.zero_add]; omega) (by simp only [List.length_cons, List.length_nil, Nat.zero_add]; omega) rfl (fun A5 c5 => ?_)
          refine o_store ty_22 rfl rfl rfl (.s (.s (.s (.s (.s (.s (.z))))))) rfl rfl rfl rfl ?_
          refine wl_nil ?_
          refine e_blk ?_
          refine e_rend ((lostI x pre ++ [e.e.host], A5, c5)) ?_ (fun w h => h.weak (.cons _ (.cons _ (.cons _ (List.Sublist.refl _)))) (fun s hs => hs))
          · rw [lost_yes h5_2 (by simpa using h5_4)]
      · skip
        refine o_y (y_move rfl) rfl rfl ?_
        refine wl_gno rfl rfl rfl rfl ?_
        refine wl_gno rfl rfl rfl rfl ?_
        refine o_y (y_pick_f rfl rfl) rfl rfl ?_
        refine wl_nil ?_
        refine e_seq ?_
        refine w_cond_f rfl ?_
        refine w_skip ?_
        refine e_blk ?_
        refine e_rend ((lostI x pre, Ax, cx)) ?_ (fun w h => h.weak (.cons _ (.cons _ (List.Sublist.refl _))) (fun s hs => hs))
        · rw [lost_no (by first | exact .inl h5_2 | exact .inr (by simpa using h5_4))]
    · skip
      refine w_seq ?_
      refine w_drawV 11 mixed ?_
      refine v_take (i := 0) rfl wanted_none (y_loadr 5 ty_43 rfl rfl rfl) (fun w h => h) (fun w h => h) rfl (pk_seq (pk_blk pk_rd)) (by kernel_rfl) rfl ?_
      refine v_take (i := 1) rfl wanted_none (y_nilCheck rfl) (fun w h => h) (fun w h => h) rfl (pk_seq (pk_blk pk_rd)) (by kernel_rfl) rfl ?_
      refine v_take (i := 2) rfl wanted_none (y_field fa_119_2 rfl) (fun w h => h) (fun w h => h) rfl (pk_seq (pk_blk pk_rd)) (by kernel_rfl) rfl ?_
      refine v_take (i := 3) rfl wanted_none (y_loadSo 1 ty_115 rfl rfl rfl) (fun w h => h) (fun w h => h) rfl (pk_seq (pk_blk pk_rd)) (by kernel_rfl) rfl ?_
      refine v_take (i := 4) rfl wanted_none (y_loadrs 0 ty_50 rfl rfl rfl rfl) (fun w h => h) (fun w h => h) rfl (pk_seq (pk_blk pk_rd)) (by kernel_rfl) rfl ?_
      refine v_many (js := [5, 10]) (by kernel_rfl) rfl ?_
      refine wrv_cons (i := 5) rfl rfl ?_ ?_
      · skip
        refine o_callp rfl ent_67 (c_entry_Key _ _ _ _ _ (by omega)) rfl ?_
        refine wl_nil ?_
        refine ev_one (fun w h => h) ?_
        refine v_many (js := [6, 10]) (by kernel_rfl) rfl ?_
        refine wrv_cons (i := 6) rfl rfl ?_ ?_
        · skip
          refine o_callq rfl ent_75 rfl (c_ask_d _ _ _) (fun w hw => (rd_cons (rd_S 2 rfl hw) rd_nil)) ?_
          refine wl_nil ?_
          refine ev_one (fun w h => h) ?_
          refine v_take (i := 7) rfl wanted_none (y_move rfl) (fun w h => h) (fun w h => h) rfl (pk_seq (pk_blk pk_rd)) (by kernel_rfl) rfl ?_
          refine v_take (i := 8) rfl wanted_none (y_extract rfl rfl) (fun w h => h) (fun w h => h) rfl (pk_seq (pk_blk pk_rd)) (by kernel_rfl) rfl ?_
          refine v_many (js := [9, 10]) (by kernel_rfl) rfl ?_
          refine wrv_cons (i := 9) rfl rfl ?_ ?_
          · skip
            refine o_y (y_extract rfl rfl) rfl rfl ?_
            refine wl_nil ?_
            refine ev_one (fun w h => h) ?_
            refine v_one (i := 10) rfl (by kernel_rfl) rfl ?_
            refine o_alloc ty_66 rfl rfl (fun b7 => ?_)
            refine wl_nil ?_
            refine ev_one (fun w h => h.weak (.cons _ (List.Sublist.refl _)) (fun s hs => hs)) ?_
            refine v_one (i := 11) rfl (by kernel_rfl) rfl ?_
            refine o_store ty_66 rfl rfl rfl .z rfl rfl rfl rfl ?_
            refine wl_nil ?_
            refine ev_tail rfl ?_
            refine v_one (i := 12) rfl (by kernel_rfl) rfl ?_
            refine o_y (y_assign rfl) rfl rfl ?_
            refine wl_nil ?_
            refine ev_tail rfl ?_
            refine v_done (by kernel_rfl) ?_
            refine e_seq ?_
            refine w_heap (fun w h => h.weak (.cons_cons _ (List.Sublist.refl _)) (fun s hs => hs)) ?_
            exact J4 b7 _ (by repeat (first | exact trivial | refine ⟨rfl, ?_⟩))
          refine wrv_cons (i := 10) rfl rfl ?_ ?_
          · skip
            refine o_alloc ty_66 rfl rfl (fun b8 => ?_)
            refine wl_nil ?_
            refine ev_one (fun w h => h.weak (.cons _ (List.Sublist.refl _)) (fun s hs => hs)) ?_
            refine v_many (js := [9, 11]) (by kernel_rfl) rfl ?_
            refine wrv_cons (i := 9) rfl rfl ?_ ?_
            · skip
              refine o_y (y_extract rfl rfl) rfl rfl ?_
              refine wl_nil ?_
              refine ev_one (fun w h => h.weak (.cons _ (List.Sublist.refl _)) (fun s hs => hs)) ?_
              refine v_one (i := 11) rfl (by kernel_rfl) rfl ?_
              refine o_store ty_66 rfl rfl rfl .z rfl rfl rfl rfl ?_
              refine wl_nil ?_
              refine ev_tail rfl ?_
              refine v_one (i := 12) rfl (by kernel_rfl) rfl ?_
              refine o_y (y_assign rfl) rfl rfl ?_
              refine wl_nil ?_
              refine ev_tail rfl ?_
              refine v_done (by kernel_rfl) ?_
              refine e_seq ?_
              refine w_heap (fun w h => h.weak (.cons_cons _ (List.Sublist.refl _)) (fun s hs => hs)) ?_
              exact J4 b8 _ (by repeat (first | exact trivial | refine ⟨rfl, ?_⟩))
            refine wrv_cons (i := 11) rfl rfl ?_ ?_
            · skip
              refine o_store ty_66 rfl rfl rfl .z rfl rfl rfl rfl ?_
              refine wl_nil ?_
              refine ev_tail rfl ?_
              refine v_one (i := 9) rfl (by kernel_rfl) rfl ?_
              refine o_y (y_extract rfl rfl) rfl rfl ?_
              refine wl_nil ?_
              refine ev_tail rfl ?_
              refine v_one (i := 12) rfl (by kernel_rfl) rfl ?_
              refine o_y (y_assign rfl) rfl rfl ?_
              refine wl_nil ?_
              refine ev_tail rfl ?_
              refine v_done (by kernel_rfl) ?_
              refine e_seq ?_
              refine w_heap (fun w h => h.weak (.cons_cons _ (List.Sublist.refl _)) (fun s hs => hs)) ?_
              exact J4 b8 _ (by repeat (first | exact trivial | refine ⟨rfl, ?_⟩))
            exact wrv_nil
          exact wrv_nil
        refine wrv_cons (i := 10) rfl rfl ?_ ?_
        · skip
          refine o_alloc ty_66 rfl rfl (fun b9 => ?_)
          refine wl_nil ?_
          refine ev_one (fun w h => h.weak (.cons _ (List.Sublist.refl _)) (fun s hs => hs)) ?_
          refine v_one (i := 6) rfl (by kernel_rfl) rfl ?_
          refine o_callq rfl ent_75 rfl (c_ask_d _ _ _) (fun w hw => (rd_cons (rd_S 2 rfl hw) rd_nil)) ?_
          refine wl_nil ?_
          refine ev_one (fun w h => h.weak (.cons _ (List.Sublist.refl _)) (fun s hs => hs)) ?_
          refine v_take (i := 7) rfl wanted_none (y_move rfl) (fun w h => h.weak (.cons _ (List.Sublist.refl _)) (fun s hs => hs)) (fun w h => h) rfl (pk_seq (pk_blk pk_rd)) (by kernel_rfl) rfl ?_
          refine v_take (i := 8) rfl wanted_none (y_extract rfl rfl) (fun w h => h.weak (.cons _ (List.Sublist.refl _)) (fun s hs => hs)) (fun w h => h) rfl (pk_seq (pk_blk pk_rd)) (by kernel_rfl) rfl ?_
          refine v_many (js := [9, 11]) (by kernel_rfl) rfl ?_
          refine wrv_cons (i := 9) rfl rfl ?_ ?_
          · skip
            refine o_y (y_extract rfl rfl) rfl rfl ?_
            refine wl_nil ?_
            refine ev_one (fun w h => h.weak (.cons _ (List.Sublist.refl _)) (fun s hs => hs)) ?_
            refine v_one (i := 11) rfl (by kernel_rfl) rfl ?_
            refine o_store ty_66 rfl rfl rfl .z rfl rfl rfl rfl ?_
            refine wl_nil ?_
            refine ev_tail rfl ?_
            refine v_one (i := 12) rfl (by kernel_rfl) rfl ?_
            refine o_y (y_assign rfl) rfl rfl ?_
            refine wl_nil ?_
            refine ev_tail rfl ?_
            refine v_done (by kernel_rfl) ?_
            refine e_seq ?_
            refine w_heap (fun w h => h.weak (.cons_cons _ (List.Sublist.refl _)) (fun s hs => hs)) ?_
            exact J4 b9 _ (by repeat (first | exact trivial | refine ⟨rfl, ?_⟩))
          refine wrv_cons (i := 11) rfl rfl ?_ ?_
          · skip
            refine o_store ty_66 rfl rfl rfl .z rfl rfl rfl rfl ?_
            refine wl_nil ?_
            refine ev_tail rfl ?_
            refine v_one (i := 9) rfl (by kernel_rfl) rfl ?_
            refine o_y (y_extract rfl rfl) rfl rfl ?_
            refine wl_nil ?_
            refine ev_tail rfl ?_
            refine v_one (i := 12) rfl (by kernel_rfl) rfl ?_
            refine o_y (y_assign rfl) rfl rfl ?_
            refine wl_nil ?_
            refine ev_tail rfl ?_
            refine v_done (by kernel_rfl) ?_
            refine e_seq ?_
            refine w_heap (fun w h => h.weak (.cons_cons _ (List.Sublist.refl _)) (fun s hs => hs)) ?_
            exact J4 b9 _ (by repeat (first | exact trivial | refine ⟨rfl, ?_⟩))
          exact wrv_nil
        exact wrv_nil
      refine wrv_cons (i := 10) rfl rfl ?_ ?_
      · skip
        refine o_alloc ty_66 rfl rfl (fun b10 => ?_)
        refine wl_nil ?_
        refine ev_one (fun w h => h.weak (.cons _ (List.Sublist.refl _)) (fun s hs => hs)) ?_
        refine v_one (i := 5) rfl (by kernel_rfl) rfl ?_
        refine o_callp rfl ent_67 (c_entry_Key _ _ _ _ _ (by omega)) rfl ?_
        refine wl_nil ?_
        refine ev_one (fun w h => h.weak (.cons _ (List.Sublist.refl _)) (fun s hs => hs)) ?_
        refine v_one (i := 6) rfl (by kernel_rfl) rfl ?_
        refine o_callq rfl ent_75 rfl (c_ask_d _ _ _) (fun w hw => (rd_cons (rd_S 2 rfl hw) rd_nil)) ?_
        refine wl_nil ?_
        refine ev_one (fun w h => h.weak (.cons _ (List.Sublist.refl _)) (fun s hs => hs)) ?_
        refine v_take (i := 7) rfl wanted_none (y_move rfl) (fun w h => h.weak (.cons _ (List.Sublist.refl _)) (fun s hs => hs)) (fun w h => h) rfl (pk_seq (pk_blk pk_rd)) (by kernel_rfl) rfl ?_
        refine v_take (i := 8) rfl wanted_none (y_extract rfl rfl) (fun w h => h.weak (.cons _ (List.Sublist.refl _)) (fun s hs => hs)) (fun w h => h) rfl (pk_seq (pk_blk pk_rd)) (by kernel_rfl) rfl ?_
        refine v_many (js := [9, 11]) (by kernel_rfl) rfl ?_
        refine wrv_cons (i := 9) rfl rfl ?_ ?_
        · skip
          refine o_y (y_extract rfl rfl) rfl rfl ?_
          refine wl_nil ?_
          refine ev_one (fun w h => h.weak (.cons _ (List.Sublist.refl _)) (fun s hs => hs)) ?_
          refine v_one (i := 11) rfl (by kernel_rfl) rfl ?_
          refine o_store ty_66 rfl rfl rfl .z rfl rfl rfl rfl ?_
          refine wl_nil ?_
          refine ev_tail rfl ?_
          refine v_one (i := 12) rfl (by kernel_rfl) rfl ?_
          refine o_y (y_assign rfl) rfl rfl ?_
          refine wl_nil ?_
          refine ev_tail rfl ?_
          refine v_done (by kernel_rfl) ?_
          refine e_seq ?_
          refine w_heap (fun w h => h.weak (.cons_cons _ (List.Sublist.refl _)) (fun s hs => hs)) ?_
          exact J4 b10 _ (by repeat (first | exact trivial | refine ⟨rfl, ?_⟩))
        refine wrv_cons (i := 11) rfl rfl ?_ ?_
        · skip
          refine o_store ty_66 rfl rfl rfl .z rfl rfl rfl rfl ?_
          refine wl_nil ?_
          refine ev_tail rfl ?_
          refine v_one (i := 9) rfl (by kernel_rfl) rfl ?_
          refine o_y (y_extract rfl rfl) rfl rfl ?_
          refine wl_nil ?_
          refine ev_tail rfl ?_
          refine v_one (i := 12) rfl (by kernel_rfl) rfl ?_
          refine o_y (y_assign rfl) rfl rfl ?_
          refine wl_nil ?_
          refine ev_tail rfl ?_
          refine v_done (by kernel_rfl) ?_
          refine e_seq ?_
          refine w_heap (fun w h => h.weak (.cons_cons _ (List.Sublist.refl _)) (fun s hs => hs)) ?_
          exact J4 b10 _ (by repeat (first | exact trivial | refine ⟨rfl, ?_⟩))
        exact wrv_nil
      exact wrv_nil
  · skip
    obtain ⟨q, Ax, cx⟩ := g
    dsimp only at hI ⊢
    subst hI
    refine e_blk ?_
    refine e_seq ?_
    refine w_seq ?_
    refine w_region ?_
    refine o_y (y_loadr 2 ty_22 rfl rfl rfl) rfl rfl ?_
    refine o_y (y_assign rfl) rfl rfl ?_
    refine wl_nil ?_
    refine e_seq ?_
    refine w_ret ?_
    refine e_lvr ?_
    refine lv_take .z ?_
    refine lv_nil (rs := [.tmp 2]) rfl (rs_tmp rfl rs_nil) (fun w hw => ?_)
    exact ⟨(Ax, cx), rfl, hw.base, (hw.weak (.cons _ (.cons_cons _ (.cons _ (.cons _ .slnil)))) (fun s hs => hs)).toNews⟩
  · skip
    exact hI.elim
end Go.Proofs.Ytckfjfnkombelaa
