import Derived.Test.YtfmelbpgkbiooaaGreatHaS
/- tables: pushed to (nothing dropped) -/
namespace Go.Proofs.YtfmelbpgkbiooaaGreat
open Go.RowKit Go.Shelf
set_option linter.unusedVariables false
set_option linter.unusedSimpArgs false

theorem bu_24_0_1 (x0 : Int) (x1 : Option Addr) (x2 : Nat) (x3 : Nat) : Tryz.prog.built 24 [(0, .int .i64 x0), (1, .slice x1 x2 x3)] = some [.int .i64 x0, .slice x1 x2 x3].toArray := by kernel_rfl
theorem ent_84 : Enters Tryz.prog 84 := enters_of Tryz.func84 (by kernel_rfl) rfl
theorem ent_86 : Enters Tryz.prog 86 := enters_of Tryz.func86 (by kernel_rfl) rfl
theorem fa_69_0 : FA Tryz.prog 69 0 0 := fun b o w => by kernel_rfl
theorem fa_69_1 : FA Tryz.prog 69 1 1 := fun b o w => by kernel_rfl
theorem fa_69_2 : FA Tryz.prog 69 2 2 := fun b o w => by kernel_rfl
theorem fa_69_3 : FA Tryz.prog 69 3 3 := fun b o w => by kernel_rfl
theorem fa_69_4 : FA Tryz.prog 69 4 4 := fun b o w => by kernel_rfl
theorem ty_67 : TyI Tryz.prog 67 false 1 24 (.slice none 0 0) := TyI.mk' (by kernel_rfl) (fun _ => by kernel_rfl)

/-- ref17.put. -/
def putG (x : Le) : Bool → List Le → List Le
  | done, [] => if done then [] else [x]
  | done, y :: r => (if !done && decide (cmpN x.e.host y.e.host ≤ 0) then [x] else []) ++ (if cmpN x.e.host y.e.host ≠ 0 then [y] else []) ++ putG x (done || decide (cmpN x.e.host y.e.host ≤ 0)) r
def putE (l : List Le) (x : Le) : List Le := putG x false l
def putAll (l : List Le) (p : List Le) : List Le := p.foldl putE l
theorem putG_mem {x y : Le} : ∀ {l : List Le} {d : Bool}, y ∈ putG x d l → y = x ∨ y ∈ l
  | [], d, h => by
    rw [putG] at h; split at h
    · cases h
    · exact .inl (List.mem_singleton.1 h)
  | z :: r, d, h => by
    rw [putG, List.mem_append, List.mem_append] at h
    rcases h with (h | h) | h
    · split at h
      · exact .inl (List.mem_singleton.1 h)
      · cases h
    · split at h
      · exact .inr (by rw [List.mem_singleton.1 h]; exact .head _)
      · cases h
    · exact (putG_mem h).imp id (.tail _)
theorem putG_len (x : Le) : ∀ (l : List Le) (d : Bool), (putG x d l).length ≤ l.length + (if d then 0 else 1)
  | [], d => by cases d <;> simp [putG]
  | z :: r, d => by
    rw [putG, List.length_append, List.length_append]
    have h1 := putG_len x r true
    have h2 := putG_len x r d
    have h3 : ∀ b : Bool, (if b = true then [x] else []).length = if b = true then 1 else 0 := fun b => by cases b <;> rfl
    have h4 : (if cmpN x.e.host z.e.host ≠ 0 then [z] else []).length ≤ 1 := by split <;> simp
    by_cases hc : cmpN x.e.host z.e.host ≤ 0
    · rw [decide_eq_true hc] at *
      cases d <;> simp at h1 h2 h4 ⊢ <;> omega
    · rw [decide_eq_false hc] at *
      cases d <;> simp at h1 h2 h4 ⊢ <;> omega
theorem putG_dn {x y : Le} {d : Bool} {r : List Le} (h : d = true) (h2 : cmpN x.e.host y.e.host ≠ 0) : putG x d (y :: r) = [y] ++ putG x d r := by
  rw [putG, h, if_pos h2]; simp
theorem putG_dz {x y : Le} {d : Bool} {r : List Le} (h : d = true) (h2 : ¬ cmpN x.e.host y.e.host ≠ 0) : putG x d (y :: r) = putG x d r := by
  rw [putG, h, if_neg h2]; simp
theorem putG_nl {x y : Le} {d : Bool} {r : List Le} (h : d = false) (h3 : cmpN x.e.host y.e.host ≤ 0) (h2 : cmpN x.e.host y.e.host ≠ 0) : putG x d (y :: r) = [x] ++ [y] ++ putG x true r := by
  rw [putG, h, if_pos h2, decide_eq_true h3]; simp
theorem putG_nz {x y : Le} {d : Bool} {r : List Le} (h : d = false) (h3 : cmpN x.e.host y.e.host ≤ 0) (h2 : ¬ cmpN x.e.host y.e.host ≠ 0) : putG x d (y :: r) = [x] ++ putG x true r := by
  rw [putG, h, if_neg h2, decide_eq_true h3]; simp
theorem putG_ng {x y : Le} {d : Bool} {r : List Le} (h : d = false) (h3 : ¬ cmpN x.e.host y.e.host ≤ 0) (h2 : cmpN x.e.host y.e.host ≠ 0) : putG x d (y :: r) = [y] ++ putG x d r := by
  rw [putG, h, if_pos h2, decide_eq_false h3]; simp
theorem putE_tb {l : List Le} {x : Le} (h : TbOk l) (hx : EnOk x.e ∧ lightE x.e = true) : TbOk (putE l x) := fun y hy => by
  rcases putG_mem hy with rfl | h2
  · exact hx
  · exact h y h2
theorem putE_len (l : List Le) (x : Le) : (putE l x).length ≤ l.length + 1 := putG_len x l false
theorem putAll_succ {l p : List Le} {k : Nat} (h : k < p.length) : putAll l (p.take (k + 1)) = putE (putAll l (p.take k)) (p.getD k le0) := by
  rw [putAll, take_getD p le0 k h, List.foldl_append]; rfl
def MapIs (m : List (Str × Bool)) (pre : List Str) : Prop := ∀ key, lkp m key = if key ∈ pre then some true else none
theorem mapIs_val {m : List (Str × Bool)} {pre : List Str} (h : MapIs m pre) (a : Str) : ((lkp m a).map fun b : Bool => Value.bool b).getD (.bool false) = .bool (decide (a ∈ pre)) := by
  rw [h a]; split
  · rename_i h1; rw [decide_eq_true h1]; rfl
  · rename_i h1; rw [decide_eq_false h1]; rfl
theorem mapIs_succ {m : List (Str × Bool)} {l : List Str} {k : Nat} (h : MapIs m (l.take k)) (hk : k < l.length) : MapIs (upd m (l.getD k []) true) (l.take (k + 1)) := fun key => by
  rw [lkp_upd, h key, take_getD l [] k hk]
  by_cases e : key = l.getD k []
  · rw [if_pos e, if_pos (by rw [e]; simp)]
  · rw [if_neg e]
    by_cases h3 : key ∈ l.take k
    · rw [if_pos h3, if_pos (List.mem_append_left _ h3)]
    · rw [if_neg h3, if_neg (fun q => (List.mem_append.1 q).elim h3 (fun q => e (List.mem_singleton.1 q)))]
theorem not_mem_take {l : List Str} (h : l.Nodup) {k : Nat} (hk : k < l.length) : ¬ l.getD k [] ∈ l.take k := fun q => by
  obtain ⟨i, hi, e⟩ := List.mem_iff_getElem.1 q
  have hi2 : i < k := by simp at hi; omega
  rw [List.getElem_take, List.getD_eq_getElem?_getD, List.getElem?_eq_getElem hk] at e
  have := List.pairwise_iff_getElem.1 h i k (by omega) hk hi2
  exact this e

set_option maxRecDepth 100000 in
set_option maxHeartbeats 1000000 in
theorem c_ref17_put (l : List Le) (A : Option Addr) (c : Nat) (x : Le) (hok : TbOk l) (hx : x.e.host.length ≤ 1000) (hlen : l.length ≤ 1000000) : RC Tryz.prog 86 #[.slice A l.length c, .agg (elC x).toArray] [Ch.rd A 7 elC l] (α := Option Addr × Nat) (fun p => .slice p.1 (putE l x).length p.2) (fun p => [Ch.ls p.1 p.2 47 7 elC (putE l x)]) := by
 refine rc_of_W (args := [.slice A l.length c, .agg (elC x).toArray]) 49 Tryz.func86 rfl rfl rfl (fun w0 => ?_)
 refine w_seq ?_
 refine w_region ?_
 refine o_box rfl rfl rfl (fun b1 => ?_)
 refine o_y (y_assign rfl) rfl rfl ?_
 refine wl_nil ?_
 refine e_seq ?_
 refine w_seq ?_
 refine w_region ?_
 refine o_y (y_assign rfl) rfl rfl ?_
 refine wl_nil ?_
 refine e_seq ?_
 refine w_seq ?_
 refine w_region ?_
 refine o_y (y_assign rfl) rfl rfl ?_
 refine wl_nil ?_
 refine e_seq ?_
 refine w_seq ?_
 refine w_seq ?_
 refine w_region ?_
 refine o_y (y_assign rfl) rfl rfl ?_
 refine wl_nil ?_
 refine e_seq ?_
 refine w_block ?_
 refine w_heap (fun w h => h.nilsl 47 7) ?_
 refine w_loop1 (σ := Nat × Bool × List Le × Option Addr × Nat) [5, 6, 7, 8, 9, 10, 11, 12, 13, 14, 15, 16, 17, 18, 19, 20, 21, 22, 23, 24, 25, 26, 27, 28, 29, 30, 31, 32, 33, 34, 35, 36, 37, 38, 39, 40, 41] (fun q => q.1 ≤ l.length ∧ putE l x = q.2.2.1 ++ putG x q.2.1 (l.drop q.1) ∧ q.2.2.1.length ≤ 2 * q.1) (fun q => l.length - q.1) (fun q => [(7, .int .i64 q.1), (6, .bool q.2.1), (5, .slice q.2.2.2.1 q.2.2.1.length q.2.2.2.2)]) (fun q => Ch.ls q.2.2.2.1 q.2.2.2.2 47 7 elC q.2.2.1) ((0, false, [], none, 0)) ?_ ⟨rfl, rfl, rfl, trivial⟩ rfl (fun q hI => ?_)
 exact ⟨Nat.zero_le _, rfl, Nat.zero_le _⟩
 obtain ⟨k, done, acc, A5, c5⟩ := q
 dsimp only at hI ⊢
 refine w_seq ?_
 refine w_seq ?_
 refine w_region ?_
 refine o_y (y_move rfl) rfl rfl ?_
 refine o_y (y_move rfl) rfl rfl ?_
 refine o_y (y_lenl Tryz.underlying22 rfl) rfl rfl ?_
 refine o_y (y_lss rfl rfl) rfl rfl ?_
 refine wl_splitp (t := 12) rfl (fun h4_3 => ?_) (fun h4_3 => ?_)
 have hk : k < l.length := by omega
 have hb9 := hok.at hk
 have hh9 := hb9.h
 refine wl_nil ?_
 refine e_seq ?_
 refine w_cond_t rfl ?_
 refine w_skip ?_
 refine e_seq ?_
 refine w_seq ?_
 refine w_block ?_
 refine w_seq ?_
 refine w_draw 9 rfl mixed ?_
 refine a_take (i := 0) rfl wanted_none (y_field fa_47_0 rfl) (fun w h => h) (fun w h => h) rfl (pk_seq (pk_blk (pk_seq (pk_loop (pk_blk (pk_seq pk_fn)))))) (by kernel_rfl) rfl ?_
 refine a_take (i := 1) rfl wanted_none (y_loadr 1 ty_36 rfl rfl rfl) (fun w h => h) (fun w h => h) rfl (pk_seq (pk_blk (pk_seq (pk_loop (pk_blk (pk_seq pk_fn)))))) (by kernel_rfl) rfl ?_
 refine a_take (i := 2) rfl wanted_none (y_move rfl) (fun w h => h) (fun w h => h) rfl (pk_seq (pk_blk (pk_seq (pk_loop (pk_blk (pk_seq pk_fn)))))) (by kernel_rfl) rfl ?_
 refine a_take (i := 3) rfl wanted_none (y_move rfl) (fun w h => h) (fun w h => h) rfl (pk_seq (pk_blk (pk_seq (pk_loop (pk_blk (pk_seq pk_fn)))))) (by kernel_rfl) rfl ?_
 refine a_take (i := 4) rfl wanted_none (y_ixm  Tryz.underlying22 ty_47 rfl rfl (rs_S 0 rfl) rfl (by omega)) (fun w h => h) (fun w h => h) rfl (pk_seq (pk_blk (pk_seq (pk_loop (pk_blk (pk_seq pk_fn)))))) (by kernel_rfl) rfl ?_
 refine a_take (i := 5) rfl wanted_none (y_field fa_47_0 rfl) (fun w h => h) (fun w h => h) rfl (pk_seq (pk_blk (pk_seq (pk_loop (pk_blk (pk_seq pk_fn)))))) (by kernel_rfl) rfl ?_
 refine a_take (i := 6) rfl wanted_none (y_ldm0 enc_le le0 ty_36 rfl (rs_S 0 rfl) (by omega) rfl rfl) (fun w h => h) (fun w h => h) rfl (pk_seq (pk_blk (pk_seq (pk_loop (pk_blk (pk_seq pk_fn)))))) (by kernel_rfl) rfl ?_
 refine a_one (i := 7) rfl rfl rfl (tame_call rfl ent_91) (by kernel_rfl) rfl ?_
 refine o_callp rfl ent_91 (p_ref02_Compare _ _ (by omega) (by omega)) rfl ?_
 refine wl_nil ?_
 refine e_one (fun w h => h) ?_
 refine a_take (i := 8) rfl wanted_none (y_assign rfl) (fun w h => h) (fun w h => h) rfl (pk_seq (pk_blk (pk_seq (pk_loop (pk_blk (pk_seq pk_fn)))))) (by kernel_rfl) rfl ?_
 refine a_done (by kernel_rfl) ?_
 refine e_seq ?_
 refine w_seq ?_
 refine w_seq ?_
 refine w_region ?_
 refine o_y (y_move rfl) rfl rfl ?_
 refine wl_splitb (t := 23) rfl (fun h7_0 => ?_) (fun h7_0 => ?_)
 refine o_y (y_not rfl) rfl rfl ?_
 refine o_y (y_move rfl) rfl rfl ?_
 refine wl_gno rfl rfl rfl rfl ?_
 refine wl_gno rfl rfl rfl rfl ?_
 refine o_y (y_pick_f rfl rfl) rfl rfl ?_
 refine wl_nil ?_
 refine e_seq ?_
 refine w_cond_f rfl ?_
 refine w_skip ?_
 refine e_seq ?_
 refine w_seq ?_
 refine w_region ?_
 refine o_y (y_move rfl) rfl rfl ?_
 refine o_y (y_neq rfl rfl) rfl rfl ?_
 refine wl_splitp (t := 34) rfl (fun h9_1 => ?_) (fun h9_1 => ?_)
 refine wl_nil ?_
 refine e_seq ?_
 refine w_cond_t rfl ?_
 refine w_region ?_
 refine o_y (y_move rfl) rfl rfl ?_
 refine o_y (y_move rfl) rfl rfl ?_
 refine o_y (y_move rfl) rfl rfl ?_
 refine o_y (y_ixm  Tryz.underlying22 ty_47 rfl rfl (rs_S 0 rfl) rfl (by omega)) rfl rfl ?_
 refine o_y (y_ldsm0 enc_le le0 ty_47 rfl (rs_S 0 rfl) (by omega) rfl rfl rfl) rfl rfl ?_
 refine o_bsl (vs := [_]) ([l.getD k le0] : List (Le)) enc_le Tryz.underlying22 ty_47 rfl rfl rfl rfl rfl rfl (fun As2 => ?_)
 refine o_appm (enc := elC) (sz := 7) _ Tryz.underlying22 ty_47 rfl rfl rfl (fun A c => (.s (.z))) (src_L 0 Tryz.underlying22 rfl) (by simp only [List.length_append, List.length_cons, List.length_nil]; omega) (by simp only [List.length_append, List.length_cons, List.length_nil]; omega) rfl (fun A2 c2 => ?_)
 refine o_y (y_assign rfl) rfl rfl ?_
 refine wl_nil ?_
 refine e_blk ?_
 refine e_seq ?_
 refine w_region ?_
 refine o_y (y_move rfl) rfl rfl ?_
 refine o_y (y_addi rfl rfl (by omega) (by omega)) rfl rfl ?_
 refine o_y (y_assign rfl) rfl rfl ?_
 refine wl_nil ?_
 refine e_back ((k + 1, done, acc ++ [l.getD k le0], A2, c2)) ?_ ?_ ⟨rfl, rfl, rfl, trivial⟩ (by repeat (first | exact trivial | refine ⟨rfl, ?_⟩)) (fun w h => h.weak (.cons _ (List.Sublist.refl _)) (fun s hs => hs))
 exact ⟨by show k + 1 ≤ _; omega, by show putE l x = (acc ++ [l.getD k le0]) ++ putG x done (l.drop (k + 1)); rw [hI.2.1, drop_getD l le0 k hk, putG_dn h7_0 h9_1] <;> try simp only [List.append_assoc], by show (acc ++ [l.getD k le0]).length ≤ 2 * (k + 1); (try simp only [List.length_append, List.length_cons, List.length_nil]); omega⟩
 show l.length - (k + 1) < l.length - k
 omega
 refine wl_nil ?_
 refine e_seq ?_
 refine w_cond_f rfl ?_
 refine w_skip ?_
 refine e_blk ?_
 refine e_seq ?_
 refine w_region ?_
 refine o_y (y_move rfl) rfl rfl ?_
 refine o_y (y_addi rfl rfl (by omega) (by omega)) rfl rfl ?_
 refine o_y (y_assign rfl) rfl rfl ?_
 refine wl_nil ?_
 refine e_back ((k + 1, done, acc, A5, c5)) ?_ ?_ ⟨rfl, rfl, rfl, trivial⟩ (by repeat (first | exact trivial | refine ⟨rfl, ?_⟩)) (fun w h => h)
 exact ⟨by show k + 1 ≤ _; omega, by show putE l x = (acc) ++ putG x done (l.drop (k + 1)); rw [hI.2.1, drop_getD l le0 k hk, putG_dz h7_0 h9_1] <;> try simp only [List.append_assoc], by show (acc).length ≤ 2 * (k + 1); (try simp only [List.length_append, List.length_cons, List.length_nil]); omega⟩
 show l.length - (k + 1) < l.length - k
 omega
 refine o_y (y_not rfl) rfl rfl ?_
 refine o_y (y_move rfl) rfl rfl ?_
 refine wl_gyes rfl rfl ?_
 refine o_y (y_move rfl) rfl rfl ?_
 refine wl_gyes rfl rfl ?_
 refine o_y (y_leq rfl rfl) rfl rfl ?_
 refine wl_splitp (t := 27) rfl (fun h7_4 => ?_) (fun h7_4 => ?_)
 refine o_y (y_pick_t rfl rfl) rfl rfl ?_
 refine wl_nil ?_
 refine e_seq ?_
 refine w_cond_t rfl ?_
 refine w_region ?_
 refine o_y (y_move rfl) rfl rfl ?_
 refine o_y (y_loadrs 1 ty_47 rfl rfl rfl rfl) rfl rfl ?_
 refine o_bsl (vs := [_]) ([x] : List (Le)) enc_le Tryz.underlying22 ty_47 rfl rfl rfl rfl rfl rfl (fun As4 => ?_)
 refine o_appm (enc := elC) (sz := 7) _ Tryz.underlying22 ty_47 rfl rfl rfl (fun A c => (.s (.z))) (src_L 0 Tryz.underlying22 rfl) (by simp only [List.length_append, List.length_cons, List.length_nil]; omega) (by simp only [List.length_append, List.length_cons, List.length_nil]; omega) rfl (fun A4 c4 => ?_)
 refine o_y (y_assign rfl) rfl rfl ?_
 refine o_y (y_assign rfl) rfl rfl ?_
 refine wl_nil ?_
 refine e_seq ?_
 refine w_seq ?_
 refine w_region ?_
 refine o_y (y_move rfl) rfl rfl ?_
 refine o_y (y_neq rfl rfl) rfl rfl ?_
 refine wl_splitp (t := 34) rfl (fun h9_1 => ?_) (fun h9_1 => ?_)
 refine wl_nil ?_
 refine e_seq ?_
 refine w_cond_t rfl ?_
 refine w_region ?_
 refine o_y (y_move rfl) rfl rfl ?_
 refine o_y (y_move rfl) rfl rfl ?_
 refine o_y (y_move rfl) rfl rfl ?_
 refine o_y (y_ixm  Tryz.underlying22 ty_47 rfl rfl (rs_S 0 rfl) rfl (by omega)) rfl rfl ?_
 refine o_y (y_ldsm0 enc_le le0 ty_47 rfl (rs_S 0 rfl) (by omega) rfl rfl rfl) rfl rfl ?_
 refine o_bsl (vs := [_]) ([l.getD k le0] : List (Le)) enc_le Tryz.underlying22 ty_47 rfl rfl rfl rfl rfl rfl (fun As6 => ?_)
 refine o_appm (enc := elC) (sz := 7) _ Tryz.underlying22 ty_47 rfl rfl rfl (fun A c => (.s (.s (.z)))) (src_L 0 Tryz.underlying22 rfl) (by simp only [List.length_append, List.length_cons, List.length_nil]; omega) (by simp only [List.length_append, List.length_cons, List.length_nil]; omega) rfl (fun A6 c6 => ?_)
 refine o_y (y_assign rfl) rfl rfl ?_
 refine wl_nil ?_
 refine e_blk ?_
 refine e_seq ?_
 refine w_region ?_
 refine o_y (y_move rfl) rfl rfl ?_
 refine o_y (y_addi rfl rfl (by omega) (by omega)) rfl rfl ?_
 refine o_y (y_assign rfl) rfl rfl ?_
 refine wl_nil ?_
 refine e_back ((k + 1, true, acc ++ [x] ++ [l.getD k le0], A6, c6)) ?_ ?_ ⟨rfl, rfl, rfl, trivial⟩ (by repeat (first | exact trivial | refine ⟨rfl, ?_⟩)) (fun w h => h.weak (.cons _ (.cons _ (List.Sublist.refl _))) (fun s hs => hs))
 exact ⟨by show k + 1 ≤ _; omega, by show putE l x = (acc ++ [x] ++ [l.getD k le0]) ++ putG x true (l.drop (k + 1)); rw [hI.2.1, drop_getD l le0 k hk, putG_nl h7_0 h7_4 h9_1] <;> try simp only [List.append_assoc], by show (acc ++ [x] ++ [l.getD k le0]).length ≤ 2 * (k + 1); (try simp only [List.length_append, List.length_cons, List.length_nil]); omega⟩
 show l.length - (k + 1) < l.length - k
 omega
 refine wl_nil ?_
 refine e_seq ?_
 refine w_cond_f rfl ?_
 refine w_skip ?_
 refine e_blk ?_
 refine e_seq ?_
 refine w_region ?_
 refine o_y (y_move rfl) rfl rfl ?_
 refine o_y (y_addi rfl rfl (by omega) (by omega)) rfl rfl ?_
 refine o_y (y_assign rfl) rfl rfl ?_
 refine wl_nil ?_
 refine e_back ((k + 1, true, acc ++ [x], A4, c4)) ?_ ?_ ⟨rfl, rfl, rfl, trivial⟩ (by repeat (first | exact trivial | refine ⟨rfl, ?_⟩)) (fun w h => h.weak (.cons _ (List.Sublist.refl _)) (fun s hs => hs))
 exact ⟨by show k + 1 ≤ _; omega, by show putE l x = (acc ++ [x]) ++ putG x true (l.drop (k + 1)); rw [hI.2.1, drop_getD l le0 k hk, putG_nz h7_0 h7_4 h9_1] <;> try simp only [List.append_assoc], by show (acc ++ [x]).length ≤ 2 * (k + 1); (try simp only [List.length_append, List.length_cons, List.length_nil]); omega⟩
 show l.length - (k + 1) < l.length - k
 omega
 refine o_y (y_pick_t rfl rfl) rfl rfl ?_
 refine wl_nil ?_
 refine e_seq ?_
 refine w_cond_f rfl ?_
 refine w_skip ?_
 refine e_seq ?_
 refine w_seq ?_
 refine w_region ?_
 refine o_y (y_move rfl) rfl rfl ?_
 refine o_y (y_neq rfl rfl) rfl rfl ?_
 refine wl_splitp (t := 34) rfl (fun h9_1 => ?_) (fun h9_1 => ?_)
 refine wl_nil ?_
 refine e_seq ?_
 refine w_cond_t rfl ?_
 refine w_region ?_
 refine o_y (y_move rfl) rfl rfl ?_
 refine o_y (y_move rfl) rfl rfl ?_
 refine o_y (y_move rfl) rfl rfl ?_
 refine o_y (y_ixm  Tryz.underlying22 ty_47 rfl rfl (rs_S 0 rfl) rfl (by omega)) rfl rfl ?_
 refine o_y (y_ldsm0 enc_le le0 ty_47 rfl (rs_S 0 rfl) (by omega) rfl rfl rfl) rfl rfl ?_
 refine o_bsl (vs := [_]) ([l.getD k le0] : List (Le)) enc_le Tryz.underlying22 ty_47 rfl rfl rfl rfl rfl rfl (fun As8 => ?_)
 refine o_appm (enc := elC) (sz := 7) _ Tryz.underlying22 ty_47 rfl rfl rfl (fun A c => (.s (.z))) (src_L 0 Tryz.underlying22 rfl) (by simp only [List.length_append, List.length_cons, List.length_nil]; omega) (by simp only [List.length_append, List.length_cons, List.length_nil]; omega) rfl (fun A8 c8 => ?_)
 refine o_y (y_assign rfl) rfl rfl ?_
 refine wl_nil ?_
 refine e_blk ?_
 refine e_seq ?_
 refine w_region ?_
 refine o_y (y_move rfl) rfl rfl ?_
 refine o_y (y_addi rfl rfl (by omega) (by omega)) rfl rfl ?_
 refine o_y (y_assign rfl) rfl rfl ?_
 refine wl_nil ?_
 refine e_back ((k + 1, done, acc ++ [l.getD k le0], A8, c8)) ?_ ?_ ⟨rfl, rfl, rfl, trivial⟩ (by repeat (first | exact trivial | refine ⟨rfl, ?_⟩)) (fun w h => h.weak (.cons _ (List.Sublist.refl _)) (fun s hs => hs))
 exact ⟨by show k + 1 ≤ _; omega, by show putE l x = (acc ++ [l.getD k le0]) ++ putG x done (l.drop (k + 1)); rw [hI.2.1, drop_getD l le0 k hk, putG_ng h7_0 h7_4 h9_1] <;> try simp only [List.append_assoc], by show (acc ++ [l.getD k le0]).length ≤ 2 * (k + 1); (try simp only [List.length_append, List.length_cons, List.length_nil]); omega⟩
 show l.length - (k + 1) < l.length - k
 omega
 refine wl_nil ?_
 refine e_seq ?_
 refine w_cond_f rfl ?_
 refine w_skip ?_
 refine e_blk ?_
 refine e_seq ?_
 refine w_region ?_
 refine o_y (y_move rfl) rfl rfl ?_
 refine o_y (y_addi rfl rfl (by omega) (by omega)) rfl rfl ?_
 refine o_y (y_assign rfl) rfl rfl ?_
 refine wl_nil ?_
 refine e_back ((k + 1, done, acc, A5, c5)) ?_ ?_ ⟨rfl, rfl, rfl, trivial⟩ (by repeat (first | exact trivial | refine ⟨rfl, ?_⟩)) (fun w h => h)
 exfalso; omega
 show l.length - (k + 1) < l.length - k
 omega
 refine wl_nil ?_
 refine e_seq ?_
 refine w_cond_f rfl ?_
 refine w_exit ?_
 refine e_seq_exit ?_
 refine e_loop_exit ?_
 refine e_blk_hit ?_
 refine e_seq ?_
 refine w_seq ?_
 refine w_seq ?_
 have hkl : k = l.length := by omega
 have hE0 := hI.2.1
 rw [List.drop_of_length_le (by omega), putG] at hE0
 refine w_region ?_
 refine o_y (y_move rfl) rfl rfl ?_
 refine wl_splitb (t := 42) rfl (fun h11_0 => ?_) (fun h11_0 => ?_)
 refine o_y (y_not rfl) rfl rfl ?_
 refine wl_nil ?_
 refine e_seq ?_
 refine w_cond_f rfl ?_
 refine w_skip ?_
 refine e_seq ?_
 refine w_seq ?_
 refine w_region ?_
 refine o_y (y_move rfl) rfl rfl ?_
 refine o_y (y_assign rfl) rfl rfl ?_
 refine wl_nil ?_
 refine e_seq ?_
 refine w_ret ?_
 refine e_ret (ts := [4]) rfl rfl rfl (fun w hw => ?_)
 have hE : putE l x = acc := by rw [hE0, h11_0]; simp
 exact ⟨(A5, c5), by rw [hE]; rfl, hw.base, by rw [hE]; exact (hw.weak (.cons_cons _ (.cons _ .slnil)) (fun s hs => hs)).toNews⟩
 refine o_y (y_not rfl) rfl rfl ?_
 refine wl_nil ?_
 refine e_seq ?_
 refine w_cond_t rfl ?_
 refine w_region ?_
 refine o_y (y_move rfl) rfl rfl ?_
 refine o_y (y_loadrs 1 ty_47 rfl rfl rfl rfl) rfl rfl ?_
 refine o_bsl (vs := [_]) ([x] : List (Le)) enc_le Tryz.underlying22 ty_47 rfl rfl rfl rfl rfl rfl (fun As10 => ?_)
 refine o_appm (enc := elC) (sz := 7) _ Tryz.underlying22 ty_47 rfl rfl rfl (fun A c => (.s (.z))) (src_L 0 Tryz.underlying22 rfl) (by simp only [List.length_append, List.length_cons, List.length_nil]; omega) (by simp only [List.length_append, List.length_cons, List.length_nil]; omega) rfl (fun A10 c10 => ?_)
 refine o_y (y_assign rfl) rfl rfl ?_
 refine wl_nil ?_
 refine e_seq ?_
 refine w_seq ?_
 refine w_region ?_
 refine o_y (y_move rfl) rfl rfl ?_
 refine o_y (y_assign rfl) rfl rfl ?_
 refine wl_nil ?_
 refine e_seq ?_
 refine w_ret ?_
 refine e_ret (ts := [4]) rfl rfl rfl (fun w hw => ?_)
 have hE : putE l x = acc ++ [x] := by rw [hE0, h11_0]; simp
 exact ⟨(A10, c10), by rw [hE]; rfl, hw.base, by rw [hE]; exact (hw.weak (.cons _ (.cons_cons _ (.cons _ .slnil))) (fun s hs => hs)).toNews⟩

set_option maxRecDepth 100000 in
set_option maxHeartbeats 4000000 in
theorem c_Apply0 (v : Int) (l : List Le) (A : Option Addr) (c : Nat) (full : Bool) (bs ver : Int) (put : List Le) (P : Option Addr) (pc : Nat) (D : Option Addr) (dc : Nat) (hok : TbOk l) (hlen : l.length ≤ 1000) (h0 : tabCk v l = 0) (hver : v < ver ∧ ver ≤ 2147483647) (hfull : full = true → bs = 0) (hdelta : full = false → bs = v) (hpok : TbOk put) (hpl : put.length ≤ 1000) (hck : ∀ y ∈ put, entCk y.e = 0) (hnd : (put.map (fun y : Le => foldN y.e.host)).Nodup) (hsz : (putAll (if full = true then [] else l) put).length ≤ 256) : RC Tryz.prog 32 #[.agg (tbC v A l.length c).toArray, .agg #[.bool full, .int .i64 bs, .int .i64 ver, .slice P put.length pc, .slice D 0 dc]] [Ch.rd A 7 elC l, Ch.rall (l.flatMap elR), Ch.rd P 7 elC put, Ch.rall (put.flatMap elR)] (α := Option Addr × Nat) (fun p => .tuple #[.agg (tbC ver p.1 (putAll (if full = true then [] else l) put).length p.2).toArray, .int .i64 0]) (fun p => [Ch.ls p.1 p.2 47 7 elC (putAll (if full = true then [] else l) put)]) := by
 refine rc_of_W (args := [.agg (tbC v A l.length c).toArray, .agg #[.bool full, .int .i64 bs, .int .i64 ver, .slice P put.length pc, .slice D 0 dc]]) 201 Tryz.func32 rfl rfl rfl (fun w0 => ?_)
 cases full
 have hbv := hdelta rfl
 refine w_seq ?_
 refine w_region ?_
 refine o_box rfl rfl rfl (fun b1 => ?_)
 refine o_box rfl rfl rfl (fun b2 => ?_)
 refine o_alloc ty_24 rfl rfl (fun b3 => ?_)
 refine o_y (y_assign rfl) rfl rfl ?_
 refine wl_nil ?_
 refine e_seq ?_
 refine w_seq ?_
 refine w_region ?_
 refine o_y (y_loadrs 2 ty_24 rfl rfl rfl rfl) rfl rfl ?_
 refine o_callq rfl ent_39 rfl (c_ref17_Check _ _ _ _ hok (by omega)) (fun w hw => (rd_cons (rd_S 0 rfl hw) (rd_cons (rd_S 1 rfl hw) rd_nil))) ?_
 refine o_y (y_assign rfl) rfl rfl ?_
 refine wl_nil ?_
 refine e_seq ?_
 refine w_seq ?_
 refine w_seq ?_
 refine w_region ?_
 refine o_y (y_move rfl) rfl rfl ?_
 refine o_y (y_neq rfl rfl) rfl rfl ?_
 refine wl_af (t := 21) rfl (fun h => h h0) ?_
 refine wl_nil ?_
 refine e_seq ?_
 refine w_cond_f rfl ?_
 refine w_skip ?_
 refine e_seq ?_
 refine w_seq ?_
 refine w_seq ?_
 refine w_region ?_
 refine o_y (y_field fa_69_2 rfl) rfl rfl ?_
 refine o_y (y_loadr 1 ty_3 rfl rfl rfl) rfl rfl ?_
 refine o_y (y_field fa_24_0 rfl) rfl rfl ?_
 refine o_y (y_loadr 2 ty_3 rfl rfl rfl) rfl rfl ?_
 refine o_y (y_leq rfl rfl) rfl rfl ?_
 refine wl_af (t := 28) rfl (by omega) ?_
 refine o_y (y_move rfl) rfl rfl ?_
 refine wl_gyes rfl rfl ?_
 refine o_y (y_field fa_69_2 rfl) rfl rfl ?_
 refine wl_gyes rfl rfl ?_
 refine o_y (y_loadr 1 ty_3 rfl rfl rfl) rfl rfl ?_
 refine wl_gyes rfl rfl ?_
 refine o_y (y_gtr rfl rfl) rfl rfl ?_
 refine wl_af (t := 32) rfl (by omega) ?_
 refine o_y (y_pick_f rfl rfl) rfl rfl ?_
 refine wl_nil ?_
 refine e_seq ?_
 refine w_cond_f rfl ?_
 refine w_skip ?_
 refine e_seq ?_
 refine w_seq ?_
 refine w_seq ?_
 refine w_region ?_
 refine o_y (y_field fa_69_0 rfl) rfl rfl ?_
 refine o_y (y_loadr 1 ty_4 rfl rfl rfl) rfl rfl ?_
 refine wl_as (t := 36) (.bool false) rfl (congrArg Value.bool rfl) ?_
 refine o_y (y_move rfl) rfl rfl ?_
 refine wl_gno rfl rfl rfl rfl ?_
 refine wl_gno rfl rfl rfl rfl ?_
 refine wl_gno rfl rfl rfl rfl ?_
 refine wl_gno rfl rfl rfl rfl ?_
 refine wl_gnou rfl rfl rfl ?_
 refine wl_gnou rfl rfl rfl ?_
 refine wl_gnou rfl rfl rfl ?_
 refine wl_gnou rfl rfl rfl ?_
 refine wl_gno rfl rfl rfl rfl ?_
 refine o_y (y_pick_f rfl rfl) rfl rfl ?_
 refine wl_nil ?_
 refine e_seq ?_
 refine w_cond_f rfl ?_
 refine w_skip ?_
 refine e_seq ?_
 refine w_seq ?_
 refine w_seq ?_
 refine w_region ?_
 refine o_y (y_field fa_69_0 rfl) rfl rfl ?_
 refine o_y (y_loadr 1 ty_4 rfl rfl rfl) rfl rfl ?_
 refine wl_as (t := 50) (.bool false) rfl (congrArg Value.bool rfl) ?_
 refine o_y (y_not rfl) rfl rfl ?_
 refine o_y (y_move rfl) rfl rfl ?_
 refine wl_gyes rfl rfl ?_
 refine o_y (y_field fa_69_1 rfl) rfl rfl ?_
 refine wl_gyes rfl rfl ?_
 refine o_y (y_loadr 1 ty_3 rfl rfl rfl) rfl rfl ?_
 refine wl_gyes rfl rfl ?_
 refine o_y (y_field fa_24_0 rfl) rfl rfl ?_
 refine wl_gyes rfl rfl ?_
 refine o_y (y_loadr 2 ty_3 rfl rfl rfl) rfl rfl ?_
 refine wl_gyes rfl rfl ?_
 refine o_y (y_neq rfl rfl) rfl rfl ?_
 refine wl_af (t := 57) rfl (by omega) ?_
 refine o_y (y_pick_t rfl rfl) rfl rfl ?_
 refine wl_nil ?_
 refine e_seq ?_
 refine w_cond_f rfl ?_
 refine w_skip ?_
 refine e_seq ?_
 refine w_seq ?_
 refine w_seq ?_
 refine w_region ?_
 refine o_y (y_assign rfl) rfl rfl ?_
 refine wl_nil ?_
 refine e_seq ?_
 refine w_block ?_
 refine w_loop0 (σ := Nat) [5, 6, 7, 60, 61, 62, 63, 64, 65, 66, 67, 68, 69, 70, 71, 72, 73, 74, 75, 76] (fun k => k ≤ put.length) (fun k => put.length - k) (fun k => [(7, .int .i64 k)]) (0) ?_ ⟨rfl, trivial⟩ (fun k hI => ?_)
 exact Nat.zero_le _
 refine w_seq ?_
 refine w_seq ?_
 refine w_region ?_
 refine o_y (y_move rfl) rfl rfl ?_
 refine o_y (y_field fa_69_3 rfl) rfl rfl ?_
 refine o_y (y_loadr 1 ty_22 rfl rfl rfl) rfl rfl ?_
 refine o_y (y_lenl Tryz.underlying22 rfl) rfl rfl ?_
 refine o_y (y_lss rfl rfl) rfl rfl ?_
 refine wl_splitp (t := 64) rfl (fun h11_4 => ?_) (fun h11_4 => ?_)
 have hk : k < put.length := by omega
 have hb9 := hpok.at hk
 refine wl_nil ?_
 refine e_seq ?_
 refine w_cond_t rfl ?_
 refine w_skip ?_
 refine e_seq ?_
 refine w_seq ?_
 refine w_block ?_
 refine w_seq ?_
 refine w_region ?_
 refine o_y (y_field fa_69_3 rfl) rfl rfl ?_
 refine o_y (y_loadr 1 ty_22 rfl rfl rfl) rfl rfl ?_
 refine o_y (y_move rfl) rfl rfl ?_
 refine o_y (y_ixm  Tryz.underlying22 ty_47 rfl rfl (rs_S 2 rfl) rfl (by omega)) rfl rfl ?_
 refine o_y (y_ldsm0 enc_le le0 ty_47 rfl (rs_S 2 rfl) (by omega) rfl rfl rfl) rfl rfl ?_
 refine o_callq rfl ent_82 rfl (c_ref16_Check _ _ _ _ _ hb9.wa (by have := hb9.la; omega) (by have := hb9.lp; omega) hb9.k) (fun w hw => (rd_cons (rd_all (rd_S 3 rfl hw) (mem_flatR (mem_getD (by omega)) _ (elRA _))) (rd_cons (rd_all (rd_S 3 rfl hw) (mem_flatR (mem_getD (by omega)) _ (elRB _))) rd_nil))) ?_
 refine o_y (y_assign rfl) rfl rfl ?_
 refine wl_nil ?_
 refine e_seq ?_
 refine w_seq ?_
 refine w_region ?_
 refine o_y (y_move rfl) rfl rfl ?_
 refine o_y (y_neq rfl rfl) rfl rfl ?_
 refine wl_af (t := 74) rfl (fun h => h (hck _ (mem_getD hk))) ?_
 refine wl_nil ?_
 refine e_seq ?_
 refine w_cond_f rfl ?_
 refine w_skip ?_
 refine e_blk ?_
 refine e_seq ?_
 refine w_region ?_
 refine o_y (y_move rfl) rfl rfl ?_
 refine o_y (y_addi rfl rfl (by omega) (by omega)) rfl rfl ?_
 refine o_y (y_assign rfl) rfl rfl ?_
 refine wl_nil ?_
 refine e_back (k + 1) ?_ ?_ ⟨rfl, trivial⟩ (by repeat (first | exact trivial | refine ⟨rfl, ?_⟩)) (fun w h => h)
 omega
 omega
 refine wl_nil ?_
 refine e_seq ?_
 refine w_cond_f rfl ?_
 refine w_exit ?_
 refine e_seq_exit ?_
 refine e_loop_exit ?_
 refine e_blk_hit ?_
 refine e_seq ?_
 refine w_seq ?_
 refine w_seq ?_
 refine w_region ?_
 refine o_y (y_assign rfl) rfl rfl ?_
 refine wl_nil ?_
 refine e_seq ?_
 refine w_block ?_
 refine w_loop0 (σ := Unit) [5, 6, 8, 77, 78, 79, 80, 81, 82, 83, 84, 85, 86, 87, 88, 89, 90, 91, 92, 93] (fun _ => True) (fun _ => 0) (fun _ => [(8, .int .i64 0)]) (()) ?_ ⟨rfl, trivial⟩ (fun _ hI => ?_)
 trivial
 refine w_seq ?_
 refine w_seq ?_
 refine w_region ?_
 refine o_y (y_move rfl) rfl rfl ?_
 refine o_y (y_field fa_69_4 rfl) rfl rfl ?_
 refine o_y (y_loadr 1 ty_67 rfl rfl rfl) rfl rfl ?_
 refine o_y (y_lenl Tryz.underlying67 rfl) rfl rfl ?_
 refine o_y (y_lss rfl rfl) rfl rfl ?_
 refine wl_af (t := 81) rfl (by omega) ?_
 refine wl_nil ?_
 refine e_seq ?_
 refine w_cond_f rfl ?_
 refine w_exit ?_
 refine e_seq_exit ?_
 refine e_loop_exit ?_
 refine e_blk_hit ?_
 refine e_seq ?_
 refine w_seq ?_
 refine w_region ?_
 refine o_y (y_assign rfl) rfl rfl ?_
 refine wl_nil ?_
 refine e_seq ?_
 refine w_seq ?_
 refine w_seq ?_
 refine w_region ?_
 refine o_y (y_assign rfl) rfl rfl ?_
 refine wl_nil ?_
 refine e_seq ?_
 refine w_block ?_
 refine w_heap (fun w h => h.nilsl 36 1) ?_
 refine w_loop1 (σ := Nat × List Str × Option Addr × Nat) [9, 10, 94, 95, 96, 97, 98, 99, 100, 101, 102, 103, 104, 105, 106, 107, 108, 109] (fun q => q.1 ≤ put.length ∧ q.2.1 = (put.take q.1).map (fun y : Le => foldN y.e.host)) (fun q => put.length - q.1) (fun q => [(10, .int .i64 q.1), (9, .slice q.2.2.1 q.2.1.length q.2.2.2)]) (fun q => Ch.ls q.2.2.1 q.2.2.2 36 1 encs q.2.1) ((0, [], none, 0)) ?_ ⟨rfl, rfl, trivial⟩ rfl (fun q hI => ?_)
 exact ⟨Nat.zero_le _, rfl⟩
 obtain ⟨k, acc, Ak, ck⟩ := q
 dsimp only at hI ⊢
 have hal : acc.length = k := by rw [hI.2, List.length_map, List.length_take]; omega
 refine w_seq ?_
 refine w_seq ?_
 refine w_region ?_
 refine o_y (y_move rfl) rfl rfl ?_
 refine o_y (y_field fa_69_3 rfl) rfl rfl ?_
 refine o_y (y_loadr 2 ty_22 rfl rfl rfl) rfl rfl ?_
 refine o_y (y_lenl Tryz.underlying22 rfl) rfl rfl ?_
 refine o_y (y_lss rfl rfl) rfl rfl ?_
 refine wl_splitp (t := 98) rfl (fun h24_4 => ?_) (fun h24_4 => ?_)
 have hk : k < put.length := by omega
 have hb9 := hpok.at hk
 have hh9 := hb9.h
 refine wl_nil ?_
 refine e_seq ?_
 refine w_cond_t rfl ?_
 refine w_skip ?_
 refine e_seq ?_
 refine w_seq ?_
 refine w_block ?_
 refine w_region ?_
 refine o_y (y_move rfl) rfl rfl ?_
 refine o_y (y_field fa_69_3 rfl) rfl rfl ?_
 refine o_y (y_loadr 2 ty_22 rfl rfl rfl) rfl rfl ?_
 refine o_y (y_move rfl) rfl rfl ?_
 refine o_y (y_ixm  Tryz.underlying22 ty_47 rfl rfl (rs_S 2 rfl) rfl (by omega)) rfl rfl ?_
 refine o_y (y_ldsm0 enc_le le0 ty_47 rfl (rs_S 2 rfl) (by omega) rfl rfl rfl) rfl rfl ?_
 refine o_callp rfl ent_84 (c_ref16_Key _ _ _ _ _ (by omega)) rfl ?_
 refine o_bsl (vs := [_]) ([foldN (put.getD k le0).e.host] : List (Str)) enc_s Tryz.underlying67 ty_36 rfl rfl rfl rfl rfl rfl (fun As4 => ?_)
 refine o_appm (enc := encs) (sz := 1) _ Tryz.underlying67 ty_36 rfl rfl rfl (fun A c => (.s (.z))) (src_L 0 Tryz.underlying67 rfl) (by simp only [List.length_cons, List.length_nil, Nat.zero_add]; omega) (by simp only [List.length_cons, List.length_nil, Nat.zero_add]; omega) rfl (fun A4 c4 => ?_)
 refine o_y (y_assign rfl) rfl rfl ?_
 refine wl_nil ?_
 refine e_blk ?_
 refine e_seq ?_
 refine w_region ?_
 refine o_y (y_move rfl) rfl rfl ?_
 refine o_y (y_addi rfl rfl (by omega) (by omega)) rfl rfl ?_
 refine o_y (y_assign rfl) rfl rfl ?_
 refine wl_nil ?_
 refine e_back ((k + 1, acc ++ [foldN (put.getD k le0).e.host], A4, c4)) ?_ ?_ ⟨rfl, rfl, trivial⟩ (by repeat (first | exact trivial | refine ⟨rfl, ?_⟩)) (fun w h => h.weak (.cons _ (List.Sublist.refl _)) (fun s hs => hs))
 exact ⟨by show k + 1 ≤ _; omega, by show _ = (put.take (k + 1)).map _; rw [take_getD put le0 k hk, List.map_append, ← hI.2]; rfl⟩
 show put.length - (k + 1) < put.length - k
 omega
 refine wl_nil ?_
 refine e_seq ?_
 refine w_cond_f rfl ?_
 refine w_exit ?_
 refine e_seq_exit ?_
 refine e_loop_exit ?_
 refine e_blk_hit ?_
 refine e_seq ?_
 refine w_seq ?_
 refine w_seq ?_
 have hkp : k = put.length := by omega
 obtain rfl : acc = put.map (fun y : Le => foldN y.e.host) := by rw [hI.2, hkp, List.take_length]
 have hml : (put.map (fun y : Le => foldN y.e.host)).length = put.length := List.length_map _
 refine w_region ?_
 refine o_y (y_assign rfl) rfl rfl ?_
 refine wl_nil ?_
 refine e_seq ?_
 refine w_block ?_
 refine w_loop0 (σ := Unit) [9, 11, 110, 111, 112, 113, 114, 115, 116, 117, 118, 119, 120, 121, 122, 123, 124, 125] (fun _ => True) (fun _ => 0) (fun _ => [(11, .int .i64 0), (9, .slice Ak (put.map (fun y : Le => foldN y.e.host)).length ck)]) (()) ?_ ⟨rfl, rfl, trivial⟩ (fun _ hI => ?_)
 trivial
 refine w_seq ?_
 refine w_seq ?_
 refine w_region ?_
 refine o_y (y_move rfl) rfl rfl ?_
 refine o_y (y_field fa_69_4 rfl) rfl rfl ?_
 refine o_y (y_loadr 2 ty_67 rfl rfl rfl) rfl rfl ?_
 refine o_y (y_lenl Tryz.underlying67 rfl) rfl rfl ?_
 refine o_y (y_lss rfl rfl) rfl rfl ?_
 refine wl_af (t := 114) rfl (by omega) ?_
 refine wl_nil ?_
 refine e_seq ?_
 refine w_cond_f rfl ?_
 refine w_exit ?_
 refine e_seq_exit ?_
 refine e_loop_exit ?_
 refine e_blk_hit ?_
 refine e_seq ?_
 refine w_seq ?_
 refine w_region ?_
 refine o_makeMap (fun s : Str => .string (ba s)) (fun b : Bool => .bool b) rfl (fun r5 => ?_)
 refine o_y (y_assign rfl) rfl rfl ?_
 refine wl_nil ?_
 refine e_seq ?_
 refine w_seq ?_
 refine w_seq ?_
 refine w_region ?_
 refine o_y (y_assign rfl) rfl rfl ?_
 refine wl_nil ?_
 refine e_seq ?_
 refine w_block ?_
 refine w_loop1 (σ := Nat × List (Str × Bool)) [5, 13, 127, 128, 129, 130, 131, 132, 133, 134, 135, 136, 137, 138, 139, 140, 141, 142, 143, 144] (fun q => q.1 ≤ (put.map (fun y : Le => foldN y.e.host)).length ∧ MapIs q.2 ((put.map (fun y : Le => foldN y.e.host)).take q.1)) (fun q => (put.map (fun y : Le => foldN y.e.host)).length - q.1) (fun q => [(13, .int .i64 q.1)]) (fun q => Ch.mp r5 (fun s : Str => .string (ba s)) (fun b : Bool => .bool b) q.2) ((0, [])) ?_ ⟨rfl, trivial⟩ rfl (fun q hI => ?_)
 exact ⟨Nat.zero_le _, fun key => rfl⟩
 obtain ⟨k, mm⟩ := q
 dsimp only at hI ⊢
 refine w_seq ?_
 refine w_seq ?_
 refine w_region ?_
 refine o_y (y_move rfl) rfl rfl ?_
 refine o_y (y_move rfl) rfl rfl ?_
 refine o_y (y_lenl Tryz.underlying67 rfl) rfl rfl ?_
 refine o_y (y_lss rfl rfl) rfl rfl ?_
 refine wl_splitp (t := 130) rfl (fun h33_3 => ?_) (fun h33_3 => ?_)
 have hk : k < (put.map (fun y : Le => foldN y.e.host)).length := by omega
 refine wl_nil ?_
 refine e_seq ?_
 refine w_cond_t rfl ?_
 refine w_skip ?_
 refine e_seq ?_
 refine w_seq ?_
 refine w_block ?_
 refine w_seq ?_
 refine w_seq ?_
 refine w_region ?_
 refine o_y (y_move rfl) rfl rfl ?_
 refine o_y (y_move rfl) rfl rfl ?_
 refine o_y (y_move rfl) rfl rfl ?_
 refine o_y (y_ixm  Tryz.underlying67 ty_36 rfl rfl (rs_L 1 rfl) rfl (by omega)) rfl rfl ?_
 refine o_y (y_ldm0 enc_s ([] : Str) ty_36 rfl (rs_L 1 rfl) (by omega) rfl rfl) rfl rfl ?_
 refine o_y (y_lookup Tryz.underlying135 (keyl_str Tryz.underlying36) ty_4 rfl rfl (fun w hw => hw.own _ (List.mem_of_getElem? (i := 0) rfl))) rfl rfl ?_
 refine wl_as (t := 138) (.bool (decide ((put.map (fun y : Le => foldN y.e.host)).getD k [] ∈ (put.map (fun y : Le => foldN y.e.host)).take k))) rfl (mapIs_val hI.2 _) ?_
 refine wl_as (t := 138) (.bool false) rfl (congrArg Value.bool (decide_eq_false (not_mem_take hnd hk))) ?_
 refine wl_nil ?_
 refine e_seq ?_
 refine w_cond_f rfl ?_
 refine w_skip ?_
 refine e_seq ?_
 refine w_region ?_
 refine o_y (y_move rfl) rfl rfl ?_
 refine o_y (y_move rfl) rfl rfl ?_
 refine o_y (y_move rfl) rfl rfl ?_
 refine o_y (y_ixm  Tryz.underlying67 ty_36 rfl rfl (rs_L 1 rfl) rfl (by omega)) rfl rfl ?_
 refine o_y (y_ldm0 enc_s ([] : Str) ty_36 rfl (rs_L 1 rfl) (by omega) rfl rfl) rfl rfl ?_
 refine o_mapUpd Tryz.underlying135 (keyl_str Tryz.underlying36) rfl rfl rfl .z ?_
 refine wl_nil ?_
 refine e_blk ?_
 refine e_seq ?_
 refine w_region ?_
 refine o_y (y_move rfl) rfl rfl ?_
 refine o_y (y_addi rfl rfl (by omega) (by omega)) rfl rfl ?_
 refine o_y (y_assign rfl) rfl rfl ?_
 refine wl_nil ?_
 refine e_back ((k + 1, upd mm ((put.map (fun y : Le => foldN y.e.host)).getD k []) true)) ?_ ?_ ⟨rfl, trivial⟩ (by repeat (first | exact trivial | refine ⟨rfl, ?_⟩)) (fun w h => h)
 exact ⟨by show k + 1 ≤ _; omega, mapIs_succ hI.2 hk⟩
 show (put.map (fun y : Le => foldN y.e.host)).length - (k + 1) < (put.map (fun y : Le => foldN y.e.host)).length - k
 omega
 refine wl_nil ?_
 refine e_seq ?_
 refine w_cond_f rfl ?_
 refine w_exit ?_
 refine e_seq_exit ?_
 refine e_loop_exit ?_
 refine e_blk_hit ?_
 refine e_seq ?_
 refine w_seq ?_
 refine w_region ?_
 refine o_y (y_assign rfl) rfl rfl ?_
 refine wl_nil ?_
 refine e_seq ?_
 refine w_seq ?_
 refine w_seq ?_
 refine w_region ?_
 refine o_y (y_field fa_69_0 rfl) rfl rfl ?_
 refine o_y (y_loadr 3 ty_4 rfl rfl rfl) rfl rfl ?_
 refine wl_as (t := 146) (.bool false) rfl (congrArg Value.bool rfl) ?_
 refine o_y (y_not rfl) rfl rfl ?_
 refine wl_nil ?_
 refine e_seq ?_
 refine w_cond_t rfl ?_
 refine w_region ?_
 refine o_y (y_move rfl) rfl rfl ?_
 refine o_y (y_field fa_24_1 rfl) rfl rfl ?_
 refine o_y (y_loadr 4 ty_22 rfl rfl rfl) rfl rfl ?_
 refine wl_heap (fun w h => h.nilsl 47 7) ?_
 refine o_appm (xs := ([] : List (Le))) (enc := elC) (sz := 7) l Tryz.underlying22 ty_47 rfl rfl rfl (fun A c => .z) (src_S 0 Tryz.underlying22 rfl) (by simp only [List.length_cons, List.length_nil, Nat.zero_add]; omega) (by simp only [List.length_cons, List.length_nil, Nat.zero_add]; omega) rfl (fun A7 c7 => ?_)
 refine o_y (y_assign rfl) rfl rfl ?_
 refine wl_nil ?_
 refine e_seq ?_
 refine w_seq ?_
 refine w_seq ?_
 refine w_region ?_
 refine o_y (y_assign rfl) rfl rfl ?_
 refine wl_nil ?_
 refine e_seq ?_
 refine w_block ?_
 refine w_loop0 (σ := Unit) [5, 14, 15, 16, 152, 153, 154, 155, 156, 157, 158, 159, 160, 161, 162, 163, 164, 165, 166, 167, 168, 169, 170, 171, 172, 173, 174, 175, 176, 177, 178] (fun _ => True) (fun _ => 0) (fun _ => [(15, .int .i64 0), (14, .slice A7 l.length c7)]) (()) ?_ ⟨rfl, rfl, trivial⟩ (fun _ hI => ?_)
 trivial
 refine w_seq ?_
 refine w_seq ?_
 refine w_region ?_
 refine o_y (y_move rfl) rfl rfl ?_
 refine o_y (y_field fa_69_4 rfl) rfl rfl ?_
 refine o_y (y_loadr 4 ty_67 rfl rfl rfl) rfl rfl ?_
 refine o_y (y_lenl Tryz.underlying67 rfl) rfl rfl ?_
 refine o_y (y_lss rfl rfl) rfl rfl ?_
 refine wl_af (t := 156) rfl (by omega) ?_
 refine wl_nil ?_
 refine e_seq ?_
 refine w_cond_f rfl ?_
 refine w_exit ?_
 refine e_seq_exit ?_
 refine e_loop_exit ?_
 refine e_blk_hit ?_
 refine e_seq ?_
 refine w_seq ?_
 refine w_seq ?_
 refine w_region ?_
 refine o_y (y_assign rfl) rfl rfl ?_
 refine wl_nil ?_
 refine e_seq ?_
 refine w_block ?_
 refine w_loop1 (σ := Nat × List Le × Option Addr × Nat) [14, 17, 179, 180, 181, 182, 183, 184, 185, 186, 187, 188, 189, 190, 191, 192] (fun q => q.1 ≤ put.length ∧ q.2.1 = putAll l (put.take q.1) ∧ TbOk q.2.1 ∧ q.2.1.length ≤ l.length + q.1) (fun q => put.length - q.1) (fun q => [(17, .int .i64 q.1), (14, .slice q.2.2.1 q.2.1.length q.2.2.2)]) (fun q => Ch.ls q.2.2.1 q.2.2.2 47 7 elC q.2.1) ((0, l, A7, c7)) ?_ ⟨rfl, rfl, trivial⟩ rfl (fun q hI => ?_)
 focus first
   | exact ⟨Nat.zero_le _, rfl, nofun, Nat.zero_le _⟩
   | exact ⟨Nat.zero_le _, rfl, hok, Nat.le_refl _⟩
 obtain ⟨k, acc, Aa, ca⟩ := q
 dsimp only at hI ⊢
 refine w_seq ?_
 refine w_seq ?_
 refine w_region ?_
 refine o_y (y_move rfl) rfl rfl ?_
 refine o_y (y_field fa_69_3 rfl) rfl rfl ?_
 refine o_y (y_loadr 4 ty_22 rfl rfl rfl) rfl rfl ?_
 refine o_y (y_lenl Tryz.underlying22 rfl) rfl rfl ?_
 refine o_y (y_lss rfl rfl) rfl rfl ?_
 refine wl_splitp (t := 183) rfl (fun h49_4 => ?_) (fun h49_4 => ?_)
 have hk : k < put.length := by omega
 have hb9 := hpok.at hk
 have hle9 := hI.2.2.2
 refine wl_nil ?_
 refine e_seq ?_
 refine w_cond_t rfl ?_
 refine w_skip ?_
 refine e_seq ?_
 refine w_seq ?_
 refine w_block ?_
 refine w_region ?_
 refine o_y (y_move rfl) rfl rfl ?_
 refine o_y (y_field fa_69_3 rfl) rfl rfl ?_
 refine o_y (y_loadr 4 ty_22 rfl rfl rfl) rfl rfl ?_
 refine o_y (y_move rfl) rfl rfl ?_
 refine o_y (y_ixm  Tryz.underlying22 ty_47 rfl rfl (rs_S 2 rfl) rfl (by omega)) rfl rfl ?_
 refine o_y (y_ldsm0 enc_le le0 ty_47 rfl (rs_S 2 rfl) (by omega) rfl rfl rfl) rfl rfl ?_
 refine o_callr1 rfl ent_86 rfl (c_ref17_put acc Aa ca (put.getD k le0) hI.2.2.1 hb9.h (by omega)) (fun w hw => (rd_cons (rd_Ls 0 rfl hw) rd_nil)) (fun ⟨A8, c8⟩ => ?_)
 refine o_y (y_assign rfl) rfl rfl ?_
 refine wl_nil ?_
 refine e_blk ?_
 refine e_seq ?_
 refine w_region ?_
 refine o_y (y_move rfl) rfl rfl ?_
 refine o_y (y_addi rfl rfl (by omega) (by omega)) rfl rfl ?_
 refine o_y (y_assign rfl) rfl rfl ?_
 refine wl_nil ?_
 refine e_back ((k + 1, putE acc (put.getD k le0), A8, c8)) ?_ ?_ ⟨rfl, rfl, trivial⟩ (by repeat (first | exact trivial | refine ⟨rfl, ?_⟩)) (fun w h => h.weak (.cons_cons _ (.cons _ (List.Sublist.refl _))) (fun s hs => hs))
 exact ⟨by show k + 1 ≤ _; omega, by show putE acc _ = putAll _ (put.take (k + 1)); rw [putAll_succ hk, ← hI.2.1], putE_tb hI.2.2.1 (hpok _ (mem_getD hk)), by show (putE acc _).length ≤ l.length + (k + 1); have := putE_len acc (put.getD k le0); omega⟩
 show put.length - (k + 1) < put.length - k
 omega
 refine wl_nil ?_
 refine e_seq ?_
 refine w_cond_f rfl ?_
 refine w_exit ?_
 refine e_seq_exit ?_
 refine e_loop_exit ?_
 refine e_blk_hit ?_
 refine e_seq ?_
 refine w_seq ?_
 refine w_seq ?_
 have hkp : k = put.length := by omega
 subst hkp
 have hE := hI.2.1
 rw [List.take_length] at hE
 have hsz9 : acc.length ≤ 256 := by rw [hE]; exact hsz
 refine w_region ?_
 refine o_y (y_move rfl) rfl rfl ?_
 refine o_y (y_lenl Tryz.underlying22 rfl) rfl rfl ?_
 refine o_y (y_gtr rfl rfl) rfl rfl ?_
 refine wl_af (t := 195) rfl (by omega) ?_
 refine wl_nil ?_
 refine e_seq ?_
 refine w_cond_f rfl ?_
 refine w_skip ?_
 refine e_seq ?_
 refine w_seq ?_
 refine w_region ?_
 refine o_y (y_field fa_69_2 rfl) rfl rfl ?_
 refine o_y (y_loadr 4 ty_3 rfl rfl rfl) rfl rfl ?_
 refine o_y (y_move rfl) rfl rfl ?_
 refine o_y (y_build rfl (bu_24_0_1 _ _ _ _)) rfl rfl ?_
 refine o_store ty_24 rfl rfl rfl (.s (.s (.s (.z)))) rfl rfl rfl rfl ?_
 refine o_y (y_assign rfl) rfl rfl ?_
 refine wl_nil ?_
 refine e_seq ?_
 refine w_ret ?_
 refine e_rsr (rs := [.cell 4 24, .tmp 5]) rfl (rs_cells 3 ty_24 rfl rfl rfl rfl (rs_tmp rfl rs_nil)) rfl (fun w hw => ?_)
 exact ⟨(Aa, ca), by rw [hE]; rfl, hw.base, by rw [hE] at hw; exact (hw.weak (.cons_cons _ (.cons _ (.cons _ (.cons _ (.cons _ (.cons _ .slnil)))))) (fun s hs => hs)).toNews⟩
 have hb0 := hfull rfl
 refine w_seq ?_
 refine w_region ?_
 refine o_box rfl rfl rfl (fun b10 => ?_)
 refine o_box rfl rfl rfl (fun b11 => ?_)
 refine o_alloc ty_24 rfl rfl (fun b12 => ?_)
 refine o_y (y_assign rfl) rfl rfl ?_
 refine wl_nil ?_
 refine e_seq ?_
 refine w_seq ?_
 refine w_region ?_
 refine o_y (y_loadrs 2 ty_24 rfl rfl rfl rfl) rfl rfl ?_
 refine o_callq rfl ent_39 rfl (c_ref17_Check _ _ _ _ hok (by omega)) (fun w hw => (rd_cons (rd_S 0 rfl hw) (rd_cons (rd_S 1 rfl hw) rd_nil))) ?_
 refine o_y (y_assign rfl) rfl rfl ?_
 refine wl_nil ?_
 refine e_seq ?_
 refine w_seq ?_
 refine w_seq ?_
 refine w_region ?_
 refine o_y (y_move rfl) rfl rfl ?_
 refine o_y (y_neq rfl rfl) rfl rfl ?_
 refine wl_af (t := 21) rfl (fun h => h h0) ?_
 refine wl_nil ?_
 refine e_seq ?_
 refine w_cond_f rfl ?_
 refine w_skip ?_
 refine e_seq ?_
 refine w_seq ?_
 refine w_seq ?_
 refine w_region ?_
 refine o_y (y_field fa_69_2 rfl) rfl rfl ?_
 refine o_y (y_loadr 1 ty_3 rfl rfl rfl) rfl rfl ?_
 refine o_y (y_field fa_24_0 rfl) rfl rfl ?_
 refine o_y (y_loadr 2 ty_3 rfl rfl rfl) rfl rfl ?_
 refine o_y (y_leq rfl rfl) rfl rfl ?_
 refine wl_af (t := 28) rfl (by omega) ?_
 refine o_y (y_move rfl) rfl rfl ?_
 refine wl_gyes rfl rfl ?_
 refine o_y (y_field fa_69_2 rfl) rfl rfl ?_
 refine wl_gyes rfl rfl ?_
 refine o_y (y_loadr 1 ty_3 rfl rfl rfl) rfl rfl ?_
 refine wl_gyes rfl rfl ?_
 refine o_y (y_gtr rfl rfl) rfl rfl ?_
 refine wl_af (t := 32) rfl (by omega) ?_
 refine o_y (y_pick_f rfl rfl) rfl rfl ?_
 refine wl_nil ?_
 refine e_seq ?_
 refine w_cond_f rfl ?_
 refine w_skip ?_
 refine e_seq ?_
 refine w_seq ?_
 refine w_seq ?_
 refine w_region ?_
 refine o_y (y_field fa_69_0 rfl) rfl rfl ?_
 refine o_y (y_loadr 1 ty_4 rfl rfl rfl) rfl rfl ?_
 refine wl_as (t := 36) (.bool true) rfl (congrArg Value.bool rfl) ?_
 refine o_y (y_move rfl) rfl rfl ?_
 refine wl_gyes rfl rfl ?_
 refine o_y (y_field fa_69_1 rfl) rfl rfl ?_
 refine wl_gyes rfl rfl ?_
 refine o_y (y_loadr 1 ty_3 rfl rfl rfl) rfl rfl ?_
 refine wl_gyes rfl rfl ?_
 refine o_y (y_neq rfl rfl) rfl rfl ?_
 refine wl_af (t := 40) rfl (by omega) ?_
 refine wl_gyes rfl rfl ?_
 refine o_y (y_move rfl) rfl rfl ?_
 refine wl_gyes rfl rfl ?_
 refine o_y (y_field fa_69_4 rfl) rfl rfl ?_
 refine wl_gyes rfl rfl ?_
 refine o_y (y_loadr 1 ty_67 rfl rfl rfl) rfl rfl ?_
 refine wl_gyes rfl rfl ?_
 refine o_y (y_lenl Tryz.underlying67 rfl) rfl rfl ?_
 refine wl_gyes rfl rfl ?_
 refine o_y (y_gtr rfl rfl) rfl rfl ?_
 refine wl_af (t := 45) rfl (by omega) ?_
 refine wl_gyes rfl rfl ?_
 refine o_y (y_pick_f rfl rfl) rfl rfl ?_
 refine o_y (y_pick_t rfl rfl) rfl rfl ?_
 refine wl_nil ?_
 refine e_seq ?_
 refine w_cond_f rfl ?_
 refine w_skip ?_
 refine e_seq ?_
 refine w_seq ?_
 refine w_seq ?_
 refine w_region ?_
 refine o_y (y_field fa_69_0 rfl) rfl rfl ?_
 refine o_y (y_loadr 1 ty_4 rfl rfl rfl) rfl rfl ?_
 refine wl_as (t := 50) (.bool true) rfl (congrArg Value.bool rfl) ?_
 refine o_y (y_not rfl) rfl rfl ?_
 refine o_y (y_move rfl) rfl rfl ?_
 refine wl_gno rfl rfl rfl rfl ?_
 refine wl_gno rfl rfl rfl rfl ?_
 refine wl_gno rfl rfl rfl rfl ?_
 refine wl_gno rfl rfl rfl rfl ?_
 refine wl_gno rfl rfl rfl rfl ?_
 refine o_y (y_pick_f rfl rfl) rfl rfl ?_
 refine wl_nil ?_
 refine e_seq ?_
 refine w_cond_f rfl ?_
 refine w_skip ?_
 refine e_seq ?_
 refine w_seq ?_
 refine w_seq ?_
 refine w_region ?_
 refine o_y (y_assign rfl) rfl rfl ?_
 refine wl_nil ?_
 refine e_seq ?_
 refine w_block ?_
 refine w_loop0 (σ := Nat) [5, 6, 7, 60, 61, 62, 63, 64, 65, 66, 67, 68, 69, 70, 71, 72, 73, 74, 75, 76] (fun k => k ≤ put.length) (fun k => put.length - k) (fun k => [(7, .int .i64 k)]) (0) ?_ ⟨rfl, trivial⟩ (fun k hI => ?_)
 exact Nat.zero_le _
 refine w_seq ?_
 refine w_seq ?_
 refine w_region ?_
 refine o_y (y_move rfl) rfl rfl ?_
 refine o_y (y_field fa_69_3 rfl) rfl rfl ?_
 refine o_y (y_loadr 1 ty_22 rfl rfl rfl) rfl rfl ?_
 refine o_y (y_lenl Tryz.underlying22 rfl) rfl rfl ?_
 refine o_y (y_lss rfl rfl) rfl rfl ?_
 refine wl_splitp (t := 64) rfl (fun h11_4 => ?_) (fun h11_4 => ?_)
 have hk : k < put.length := by omega
 have hb9 := hpok.at hk
 refine wl_nil ?_
 refine e_seq ?_
 refine w_cond_t rfl ?_
 refine w_skip ?_
 refine e_seq ?_
 refine w_seq ?_
 refine w_block ?_
 refine w_seq ?_
 refine w_region ?_
 refine o_y (y_field fa_69_3 rfl) rfl rfl ?_
 refine o_y (y_loadr 1 ty_22 rfl rfl rfl) rfl rfl ?_
 refine o_y (y_move rfl) rfl rfl ?_
 refine o_y (y_ixm  Tryz.underlying22 ty_47 rfl rfl (rs_S 2 rfl) rfl (by omega)) rfl rfl ?_
 refine o_y (y_ldsm0 enc_le le0 ty_47 rfl (rs_S 2 rfl) (by omega) rfl rfl rfl) rfl rfl ?_
 refine o_callq rfl ent_82 rfl (c_ref16_Check _ _ _ _ _ hb9.wa (by have := hb9.la; omega) (by have := hb9.lp; omega) hb9.k) (fun w hw => (rd_cons (rd_all (rd_S 3 rfl hw) (mem_flatR (mem_getD (by omega)) _ (elRA _))) (rd_cons (rd_all (rd_S 3 rfl hw) (mem_flatR (mem_getD (by omega)) _ (elRB _))) rd_nil))) ?_
 refine o_y (y_assign rfl) rfl rfl ?_
 refine wl_nil ?_
 refine e_seq ?_
 refine w_seq ?_
 refine w_region ?_
 refine o_y (y_move rfl) rfl rfl ?_
 refine o_y (y_neq rfl rfl) rfl rfl ?_
 refine wl_af (t := 74) rfl (fun h => h (hck _ (mem_getD hk))) ?_
 refine wl_nil ?_
 refine e_seq ?_
 refine w_cond_f rfl ?_
 refine w_skip ?_
 refine e_blk ?_
 refine e_seq ?_
 refine w_region ?_
 refine o_y (y_move rfl) rfl rfl ?_
 refine o_y (y_addi rfl rfl (by omega) (by omega)) rfl rfl ?_
 refine o_y (y_assign rfl) rfl rfl ?_
 refine wl_nil ?_
 refine e_back (k + 1) ?_ ?_ ⟨rfl, trivial⟩ (by repeat (first | exact trivial | refine ⟨rfl, ?_⟩)) (fun w h => h)
 omega
 omega
 refine wl_nil ?_
 refine e_seq ?_
 refine w_cond_f rfl ?_
 refine w_exit ?_
 refine e_seq_exit ?_
 refine e_loop_exit ?_
 refine e_blk_hit ?_
 refine e_seq ?_
 refine w_seq ?_
 refine w_seq ?_
 refine w_region ?_
 refine o_y (y_assign rfl) rfl rfl ?_
 refine wl_nil ?_
 refine e_seq ?_
 refine w_block ?_
 refine w_loop0 (σ := Unit) [5, 6, 8, 77, 78, 79, 80, 81, 82, 83, 84, 85, 86, 87, 88, 89, 90, 91, 92, 93] (fun _ => True) (fun _ => 0) (fun _ => [(8, .int .i64 0)]) (()) ?_ ⟨rfl, trivial⟩ (fun _ hI => ?_)
 trivial
 refine w_seq ?_
 refine w_seq ?_
 refine w_region ?_
 refine o_y (y_move rfl) rfl rfl ?_
 refine o_y (y_field fa_69_4 rfl) rfl rfl ?_
 refine o_y (y_loadr 1 ty_67 rfl rfl rfl) rfl rfl ?_
 refine o_y (y_lenl Tryz.underlying67 rfl) rfl rfl ?_
 refine o_y (y_lss rfl rfl) rfl rfl ?_
 refine wl_af (t := 81) rfl (by omega) ?_
 refine wl_nil ?_
 refine e_seq ?_
 refine w_cond_f rfl ?_
 refine w_exit ?_
 refine e_seq_exit ?_
 refine e_loop_exit ?_
 refine e_blk_hit ?_
 refine e_seq ?_
 refine w_seq ?_
 refine w_region ?_
 refine o_y (y_assign rfl) rfl rfl ?_
 refine wl_nil ?_
 refine e_seq ?_
 refine w_seq ?_
 refine w_seq ?_
 refine w_region ?_
 refine o_y (y_assign rfl) rfl rfl ?_
 refine wl_nil ?_
 refine e_seq ?_
 refine w_block ?_
 refine w_heap (fun w h => h.nilsl 36 1) ?_
 refine w_loop1 (σ := Nat × List Str × Option Addr × Nat) [9, 10, 94, 95, 96, 97, 98, 99, 100, 101, 102, 103, 104, 105, 106, 107, 108, 109] (fun q => q.1 ≤ put.length ∧ q.2.1 = (put.take q.1).map (fun y : Le => foldN y.e.host)) (fun q => put.length - q.1) (fun q => [(10, .int .i64 q.1), (9, .slice q.2.2.1 q.2.1.length q.2.2.2)]) (fun q => Ch.ls q.2.2.1 q.2.2.2 36 1 encs q.2.1) ((0, [], none, 0)) ?_ ⟨rfl, rfl, trivial⟩ rfl (fun q hI => ?_)
 exact ⟨Nat.zero_le _, rfl⟩
 obtain ⟨k, acc, Ak, ck⟩ := q
 dsimp only at hI ⊢
 have hal : acc.length = k := by rw [hI.2, List.length_map, List.length_take]; omega
 refine w_seq ?_
 refine w_seq ?_
 refine w_region ?_
 refine o_y (y_move rfl) rfl rfl ?_
 refine o_y (y_field fa_69_3 rfl) rfl rfl ?_
 refine o_y (y_loadr 2 ty_22 rfl rfl rfl) rfl rfl ?_
 refine o_y (y_lenl Tryz.underlying22 rfl) rfl rfl ?_
 refine o_y (y_lss rfl rfl) rfl rfl ?_
 refine wl_splitp (t := 98) rfl (fun h24_4 => ?_) (fun h24_4 => ?_)
 have hk : k < put.length := by omega
 have hb9 := hpok.at hk
 have hh9 := hb9.h
 refine wl_nil ?_
 refine e_seq ?_
 refine w_cond_t rfl ?_
 refine w_skip ?_
 refine e_seq ?_
 refine w_seq ?_
 refine w_block ?_
 refine w_region ?_
 refine o_y (y_move rfl) rfl rfl ?_
 refine o_y (y_field fa_69_3 rfl) rfl rfl ?_
 refine o_y (y_loadr 2 ty_22 rfl rfl rfl) rfl rfl ?_
 refine o_y (y_move rfl) rfl rfl ?_
 refine o_y (y_ixm  Tryz.underlying22 ty_47 rfl rfl (rs_S 2 rfl) rfl (by omega)) rfl rfl ?_
 refine o_y (y_ldsm0 enc_le le0 ty_47 rfl (rs_S 2 rfl) (by omega) rfl rfl rfl) rfl rfl ?_
 refine o_callp rfl ent_84 (c_ref16_Key _ _ _ _ _ (by omega)) rfl ?_
 refine o_bsl (vs := [_]) ([foldN (put.getD k le0).e.host] : List (Str)) enc_s Tryz.underlying67 ty_36 rfl rfl rfl rfl rfl rfl (fun As13 => ?_)
 refine o_appm (enc := encs) (sz := 1) _ Tryz.underlying67 ty_36 rfl rfl rfl (fun A c => (.s (.z))) (src_L 0 Tryz.underlying67 rfl) (by simp only [List.length_cons, List.length_nil, Nat.zero_add]; omega) (by simp only [List.length_cons, List.length_nil, Nat.zero_add]; omega) rfl (fun A13 c13 => ?_)
 refine o_y (y_assign rfl) rfl rfl ?_
 refine wl_nil ?_
 refine e_blk ?_
 refine e_seq ?_
 refine w_region ?_
 refine o_y (y_move rfl) rfl rfl ?_
 refine o_y (y_addi rfl rfl (by omega) (by omega)) rfl rfl ?_
 refine o_y (y_assign rfl) rfl rfl ?_
 refine wl_nil ?_
 refine e_back ((k + 1, acc ++ [foldN (put.getD k le0).e.host], A13, c13)) ?_ ?_ ⟨rfl, rfl, trivial⟩ (by repeat (first | exact trivial | refine ⟨rfl, ?_⟩)) (fun w h => h.weak (.cons _ (List.Sublist.refl _)) (fun s hs => hs))
 exact ⟨by show k + 1 ≤ _; omega, by show _ = (put.take (k + 1)).map _; rw [take_getD put le0 k hk, List.map_append, ← hI.2]; rfl⟩
 show put.length - (k + 1) < put.length - k
 omega
 refine wl_nil ?_
 refine e_seq ?_
 refine w_cond_f rfl ?_
 refine w_exit ?_
 refine e_seq_exit ?_
 refine e_loop_exit ?_
 refine e_blk_hit ?_
 refine e_seq ?_
 refine w_seq ?_
 refine w_seq ?_
 have hkp : k = put.length := by omega
 obtain rfl : acc = put.map (fun y : Le => foldN y.e.host) := by rw [hI.2, hkp, List.take_length]
 have hml : (put.map (fun y : Le => foldN y.e.host)).length = put.length := List.length_map _
 refine w_region ?_
 refine o_y (y_assign rfl) rfl rfl ?_
 refine wl_nil ?_
 refine e_seq ?_
 refine w_block ?_
 refine w_loop0 (σ := Unit) [9, 11, 110, 111, 112, 113, 114, 115, 116, 117, 118, 119, 120, 121, 122, 123, 124, 125] (fun _ => True) (fun _ => 0) (fun _ => [(11, .int .i64 0), (9, .slice Ak (put.map (fun y : Le => foldN y.e.host)).length ck)]) (()) ?_ ⟨rfl, rfl, trivial⟩ (fun _ hI => ?_)
 trivial
 refine w_seq ?_
 refine w_seq ?_
 refine w_region ?_
 refine o_y (y_move rfl) rfl rfl ?_
 refine o_y (y_field fa_69_4 rfl) rfl rfl ?_
 refine o_y (y_loadr 2 ty_67 rfl rfl rfl) rfl rfl ?_
 refine o_y (y_lenl Tryz.underlying67 rfl) rfl rfl ?_
 refine o_y (y_lss rfl rfl) rfl rfl ?_
 refine wl_af (t := 114) rfl (by omega) ?_
 refine wl_nil ?_
 refine e_seq ?_
 refine w_cond_f rfl ?_
 refine w_exit ?_
 refine e_seq_exit ?_
 refine e_loop_exit ?_
 refine e_blk_hit ?_
 refine e_seq ?_
 refine w_seq ?_
 refine w_region ?_
 refine o_makeMap (fun s : Str => .string (ba s)) (fun b : Bool => .bool b) rfl (fun r14 => ?_)
 refine o_y (y_assign rfl) rfl rfl ?_
 refine wl_nil ?_
 refine e_seq ?_
 refine w_seq ?_
 refine w_seq ?_
 refine w_region ?_
 refine o_y (y_assign rfl) rfl rfl ?_
 refine wl_nil ?_
 refine e_seq ?_
 refine w_block ?_
 refine w_loop1 (σ := Nat × List (Str × Bool)) [5, 13, 127, 128, 129, 130, 131, 132, 133, 134, 135, 136, 137, 138, 139, 140, 141, 142, 143, 144] (fun q => q.1 ≤ (put.map (fun y : Le => foldN y.e.host)).length ∧ MapIs q.2 ((put.map (fun y : Le => foldN y.e.host)).take q.1)) (fun q => (put.map (fun y : Le => foldN y.e.host)).length - q.1) (fun q => [(13, .int .i64 q.1)]) (fun q => Ch.mp r14 (fun s : Str => .string (ba s)) (fun b : Bool => .bool b) q.2) ((0, [])) ?_ ⟨rfl, trivial⟩ rfl (fun q hI => ?_)
 exact ⟨Nat.zero_le _, fun key => rfl⟩
 obtain ⟨k, mm⟩ := q
 dsimp only at hI ⊢
 refine w_seq ?_
 refine w_seq ?_
 refine w_region ?_
 refine o_y (y_move rfl) rfl rfl ?_
 refine o_y (y_move rfl) rfl rfl ?_
 refine o_y (y_lenl Tryz.underlying67 rfl) rfl rfl ?_
 refine o_y (y_lss rfl rfl) rfl rfl ?_
 refine wl_splitp (t := 130) rfl (fun h33_3 => ?_) (fun h33_3 => ?_)
 have hk : k < (put.map (fun y : Le => foldN y.e.host)).length := by omega
 refine wl_nil ?_
 refine e_seq ?_
 refine w_cond_t rfl ?_
 refine w_skip ?_
 refine e_seq ?_
 refine w_seq ?_
 refine w_block ?_
 refine w_seq ?_
 refine w_seq ?_
 refine w_region ?_
 refine o_y (y_move rfl) rfl rfl ?_
 refine o_y (y_move rfl) rfl rfl ?_
 refine o_y (y_move rfl) rfl rfl ?_
 refine o_y (y_ixm  Tryz.underlying67 ty_36 rfl rfl (rs_L 1 rfl) rfl (by omega)) rfl rfl ?_
 refine o_y (y_ldm0 enc_s ([] : Str) ty_36 rfl (rs_L 1 rfl) (by omega) rfl rfl) rfl rfl ?_
 refine o_y (y_lookup Tryz.underlying135 (keyl_str Tryz.underlying36) ty_4 rfl rfl (fun w hw => hw.own _ (List.mem_of_getElem? (i := 0) rfl))) rfl rfl ?_
 refine wl_as (t := 138) (.bool (decide ((put.map (fun y : Le => foldN y.e.host)).getD k [] ∈ (put.map (fun y : Le => foldN y.e.host)).take k))) rfl (mapIs_val hI.2 _) ?_
 refine wl_as (t := 138) (.bool false) rfl (congrArg Value.bool (decide_eq_false (not_mem_take hnd hk))) ?_
 refine wl_nil ?_
 refine e_seq ?_
 refine w_cond_f rfl ?_
 refine w_skip ?_
 refine e_seq ?_
 refine w_region ?_
 refine o_y (y_move rfl) rfl rfl ?_
 refine o_y (y_move rfl) rfl rfl ?_
 refine o_y (y_move rfl) rfl rfl ?_
 refine o_y (y_ixm  Tryz.underlying67 ty_36 rfl rfl (rs_L 1 rfl) rfl (by omega)) rfl rfl ?_
 refine o_y (y_ldm0 enc_s ([] : Str) ty_36 rfl (rs_L 1 rfl) (by omega) rfl rfl) rfl rfl ?_
 refine o_mapUpd Tryz.underlying135 (keyl_str Tryz.underlying36) rfl rfl rfl .z ?_
 refine wl_nil ?_
 refine e_blk ?_
 refine e_seq ?_
 refine w_region ?_
 refine o_y (y_move rfl) rfl rfl ?_
 refine o_y (y_addi rfl rfl (by omega) (by omega)) rfl rfl ?_
 refine o_y (y_assign rfl) rfl rfl ?_
 refine wl_nil ?_
 refine e_back ((k + 1, upd mm ((put.map (fun y : Le => foldN y.e.host)).getD k []) true)) ?_ ?_ ⟨rfl, trivial⟩ (by repeat (first | exact trivial | refine ⟨rfl, ?_⟩)) (fun w h => h)
 exact ⟨by show k + 1 ≤ _; omega, mapIs_succ hI.2 hk⟩
 show (put.map (fun y : Le => foldN y.e.host)).length - (k + 1) < (put.map (fun y : Le => foldN y.e.host)).length - k
 omega
 refine wl_nil ?_
 refine e_seq ?_
 refine w_cond_f rfl ?_
 refine w_exit ?_
 refine e_seq_exit ?_
 refine e_loop_exit ?_
 refine e_blk_hit ?_
 refine e_seq ?_
 refine w_seq ?_
 refine w_region ?_
 refine o_y (y_assign rfl) rfl rfl ?_
 refine wl_nil ?_
 refine e_seq ?_
 refine w_seq ?_
 refine w_seq ?_
 refine w_region ?_
 refine o_y (y_field fa_69_0 rfl) rfl rfl ?_
 refine o_y (y_loadr 3 ty_4 rfl rfl rfl) rfl rfl ?_
 refine wl_as (t := 146) (.bool true) rfl (congrArg Value.bool rfl) ?_
 refine o_y (y_not rfl) rfl rfl ?_
 refine wl_nil ?_
 refine e_seq ?_
 refine w_cond_f rfl ?_
 refine w_skip ?_
 refine e_seq ?_
 refine w_seq ?_
 refine w_seq ?_
 refine w_region ?_
 refine o_y (y_assign rfl) rfl rfl ?_
 refine wl_nil ?_
 refine e_seq ?_
 refine w_block ?_
 refine w_loop0 (σ := Unit) [5, 14, 15, 16, 152, 153, 154, 155, 156, 157, 158, 159, 160, 161, 162, 163, 164, 165, 166, 167, 168, 169, 170, 171, 172, 173, 174, 175, 176, 177, 178] (fun _ => True) (fun _ => 0) (fun _ => [(15, .int .i64 0), (14, .slice none 0 0)]) (()) ?_ ⟨rfl, rfl, trivial⟩ (fun _ hI => ?_)
 trivial
 refine w_seq ?_
 refine w_seq ?_
 refine w_region ?_
 refine o_y (y_move rfl) rfl rfl ?_
 refine o_y (y_field fa_69_4 rfl) rfl rfl ?_
 refine o_y (y_loadr 3 ty_67 rfl rfl rfl) rfl rfl ?_
 refine o_y (y_lenl Tryz.underlying67 rfl) rfl rfl ?_
 refine o_y (y_lss rfl rfl) rfl rfl ?_
 refine wl_af (t := 156) rfl (by omega) ?_
 refine wl_nil ?_
 refine e_seq ?_
 refine w_cond_f rfl ?_
 refine w_exit ?_
 refine e_seq_exit ?_
 refine e_loop_exit ?_
 refine e_blk_hit ?_
 refine e_seq ?_
 refine w_seq ?_
 refine w_seq ?_
 refine w_region ?_
 refine o_y (y_assign rfl) rfl rfl ?_
 refine wl_nil ?_
 refine e_seq ?_
 refine w_block ?_
 refine w_heap (fun w h => h.nilsl 47 7) ?_
 refine w_loop1 (σ := Nat × List Le × Option Addr × Nat) [14, 17, 179, 180, 181, 182, 183, 184, 185, 186, 187, 188, 189, 190, 191, 192] (fun q => q.1 ≤ put.length ∧ q.2.1 = putAll [] (put.take q.1) ∧ TbOk q.2.1 ∧ q.2.1.length ≤ l.length + q.1) (fun q => put.length - q.1) (fun q => [(17, .int .i64 q.1), (14, .slice q.2.2.1 q.2.1.length q.2.2.2)]) (fun q => Ch.ls q.2.2.1 q.2.2.2 47 7 elC q.2.1) ((0, [], none, 0)) ?_ ⟨rfl, rfl, trivial⟩ rfl (fun q hI => ?_)
 focus first
   | exact ⟨Nat.zero_le _, rfl, nofun, Nat.zero_le _⟩
   | exact ⟨Nat.zero_le _, rfl, hok, Nat.le_refl _⟩
 obtain ⟨k, acc, Aa, ca⟩ := q
 dsimp only at hI ⊢
 refine w_seq ?_
 refine w_seq ?_
 refine w_region ?_
 refine o_y (y_move rfl) rfl rfl ?_
 refine o_y (y_field fa_69_3 rfl) rfl rfl ?_
 refine o_y (y_loadr 4 ty_22 rfl rfl rfl) rfl rfl ?_
 refine o_y (y_lenl Tryz.underlying22 rfl) rfl rfl ?_
 refine o_y (y_lss rfl rfl) rfl rfl ?_
 refine wl_splitp (t := 183) rfl (fun h49_4 => ?_) (fun h49_4 => ?_)
 have hk : k < put.length := by omega
 have hb9 := hpok.at hk
 have hle9 := hI.2.2.2
 refine wl_nil ?_
 refine e_seq ?_
 refine w_cond_t rfl ?_
 refine w_skip ?_
 refine e_seq ?_
 refine w_seq ?_
 refine w_block ?_
 refine w_region ?_
 refine o_y (y_move rfl) rfl rfl ?_
 refine o_y (y_field fa_69_3 rfl) rfl rfl ?_
 refine o_y (y_loadr 4 ty_22 rfl rfl rfl) rfl rfl ?_
 refine o_y (y_move rfl) rfl rfl ?_
 refine o_y (y_ixm  Tryz.underlying22 ty_47 rfl rfl (rs_S 2 rfl) rfl (by omega)) rfl rfl ?_
 refine o_y (y_ldsm0 enc_le le0 ty_47 rfl (rs_S 2 rfl) (by omega) rfl rfl rfl) rfl rfl ?_
 refine o_callr1 rfl ent_86 rfl (c_ref17_put acc Aa ca (put.getD k le0) hI.2.2.1 hb9.h (by omega)) (fun w hw => (rd_cons (rd_Ls 0 rfl hw) rd_nil)) (fun ⟨A15, c15⟩ => ?_)
 refine o_y (y_assign rfl) rfl rfl ?_
 refine wl_nil ?_
 refine e_blk ?_
 refine e_seq ?_
 refine w_region ?_
 refine o_y (y_move rfl) rfl rfl ?_
 refine o_y (y_addi rfl rfl (by omega) (by omega)) rfl rfl ?_
 refine o_y (y_assign rfl) rfl rfl ?_
 refine wl_nil ?_
 refine e_back ((k + 1, putE acc (put.getD k le0), A15, c15)) ?_ ?_ ⟨rfl, rfl, trivial⟩ (by repeat (first | exact trivial | refine ⟨rfl, ?_⟩)) (fun w h => h.weak (.cons_cons _ (.cons _ (List.Sublist.refl _))) (fun s hs => hs))
 exact ⟨by show k + 1 ≤ _; omega, by show putE acc _ = putAll _ (put.take (k + 1)); rw [putAll_succ hk, ← hI.2.1], putE_tb hI.2.2.1 (hpok _ (mem_getD hk)), by show (putE acc _).length ≤ l.length + (k + 1); have := putE_len acc (put.getD k le0); omega⟩
 show put.length - (k + 1) < put.length - k
 omega
 refine wl_nil ?_
 refine e_seq ?_
 refine w_cond_f rfl ?_
 refine w_exit ?_
 refine e_seq_exit ?_
 refine e_loop_exit ?_
 refine e_blk_hit ?_
 refine e_seq ?_
 refine w_seq ?_
 refine w_seq ?_
 have hkp : k = put.length := by omega
 subst hkp
 have hE := hI.2.1
 rw [List.take_length] at hE
 have hsz9 : acc.length ≤ 256 := by rw [hE]; exact hsz
 refine w_region ?_
 refine o_y (y_move rfl) rfl rfl ?_
 refine o_y (y_lenl Tryz.underlying22 rfl) rfl rfl ?_
 refine o_y (y_gtr rfl rfl) rfl rfl ?_
 refine wl_af (t := 195) rfl (by omega) ?_
 refine wl_nil ?_
 refine e_seq ?_
 refine w_cond_f rfl ?_
 refine w_skip ?_
 refine e_seq ?_
 refine w_seq ?_
 refine w_region ?_
 refine o_y (y_field fa_69_2 rfl) rfl rfl ?_
 refine o_y (y_loadr 4 ty_3 rfl rfl rfl) rfl rfl ?_
 refine o_y (y_move rfl) rfl rfl ?_
 refine o_y (y_build rfl (bu_24_0_1 _ _ _ _)) rfl rfl ?_
 refine o_store ty_24 rfl rfl rfl (.s (.s (.s (.z)))) rfl rfl rfl rfl ?_
 refine o_y (y_assign rfl) rfl rfl ?_
 refine wl_nil ?_
 refine e_seq ?_
 refine w_ret ?_
 refine e_rsr (rs := [.cell 4 24, .tmp 5]) rfl (rs_cells 3 ty_24 rfl rfl rfl rfl (rs_tmp rfl rs_nil)) rfl (fun w hw => ?_)
 exact ⟨(Aa, ca), by rw [hE]; rfl, hw.base, by rw [hE] at hw; exact (hw.weak (.cons_cons _ (.cons _ (.cons _ (.cons _ (.cons _ (.cons _ .slnil)))))) (fun s hs => hs)).toNews⟩

end Go.Proofs.YtfmelbpgkbiooaaGreat
