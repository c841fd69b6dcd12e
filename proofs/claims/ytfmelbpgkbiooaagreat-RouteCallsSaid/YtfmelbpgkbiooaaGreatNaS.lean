import Derived.Test.YtfmelbpgkbiooaaGreatPfS
/- names compared, above, matched -/
namespace Go.Proofs.YtfmelbpgkbiooaaGreat
open Go.RowKit Go.Shelf
set_option linter.unusedVariables false
set_option linter.unusedSimpArgs false

theorem ent_106 : Enters Tryz.prog 106 := enters_of Tryz.func106 (by kernel_rfl) rfl
theorem ent_118 : Enters Tryz.prog 118 := enters_of Tryz.func118 (by kernel_rfl) rfl
theorem ent_119 : Enters Tryz.prog 119 := enters_of Tryz.func119 (by kernel_rfl) rfl
theorem ent_130 : Enters Tryz.prog 130 := enters_of Tryz.func130 (by kernel_rfl) rfl
theorem ent_141 : Enters Tryz.prog 141 := enters_of Tryz.func141 (by kernel_rfl) rfl

theorem c_isNaN (n : Int) : Pure Tryz.prog 141 #[.int .i64 n] (.bool false) := by
 intro w0
 refine calls_of_W (ok0 := no) (S := []) (args := [.int .i64 n]) 6 Tryz.func141 rfl rfl rfl (by simp) (by simp) ?_
 refine w_seq ?_
 refine w_region ?_
 refine o_y (y_assign rfl) rfl rfl ?_
 refine wl_nil ?_
 refine e_seq ?_
 refine w_seq ?_
 refine w_region ?_
 refine o_y (y_move rfl) rfl rfl ?_
 refine o_y (y_move rfl) rfl rfl ?_
 refine o_y (y_neq rfl rfl) rfl rfl ?_
 refine o_y (y_assign rfl) rfl rfl ?_
 refine wl_nil ?_
 refine e_seq ?_
 refine w_ret ?_
 refine e_ret (ts := [2]) rfl rfl rfl (fun w hw => ?_)
 exact ⟨by show Ending.returned (.bool _) = _; congr 2; simp, hw.base⟩

def cmpI (a b : Int) : Int := if a < b then -1 else if b < a then 1 else 0

theorem c_cmpI (a b : Int) : Pure Tryz.prog 106 #[.int .i64 a, .int .i64 b] (.int .i64 (cmpI a b)) := by
 intro w0
 refine calls_of_W (ok0 := no) (S := []) (args := [.int .i64 a, .int .i64 b]) 20 Tryz.func106 rfl rfl rfl (by simp) (by simp) ?_
 refine w_seq ?_
 refine w_region ?_
 refine o_y (y_assign rfl) rfl rfl ?_
 refine wl_nil ?_
 refine e_seq ?_
 refine w_seq ?_
 refine w_region ?_
 refine o_y (y_move rfl) rfl rfl ?_
 refine o_callp rfl ent_141 (c_isNaN _) rfl ?_
 refine wl_as (t := 8) (.bool false) rfl (congrArg Value.bool rfl) ?_
 refine o_y (y_assign rfl) rfl rfl ?_
 refine wl_nil ?_
 refine e_seq ?_
 refine w_seq ?_
 refine w_region ?_
 refine o_y (y_move rfl) rfl rfl ?_
 refine o_callp rfl ent_141 (c_isNaN _) rfl ?_
 refine wl_as (t := 10) (.bool false) rfl (congrArg Value.bool rfl) ?_
 refine o_y (y_assign rfl) rfl rfl ?_
 refine wl_nil ?_
 refine e_seq ?_
 refine w_seq ?_
 refine w_seq ?_
 refine w_region ?_
 refine o_y (y_move rfl) rfl rfl ?_
 refine wl_nil ?_
 refine e_seq ?_
 refine w_cond_f rfl ?_
 refine w_skip ?_
 refine e_seq ?_
 refine w_seq ?_
 refine w_seq ?_
 refine w_region ?_
 refine o_y (y_move rfl) rfl rfl ?_
 refine wl_nil ?_
 refine e_seq ?_
 refine w_cond_f rfl ?_
 refine w_skip ?_
 refine e_seq ?_
 refine w_seq ?_
 refine w_seq ?_
 refine w_region ?_
 refine o_y (y_move rfl) rfl rfl ?_
 refine o_y (y_move rfl) rfl rfl ?_
 refine o_y (y_lss rfl rfl) rfl rfl ?_
 refine wl_splitp (t := 16) rfl (fun h9_2 => ?_) (fun h9_2 => ?_)
 refine wl_nil ?_
 refine e_seq ?_
 refine w_cond_t rfl ?_
 refine w_seq ?_
 refine w_region ?_
 refine o_y (y_assign rfl) rfl rfl ?_
 refine wl_nil ?_
 refine e_seq ?_
 refine w_ret ?_
 refine e_seq_ret ?_
 refine e_ret (ts := [4]) rfl rfl rfl (fun w hw => ?_)
 refine ⟨?_, hw.base⟩
 show Ending.returned (.int _ _) = _
 congr 2
 focus first
   | (rw [cmpI, if_pos h9_2]
      done)
   | (rw [cmpI, if_neg h9_2, if_pos (by omega)]
      done)
   | (rw [cmpI, if_neg h9_2, if_neg (by omega)]
      done)
 refine wl_nil ?_
 refine e_seq ?_
 refine w_cond_f rfl ?_
 refine w_skip ?_
 refine e_seq ?_
 refine w_seq ?_
 refine w_seq ?_
 refine w_region ?_
 refine o_y (y_move rfl) rfl rfl ?_
 refine o_y (y_move rfl) rfl rfl ?_
 refine o_y (y_gtr rfl rfl) rfl rfl ?_
 refine wl_splitp (t := 19) rfl (fun h11_2 => ?_) (fun h11_2 => ?_)
 refine wl_nil ?_
 refine e_seq ?_
 refine w_cond_t rfl ?_
 refine w_seq ?_
 refine w_region ?_
 refine o_y (y_assign rfl) rfl rfl ?_
 refine wl_nil ?_
 refine e_seq ?_
 refine w_ret ?_
 refine e_seq_ret ?_
 refine e_ret (ts := [4]) rfl rfl rfl (fun w hw => ?_)
 refine ⟨?_, hw.base⟩
 show Ending.returned (.int _ _) = _
 congr 2
 focus first
   | (rw [cmpI, if_pos h9_2]
      done)
   | (rw [cmpI, if_neg h9_2, if_pos (by omega)]
      done)
   | (rw [cmpI, if_neg h9_2, if_neg (by omega)]
      done)
 refine wl_nil ?_
 refine e_seq ?_
 refine w_cond_f rfl ?_
 refine w_skip ?_
 refine e_seq ?_
 refine w_seq ?_
 refine w_region ?_
 refine o_y (y_assign rfl) rfl rfl ?_
 refine wl_nil ?_
 refine e_seq ?_
 refine w_ret ?_
 refine e_ret (ts := [4]) rfl rfl rfl (fun w hw => ?_)
 refine ⟨?_, hw.base⟩
 show Ending.returned (.int _ _) = _
 congr 2
 focus first
   | (rw [cmpI, if_pos h9_2]
      done)
   | (rw [cmpI, if_neg h9_2, if_pos (by omega)]
      done)
   | (rw [cmpI, if_neg h9_2, if_neg (by omega)]
      done)

/-- A row turned about so far. -/
def revK (l : List Str) (i : Nat) : List Str := (List.range l.length).map fun p => if p < i ∨ l.length ≤ p + i then l.getD (l.length - 1 - p) [] else l.getD p []
theorem revK_len (l : List Str) (i : Nat) : (revK l i).length = l.length := by simp [revK]
theorem revK_at {l : List Str} {i p : Nat} (h : p < l.length) : (revK l i).getD p [] = if p < i ∨ l.length ≤ p + i then l.getD (l.length - 1 - p) [] else l.getD p [] := by
  rw [revK, List.getD_eq_getElem?_getD, List.getElem?_map, List.getElem?_range h]; rfl
theorem ext_getD {l m : List Str} (h : l.length = m.length) (k : ∀ p, p < l.length → l.getD p [] = m.getD p []) : l = m := by
  apply List.ext_getElem h
  intro p h1 h2
  have := k p h1
  rwa [List.getD_eq_getElem?_getD, List.getD_eq_getElem?_getD, List.getElem?_eq_getElem h1, List.getElem?_eq_getElem h2] at this
theorem revK_zero (l : List Str) : revK l 0 = l := ext_getD (revK_len l 0) (fun p hp => by
  rw [revK_len] at hp
  rw [revK_at hp, if_neg (by omega)])
theorem revK_end {l : List Str} {i : Nat} (h : l.length ≤ 2 * i + 1) : revK l i = l.reverse := ext_getD (by rw [revK_len, List.length_reverse]) (fun p hp => by
  rw [revK_len] at hp
  rw [revK_at hp, rev_getD hp]
  split
  · rfl
  · congr 1; omega)
theorem getD_set {l : List Str} {i p : Nat} {v : Str} (hp : p < l.length) : (l.set i v).getD p [] = if i = p then v else l.getD p [] := by
  rw [List.getD_eq_getElem?_getD, List.getElem?_set, List.getD_eq_getElem?_getD]
  split
  · rename_i h; subst h; rw [if_pos hp]; rfl
  · rfl
theorem revK_step {l : List Str} {i j : Nat} (hj : i + j + 1 = l.length) (hi : i < j) : ((revK l i).set i ((revK l i).getD j [])).set j ((revK l i).getD i []) = revK l (i + 1) := ext_getD (by simp [revK_len]) (fun p hp => by
  simp only [List.length_set, revK_len] at hp
  rw [getD_set (by simpa [revK_len] using hp), getD_set (by rw [revK_len]; exact hp), revK_at (by omega), revK_at (by omega), revK_at hp, revK_at hp]
  by_cases h1 : j = p
  · subst h1
    rw [if_pos rfl, if_neg (by omega), if_pos (by omega)]
    congr 1; omega
  · rw [if_neg h1]
    by_cases h2 : i = p
    · subst h2
      rw [if_pos rfl, if_neg (by omega), if_pos (by omega)]
      congr 1; omega
    · rw [if_neg h2]
      by_cases h3 : p < i ∨ l.length ≤ p + i
      · rw [if_pos h3, if_pos (by omega)]
      · rw [if_neg h3, if_neg (by omega)])

set_option maxRecDepth 100000 in
theorem c_Reverse (l : List Str) (A : Option Addr) (c : Nat) (hl : l.length ≤ 1000000000) : UC Tryz.prog 118 #[.slice A l.length c] [] (Ch.ls A c 9 1 encs l) (α := Unit) (fun _ => .tuple #[]) (fun _ => Ch.ls A c 9 1 encs l.reverse) := by
 refine uc_of_W (args := [.slice A l.length c]) 28 Tryz.func118 rfl rfl rfl (fun w0 => ?_)
 refine w_seq ?_
 refine w_region ?_
 refine o_y (y_move rfl) rfl rfl ?_
 refine o_y (y_lenl Tryz.underlying139 rfl) rfl rfl ?_
 refine o_y (y_subi rfl rfl (by omega) (by omega)) rfl rfl ?_
 refine o_y (y_assign rfl) rfl rfl ?_
 refine o_y (y_assign rfl) rfl rfl ?_
 refine wl_nil ?_
 refine e_seq ?_
 refine w_block ?_
 refine w_loop1 (σ := Nat × Int) [2, 3, 7, 8, 9, 10, 11, 12, 13, 14, 15, 16, 17, 18, 19, 20, 21, 22, 23, 24, 25, 26, 27] (fun q => 2 * q.1 ≤ l.length + 1 ∧ q.2 = (l.length : Int) - 1 - q.1) (fun q => l.length - q.1) (fun q => [(2, .int .i64 q.1), (3, .int .i64 q.2)]) (fun q => Ch.ls A c 9 1 encs (revK l q.1)) ((0, (l.length : Int) - 1)) ?_ ⟨rfl, rfl, trivial⟩ (by rw [revK_zero]) (fun q hI => ?_)
 exact ⟨by omega, by show (l.length : Int) - 1 = (l.length : Int) - 1 - ((0 : Nat) : Int); omega⟩
 obtain ⟨i, jz⟩ := q
 dsimp only at hI ⊢
 refine w_seq ?_
 refine w_seq ?_
 refine w_region ?_
 refine o_y (y_move rfl) rfl rfl ?_
 refine o_y (y_move rfl) rfl rfl ?_
 refine o_y (y_lss rfl rfl) rfl rfl ?_
 refine wl_splitp (t := 9) rfl (fun h1_2 => ?_) (fun h1_2 => ?_)
 have hrl := revK_len l i
 obtain ⟨j, hj⟩ : ∃ j : Nat, jz = (j : Int) := ⟨jz.toNat, by omega⟩
 subst hj
 refine wl_nil ?_
 refine e_seq ?_
 refine w_cond_t rfl ?_
 refine w_skip ?_
 refine e_seq ?_
 refine w_seq ?_
 refine w_block ?_
 refine w_drawU 13 rfl mixed ?_
 refine u_take (i := 0) rfl wanted_none (y_move rfl) (fun w h => h) (fun w h => h) rfl (pk_blk (pk_seq (pk_loop (pk_blk pk_fn)))) (by kernel_rfl) rfl ?_
 refine wu_as (t := 14) (.slice A (revK l i).length c) rfl (by simp [revK_len]) ?_
 refine u_take (i := 1) rfl wanted_none (y_move rfl) (fun w h => h) (fun w h => h) rfl (pk_blk (pk_seq (pk_loop (pk_blk pk_fn)))) (by kernel_rfl) rfl ?_
 refine u_take (i := 4) rfl wanted_none (y_move rfl) (fun w h => h) (fun w h => h) rfl (pk_blk (pk_seq (pk_loop (pk_blk pk_fn)))) (by kernel_rfl) rfl ?_
 refine wu_as (t := 18) (.slice A (revK l i).length c) rfl (by simp [revK_len]) ?_
 refine u_take (i := 5) rfl wanted_none (y_move rfl) (fun w h => h) (fun w h => h) rfl (pk_blk (pk_seq (pk_loop (pk_blk pk_fn)))) (by kernel_rfl) rfl ?_
 refine u_take (i := 6) rfl wanted_none (y_ixm  Tryz.underlying139 ty_9 rfl rfl (rs_L 0 rfl) rfl (by omega)) (fun w h => h) (fun w h => h) rfl (pk_blk (pk_seq (pk_loop (pk_blk pk_fn)))) (by kernel_rfl) rfl ?_
 refine u_take (i := 7) rfl wanted_none (y_ldm0 enc_s ([] : Str) ty_9 rfl (rs_L 0 rfl) (by omega) rfl rfl) (fun w h => h) (fun w h => h) rfl (pk_blk (pk_seq (pk_loop (pk_blk pk_fn)))) (by kernel_rfl) rfl ?_
 refine u_take (i := 8) rfl wanted_none (y_move rfl) (fun w h => h) (fun w h => h) rfl (pk_blk (pk_seq (pk_loop (pk_blk pk_fn)))) (by kernel_rfl) rfl ?_
 refine wu_as (t := 22) (.slice A (revK l i).length c) rfl (by simp [revK_len]) ?_
 refine u_take (i := 9) rfl wanted_none (y_move rfl) (fun w h => h) (fun w h => h) rfl (pk_blk (pk_seq (pk_loop (pk_blk pk_fn)))) (by kernel_rfl) rfl ?_
 refine u_take (i := 10) rfl wanted_none (y_ixm  Tryz.underlying139 ty_9 rfl rfl (rs_L 0 rfl) rfl (by omega)) (fun w h => h) (fun w h => h) rfl (pk_blk (pk_seq (pk_loop (pk_blk pk_fn)))) (by kernel_rfl) rfl ?_
 refine u_take (i := 11) rfl wanted_none (y_ldm0 enc_s ([] : Str) ty_9 rfl (rs_L 0 rfl) (by omega) rfl rfl) (fun w h => h) (fun w h => h) rfl (pk_blk (pk_seq (pk_loop (pk_blk pk_fn)))) (by kernel_rfl) rfl ?_
 refine u_take (i := 12) rfl wanted_none (y_ixm  Tryz.underlying139 ty_9 rfl rfl (rs_L 0 rfl) rfl (by omega)) (fun w h => h) (fun w h => h) rfl (pk_blk (pk_seq (pk_loop (pk_blk pk_fn)))) (by kernel_rfl) rfl ?_
 refine u_many (js := [2, 3, 13]) (by kernel_rfl) rfl ?_
 refine wru_cons (i := 2) rfl rfl rfl (fun _ _ _ => tame_op (by kernel_rfl)) rfl ?_ ?_
 refine o_y (y_move rfl) rfl rfl ?_
 refine wl_nil ?_
 refine eu_one (fun w h => h) ?_
 refine u_many (js := [3, 13]) (by kernel_rfl) rfl ?_
 refine wru_cons (i := 3) rfl rfl rfl (fun _ _ _ => tame_op (by kernel_rfl)) rfl ?_ ?_
 refine o_y (y_move rfl) rfl rfl ?_
 refine wl_nil ?_
 refine eu_one (fun w h => h) ?_
 refine u_one (i := 13) rfl rfl rfl (fun _ _ _ => tame_op (by kernel_rfl)) (by kernel_rfl) rfl ?_
 refine o_stm0 enc_s ([] : Str) ((revK l i).getD j []) ty_9 rfl rfl rfl .z rfl (by omega) rfl rfl rfl ?_
 refine wl_nil ?_
 refine eu_tail rfl ?_
 refine wu_as (t := 16) (.slice A ((revK l i).set i ((revK l i).getD j [])).length c) rfl (by simp [revK_len]) ?_
 refine u_one (i := 14) rfl rfl rfl (fun _ _ _ => tame_op (by kernel_rfl)) (by kernel_rfl) rfl ?_
 refine o_y (y_ixm  Tryz.underlying139 ty_9 rfl rfl (rs_L 0 rfl) rfl (by simp [revK_len]; omega)) rfl rfl ?_
 refine wl_nil ?_
 refine eu_tail rfl ?_
 refine u_one (i := 15) rfl rfl rfl (fun _ _ _ => tame_op (by kernel_rfl)) (by kernel_rfl) rfl ?_
 refine o_stm0 enc_s ([] : Str) ((revK l i).getD i []) ty_9 rfl rfl rfl .z rfl (by simp [revK_len]; omega) rfl rfl rfl ?_
 refine wl_nil ?_
 refine eu_tail rfl ?_
 refine u_done (by kernel_rfl) ?_
 refine e_blk ?_
 refine e_seq ?_
 refine w_region ?_
 refine o_y (y_move rfl) rfl rfl ?_
 refine o_y (y_addi rfl rfl (by omega) (by omega)) rfl rfl ?_
 refine o_y (y_move rfl) rfl rfl ?_
 refine o_y (y_subi rfl rfl (by omega) (by omega)) rfl rfl ?_
 refine o_y (y_assign rfl) rfl rfl ?_
 refine o_y (y_assign rfl) rfl rfl ?_
 refine wl_nil ?_
 refine e_back ((i + 1, (j : Int) - 1)) ?_ ?_ ⟨rfl, rfl, trivial⟩ (by repeat (first | exact trivial | refine ⟨rfl, ?_⟩)) (fun w h => by show Hp _ _ (Ch.ls _ _ _ _ _ (revK l (i + 1)) :: _) _ _; rw [← revK_step (l := l) (i := i) (j := j) (by omega) (by omega)]; exact h)
 exact ⟨by show 2 * (i + 1) ≤ _; omega, by show (j : Int) - 1 = _; omega⟩
 show l.length - (i + 1) < l.length - i
 omega
 refine wru_cons (i := 13) rfl rfl rfl (fun _ _ _ => tame_op (by kernel_rfl)) rfl ?_ ?_
 refine o_stm0 enc_s ([] : Str) ((revK l i).getD j []) ty_9 rfl rfl rfl .z rfl (by omega) rfl rfl rfl ?_
 refine wl_nil ?_
 refine eu_tail rfl ?_
 refine u_one (i := 3) rfl rfl rfl (fun _ _ _ => tame_op (by kernel_rfl)) (by kernel_rfl) rfl ?_
 refine o_y (y_move rfl) rfl rfl ?_
 refine wl_nil ?_
 refine eu_tail rfl ?_
 refine wu_as (t := 16) (.slice A ((revK l i).set i ((revK l i).getD j [])).length c) rfl (by simp [revK_len]) ?_
 refine u_one (i := 14) rfl rfl rfl (fun _ _ _ => tame_op (by kernel_rfl)) (by kernel_rfl) rfl ?_
 refine o_y (y_ixm  Tryz.underlying139 ty_9 rfl rfl (rs_L 0 rfl) rfl (by simp [revK_len]; omega)) rfl rfl ?_
 refine wl_nil ?_
 refine eu_tail rfl ?_
 refine u_one (i := 15) rfl rfl rfl (fun _ _ _ => tame_op (by kernel_rfl)) (by kernel_rfl) rfl ?_
 refine o_stm0 enc_s ([] : Str) ((revK l i).getD i []) ty_9 rfl rfl rfl .z rfl (by simp [revK_len]; omega) rfl rfl rfl ?_
 refine wl_nil ?_
 refine eu_tail rfl ?_
 refine u_done (by kernel_rfl) ?_
 refine e_blk ?_
 refine e_seq ?_
 refine w_region ?_
 refine o_y (y_move rfl) rfl rfl ?_
 refine o_y (y_addi rfl rfl (by omega) (by omega)) rfl rfl ?_
 refine o_y (y_move rfl) rfl rfl ?_
 refine o_y (y_subi rfl rfl (by omega) (by omega)) rfl rfl ?_
 refine o_y (y_assign rfl) rfl rfl ?_
 refine o_y (y_assign rfl) rfl rfl ?_
 refine wl_nil ?_
 refine e_back ((i + 1, (j : Int) - 1)) ?_ ?_ ⟨rfl, rfl, trivial⟩ (by repeat (first | exact trivial | refine ⟨rfl, ?_⟩)) (fun w h => by show Hp _ _ (Ch.ls _ _ _ _ _ (revK l (i + 1)) :: _) _ _; rw [← revK_step (l := l) (i := i) (j := j) (by omega) (by omega)]; exact h)
 exact ⟨by show 2 * (i + 1) ≤ _; omega, by show (j : Int) - 1 = _; omega⟩
 show l.length - (i + 1) < l.length - i
 omega
 exact wru_nil
 refine wru_cons (i := 3) rfl rfl rfl (fun _ _ _ => tame_op (by kernel_rfl)) rfl ?_ ?_
 refine o_y (y_move rfl) rfl rfl ?_
 refine wl_nil ?_
 refine eu_one (fun w h => h) ?_
 refine u_many (js := [2, 13]) (by kernel_rfl) rfl ?_
 refine wru_cons (i := 2) rfl rfl rfl (fun _ _ _ => tame_op (by kernel_rfl)) rfl ?_ ?_
 refine o_y (y_move rfl) rfl rfl ?_
 refine wl_nil ?_
 refine eu_one (fun w h => h) ?_
 refine u_one (i := 13) rfl rfl rfl (fun _ _ _ => tame_op (by kernel_rfl)) (by kernel_rfl) rfl ?_
 refine o_stm0 enc_s ([] : Str) ((revK l i).getD j []) ty_9 rfl rfl rfl .z rfl (by omega) rfl rfl rfl ?_
 refine wl_nil ?_
 refine eu_tail rfl ?_
 refine wu_as (t := 16) (.slice A ((revK l i).set i ((revK l i).getD j [])).length c) rfl (by simp [revK_len]) ?_
 refine u_one (i := 14) rfl rfl rfl (fun _ _ _ => tame_op (by kernel_rfl)) (by kernel_rfl) rfl ?_
 refine o_y (y_ixm  Tryz.underlying139 ty_9 rfl rfl (rs_L 0 rfl) rfl (by simp [revK_len]; omega)) rfl rfl ?_
 refine wl_nil ?_
 refine eu_tail rfl ?_
 refine u_one (i := 15) rfl rfl rfl (fun _ _ _ => tame_op (by kernel_rfl)) (by kernel_rfl) rfl ?_
 refine o_stm0 enc_s ([] : Str) ((revK l i).getD i []) ty_9 rfl rfl rfl .z rfl (by simp [revK_len]; omega) rfl rfl rfl ?_
 refine wl_nil ?_
 refine eu_tail rfl ?_
 refine u_done (by kernel_rfl) ?_
 refine e_blk ?_
 refine e_seq ?_
 refine w_region ?_
 refine o_y (y_move rfl) rfl rfl ?_
 refine o_y (y_addi rfl rfl (by omega) (by omega)) rfl rfl ?_
 refine o_y (y_move rfl) rfl rfl ?_
 refine o_y (y_subi rfl rfl (by omega) (by omega)) rfl rfl ?_
 refine o_y (y_assign rfl) rfl rfl ?_
 refine o_y (y_assign rfl) rfl rfl ?_
 refine wl_nil ?_
 refine e_back ((i + 1, (j : Int) - 1)) ?_ ?_ ⟨rfl, rfl, trivial⟩ (by repeat (first | exact trivial | refine ⟨rfl, ?_⟩)) (fun w h => by show Hp _ _ (Ch.ls _ _ _ _ _ (revK l (i + 1)) :: _) _ _; rw [← revK_step (l := l) (i := i) (j := j) (by omega) (by omega)]; exact h)
 exact ⟨by show 2 * (i + 1) ≤ _; omega, by show (j : Int) - 1 = _; omega⟩
 show l.length - (i + 1) < l.length - i
 omega
 refine wru_cons (i := 13) rfl rfl rfl (fun _ _ _ => tame_op (by kernel_rfl)) rfl ?_ ?_
 refine o_stm0 enc_s ([] : Str) ((revK l i).getD j []) ty_9 rfl rfl rfl .z rfl (by omega) rfl rfl rfl ?_
 refine wl_nil ?_
 refine eu_tail rfl ?_
 refine u_one (i := 2) rfl rfl rfl (fun _ _ _ => tame_op (by kernel_rfl)) (by kernel_rfl) rfl ?_
 refine o_y (y_move rfl) rfl rfl ?_
 refine wl_nil ?_
 refine eu_tail rfl ?_
 refine wu_as (t := 16) (.slice A ((revK l i).set i ((revK l i).getD j [])).length c) rfl (by simp [revK_len]) ?_
 refine u_one (i := 14) rfl rfl rfl (fun _ _ _ => tame_op (by kernel_rfl)) (by kernel_rfl) rfl ?_
 refine o_y (y_ixm  Tryz.underlying139 ty_9 rfl rfl (rs_L 0 rfl) rfl (by simp [revK_len]; omega)) rfl rfl ?_
 refine wl_nil ?_
 refine eu_tail rfl ?_
 refine u_one (i := 15) rfl rfl rfl (fun _ _ _ => tame_op (by kernel_rfl)) (by kernel_rfl) rfl ?_
 refine o_stm0 enc_s ([] : Str) ((revK l i).getD i []) ty_9 rfl rfl rfl .z rfl (by simp [revK_len]; omega) rfl rfl rfl ?_
 refine wl_nil ?_
 refine eu_tail rfl ?_
 refine u_done (by kernel_rfl) ?_
 refine e_blk ?_
 refine e_seq ?_
 refine w_region ?_
 refine o_y (y_move rfl) rfl rfl ?_
 refine o_y (y_addi rfl rfl (by omega) (by omega)) rfl rfl ?_
 refine o_y (y_move rfl) rfl rfl ?_
 refine o_y (y_subi rfl rfl (by omega) (by omega)) rfl rfl ?_
 refine o_y (y_assign rfl) rfl rfl ?_
 refine o_y (y_assign rfl) rfl rfl ?_
 refine wl_nil ?_
 refine e_back ((i + 1, (j : Int) - 1)) ?_ ?_ ⟨rfl, rfl, trivial⟩ (by repeat (first | exact trivial | refine ⟨rfl, ?_⟩)) (fun w h => by show Hp _ _ (Ch.ls _ _ _ _ _ (revK l (i + 1)) :: _) _ _; rw [← revK_step (l := l) (i := i) (j := j) (by omega) (by omega)]; exact h)
 exact ⟨by show 2 * (i + 1) ≤ _; omega, by show (j : Int) - 1 = _; omega⟩
 show l.length - (i + 1) < l.length - i
 omega
 exact wru_nil
 refine wru_cons (i := 13) rfl rfl rfl (fun _ _ _ => tame_op (by kernel_rfl)) rfl ?_ ?_
 refine o_stm0 enc_s ([] : Str) ((revK l i).getD j []) ty_9 rfl rfl rfl .z rfl (by omega) rfl rfl rfl ?_
 refine wl_nil ?_
 refine eu_tail rfl ?_
 refine u_many (js := [2, 3]) (by kernel_rfl) rfl ?_
 refine wru_cons (i := 2) rfl rfl rfl (fun _ _ _ => tame_op (by kernel_rfl)) rfl ?_ ?_
 refine o_y (y_move rfl) rfl rfl ?_
 refine wl_nil ?_
 refine eu_tail rfl ?_
 refine u_one (i := 3) rfl rfl rfl (fun _ _ _ => tame_op (by kernel_rfl)) (by kernel_rfl) rfl ?_
 refine o_y (y_move rfl) rfl rfl ?_
 refine wl_nil ?_
 refine eu_tail rfl ?_
 refine wu_as (t := 16) (.slice A ((revK l i).set i ((revK l i).getD j [])).length c) rfl (by simp [revK_len]) ?_
 refine u_one (i := 14) rfl rfl rfl (fun _ _ _ => tame_op (by kernel_rfl)) (by kernel_rfl) rfl ?_
 refine o_y (y_ixm  Tryz.underlying139 ty_9 rfl rfl (rs_L 0 rfl) rfl (by simp [revK_len]; omega)) rfl rfl ?_
 refine wl_nil ?_
 refine eu_tail rfl ?_
 refine u_one (i := 15) rfl rfl rfl (fun _ _ _ => tame_op (by kernel_rfl)) (by kernel_rfl) rfl ?_
 refine o_stm0 enc_s ([] : Str) ((revK l i).getD i []) ty_9 rfl rfl rfl .z rfl (by simp [revK_len]; omega) rfl rfl rfl ?_
 refine wl_nil ?_
 refine eu_tail rfl ?_
 refine u_done (by kernel_rfl) ?_
 refine e_blk ?_
 refine e_seq ?_
 refine w_region ?_
 refine o_y (y_move rfl) rfl rfl ?_
 refine o_y (y_addi rfl rfl (by omega) (by omega)) rfl rfl ?_
 refine o_y (y_move rfl) rfl rfl ?_
 refine o_y (y_subi rfl rfl (by omega) (by omega)) rfl rfl ?_
 refine o_y (y_assign rfl) rfl rfl ?_
 refine o_y (y_assign rfl) rfl rfl ?_
 refine wl_nil ?_
 refine e_back ((i + 1, (j : Int) - 1)) ?_ ?_ ⟨rfl, rfl, trivial⟩ (by repeat (first | exact trivial | refine ⟨rfl, ?_⟩)) (fun w h => by show Hp _ _ (Ch.ls _ _ _ _ _ (revK l (i + 1)) :: _) _ _; rw [← revK_step (l := l) (i := i) (j := j) (by omega) (by omega)]; exact h)
 exact ⟨by show 2 * (i + 1) ≤ _; omega, by show (j : Int) - 1 = _; omega⟩
 show l.length - (i + 1) < l.length - i
 omega
 refine wru_cons (i := 3) rfl rfl rfl (fun _ _ _ => tame_op (by kernel_rfl)) rfl ?_ ?_
 refine o_y (y_move rfl) rfl rfl ?_
 refine wl_nil ?_
 refine eu_tail rfl ?_
 refine u_one (i := 2) rfl rfl rfl (fun _ _ _ => tame_op (by kernel_rfl)) (by kernel_rfl) rfl ?_
 refine o_y (y_move rfl) rfl rfl ?_
 refine wl_nil ?_
 refine eu_tail rfl ?_
 refine wu_as (t := 16) (.slice A ((revK l i).set i ((revK l i).getD j [])).length c) rfl (by simp [revK_len]) ?_
 refine u_one (i := 14) rfl rfl rfl (fun _ _ _ => tame_op (by kernel_rfl)) (by kernel_rfl) rfl ?_
 refine o_y (y_ixm  Tryz.underlying139 ty_9 rfl rfl (rs_L 0 rfl) rfl (by simp [revK_len]; omega)) rfl rfl ?_
 refine wl_nil ?_
 refine eu_tail rfl ?_
 refine u_one (i := 15) rfl rfl rfl (fun _ _ _ => tame_op (by kernel_rfl)) (by kernel_rfl) rfl ?_
 refine o_stm0 enc_s ([] : Str) ((revK l i).getD i []) ty_9 rfl rfl rfl .z rfl (by simp [revK_len]; omega) rfl rfl rfl ?_
 refine wl_nil ?_
 refine eu_tail rfl ?_
 refine u_done (by kernel_rfl) ?_
 refine e_blk ?_
 refine e_seq ?_
 refine w_region ?_
 refine o_y (y_move rfl) rfl rfl ?_
 refine o_y (y_addi rfl rfl (by omega) (by omega)) rfl rfl ?_
 refine o_y (y_move rfl) rfl rfl ?_
 refine o_y (y_subi rfl rfl (by omega) (by omega)) rfl rfl ?_
 refine o_y (y_assign rfl) rfl rfl ?_
 refine o_y (y_assign rfl) rfl rfl ?_
 refine wl_nil ?_
 refine e_back ((i + 1, (j : Int) - 1)) ?_ ?_ ⟨rfl, rfl, trivial⟩ (by repeat (first | exact trivial | refine ⟨rfl, ?_⟩)) (fun w h => by show Hp _ _ (Ch.ls _ _ _ _ _ (revK l (i + 1)) :: _) _ _; rw [← revK_step (l := l) (i := i) (j := j) (by omega) (by omega)]; exact h)
 exact ⟨by show 2 * (i + 1) ≤ _; omega, by show (j : Int) - 1 = _; omega⟩
 show l.length - (i + 1) < l.length - i
 omega
 exact wru_nil
 exact wru_nil
 refine wl_nil ?_
 refine e_seq ?_
 refine w_cond_f rfl ?_
 refine w_exit ?_
 refine e_seq_exit ?_
 refine e_loop_exit ?_
 refine e_blk_hit ?_
 refine e_end (ts := []) rfl rfl rfl (fun w hw => ?_)
 obtain ⟨h1, h2, h3⟩ := (show Hp _ _ [Ch.ls A c 9 1 encs (revK l i)] _ _ from hw).uc
 have he : revK l i = l.reverse := revK_end (by omega)
 rw [he] at h2 h3
 exact ⟨(), rfl, h1, h2, h3⟩

theorem cmpI_len (a b : Nat) : cmpI (a : Int) (b : Int) = if a < b then -1 else if b < a then 1 else 0 := by
  unfold cmpI
  by_cases h1 : a < b
  · rw [if_pos h1, if_pos (by omega)]
  · rw [if_neg h1, if_neg (by omega)]
    by_cases h2 : b < a
    · rw [if_pos h2, if_pos (by omega)]
    · rw [if_neg h2, if_neg (by omega)]
theorem cmpN_end {a b : Str} {k : Nat} (h : cmpN a b = cmpLs ((labsN a).reverse.drop k) ((labsN b).reverse.drop k)) (h1 : k ≤ (labsN a).length) (h2 : k ≤ (labsN b).length) (he : k = (labsN a).length ∨ k = (labsN b).length) : cmpN a b = cmpI ((labsN a).length : Int) ((labsN b).length : Int) := by
  rw [h, cmpLs_end (by simp; omega) (by simpa using he), List.length_reverse, List.length_reverse, cmpI_len]

theorem c_name_Compare (a b : Str) (ha : a.length ≤ 1000000000) (hb : b.length ≤ 1000000000) : RC Tryz.prog 79 #[.string (ba a), .string (ba b)] [] (α := Unit) (fun _ => .int .i64 (cmpN a b)) (fun _ => []) := by
 refine rc_of_W (args := [.string (ba a), .string (ba b)]) 44 Tryz.func79 rfl rfl rfl (fun w0 => ?_)
 have hra : (labsN a).reverse.length = (labsN a).length := List.length_reverse
 have hrb : (labsN b).reverse.length = (labsN b).length := List.length_reverse
 have hla := labsN_le a (by omega)
 have hlb := labsN_le b (by omega)
 have hxa : ∀ s ∈ (labsN a).reverse, s.length ≤ 1000000000000 := fun s hs => by have := hla.2.1 s (List.mem_reverse.1 hs); omega
 have hxb : ∀ s ∈ (labsN b).reverse, s.length ≤ 1000000000000 := fun s hs => by have := hlb.2.1 s (List.mem_reverse.1 hs); omega
 have hxa2 : ∀ s ∈ labsN a, s.length ≤ 1000000000000 := fun s hs => by have := hla.2.1 s hs; omega
 have hxb2 : ∀ s ∈ labsN b, s.length ≤ 1000000000000 := fun s hs => by have := hlb.2.1 s hs; omega
 refine w_seq ?_
 refine w_region ?_
 refine o_y (y_assign rfl) rfl rfl ?_
 refine wl_nil ?_
 refine e_seq ?_
 refine w_seq ?_
 refine w_region ?_
 refine o_y (y_move rfl) rfl rfl ?_
 refine o_callr1 rfl ent_96 rfl (c_name_Labels _) (fun w hw => rd_nil) (fun ⟨A0, c0⟩ => ?_)
 refine o_y (y_move rfl) rfl rfl ?_
 refine o_callr1 rfl ent_96 rfl (c_name_Labels _) (fun w hw => rd_nil) (fun ⟨A1, c1⟩ => ?_)
 refine o_y (y_assign rfl) rfl rfl ?_
 refine o_y (y_assign rfl) rfl rfl ?_
 refine wl_nil ?_
 refine e_seq ?_
 refine w_seq ?_
 refine w_region ?_
 refine o_y (y_move rfl) rfl rfl ?_
 refine o_callu rfl ent_118 rfl (c_Reverse _ _ _ (by omega)) (fun o => (.s (.z))) (List.mem_of_getElem? (i := 1) rfl) (fun s hs => nomatch hs) (fun o2 => ?_)
 refine wl_nil ?_
 refine e_seq ?_
 refine w_seq ?_
 refine w_region ?_
 refine o_y (y_move rfl) rfl rfl ?_
 refine o_callu rfl ent_118 rfl (c_Reverse _ _ _ (by omega)) (fun o => .z) (List.mem_of_getElem? (i := 0) rfl) (fun s hs => nomatch hs) (fun o3 => ?_)
 refine wl_nil ?_
 refine e_seq ?_
 refine w_seq ?_
 refine w_seq ?_
 refine w_region ?_
 refine o_y (y_move rfl) rfl rfl ?_
 refine wl_as (t := 18) (.slice A0 (labsN a).reverse.length c0) rfl (by rw [List.length_reverse]) ?_
 refine o_y (y_lenl Tryz.underlying139 rfl) rfl rfl ?_
 refine o_y (y_move rfl) rfl rfl ?_
 refine wl_nil ?_
 refine e_seq ?_
 refine w_block ?_
 refine w_loop0 (σ := Nat) [4, 7, 8, 9, 20, 21, 22, 23, 24, 25, 26, 27, 28, 29, 30, 31, 32, 33, 34, 35, 36, 37, 38] (fun k => k ≤ (labsN a).length ∧ k ≤ (labsN b).length ∧ cmpN a b = cmpLs ((labsN a).reverse.drop k) ((labsN b).reverse.drop k)) (fun k => (labsN a).length - k) (fun k => [(20, .int .i64 k)]) (0) ?_ ⟨rfl, trivial⟩ (fun k hI => ?_)
 exact ⟨Nat.zero_le _, Nat.zero_le _, rfl⟩
 refine w_seq ?_
 refine w_region ?_
 refine o_y (y_lss rfl rfl) rfl rfl ?_
 refine wl_splitp (t := 21) rfl (fun h5_0 => ?_) (fun h5_0 => ?_)
 refine wl_nil ?_
 refine e_seq ?_
 refine w_seq ?_
 refine w_cond_t rfl ?_
 refine w_skip ?_
 refine e_seq ?_
 refine w_seq ?_
 refine w_block ?_
 refine w_seq ?_
 refine w_region ?_
 refine o_y (y_move rfl) rfl rfl ?_
 refine o_y (y_ixm  Tryz.underlying139 ty_9 rfl rfl (rs_L 1 rfl) rfl (by simp; omega)) rfl rfl ?_
 refine o_y (y_ldm0 enc_s ([] : Str) ty_9 rfl (rs_L 1 rfl) (by simp; omega) rfl rfl) rfl rfl ?_
 refine o_y (y_assign rfl) rfl rfl ?_
 refine o_y (y_assign rfl) rfl rfl ?_
 refine wl_nil ?_
 refine e_seq ?_
 refine w_seq ?_
 refine w_seq ?_
 refine w_region ?_
 refine o_y (y_move rfl) rfl rfl ?_
 refine o_y (y_move rfl) rfl rfl ?_
 refine o_y (y_lenl Tryz.underlying139 rfl) rfl rfl ?_
 refine o_y (y_eql rfl rfl) rfl rfl ?_
 refine wl_splitp (t := 28) rfl (fun h7_3 => ?_) (fun h7_3 => ?_)
 refine wl_nil ?_
 refine e_seq ?_
 refine w_cond_t rfl ?_
 refine w_exit ?_
 refine e_seq_exit ?_
 refine e_blk_miss rfl ?_
 refine e_seq_exit ?_
 refine e_loop_exit ?_
 refine e_blk_hit ?_
 refine e_seq ?_
 refine w_seq ?_
 refine w_region ?_
 refine o_y (y_move rfl) rfl rfl ?_
 refine o_y (y_lenl Tryz.underlying139 rfl) rfl rfl ?_
 refine o_y (y_move rfl) rfl rfl ?_
 refine o_y (y_lenl Tryz.underlying139 rfl) rfl rfl ?_
 refine o_callp rfl ent_106 (c_cmpI _ _) rfl ?_
 refine o_y (y_assign rfl) rfl rfl ?_
 refine wl_nil ?_
 refine e_seq ?_
 refine w_ret ?_
 refine e_ret (ts := [4]) rfl rfl rfl (fun w hw => ?_)
 focus first
   | (have he : cmpN a b = cmpS (lowS ((labsN a).reverse.getD k [])) (lowS ((labsN b).reverse.getD k [])) := by rw [hI.2.2, cmpLs_step (s := (labsN a).reverse) (t := (labsN b).reverse) (k := k) (by simp; omega) (by simp; omega), if_pos h9_1]
      exact ⟨(), by rw [he]; rfl, hw.base, (hw.weak (List.nil_sublist _) (fun s hs => hs)).toNews⟩)
   | (have he := cmpN_end hI.2.2 hI.1 hI.2.1 (by omega)
      exact ⟨(), by rw [he]; rfl, hw.base, (hw.weak (List.nil_sublist _) (fun s hs => hs)).toNews⟩)
   | (trace_state; fail)
 refine wl_nil ?_
 refine e_seq ?_
 refine w_cond_f rfl ?_
 refine w_skip ?_
 refine e_seq ?_
 refine w_seq ?_
 refine w_region ?_
 refine o_y (y_move rfl) rfl rfl ?_
 refine o_y (y_move rfl) rfl rfl ?_
 refine wl_as (t := 30) (.slice A1 (labsN b).reverse.length c1) rfl (by rw [List.length_reverse]) ?_
 refine o_y (y_move rfl) rfl rfl ?_
 refine o_y (y_ixm  Tryz.underlying139 ty_9 rfl rfl (rs_L 0 rfl) rfl (by simp; omega)) rfl rfl ?_
 refine o_y (y_ldm0 enc_s ([] : Str) ty_9 rfl (rs_L 0 rfl) (by simp; omega) rfl rfl) rfl rfl ?_
 refine o_callp rfl ent_119 (c_label_Compare _ _ (hxa _ (mem_getD (by simp; omega))) (hxb _ (mem_getD (by simp; omega)))) rfl ?_
 refine o_y (y_assign rfl) rfl rfl ?_
 refine wl_nil ?_
 refine e_seq ?_
 refine w_seq ?_
 refine w_region ?_
 refine o_y (y_move rfl) rfl rfl ?_
 refine o_y (y_neq rfl rfl) rfl rfl ?_
 refine wl_splitp (t := 36) rfl (fun h9_1 => ?_) (fun h9_1 => ?_)
 refine wl_nil ?_
 refine e_seq ?_
 refine w_cond_t rfl ?_
 refine w_seq ?_
 refine w_region ?_
 refine o_y (y_move rfl) rfl rfl ?_
 refine o_y (y_assign rfl) rfl rfl ?_
 refine wl_nil ?_
 refine e_seq ?_
 refine w_ret ?_
 refine e_blk_ret ?_
 refine e_seq_ret ?_
 refine e_loop_ret ?_
 refine e_blk_ret ?_
 refine e_seq_ret ?_
 refine e_ret (ts := [4]) rfl rfl rfl (fun w hw => ?_)
 focus first
   | (have he : cmpN a b = cmpS (lowS ((labsN a).reverse.getD k [])) (lowS ((labsN b).reverse.getD k [])) := by rw [hI.2.2, cmpLs_step (s := (labsN a).reverse) (t := (labsN b).reverse) (k := k) (by simp; omega) (by simp; omega), if_pos h9_1]
      exact ⟨(), by rw [he]; rfl, hw.base, (hw.weak (List.nil_sublist _) (fun s hs => hs)).toNews⟩)
   | (have he := cmpN_end hI.2.2 hI.1 hI.2.1 (by omega)
      exact ⟨(), by rw [he]; rfl, hw.base, (hw.weak (List.nil_sublist _) (fun s hs => hs)).toNews⟩)
   | (trace_state; fail)
 refine wl_nil ?_
 refine e_seq ?_
 refine w_cond_f rfl ?_
 refine w_skip ?_
 refine e_blk ?_
 refine e_seq ?_
 refine w_region ?_
 refine o_y (y_addi rfl rfl (by omega) (by omega)) rfl rfl ?_
 refine o_y (y_move rfl) rfl rfl ?_
 refine wl_nil ?_
 refine e_back (k + 1) ?_ ?_ ⟨rfl, trivial⟩ (by repeat (first | exact trivial | refine ⟨rfl, ?_⟩)) (fun w h => h)
 exact ⟨by omega, by omega, by rw [hI.2.2, cmpLs_step (s := (labsN a).reverse) (t := (labsN b).reverse) (k := k) (by simp; omega) (by simp; omega), if_neg h9_1]⟩
 omega
 refine wl_nil ?_
 refine e_seq ?_
 refine w_seq ?_
 refine w_cond_f rfl ?_
 refine w_exit ?_
 refine e_seq_exit ?_
 refine e_loop_exit ?_
 refine e_blk_hit ?_
 refine e_seq ?_
 refine w_seq ?_
 refine w_region ?_
 refine o_y (y_move rfl) rfl rfl ?_
 refine o_y (y_lenl Tryz.underlying139 rfl) rfl rfl ?_
 refine o_y (y_move rfl) rfl rfl ?_
 refine o_y (y_lenl Tryz.underlying139 rfl) rfl rfl ?_
 refine o_callp rfl ent_106 (c_cmpI _ _) rfl ?_
 refine o_y (y_assign rfl) rfl rfl ?_
 refine wl_nil ?_
 refine e_seq ?_
 refine w_ret ?_
 refine e_ret (ts := [4]) rfl rfl rfl (fun w hw => ?_)
 focus first
   | (have he : cmpN a b = cmpS (lowS ((labsN a).reverse.getD k [])) (lowS ((labsN b).reverse.getD k [])) := by rw [hI.2.2, cmpLs_step (s := (labsN a).reverse) (t := (labsN b).reverse) (k := k) (by simp; omega) (by simp; omega), if_pos h9_1]
      exact ⟨(), by rw [he]; rfl, hw.base, (hw.weak (List.nil_sublist _) (fun s hs => hs)).toNews⟩)
   | (have he := cmpN_end hI.2.2 hI.1 hI.2.1 (by omega)
      exact ⟨(), by rw [he]; rfl, hw.base, (hw.weak (List.nil_sublist _) (fun s hs => hs)).toNews⟩)
   | (trace_state; fail)

theorem p_name_Compare (a b : Str) (ha : a.length ≤ 1000000000) (hb : b.length ≤ 1000000000) : Pure Tryz.prog 79 #[.string (ba a), .string (ba b)] (.int .i64 (cmpN a b)) := rc_pure (c_name_Compare a b ha hb)

set_option maxRecDepth 100000 in
theorem c_ref01_Compare (a b : Str) (ha : a.length ≤ 1000000000000) (hb : b.length ≤ 1000000000000) : Pure Tryz.prog 130 #[.string (ba a), .string (ba b)] (.int .i64 (cmpS (lowS a) (lowS b))) := by
 intro w0
 have hl1 := lowS_length a
 have hl2 := lowS_length b
 refine calls_of_W (ok0 := no) (S := []) (args := [.string (ba a), .string (ba b)]) 48 Tryz.func130 rfl rfl rfl (by simp) (by simp) ?_
 refine w_seq ?_
 refine w_region ?_
 refine o_y (y_assign rfl) rfl rfl ?_
 refine wl_nil ?_
 refine e_seq ?_
 refine w_seq ?_
 refine w_region ?_
 refine o_y (y_move rfl) rfl rfl ?_
 refine o_callp rfl ent_125 (c_ref01_Fold _ (by first | omega | (simp only [List.length_nil, List.length_cons, List.length_take, List.length_drop, List.length_append]; omega))) rfl ?_
 refine o_y (y_move rfl) rfl rfl ?_
 refine o_callp rfl ent_125 (c_ref01_Fold _ (by first | omega | (simp only [List.length_nil, List.length_cons, List.length_take, List.length_drop, List.length_append]; omega))) rfl ?_
 refine o_y (y_assign rfl) rfl rfl ?_
 refine o_y (y_assign rfl) rfl rfl ?_
 refine wl_nil ?_
 refine e_seq ?_
 refine w_seq ?_
 refine w_seq ?_
 refine w_region ?_
 refine o_y (y_assign rfl) rfl rfl ?_
 refine wl_nil ?_
 refine e_seq ?_
 refine w_block ?_
 refine w_loop0 (σ := Nat) [4, 5, 10, 11, 12, 13, 14, 15, 16, 17, 18, 19, 20, 21, 22, 23, 24, 25, 26, 27, 28, 29, 30, 31, 32, 33, 34, 35] (fun k => k ≤ (lowS a).length ∧ k ≤ (lowS b).length ∧ cmpS (lowS a) (lowS b) = cmpS ((lowS a).drop k) ((lowS b).drop k)) (fun k => (lowS a).length - k) (fun k => [(5, .int .i64 k)]) (0) ?_ ⟨rfl, trivial⟩ (fun k hI => ?_)
 exact ⟨Nat.zero_le _, Nat.zero_le _, rfl⟩
 refine w_seq ?_
 refine w_seq ?_
 refine w_region ?_
 refine o_y (y_move rfl) rfl rfl ?_
 refine o_y (y_move rfl) rfl rfl ?_
 refine o_y (y_lens Tryz.underlying9 rfl) rfl rfl ?_
 refine o_y (y_lss rfl rfl) rfl rfl ?_
 refine wl_splitp (t := 13) rfl (fun h3_3 => ?_) (fun h3_3 => ?_)
 refine o_y (y_move rfl) rfl rfl ?_
 refine wl_gyes rfl rfl ?_
 refine o_y (y_move rfl) rfl rfl ?_
 refine wl_gyes rfl rfl ?_
 refine o_y (y_move rfl) rfl rfl ?_
 refine wl_gyes rfl rfl ?_
 refine o_y (y_lens Tryz.underlying9 rfl) rfl rfl ?_
 refine wl_gyes rfl rfl ?_
 refine o_y (y_lss rfl rfl) rfl rfl ?_
 refine wl_splitp (t := 18) rfl (fun h3_8 => ?_) (fun h3_8 => ?_)
 refine o_y (y_pick_t rfl rfl) rfl rfl ?_
 refine wl_nil ?_
 refine e_seq ?_
 refine w_cond_t rfl ?_
 refine w_skip ?_
 refine e_seq ?_
 refine w_seq ?_
 refine w_block ?_
 refine w_seq ?_
 refine w_seq ?_
 refine w_draw 7 rfl mixed ?_
 refine a_take (i := 0) rfl wanted_none (y_move rfl) (fun w h => h) (fun w h => h) rfl (pk_seq (pk_seq (pk_blk (pk_seq (pk_loop (pk_blk (pk_seq pk_fn))))))) (by kernel_rfl) rfl ?_
 refine a_take (i := 1) rfl wanted_none (y_move rfl) (fun w h => h) (fun w h => h) rfl (pk_seq (pk_seq (pk_blk (pk_seq (pk_loop (pk_blk (pk_seq pk_fn))))))) (by kernel_rfl) rfl ?_
 refine a_take (i := 2) rfl wanted_none (y_indexs  Tryz.underlying9 rfl rfl rfl (by omega)) (fun w h => h) (fun w h => h) rfl (pk_seq (pk_seq (pk_blk (pk_seq (pk_loop (pk_blk (pk_seq pk_fn))))))) (by kernel_rfl) rfl ?_
 refine a_take (i := 3) rfl wanted_none (y_move rfl) (fun w h => h) (fun w h => h) rfl (pk_seq (pk_seq (pk_blk (pk_seq (pk_loop (pk_blk (pk_seq pk_fn))))))) (by kernel_rfl) rfl ?_
 refine a_take (i := 4) rfl wanted_none (y_move rfl) (fun w h => h) (fun w h => h) rfl (pk_seq (pk_seq (pk_blk (pk_seq (pk_loop (pk_blk (pk_seq pk_fn))))))) (by kernel_rfl) rfl ?_
 refine a_take (i := 5) rfl wanted_none (y_indexs  Tryz.underlying9 rfl rfl rfl (by omega)) (fun w h => h) (fun w h => h) rfl (pk_seq (pk_seq (pk_blk (pk_seq (pk_loop (pk_blk (pk_seq pk_fn))))))) (by kernel_rfl) rfl ?_
 refine a_take (i := 6) rfl wanted_none (y_lss rfl rfl) (fun w h => h) (fun w h => h) rfl (pk_seq (pk_seq (pk_blk (pk_seq (pk_loop (pk_blk (pk_seq pk_fn))))))) (by kernel_rfl) rfl ?_
 refine wa_splitp (t := 28) rfl (fun h5_6 => ?_) (fun h5_6 => ?_)
 refine a_done (by kernel_rfl) ?_
 refine e_seq ?_
 refine w_cond_t rfl ?_
 refine w_seq ?_
 refine w_region ?_
 refine o_y (y_assign rfl) rfl rfl ?_
 refine wl_nil ?_
 refine e_seq ?_
 refine w_ret ?_
 refine e_seq_ret ?_
 refine e_blk_ret ?_
 refine e_seq_ret ?_
 refine e_loop_ret ?_
 refine e_blk_ret ?_
 refine e_seq_ret ?_
 refine e_ret (ts := [4]) rfl rfl rfl (fun w hw => ?_)
 refine ⟨?_, hw.base⟩
 show Ending.returned (.int _ _) = _
 congr 2
 focus first
   | (rw [hI.2.2, cmpS_step (s := lowS a) (t := lowS b) (k := k) (by omega) (by omega), if_pos (by omega)]
      done)
   | (rw [hI.2.2, cmpS_step (s := lowS a) (t := lowS b) (k := k) (by omega) (by omega), if_neg (by omega), if_pos (by omega)]
      done)
   | (rw [hI.2.2, cmpS_end ⟨hI.1, hI.2.1⟩ (by omega)]
      focus first | (rw [if_pos (by omega)]; done) | (rw [if_neg (by omega), if_pos (by omega)]; done) | (rw [if_neg (by omega), if_neg (by omega)]; done))
   | (trace_state; fail)
 refine a_done (by kernel_rfl) ?_
 refine e_seq ?_
 refine w_cond_f rfl ?_
 refine w_skip ?_
 refine e_seq ?_
 refine w_seq ?_
 refine w_draw 7 rfl mixed ?_
 refine a_take (i := 0) rfl wanted_none (y_move rfl) (fun w h => h) (fun w h => h) rfl (pk_seq (pk_blk (pk_seq (pk_loop (pk_blk (pk_seq pk_fn)))))) (by kernel_rfl) rfl ?_
 refine a_take (i := 1) rfl wanted_none (y_move rfl) (fun w h => h) (fun w h => h) rfl (pk_seq (pk_blk (pk_seq (pk_loop (pk_blk (pk_seq pk_fn)))))) (by kernel_rfl) rfl ?_
 refine a_take (i := 2) rfl wanted_none (y_indexs  Tryz.underlying9 rfl rfl rfl (by omega)) (fun w h => h) (fun w h => h) rfl (pk_seq (pk_blk (pk_seq (pk_loop (pk_blk (pk_seq pk_fn)))))) (by kernel_rfl) rfl ?_
 refine a_take (i := 3) rfl wanted_none (y_move rfl) (fun w h => h) (fun w h => h) rfl (pk_seq (pk_blk (pk_seq (pk_loop (pk_blk (pk_seq pk_fn)))))) (by kernel_rfl) rfl ?_
 refine a_take (i := 4) rfl wanted_none (y_move rfl) (fun w h => h) (fun w h => h) rfl (pk_seq (pk_blk (pk_seq (pk_loop (pk_blk (pk_seq pk_fn)))))) (by kernel_rfl) rfl ?_
 refine a_take (i := 5) rfl wanted_none (y_indexs  Tryz.underlying9 rfl rfl rfl (by omega)) (fun w h => h) (fun w h => h) rfl (pk_seq (pk_blk (pk_seq (pk_loop (pk_blk (pk_seq pk_fn)))))) (by kernel_rfl) rfl ?_
 refine a_take (i := 6) rfl wanted_none (y_gtr rfl rfl) (fun w h => h) (fun w h => h) rfl (pk_seq (pk_blk (pk_seq (pk_loop (pk_blk (pk_seq pk_fn)))))) (by kernel_rfl) rfl ?_
 refine wa_splitp (t := 35) rfl (fun h7_6 => ?_) (fun h7_6 => ?_)
 refine a_done (by kernel_rfl) ?_
 refine e_seq ?_
 refine w_cond_t rfl ?_
 refine w_seq ?_
 refine w_region ?_
 refine o_y (y_assign rfl) rfl rfl ?_
 refine wl_nil ?_
 refine e_seq ?_
 refine w_ret ?_
 refine e_blk_ret ?_
 refine e_seq_ret ?_
 refine e_loop_ret ?_
 refine e_blk_ret ?_
 refine e_seq_ret ?_
 refine e_ret (ts := [4]) rfl rfl rfl (fun w hw => ?_)
 refine ⟨?_, hw.base⟩
 show Ending.returned (.int _ _) = _
 congr 2
 focus first
   | (rw [hI.2.2, cmpS_step (s := lowS a) (t := lowS b) (k := k) (by omega) (by omega), if_pos (by omega)]
      done)
   | (rw [hI.2.2, cmpS_step (s := lowS a) (t := lowS b) (k := k) (by omega) (by omega), if_neg (by omega), if_pos (by omega)]
      done)
   | (rw [hI.2.2, cmpS_end ⟨hI.1, hI.2.1⟩ (by omega)]
      focus first | (rw [if_pos (by omega)]; done) | (rw [if_neg (by omega), if_pos (by omega)]; done) | (rw [if_neg (by omega), if_neg (by omega)]; done))
   | (trace_state; fail)
 refine a_done (by kernel_rfl) ?_
 refine e_seq ?_
 refine w_cond_f rfl ?_
 refine w_skip ?_
 refine e_blk ?_
 refine e_seq ?_
 refine w_region ?_
 refine o_y (y_move rfl) rfl rfl ?_
 refine o_y (y_addi rfl rfl (by omega) (by omega)) rfl rfl ?_
 refine o_y (y_assign rfl) rfl rfl ?_
 refine wl_nil ?_
 refine e_back (k + 1) ?_ ?_ ⟨rfl, trivial⟩ (by repeat (first | exact trivial | refine ⟨rfl, ?_⟩)) (fun w h => h)
 exact ⟨by omega, by omega, by rw [hI.2.2, cmpS_step (s := lowS a) (t := lowS b) (k := k) (by omega) (by omega), if_neg (by omega), if_neg (by omega)]⟩
 omega
 refine o_y (y_pick_t rfl rfl) rfl rfl ?_
 refine wl_nil ?_
 refine e_seq ?_
 refine w_cond_f rfl ?_
 refine w_exit ?_
 refine e_seq_exit ?_
 refine e_loop_exit ?_
 refine e_blk_hit ?_
 refine e_seq ?_
 refine w_seq ?_
 refine w_block ?_
 refine w_seq ?_
 refine w_region ?_
 refine o_y (y_move rfl) rfl rfl ?_
 refine o_y (y_lens Tryz.underlying9 rfl) rfl rfl ?_
 refine o_y (y_move rfl) rfl rfl ?_
 refine o_y (y_lens Tryz.underlying9 rfl) rfl rfl ?_
 refine o_y (y_lss rfl rfl) rfl rfl ?_
 refine wl_splitp (t := 41) rfl (fun h9_4 => ?_) (fun h9_4 => ?_)
 refine o_y (y_assign rfl) rfl rfl ?_
 refine wl_nil ?_
 refine e_seq ?_
 refine w_cond_t rfl ?_
 refine w_seq ?_
 refine w_region ?_
 refine o_y (y_assign rfl) rfl rfl ?_
 refine wl_nil ?_
 refine e_seq ?_
 refine w_ret ?_
 refine e_blk_ret ?_
 refine e_seq_ret ?_
 refine e_ret (ts := [4]) rfl rfl rfl (fun w hw => ?_)
 refine ⟨?_, hw.base⟩
 show Ending.returned (.int _ _) = _
 congr 2
 focus first
   | (rw [hI.2.2, cmpS_step (s := lowS a) (t := lowS b) (k := k) (by omega) (by omega), if_pos (by omega)]
      done)
   | (rw [hI.2.2, cmpS_step (s := lowS a) (t := lowS b) (k := k) (by omega) (by omega), if_neg (by omega), if_pos (by omega)]
      done)
   | (rw [hI.2.2, cmpS_end ⟨hI.1, hI.2.1⟩ (by omega)]
      focus first | (rw [if_pos (by omega)]; done) | (rw [if_neg (by omega), if_pos (by omega)]; done) | (rw [if_neg (by omega), if_neg (by omega)]; done))
   | (trace_state; fail)
 refine o_y (y_assign rfl) rfl rfl ?_
 refine wl_nil ?_
 refine e_seq ?_
 refine w_cond_f rfl ?_
 refine w_seq ?_
 refine w_region ?_
 refine o_y (y_move rfl) rfl rfl ?_
 refine o_y (y_lens Tryz.underlying9 rfl) rfl rfl ?_
 refine o_y (y_move rfl) rfl rfl ?_
 refine o_y (y_lens Tryz.underlying9 rfl) rfl rfl ?_
 refine o_y (y_gtr rfl rfl) rfl rfl ?_
 refine wl_splitp (t := 47) rfl (fun h11_4 => ?_) (fun h11_4 => ?_)
 refine o_y (y_assign rfl) rfl rfl ?_
 refine wl_nil ?_
 refine e_seq ?_
 refine w_cond_t rfl ?_
 refine w_seq ?_
 refine w_region ?_
 refine o_y (y_assign rfl) rfl rfl ?_
 refine wl_nil ?_
 refine e_seq ?_
 refine w_ret ?_
 refine e_blk_ret ?_
 refine e_seq_ret ?_
 refine e_ret (ts := [4]) rfl rfl rfl (fun w hw => ?_)
 refine ⟨?_, hw.base⟩
 show Ending.returned (.int _ _) = _
 congr 2
 focus first
   | (rw [hI.2.2, cmpS_step (s := lowS a) (t := lowS b) (k := k) (by omega) (by omega), if_pos (by omega)]
      done)
   | (rw [hI.2.2, cmpS_step (s := lowS a) (t := lowS b) (k := k) (by omega) (by omega), if_neg (by omega), if_pos (by omega)]
      done)
   | (rw [hI.2.2, cmpS_end ⟨hI.1, hI.2.1⟩ (by omega)]
      focus first | (rw [if_pos (by omega)]; done) | (rw [if_neg (by omega), if_pos (by omega)]; done) | (rw [if_neg (by omega), if_neg (by omega)]; done))
   | (trace_state; fail)
 refine o_y (y_assign rfl) rfl rfl ?_
 refine wl_nil ?_
 refine e_seq ?_
 refine w_cond_f rfl ?_
 refine w_skip ?_
 refine e_blk ?_
 refine e_seq ?_
 refine w_seq ?_
 refine w_region ?_
 refine o_y (y_assign rfl) rfl rfl ?_
 refine wl_nil ?_
 refine e_seq ?_
 refine w_ret ?_
 refine e_ret (ts := [4]) rfl rfl rfl (fun w hw => ?_)
 refine ⟨?_, hw.base⟩
 show Ending.returned (.int _ _) = _
 congr 2
 focus first
   | (rw [hI.2.2, cmpS_step (s := lowS a) (t := lowS b) (k := k) (by omega) (by omega), if_pos (by omega)]
      done)
   | (rw [hI.2.2, cmpS_step (s := lowS a) (t := lowS b) (k := k) (by omega) (by omega), if_neg (by omega), if_pos (by omega)]
      done)
   | (rw [hI.2.2, cmpS_end ⟨hI.1, hI.2.1⟩ (by omega)]
      focus first | (rw [if_pos (by omega)]; done) | (rw [if_neg (by omega), if_pos (by omega)]; done) | (rw [if_neg (by omega), if_neg (by omega)]; done))
   | (trace_state; fail)
 refine o_y (y_move rfl) rfl rfl ?_
 refine wl_gno rfl rfl rfl rfl ?_
 refine wl_gno rfl rfl rfl rfl ?_
 refine wl_gno rfl rfl rfl rfl ?_
 refine wl_gno rfl rfl rfl rfl ?_
 refine o_y (y_pick_f rfl rfl) rfl rfl ?_
 refine wl_nil ?_
 refine e_seq ?_
 refine w_cond_f rfl ?_
 refine w_exit ?_
 refine e_seq_exit ?_
 refine e_loop_exit ?_
 refine e_blk_hit ?_
 refine e_seq ?_
 refine w_seq ?_
 refine w_block ?_
 refine w_seq ?_
 refine w_region ?_
 refine o_y (y_move rfl) rfl rfl ?_
 refine o_y (y_lens Tryz.underlying9 rfl) rfl rfl ?_
 refine o_y (y_move rfl) rfl rfl ?_
 refine o_y (y_lens Tryz.underlying9 rfl) rfl rfl ?_
 refine o_y (y_lss rfl rfl) rfl rfl ?_
 refine wl_splitp (t := 41) rfl (fun h9_4 => ?_) (fun h9_4 => ?_)
 refine o_y (y_assign rfl) rfl rfl ?_
 refine wl_nil ?_
 refine e_seq ?_
 refine w_cond_t rfl ?_
 refine w_seq ?_
 refine w_region ?_
 refine o_y (y_assign rfl) rfl rfl ?_
 refine wl_nil ?_
 refine e_seq ?_
 refine w_ret ?_
 refine e_blk_ret ?_
 refine e_seq_ret ?_
 refine e_ret (ts := [4]) rfl rfl rfl (fun w hw => ?_)
 refine ⟨?_, hw.base⟩
 show Ending.returned (.int _ _) = _
 congr 2
 focus first
   | (rw [hI.2.2, cmpS_step (s := lowS a) (t := lowS b) (k := k) (by omega) (by omega), if_pos (by omega)]
      done)
   | (rw [hI.2.2, cmpS_step (s := lowS a) (t := lowS b) (k := k) (by omega) (by omega), if_neg (by omega), if_pos (by omega)]
      done)
   | (rw [hI.2.2, cmpS_end ⟨hI.1, hI.2.1⟩ (by omega)]
      focus first | (rw [if_pos (by omega)]; done) | (rw [if_neg (by omega), if_pos (by omega)]; done) | (rw [if_neg (by omega), if_neg (by omega)]; done))
   | (trace_state; fail)
 refine o_y (y_assign rfl) rfl rfl ?_
 refine wl_nil ?_
 refine e_seq ?_
 refine w_cond_f rfl ?_
 refine w_seq ?_
 refine w_region ?_
 refine o_y (y_move rfl) rfl rfl ?_
 refine o_y (y_lens Tryz.underlying9 rfl) rfl rfl ?_
 refine o_y (y_move rfl) rfl rfl ?_
 refine o_y (y_lens Tryz.underlying9 rfl) rfl rfl ?_
 refine o_y (y_gtr rfl rfl) rfl rfl ?_
 refine wl_splitp (t := 47) rfl (fun h11_4 => ?_) (fun h11_4 => ?_)
 refine o_y (y_assign rfl) rfl rfl ?_
 refine wl_nil ?_
 refine e_seq ?_
 refine w_cond_t rfl ?_
 refine w_seq ?_
 refine w_region ?_
 refine o_y (y_assign rfl) rfl rfl ?_
 refine wl_nil ?_
 refine e_seq ?_
 refine w_ret ?_
 refine e_blk_ret ?_
 refine e_seq_ret ?_
 refine e_ret (ts := [4]) rfl rfl rfl (fun w hw => ?_)
 refine ⟨?_, hw.base⟩
 show Ending.returned (.int _ _) = _
 congr 2
 focus first
   | (rw [hI.2.2, cmpS_step (s := lowS a) (t := lowS b) (k := k) (by omega) (by omega), if_pos (by omega)]
      done)
   | (rw [hI.2.2, cmpS_step (s := lowS a) (t := lowS b) (k := k) (by omega) (by omega), if_neg (by omega), if_pos (by omega)]
      done)
   | (rw [hI.2.2, cmpS_end ⟨hI.1, hI.2.1⟩ (by omega)]
      focus first | (rw [if_pos (by omega)]; done) | (rw [if_neg (by omega), if_pos (by omega)]; done) | (rw [if_neg (by omega), if_neg (by omega)]; done))
   | (trace_state; fail)
 refine o_y (y_assign rfl) rfl rfl ?_
 refine wl_nil ?_
 refine e_seq ?_
 refine w_cond_f rfl ?_
 refine w_skip ?_
 refine e_blk ?_
 refine e_seq ?_
 refine w_seq ?_
 refine w_region ?_
 refine o_y (y_assign rfl) rfl rfl ?_
 refine wl_nil ?_
 refine e_seq ?_
 refine w_ret ?_
 refine e_ret (ts := [4]) rfl rfl rfl (fun w hw => ?_)
 refine ⟨?_, hw.base⟩
 show Ending.returned (.int _ _) = _
 congr 2
 focus first
   | (rw [hI.2.2, cmpS_step (s := lowS a) (t := lowS b) (k := k) (by omega) (by omega), if_pos (by omega)]
      done)
   | (rw [hI.2.2, cmpS_step (s := lowS a) (t := lowS b) (k := k) (by omega) (by omega), if_neg (by omega), if_pos (by omega)]
      done)
   | (rw [hI.2.2, cmpS_end ⟨hI.1, hI.2.1⟩ (by omega)]
      focus first | (rw [if_pos (by omega)]; done) | (rw [if_neg (by omega), if_pos (by omega)]; done) | (rw [if_neg (by omega), if_neg (by omega)]; done))
   | (trace_state; fail)

theorem rget (l : List Str) {k : Nat} (h : k < l.length) : l.getD (l.length - 1 - k) [] = l.reverse.getD k [] := (rev_getD h).symm

set_option maxRecDepth 100000 in
theorem c_ref02_Compare (a b : Str) (ha : a.length ≤ 1000000000) (hb : b.length ≤ 1000000000) : RC Tryz.prog 91 #[.string (ba a), .string (ba b)] [] (α := Unit) (fun _ => .int .i64 (cmpN a b)) (fun _ => []) := by
 refine rc_of_W (args := [.string (ba a), .string (ba b)]) 55 Tryz.func91 rfl rfl rfl (fun w0 => ?_)
 have hra : (labsN a).reverse.length = (labsN a).length := List.length_reverse
 have hrb : (labsN b).reverse.length = (labsN b).length := List.length_reverse
 have hla := labsN_le a (by omega)
 have hlb := labsN_le b (by omega)
 have hxa : ∀ s ∈ (labsN a).reverse, s.length ≤ 1000000000000 := fun s hs => by have := hla.2.1 s (List.mem_reverse.1 hs); omega
 have hxb : ∀ s ∈ (labsN b).reverse, s.length ≤ 1000000000000 := fun s hs => by have := hlb.2.1 s (List.mem_reverse.1 hs); omega
 have hxa2 : ∀ s ∈ labsN a, s.length ≤ 1000000000000 := fun s hs => by have := hla.2.1 s hs; omega
 have hxb2 : ∀ s ∈ labsN b, s.length ≤ 1000000000000 := fun s hs => by have := hlb.2.1 s hs; omega
 refine w_seq ?_
 refine w_region ?_
 refine o_y (y_assign rfl) rfl rfl ?_
 refine wl_nil ?_
 refine e_seq ?_
 refine w_seq ?_
 refine w_region ?_
 refine o_y (y_move rfl) rfl rfl ?_
 refine o_callr1 rfl ent_124 rfl (c_ref02_Labels _) (fun w hw => rd_nil) (fun ⟨A0, c0⟩ => ?_)
 refine o_y (y_move rfl) rfl rfl ?_
 refine o_callr1 rfl ent_124 rfl (c_ref02_Labels _) (fun w hw => rd_nil) (fun ⟨A1, c1⟩ => ?_)
 refine o_y (y_assign rfl) rfl rfl ?_
 refine o_y (y_assign rfl) rfl rfl ?_
 refine wl_nil ?_
 refine e_seq ?_
 refine w_seq ?_
 refine w_seq ?_
 refine w_region ?_
 refine o_y (y_assign rfl) rfl rfl ?_
 refine wl_nil ?_
 refine e_seq ?_
 refine w_block ?_
 refine w_loop0 (σ := Nat) [4, 7, 8, 13, 14, 15, 16, 17, 18, 19, 20, 21, 22, 23, 24, 25, 26, 27, 28, 29, 30, 31, 32, 33, 34, 35, 36, 37, 38, 39, 40, 41, 42] (fun k => k ≤ (labsN a).length ∧ k ≤ (labsN b).length ∧ cmpN a b = cmpLs ((labsN a).reverse.drop k) ((labsN b).reverse.drop k)) (fun k => (labsN a).length - k) (fun k => [(7, .int .i64 ((k : Int) + 1))]) (0) ?_ ⟨rfl, trivial⟩ (fun k hI => ?_)
 exact ⟨Nat.zero_le _, Nat.zero_le _, rfl⟩
 refine w_seq ?_
 refine w_seq ?_
 refine w_region ?_
 refine o_y (y_move rfl) rfl rfl ?_
 refine o_y (y_move rfl) rfl rfl ?_
 refine o_y (y_lenl Tryz.underlying139 rfl) rfl rfl ?_
 refine o_y (y_leq rfl rfl) rfl rfl ?_
 refine wl_splitp (t := 16) rfl (fun h3_3 => ?_) (fun h3_3 => ?_)
 refine o_y (y_move rfl) rfl rfl ?_
 refine wl_gyes rfl rfl ?_
 refine o_y (y_move rfl) rfl rfl ?_
 refine wl_gyes rfl rfl ?_
 refine o_y (y_move rfl) rfl rfl ?_
 refine wl_gyes rfl rfl ?_
 refine o_y (y_lenl Tryz.underlying139 rfl) rfl rfl ?_
 refine wl_gyes rfl rfl ?_
 refine o_y (y_leq rfl rfl) rfl rfl ?_
 refine wl_splitp (t := 21) rfl (fun h3_8 => ?_) (fun h3_8 => ?_)
 refine o_y (y_pick_t rfl rfl) rfl rfl ?_
 refine wl_nil ?_
 refine e_seq ?_
 refine w_cond_t rfl ?_
 refine w_skip ?_
 refine e_seq ?_
 refine w_seq ?_
 refine w_block ?_
 refine w_seq ?_
 refine w_draw 16 rfl mixed ?_
 refine a_take (i := 0) rfl wanted_none (y_move rfl) (fun w h => h) (fun w h => h) rfl (pk_seq (pk_blk (pk_seq (pk_loop (pk_blk (pk_seq pk_fn)))))) (by kernel_rfl) rfl ?_
 refine a_take (i := 1) rfl wanted_none (y_move rfl) (fun w h => h) (fun w h => h) rfl (pk_seq (pk_blk (pk_seq (pk_loop (pk_blk (pk_seq pk_fn)))))) (by kernel_rfl) rfl ?_
 refine a_take (i := 2) rfl wanted_none (y_lenl Tryz.underlying139 rfl) (fun w h => h) (fun w h => h) rfl (pk_seq (pk_blk (pk_seq (pk_loop (pk_blk (pk_seq pk_fn)))))) (by kernel_rfl) rfl ?_
 refine a_take (i := 3) rfl wanted_none (y_move rfl) (fun w h => h) (fun w h => h) rfl (pk_seq (pk_blk (pk_seq (pk_loop (pk_blk (pk_seq pk_fn)))))) (by kernel_rfl) rfl ?_
 refine a_take (i := 4) rfl wanted_none (y_subi rfl rfl (by omega) (by omega)) (fun w h => h) (fun w h => h) rfl (pk_seq (pk_blk (pk_seq (pk_loop (pk_blk (pk_seq pk_fn)))))) (by kernel_rfl) rfl ?_
 refine a_take (i := 5) rfl wanted_none (y_ixm (k := (labsN a).length - 1 - k) Tryz.underlying139 ty_9 rfl rfl (rs_L 1 rfl) (by omega) (by omega)) (fun w h => h) (fun w h => h) rfl (pk_seq (pk_blk (pk_seq (pk_loop (pk_blk (pk_seq pk_fn)))))) (by kernel_rfl) rfl ?_
 refine a_take (i := 6) rfl wanted_none (y_ldm0 enc_s ([] : Str) ty_9 rfl (rs_L 1 rfl) (by omega) rfl rfl) (fun w h => h) (fun w h => h) rfl (pk_seq (pk_blk (pk_seq (pk_loop (pk_blk (pk_seq pk_fn)))))) (by kernel_rfl) rfl ?_
 refine wa_as (t := 31) (.string (ba ((labsN a).reverse.getD k []))) rfl (by rw [rget _ (by omega)]) ?_
 refine a_take (i := 7) rfl wanted_none (y_move rfl) (fun w h => h) (fun w h => h) rfl (pk_seq (pk_blk (pk_seq (pk_loop (pk_blk (pk_seq pk_fn)))))) (by kernel_rfl) rfl ?_
 refine a_take (i := 8) rfl wanted_none (y_move rfl) (fun w h => h) (fun w h => h) rfl (pk_seq (pk_blk (pk_seq (pk_loop (pk_blk (pk_seq pk_fn)))))) (by kernel_rfl) rfl ?_
 refine a_take (i := 9) rfl wanted_none (y_lenl Tryz.underlying139 rfl) (fun w h => h) (fun w h => h) rfl (pk_seq (pk_blk (pk_seq (pk_loop (pk_blk (pk_seq pk_fn)))))) (by kernel_rfl) rfl ?_
 refine a_take (i := 10) rfl wanted_none (y_move rfl) (fun w h => h) (fun w h => h) rfl (pk_seq (pk_blk (pk_seq (pk_loop (pk_blk (pk_seq pk_fn)))))) (by kernel_rfl) rfl ?_
 refine a_take (i := 11) rfl wanted_none (y_subi rfl rfl (by omega) (by omega)) (fun w h => h) (fun w h => h) rfl (pk_seq (pk_blk (pk_seq (pk_loop (pk_blk (pk_seq pk_fn)))))) (by kernel_rfl) rfl ?_
 refine a_take (i := 12) rfl wanted_none (y_ixm (k := (labsN b).length - 1 - k) Tryz.underlying139 ty_9 rfl rfl (rs_L 0 rfl) (by omega) (by omega)) (fun w h => h) (fun w h => h) rfl (pk_seq (pk_blk (pk_seq (pk_loop (pk_blk (pk_seq pk_fn)))))) (by kernel_rfl) rfl ?_
 refine a_take (i := 13) rfl wanted_none (y_ldm0 enc_s ([] : Str) ty_9 rfl (rs_L 0 rfl) (by omega) rfl rfl) (fun w h => h) (fun w h => h) rfl (pk_seq (pk_blk (pk_seq (pk_loop (pk_blk (pk_seq pk_fn)))))) (by kernel_rfl) rfl ?_
 refine wa_as (t := 38) (.string (ba ((labsN b).reverse.getD k []))) rfl (by rw [rget _ (by omega)]) ?_
 refine a_one (i := 14) rfl rfl rfl (tame_call rfl ent_130) (by kernel_rfl) rfl ?_
 refine o_callp rfl ent_130 (c_ref01_Compare _ _ (hxa _ (mem_getD (by simp; omega))) (hxb _ (mem_getD (by simp; omega)))) rfl ?_
 refine wl_nil ?_
 refine e_one (fun w h => h) ?_
 refine a_take (i := 15) rfl wanted_none (y_assign rfl) (fun w h => h) (fun w h => h) rfl (pk_seq (pk_blk (pk_seq (pk_loop (pk_blk (pk_seq pk_fn)))))) (by kernel_rfl) rfl ?_
 refine a_done (by kernel_rfl) ?_
 refine e_seq ?_
 refine w_seq ?_
 refine w_region ?_
 refine o_y (y_move rfl) rfl rfl ?_
 refine o_y (y_neq rfl rfl) rfl rfl ?_
 refine wl_splitp (t := 41) rfl (fun h6_1 => ?_) (fun h6_1 => ?_)
 refine wl_nil ?_
 refine e_seq ?_
 refine w_cond_t rfl ?_
 refine w_seq ?_
 refine w_region ?_
 refine o_y (y_move rfl) rfl rfl ?_
 refine o_y (y_assign rfl) rfl rfl ?_
 refine wl_nil ?_
 refine e_seq ?_
 refine w_ret ?_
 refine e_blk_ret ?_
 refine e_seq_ret ?_
 refine e_loop_ret ?_
 refine e_blk_ret ?_
 refine e_seq_ret ?_
 refine e_ret (ts := [4]) rfl rfl rfl (fun w hw => ?_)
 focus first
   | (have he : cmpN a b = cmpS (lowS ((labsN a).reverse.getD k [])) (lowS ((labsN b).reverse.getD k [])) := by rw [hI.2.2, cmpLs_step (s := (labsN a).reverse) (t := (labsN b).reverse) (k := k) (by simp; omega) (by simp; omega), if_pos h6_1]
      exact ⟨(), by rw [he]; rfl, hw.base, (hw.weak (List.nil_sublist _) (fun s hs => hs)).toNews⟩)
   | (have he := cmpN_end hI.2.2 hI.1 hI.2.1 (by omega)
      rw [cmpI_len] at he
      refine ⟨(), ?_, hw.base, (hw.weak (List.nil_sublist _) (fun s hs => hs)).toNews⟩
      rw [he]
      show Ending.returned (.int _ _) = _
      congr 2
      focus first | (rw [if_pos (by omega)]; done) | (rw [if_neg (by omega), if_pos (by omega)]; done) | (rw [if_neg (by omega), if_neg (by omega)]; done))
   | (trace_state; fail)
 refine wl_nil ?_
 refine e_seq ?_
 refine w_cond_f rfl ?_
 refine w_skip ?_
 refine e_blk ?_
 refine e_seq ?_
 refine w_region ?_
 refine o_y (y_move rfl) rfl rfl ?_
 refine o_y (y_addi rfl rfl (by omega) (by omega)) rfl rfl ?_
 refine o_y (y_assign rfl) rfl rfl ?_
 refine wl_nil ?_
 refine e_back (k + 1) ?_ ?_ ⟨lk rfl (by congr 1), trivial⟩ (by repeat (first | exact trivial | refine ⟨rfl, ?_⟩)) (fun w h => h)
 exact ⟨by omega, by omega, by rw [hI.2.2, cmpLs_step (s := (labsN a).reverse) (t := (labsN b).reverse) (k := k) (by simp; omega) (by simp; omega), if_neg h6_1]⟩
 omega
 refine o_y (y_pick_t rfl rfl) rfl rfl ?_
 refine wl_nil ?_
 refine e_seq ?_
 refine w_cond_f rfl ?_
 refine w_exit ?_
 refine e_seq_exit ?_
 refine e_loop_exit ?_
 refine e_blk_hit ?_
 refine e_seq ?_
 refine w_seq ?_
 refine w_block ?_
 refine w_seq ?_
 refine w_region ?_
 refine o_y (y_move rfl) rfl rfl ?_
 refine o_y (y_lenl Tryz.underlying139 rfl) rfl rfl ?_
 refine o_y (y_move rfl) rfl rfl ?_
 refine o_y (y_lenl Tryz.underlying139 rfl) rfl rfl ?_
 refine o_y (y_lss rfl rfl) rfl rfl ?_
 refine wl_splitp (t := 48) rfl (fun h8_4 => ?_) (fun h8_4 => ?_)
 refine o_y (y_assign rfl) rfl rfl ?_
 refine wl_nil ?_
 refine e_seq ?_
 refine w_cond_t rfl ?_
 refine w_seq ?_
 refine w_region ?_
 refine o_y (y_assign rfl) rfl rfl ?_
 refine wl_nil ?_
 refine e_seq ?_
 refine w_ret ?_
 refine e_blk_ret ?_
 refine e_seq_ret ?_
 refine e_ret (ts := [4]) rfl rfl rfl (fun w hw => ?_)
 focus first
   | (have he : cmpN a b = cmpS (lowS ((labsN a).reverse.getD k [])) (lowS ((labsN b).reverse.getD k [])) := by rw [hI.2.2, cmpLs_step (s := (labsN a).reverse) (t := (labsN b).reverse) (k := k) (by simp; omega) (by simp; omega), if_pos h6_1]
      exact ⟨(), by rw [he]; rfl, hw.base, (hw.weak (List.nil_sublist _) (fun s hs => hs)).toNews⟩)
   | (have he := cmpN_end hI.2.2 hI.1 hI.2.1 (by omega)
      rw [cmpI_len] at he
      refine ⟨(), ?_, hw.base, (hw.weak (List.nil_sublist _) (fun s hs => hs)).toNews⟩
      rw [he]
      show Ending.returned (.int _ _) = _
      congr 2
      focus first | (rw [if_pos (by omega)]; done) | (rw [if_neg (by omega), if_pos (by omega)]; done) | (rw [if_neg (by omega), if_neg (by omega)]; done))
   | (trace_state; fail)
 refine o_y (y_assign rfl) rfl rfl ?_
 refine wl_nil ?_
 refine e_seq ?_
 refine w_cond_f rfl ?_
 refine w_seq ?_
 refine w_region ?_
 refine o_y (y_move rfl) rfl rfl ?_
 refine o_y (y_lenl Tryz.underlying139 rfl) rfl rfl ?_
 refine o_y (y_move rfl) rfl rfl ?_
 refine o_y (y_lenl Tryz.underlying139 rfl) rfl rfl ?_
 refine o_y (y_gtr rfl rfl) rfl rfl ?_
 refine wl_splitp (t := 54) rfl (fun h10_4 => ?_) (fun h10_4 => ?_)
 refine o_y (y_assign rfl) rfl rfl ?_
 refine wl_nil ?_
 refine e_seq ?_
 refine w_cond_t rfl ?_
 refine w_seq ?_
 refine w_region ?_
 refine o_y (y_assign rfl) rfl rfl ?_
 refine wl_nil ?_
 refine e_seq ?_
 refine w_ret ?_
 refine e_blk_ret ?_
 refine e_seq_ret ?_
 refine e_ret (ts := [4]) rfl rfl rfl (fun w hw => ?_)
 focus first
   | (have he : cmpN a b = cmpS (lowS ((labsN a).reverse.getD k [])) (lowS ((labsN b).reverse.getD k [])) := by rw [hI.2.2, cmpLs_step (s := (labsN a).reverse) (t := (labsN b).reverse) (k := k) (by simp; omega) (by simp; omega), if_pos h6_1]
      exact ⟨(), by rw [he]; rfl, hw.base, (hw.weak (List.nil_sublist _) (fun s hs => hs)).toNews⟩)
   | (have he := cmpN_end hI.2.2 hI.1 hI.2.1 (by omega)
      rw [cmpI_len] at he
      refine ⟨(), ?_, hw.base, (hw.weak (List.nil_sublist _) (fun s hs => hs)).toNews⟩
      rw [he]
      show Ending.returned (.int _ _) = _
      congr 2
      focus first | (rw [if_pos (by omega)]; done) | (rw [if_neg (by omega), if_pos (by omega)]; done) | (rw [if_neg (by omega), if_neg (by omega)]; done))
   | (trace_state; fail)
 refine o_y (y_assign rfl) rfl rfl ?_
 refine wl_nil ?_
 refine e_seq ?_
 refine w_cond_f rfl ?_
 refine w_skip ?_
 refine e_blk ?_
 refine e_seq ?_
 refine w_seq ?_
 refine w_region ?_
 refine o_y (y_assign rfl) rfl rfl ?_
 refine wl_nil ?_
 refine e_seq ?_
 refine w_ret ?_
 refine e_ret (ts := [4]) rfl rfl rfl (fun w hw => ?_)
 focus first
   | (have he : cmpN a b = cmpS (lowS ((labsN a).reverse.getD k [])) (lowS ((labsN b).reverse.getD k [])) := by rw [hI.2.2, cmpLs_step (s := (labsN a).reverse) (t := (labsN b).reverse) (k := k) (by simp; omega) (by simp; omega), if_pos h6_1]
      exact ⟨(), by rw [he]; rfl, hw.base, (hw.weak (List.nil_sublist _) (fun s hs => hs)).toNews⟩)
   | (have he := cmpN_end hI.2.2 hI.1 hI.2.1 (by omega)
      rw [cmpI_len] at he
      refine ⟨(), ?_, hw.base, (hw.weak (List.nil_sublist _) (fun s hs => hs)).toNews⟩
      rw [he]
      show Ending.returned (.int _ _) = _
      congr 2
      focus first | (rw [if_pos (by omega)]; done) | (rw [if_neg (by omega), if_pos (by omega)]; done) | (rw [if_neg (by omega), if_neg (by omega)]; done))
   | (trace_state; fail)
 refine o_y (y_move rfl) rfl rfl ?_
 refine wl_gno rfl rfl rfl rfl ?_
 refine wl_gno rfl rfl rfl rfl ?_
 refine wl_gno rfl rfl rfl rfl ?_
 refine wl_gno rfl rfl rfl rfl ?_
 refine o_y (y_pick_f rfl rfl) rfl rfl ?_
 refine wl_nil ?_
 refine e_seq ?_
 refine w_cond_f rfl ?_
 refine w_exit ?_
 refine e_seq_exit ?_
 refine e_loop_exit ?_
 refine e_blk_hit ?_
 refine e_seq ?_
 refine w_seq ?_
 refine w_block ?_
 refine w_seq ?_
 refine w_region ?_
 refine o_y (y_move rfl) rfl rfl ?_
 refine o_y (y_lenl Tryz.underlying139 rfl) rfl rfl ?_
 refine o_y (y_move rfl) rfl rfl ?_
 refine o_y (y_lenl Tryz.underlying139 rfl) rfl rfl ?_
 refine o_y (y_lss rfl rfl) rfl rfl ?_
 refine wl_splitp (t := 48) rfl (fun h8_4 => ?_) (fun h8_4 => ?_)
 refine o_y (y_assign rfl) rfl rfl ?_
 refine wl_nil ?_
 refine e_seq ?_
 refine w_cond_t rfl ?_
 refine w_seq ?_
 refine w_region ?_
 refine o_y (y_assign rfl) rfl rfl ?_
 refine wl_nil ?_
 refine e_seq ?_
 refine w_ret ?_
 refine e_blk_ret ?_
 refine e_seq_ret ?_
 refine e_ret (ts := [4]) rfl rfl rfl (fun w hw => ?_)
 focus first
   | (have he : cmpN a b = cmpS (lowS ((labsN a).reverse.getD k [])) (lowS ((labsN b).reverse.getD k [])) := by rw [hI.2.2, cmpLs_step (s := (labsN a).reverse) (t := (labsN b).reverse) (k := k) (by simp; omega) (by simp; omega), if_pos h6_1]
      exact ⟨(), by rw [he]; rfl, hw.base, (hw.weak (List.nil_sublist _) (fun s hs => hs)).toNews⟩)
   | (have he := cmpN_end hI.2.2 hI.1 hI.2.1 (by omega)
      rw [cmpI_len] at he
      refine ⟨(), ?_, hw.base, (hw.weak (List.nil_sublist _) (fun s hs => hs)).toNews⟩
      rw [he]
      show Ending.returned (.int _ _) = _
      congr 2
      focus first | (rw [if_pos (by omega)]; done) | (rw [if_neg (by omega), if_pos (by omega)]; done) | (rw [if_neg (by omega), if_neg (by omega)]; done))
   | (trace_state; fail)
 refine o_y (y_assign rfl) rfl rfl ?_
 refine wl_nil ?_
 refine e_seq ?_
 refine w_cond_f rfl ?_
 refine w_seq ?_
 refine w_region ?_
 refine o_y (y_move rfl) rfl rfl ?_
 refine o_y (y_lenl Tryz.underlying139 rfl) rfl rfl ?_
 refine o_y (y_move rfl) rfl rfl ?_
 refine o_y (y_lenl Tryz.underlying139 rfl) rfl rfl ?_
 refine o_y (y_gtr rfl rfl) rfl rfl ?_
 refine wl_splitp (t := 54) rfl (fun h10_4 => ?_) (fun h10_4 => ?_)
 refine o_y (y_assign rfl) rfl rfl ?_
 refine wl_nil ?_
 refine e_seq ?_
 refine w_cond_t rfl ?_
 refine w_seq ?_
 refine w_region ?_
 refine o_y (y_assign rfl) rfl rfl ?_
 refine wl_nil ?_
 refine e_seq ?_
 refine w_ret ?_
 refine e_blk_ret ?_
 refine e_seq_ret ?_
 refine e_ret (ts := [4]) rfl rfl rfl (fun w hw => ?_)
 focus first
   | (have he : cmpN a b = cmpS (lowS ((labsN a).reverse.getD k [])) (lowS ((labsN b).reverse.getD k [])) := by rw [hI.2.2, cmpLs_step (s := (labsN a).reverse) (t := (labsN b).reverse) (k := k) (by simp; omega) (by simp; omega), if_pos h6_1]
      exact ⟨(), by rw [he]; rfl, hw.base, (hw.weak (List.nil_sublist _) (fun s hs => hs)).toNews⟩)
   | (have he := cmpN_end hI.2.2 hI.1 hI.2.1 (by omega)
      rw [cmpI_len] at he
      refine ⟨(), ?_, hw.base, (hw.weak (List.nil_sublist _) (fun s hs => hs)).toNews⟩
      rw [he]
      show Ending.returned (.int _ _) = _
      congr 2
      focus first | (rw [if_pos (by omega)]; done) | (rw [if_neg (by omega), if_pos (by omega)]; done) | (rw [if_neg (by omega), if_neg (by omega)]; done))
   | (trace_state; fail)
 refine o_y (y_assign rfl) rfl rfl ?_
 refine wl_nil ?_
 refine e_seq ?_
 refine w_cond_f rfl ?_
 refine w_skip ?_
 refine e_blk ?_
 refine e_seq ?_
 refine w_seq ?_
 refine w_region ?_
 refine o_y (y_assign rfl) rfl rfl ?_
 refine wl_nil ?_
 refine e_seq ?_
 refine w_ret ?_
 refine e_ret (ts := [4]) rfl rfl rfl (fun w hw => ?_)
 focus first
   | (have he : cmpN a b = cmpS (lowS ((labsN a).reverse.getD k [])) (lowS ((labsN b).reverse.getD k [])) := by rw [hI.2.2, cmpLs_step (s := (labsN a).reverse) (t := (labsN b).reverse) (k := k) (by simp; omega) (by simp; omega), if_pos h6_1]
      exact ⟨(), by rw [he]; rfl, hw.base, (hw.weak (List.nil_sublist _) (fun s hs => hs)).toNews⟩)
   | (have he := cmpN_end hI.2.2 hI.1 hI.2.1 (by omega)
      rw [cmpI_len] at he
      refine ⟨(), ?_, hw.base, (hw.weak (List.nil_sublist _) (fun s hs => hs)).toNews⟩
      rw [he]
      show Ending.returned (.int _ _) = _
      congr 2
      focus first | (rw [if_pos (by omega)]; done) | (rw [if_neg (by omega), if_pos (by omega)]; done) | (rw [if_neg (by omega), if_neg (by omega)]; done))
   | (trace_state; fail)

theorem p_ref02_Compare (a b : Str) (ha : a.length ≤ 1000000000) (hb : b.length ≤ 1000000000) : Pure Tryz.prog 91 #[.string (ba a), .string (ba b)] (.int .i64 (cmpN a b)) := rc_pure (c_ref02_Compare a b ha hb)
end Go.Proofs.YtfmelbpgkbiooaaGreat
