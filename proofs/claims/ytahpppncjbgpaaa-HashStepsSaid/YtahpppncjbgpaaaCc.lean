/- hash: the sums -/
import Derived.Test.YtahpppncjbgpaaaCb
namespace Go.Proofs.Ytahpppncjbgpaaa
open Go.RowKit Go.Shelf
set_option linter.unusedVariables false
set_option linter.unusedSimpArgs false

theorem ent_13 : Enters Try.prog 13 := enters_of Try.func13 (by kernel_rfl) rfl
theorem ent_14 : Enters Try.prog 14 := enters_of Try.func14 (by kernel_rfl) rfl
theorem ent_15 : Enters Try.prog 15 := enters_of Try.func15 (by kernel_rfl) rfl
theorem ent_16 : Enters Try.prog 16 := enters_of Try.func16 (by kernel_rfl) rfl
theorem ent_17 : Enters Try.prog 17 := enters_of Try.func17 (by kernel_rfl) rfl
theorem ent_18 : Enters Try.prog 18 := enters_of Try.func18 (by kernel_rfl) rfl
theorem ty_3 : TyI Try.prog 3 false 1 8 (.int .i64 0) := TyI.mk' (by kernel_rfl) (fun _ => by kernel_rfl)


/-- The sum of octets, from a sum on. -/
def stepH (h : Int) (b : UInt8) : Int := IntKind.u64.wrap (bits .xor .u64 h b.toNat * 1099511628211)
def moreH (sum : Int) (s : Str) : Int := s.foldl stepH sum
def sumH (s : Str) : Int := moreH 14695981039346656037 s
def nameH (n : Str) : Int := sumH (foldN n)
/-- A name's slot. -/
def slotH (n : Str) (slots : Int) : Int := if slots < 1 then 0 else IntKind.i64.wrap (Int.tmod (nameH n) slots)
theorem moreH_append (h : Int) (s t : Str) : moreH h (s ++ t) = moreH (moreH h s) t := by simp [moreH]
theorem moreH_take (h : Int) (s : Str) (k : Nat) (hk : k < s.length) : moreH h (s.take (k + 1)) = stepH (moreH h (s.take k)) (s.getD k 0) := by
  rw [take_getD s 0 k hk, moreH_append]; rfl
theorem wrap64_rng (n : Int) : 0 ≤ IntKind.u64.wrap n ∧ IntKind.u64.wrap n ≤ 18446744073709551615 := by
  have : IntKind.u64.wrap n = n % 18446744073709551616 := rfl
  rw [this]; omega
theorem moreH_rng (h : Int) (h0 : 0 ≤ h ∧ h ≤ 18446744073709551615) : ∀ s : Str, 0 ≤ moreH h s ∧ moreH h s ≤ 18446744073709551615
  | [] => h0
  | b :: r => moreH_rng _ (wrap64_rng _) r
theorem sumH_rng (s : Str) : 0 ≤ sumH s ∧ sumH s ≤ 18446744073709551615 := moreH_rng _ (by omega) s



theorem slotH_val {n : Str} {slots : Int} (h1 : 1 ≤ slots) (h2 : slots ≤ 9223372036854775807) : slotH n slots = nameH n % slots ∧ 0 ≤ slotH n slots ∧ slotH n slots < slots := by
  have hr := sumH_rng (foldN n)
  have e : Int.tmod (nameH n) slots = nameH n % slots := Int.tmod_eq_emod_of_nonneg hr.1
  have l1 := Int.emod_nonneg (nameH n) (show slots ≠ 0 by omega)
  have l2 := Int.emod_lt_of_pos (nameH n) (show 0 < slots by omega)
  have e2 : slotH n slots = nameH n % slots := by rw [slotH, if_neg (by omega), e, wrap_i64 (by omega) (by omega)]
  rw [e2]; exact ⟨rfl, l1, l2⟩
theorem sumH_step (s : Str) (k : Nat) (hk : k < s.length) : moreH (sumH (s.take k)) ((s.take (k + 1)).drop k) = sumH (s.take (k + 1)) := by
  rw [sumH, ← moreH_append]
  congr 1
  have : s.take k = (s.take (k + 1)).take k := by rw [List.take_take, Nat.min_eq_left (by omega)]
  rw [this, List.take_append_drop]


theorem c_hash_More (sum : Int) (s : Str) (hs : s.length ≤ 1000000000000) : Pure Try.prog 15 #[.int .u64 sum, .string (ba s)] (.int .u64 (moreH sum s)) := by
  intro w0
  refine calls_of_W (ok0 := no) (S := []) (args := [.int .u64 sum, .string (ba s)]) 21 Try.func15 rfl rfl rfl (by simp) (by simp) ?_
  refine w_seq ?_
  refine w_region ?_
  refine o_y (y_assign rfl) rfl rfl ?_
  refine wl_nil ?_
  refine e_seq ?_
  refine w_seq ?_
  refine w_region ?_
  refine o_y (y_move rfl) rfl rfl ?_
  refine o_y (y_assign rfl) rfl rfl ?_
  refine wl_nil ?_
  refine e_seq ?_
  refine w_seq ?_
  refine w_seq ?_
  refine w_region ?_
  refine o_y (y_move rfl) rfl rfl ?_
  refine o_y (y_lens Try.underlying9 rfl) rfl rfl ?_
  refine o_y (y_move rfl) rfl rfl ?_
  refine wl_nil ?_
  refine e_seq ?_
  refine w_block ?_
  refine w_loop0 (σ := Nat) [4, 5, 9, 10, 11, 12, 13, 14, 15, 16, 17, 18, 19] (fun k => k ≤ s.length) (fun k => s.length - k) (fun k => [(9, .int .i64 k), (4, .int .u64 (moreH sum (s.take k)))]) (0) ?_ ⟨rfl, rfl, trivial⟩ (fun k hI => ?_)
  · exact Nat.zero_le _
  have hb := bt_lt s k
  refine w_seq ?_
  refine w_region ?_
  refine o_y (y_lss rfl rfl) rfl rfl ?_
  refine wl_splitp (t := 10) rfl (fun h3_0 => ?_) (fun h3_0 => ?_)
  · skip
    refine wl_nil ?_
    refine e_seq ?_
    refine w_seq ?_
    refine w_cond_t rfl ?_
    refine w_skip ?_
    refine e_seq ?_
    refine w_seq ?_
    refine w_block ?_
    refine w_seq ?_
    refine w_region ?_
    refine o_y (y_move rfl) rfl rfl ?_
    refine o_y (y_assign rfl) rfl rfl ?_
    refine wl_nil ?_
    refine e_seq ?_
    refine w_region ?_
    refine o_y (y_move rfl) rfl rfl ?_
    refine o_y (y_move rfl) rfl rfl ?_
    refine o_y (y_move rfl) rfl rfl ?_
    refine o_y (y_indexs  Try.underlying9 rfl rfl rfl (by omega)) rfl rfl ?_
    refine o_y (y_convi Try.underlying5 Try.underlying24 rfl (wrap_u64 (by omega) (by omega))) rfl rfl ?_
    refine o_y (y_xor rfl rfl) rfl rfl ?_
    refine o_y (y_mul rfl rfl) rfl rfl ?_
    refine o_y (y_assign rfl) rfl rfl ?_
    refine wl_nil ?_
    refine e_blk ?_
    refine e_seq ?_
    refine w_region ?_
    refine o_y (y_addi rfl rfl (by omega) (by omega)) rfl rfl ?_
    refine o_y (y_move rfl) rfl rfl ?_
    refine wl_nil ?_
    have hk : k < s.length := by omega
    refine e_back (k + 1) ?_ ?_ ⟨rfl, lk rfl (by rw [moreH_take sum s k hk]; rfl), trivial⟩ (by repeat (first | exact trivial | refine ⟨rfl, ?_⟩)) (fun w h => h)
    · omega
    · omega
  · skip
    refine wl_nil ?_
    refine e_seq ?_
    refine w_seq ?_
    refine w_cond_f rfl ?_
    refine w_exit ?_
    refine e_seq_exit ?_
    refine e_loop_exit ?_
    refine e_blk_hit ?_
    refine e_seq ?_
    refine w_seq ?_
    refine w_region ?_
    refine o_y (y_move rfl) rfl rfl ?_
    refine o_y (y_assign rfl) rfl rfl ?_
    refine wl_nil ?_
    refine e_seq ?_
    refine w_ret ?_
    refine e_ret (ts := [4]) rfl rfl rfl (fun w hw => ?_)
    obtain rfl : k = s.length := by omega
    exact ⟨by rw [List.take_length]; rfl, hw.base⟩

theorem c_hash_Sum (s : Str) (hs : s.length ≤ 1000000000000) : Pure Try.prog 14 #[.string (ba s)] (.int .u64 (sumH s)) := by
  intro w0
  refine calls_of_W (ok0 := no) (S := []) (args := [.string (ba s)]) 5 Try.func14 rfl rfl rfl (by simp) (by simp) ?_
  refine w_seq ?_
  refine w_region ?_
  refine o_y (y_assign rfl) rfl rfl ?_
  refine wl_nil ?_
  refine e_seq ?_
  refine w_seq ?_
  refine w_region ?_
  refine o_y (y_move rfl) rfl rfl ?_
  refine o_callp rfl ent_15 (c_hash_More _ _ (by first | omega | (simp only [List.length_nil, List.length_cons, List.length_take, List.length_drop, List.length_append]; omega))) rfl ?_
  refine o_y (y_assign rfl) rfl rfl ?_
  refine wl_nil ?_
  refine e_seq ?_
  refine w_ret ?_
  refine e_ret (ts := [2]) rfl rfl rfl (fun w hw => ?_)
  exact ⟨rfl, hw.base⟩


theorem foldN_le (n : Str) (hn : n.length ≤ 1000000000) : (foldN n).length ≤ 1000000000 := by
  unfold foldN; split
  · rw [lowS_length]; exact hn
  · simp


theorem c_hash_Name (n : Str) (hn : n.length ≤ 1000000000) : Pure Try.prog 16 #[.string (ba n)] (.int .u64 (nameH n)) := by
  intro w0
  have hfl := foldN_le n hn
  refine calls_of_W (ok0 := no) (S := []) (args := [.string (ba n)]) 6 Try.func16 rfl rfl rfl (by simp) (by simp) ?_
  refine w_seq ?_
  refine w_region ?_
  refine o_y (y_assign rfl) rfl rfl ?_
  refine wl_nil ?_
  refine e_seq ?_
  refine w_seq ?_
  refine w_region ?_
  refine o_y (y_move rfl) rfl rfl ?_
  refine o_callp rfl ent_17 (p_name_Fold _ (by omega)) rfl ?_
  refine o_callp rfl ent_14 (c_hash_Sum _ (by first | omega | (simp only [List.length_nil, List.length_cons, List.length_take, List.length_drop, List.length_append]; omega))) rfl ?_
  refine o_y (y_assign rfl) rfl rfl ?_
  refine wl_nil ?_
  refine e_seq ?_
  refine w_ret ?_
  refine e_ret (ts := [2]) rfl rfl rfl (fun w hw => ?_)
  exact ⟨rfl, hw.base⟩

theorem c_hash_Slot (n : Str) (slots : Int) (hn : n.length ≤ 1000000000) (h1 : -9223372036854775808 ≤ slots) (h2 : slots ≤ 9223372036854775807) : Pure Try.prog 18 #[.string (ba n), .int .i64 slots] (.int .i64 (slotH n slots)) := by
  intro w0
  refine calls_of_W (ok0 := no) (S := []) (args := [.string (ba n), .int .i64 slots]) 13 Try.func18 rfl rfl rfl (by simp) (by simp) ?_
  refine w_seq ?_
  refine w_region ?_
  refine o_y (y_assign rfl) rfl rfl ?_
  refine wl_nil ?_
  refine e_seq ?_
  refine w_seq ?_
  refine w_seq ?_
  refine w_region ?_
  refine o_y (y_move rfl) rfl rfl ?_
  refine o_y (y_lss rfl rfl) rfl rfl ?_
  refine wl_splitp (t := 6) rfl (fun h1_1 => ?_) (fun h1_1 => ?_)
  · skip
    refine wl_nil ?_
    refine e_seq ?_
    refine w_cond_t rfl ?_
    refine w_seq ?_
    refine w_region ?_
    refine o_y (y_assign rfl) rfl rfl ?_
    refine wl_nil ?_
    refine e_seq ?_
    refine w_ret ?_
    refine e_seq_ret ?_
    refine e_ret (ts := [4]) rfl rfl rfl (fun w hw => ?_)
    exact ⟨by rw [slotH, if_pos h1_1]; rfl, hw.base⟩
  · skip
    refine wl_nil ?_
    refine e_seq ?_
    refine w_cond_f rfl ?_
    refine w_skip ?_
    refine e_seq ?_
    refine w_seq ?_
    refine w_region ?_
    refine o_y (y_move rfl) rfl rfl ?_
    refine o_callp rfl ent_16 (c_hash_Name _ (by omega)) rfl ?_
    refine o_y (y_move rfl) rfl rfl ?_
    refine o_y (y_convi Try.underlying3 Try.underlying24 rfl (wrap_u64 (by omega) (by omega))) rfl rfl ?_
    refine o_y (y_rem rfl rfl (by omega)) rfl rfl ?_
    refine o_y (y_convii Try.underlying24 Try.underlying3 rfl) rfl rfl ?_
    refine o_y (y_assign rfl) rfl rfl ?_
    refine wl_nil ?_
    refine e_seq ?_
    refine w_ret ?_
    refine e_ret (ts := [4]) rfl rfl rfl (fun w hw => ?_)
    exact ⟨by rw [slotH, if_neg h1_1]; rfl, hw.base⟩

theorem c_law13_lives  : Pure Try.prog 13 #[] (.bool true) := by
  intro w0
  refine calls_of_W (ok0 := no) (S := []) (args := []) 7 Try.func13 rfl rfl rfl (by simp) (by simp) ?_
  refine w_seq ?_
  refine w_region ?_
  refine o_y (y_assign rfl) rfl rfl ?_
  refine wl_nil ?_
  refine e_seq ?_
  refine w_seq ?_
  refine w_region ?_
  refine o_callp rfl ent_14 (c_hash_Sum [] (by decide)) rfl ?_
  refine o_y (y_eql rfl rfl) rfl rfl ?_
  refine wl_at (t := 2) rfl (by kernel_rfl) ?_
  refine o_y (y_move rfl) rfl rfl ?_
  refine wl_gyes rfl rfl ?_
  refine o_callp rfl ent_14 (c_hash_Sum [97] (by decide)) rfl ?_
  refine wl_gyes rfl rfl ?_
  refine o_y (y_eql rfl rfl) rfl rfl ?_
  refine wl_at (t := 5) rfl (by kernel_rfl) ?_
  refine o_y (y_pick_t rfl rfl) rfl rfl ?_
  refine o_y (y_assign rfl) rfl rfl ?_
  refine wl_nil ?_
  refine e_seq ?_
  refine w_ret ?_
  refine e_ret (ts := [0]) rfl rfl rfl (fun w hw => ?_)
  exact ⟨rfl, hw.base⟩


/-- The slot that is looked at behind k others. -/
def atH (n : Str) (slots : Int) (k : Nat) : Int := if slots < 1 then 0 else (slotH n slots + k) % slots
def probeL (n : Str) (slots : Int) : List Int := (List.range slots.toNat).map (atH n slots)
theorem probeL_length (n : Str) (slots : Int) : (probeL n slots).length = slots.toNat := by simp [probeL]
theorem probeL_getD (n : Str) (slots : Int) (k : Nat) (h : k < slots.toNat) : (probeL n slots).getD k 0 = atH n slots k := by
  simp [probeL, List.getD_eq_getElem?_getD, h]
theorem emod_succ {x m : Int} (hm : 0 < m) : (x + 1) % m = if x % m + 1 = m then 0 else x % m + 1 := by
  have h0 := Int.emod_nonneg x (show m ≠ 0 by omega)
  have h1 := Int.emod_lt_of_pos x hm
  have e : x = x % m + m * (x / m) := (Int.emod_add_mul_ediv x m).symm
  have e2 : x + 1 = (x % m + 1) + m * (x / m) := by omega
  rw [e2, Int.add_mul_emod_self_left]
  split
  · rename_i h; rw [h]; exact Int.emod_self
  · exact Int.emod_eq_of_lt (by omega) (by omega)
theorem atH_zero {n : Str} {slots : Int} (h2 : slots ≤ 9223372036854775807) : atH n slots 0 = slotH n slots := by
  unfold atH
  by_cases h : slots < 1
  · rw [if_pos h, slotH, if_pos h]
  · obtain ⟨h3, h4, h5⟩ := slotH_val (n := n) (slots := slots) (by omega) h2
    rw [if_neg h]
    simpa using Int.emod_eq_of_lt h4 h5
theorem atH_rng {n : Str} {slots : Int} (h : 1 ≤ slots) (k : Nat) : 0 ≤ atH n slots k ∧ atH n slots k < slots := by
  unfold atH
  rw [if_neg (by omega)]
  exact ⟨Int.emod_nonneg _ (by omega), Int.emod_lt_of_pos _ (by omega)⟩
theorem atH_succ {n : Str} {slots : Int} (h : 1 ≤ slots) (k : Nat) : atH n slots (k + 1) = if atH n slots k + 1 = slots then 0 else atH n slots k + 1 := by
  have hs : ¬ slots < 1 := by omega
  simp only [atH, if_neg hs]
  rw [← emod_succ (by omega)]
  congr 1
  rw [Int.natCast_add]; omega
theorem iter_split {α : Type} (xs : List α) (d : α) (k : Nat) (h : k < xs.length) : xs = xs.take k ++ xs.getD k d :: xs.drop (k + 1) := by
  rw [← drop_getD xs d k h, List.take_append_drop]


theorem c_hash_Probe (n : Str) (slots : Int) : RC Try.prog 19 #[.string (ba n), .int .i64 slots] [] (α := Nat × Nat) (fun o => .func (.func 53) #[] #[.pointer (some ⟨o.1, 0, none⟩), .pointer (some ⟨o.2, 0, none⟩)]) (fun o => [Ch.row o.2 [.int .i64 slots] 3, Ch.row o.1 [.string (ba n)] 22]) := by
  refine rc_of_W (args := [.string (ba n), .int .i64 slots]) 6 Try.func19 rfl rfl rfl (fun w0 => ?_)
  refine w_seq ?_
  refine w_region ?_
  refine o_box rfl rfl rfl (fun b1 => ?_)
  refine o_box rfl rfl rfl (fun b2 => ?_)
  refine o_y (y_assign rfl) rfl rfl ?_
  refine wl_nil ?_
  refine e_seq ?_
  refine w_seq ?_
  refine w_region ?_
  refine o_y (y_makeFunc rfl rfl) rfl rfl ?_
  refine o_y (y_assign rfl) rfl rfl ?_
  refine wl_nil ?_
  refine e_seq ?_
  refine w_ret ?_
  refine e_ret (ts := [4]) rfl rfl rfl (fun w hw => ?_)
  exact ⟨(b1, b2), rfl, hw.base, (hw.weak (.cons_cons _ (.cons_cons _ .slnil)) (fun s hs => hs)).toNews⟩

theorem c_hash_Probe1 (n : Str) (slots : Int) (p q : Nat) (hn : n.length ≤ 1000000000) (h1 : -9223372036854775808 ≤ slots) (h2 : slots ≤ 9223372036854775807) : Iter Try.prog 53 [.pointer (some ⟨p, 0, none⟩), .pointer (some ⟨q, 0, none⟩)] [Ch.row p [.string (ba n)] 22, Ch.row q [.int .i64 slots] 3] enci (probeL n slots) := by
  refine iter_of_W 22 Try.func53 rfl rfl rfl (fun lr σ I Ix C Sc hy g0 hg0 w0 => ?_)
  refine w_seq ?_
  refine w_region ?_
  refine o_y (y_loadSo 0 ty_22 rfl rfl rfl) rfl rfl ?_
  refine o_y (y_loadSo 1 ty_3 rfl rfl rfl) rfl rfl ?_
  refine o_callp rfl ent_18 (c_hash_Slot _ _ (by omega) (by omega) (by omega)) rfl ?_
  refine o_y (y_assign rfl) rfl rfl ?_
  refine wl_nil ?_
  refine e_seq ?_
  refine w_seq ?_
  refine w_region ?_
  refine o_y (y_loadSo 1 ty_3 rfl rfl rfl) rfl rfl ?_
  refine o_y (y_max rfl rfl) rfl rfl ?_
  refine o_y (y_move rfl) rfl rfl ?_
  refine wl_nil ?_
  refine e_seq ?_
  refine w_block ?_
  refine w_loop1 (σ := Nat × σ) [4, 10, 11, 12, 13, 14, 15, 16, 17, 18, 19, 20, 21] (fun s => s.1 ≤ slots.toNat ∧ I ((probeL n slots).take s.1) s.2) (fun s => slots.toNat - s.1) (fun s => [(10, .int .i64 s.1), (4, .int .i64 (atH n slots s.1))]) (fun s => C s.2) ((0, g0)) ?_ ⟨rfl, lk rfl (congrArg (Value.int .i64) (atH_zero h2).symm), trivial⟩ rfl (fun s hI => ?_)
  · exact ⟨Nat.zero_le _, hg0⟩
  obtain ⟨k, g⟩ := s
  obtain ⟨hk, hI⟩ := hI
  dsimp only at hk hI ⊢
  refine w_seq ?_
  refine w_region ?_
  refine o_y (y_lss rfl rfl) rfl rfl ?_
  refine wl_splitp (t := 11) rfl (fun h2_0 => ?_) (fun h2_0 => ?_)
  · skip
    have hkl : k < slots.toNat := by
      split at h2_0 <;> omega
    have hs1 : 1 ≤ slots := by omega
    have har := atH_rng (n := n) hs1 k
    have hx2 := iter_split (probeL n slots) 0 k (by rw [probeL_length]; exact hkl)
    rw [probeL_getD n slots k hkl] at hx2
    refine wl_nil ?_
    refine e_seq ?_
    refine w_seq ?_
    refine w_cond_t rfl ?_
    refine w_skip ?_
    refine e_seq ?_
    refine w_seq ?_
    refine w_block ?_
    refine w_seq ?_
    refine w_seq ?_
    refine w_region ?_
    refine o_y (y_move rfl) rfl rfl ?_
    refine o_y (y_move rfl) rfl rfl ?_
    refine o_yield rfl rfl (hy _ (atH n slots k) _ g hx2 hI) (fun _ => .z) (fun s hs => List.mem_append_right _ hs) rfl (fun g' hT => ?_) (fun g' hF => ?_)
    · skip
      refine o_y (y_not rfl) rfl rfl ?_
      refine wl_nil ?_
      refine e_seq ?_
      refine w_cond_f rfl ?_
      refine w_skip ?_
      refine e_seq ?_
      refine w_seq ?_
      refine w_region ?_
      refine o_y (y_move rfl) rfl rfl ?_
      refine o_y (y_addi rfl rfl (by omega) (by omega)) rfl rfl ?_
      refine o_y (y_assign rfl) rfl rfl ?_
      refine wl_nil ?_
      refine e_seq ?_
      refine w_seq ?_
      refine w_region ?_
      refine o_y (y_move rfl) rfl rfl ?_
      refine o_y (y_loadSo 1 ty_3 rfl rfl rfl) rfl rfl ?_
      refine o_y (y_eql rfl rfl) rfl rfl ?_
      refine wl_splitp (t := 20) rfl (fun h5_2 => ?_) (fun h5_2 => ?_)
      · skip
        refine wl_nil ?_
        refine e_seq ?_
        refine w_cond_t rfl ?_
        refine w_region ?_
        refine o_y (y_assign rfl) rfl rfl ?_
        refine wl_nil ?_
        refine e_blk ?_
        refine e_seq ?_
        refine w_region ?_
        refine o_y (y_addi rfl rfl (by omega) (by omega)) rfl rfl ?_
        refine o_y (y_move rfl) rfl rfl ?_
        refine wl_nil ?_
        have hpl := take_getD (probeL n slots) 0 k (by rw [probeL_length]; exact hkl)
        rw [probeL_getD n slots k hkl] at hpl
        refine e_back ((k + 1, g')) ?_ ?_ ⟨rfl, lk rfl (congrArg (Value.int .i64) (by rw [atH_succ hs1 k]; first | rw [if_pos (by omega)] | rw [if_neg (by omega)])), trivial⟩ (by repeat (first | exact trivial | refine ⟨rfl, ?_⟩)) (fun w h => h)
        · exact ⟨by show k + 1 ≤ _; omega, by show I ((probeL n slots).take (k + 1)) g'; rw [hpl]; exact hT⟩
        · show slots.toNat - (k + 1) < slots.toNat - k
          omega
      · skip
        refine wl_nil ?_
        refine e_seq ?_
        refine w_cond_f rfl ?_
        refine w_skip ?_
        refine e_blk ?_
        refine e_seq ?_
        refine w_region ?_
        refine o_y (y_addi rfl rfl (by omega) (by omega)) rfl rfl ?_
        refine o_y (y_move rfl) rfl rfl ?_
        refine wl_nil ?_
        have hpl := take_getD (probeL n slots) 0 k (by rw [probeL_length]; exact hkl)
        rw [probeL_getD n slots k hkl] at hpl
        refine e_back ((k + 1, g')) ?_ ?_ ⟨rfl, lk rfl (congrArg (Value.int .i64) (by rw [atH_succ hs1 k]; first | rw [if_pos (by omega)] | rw [if_neg (by omega)])), trivial⟩ (by repeat (first | exact trivial | refine ⟨rfl, ?_⟩)) (fun w h => h)
        · exact ⟨by show k + 1 ≤ _; omega, by show I ((probeL n slots).take (k + 1)) g'; rw [hpl]; exact hT⟩
        · show slots.toNat - (k + 1) < slots.toNat - k
          omega
    · skip
      refine o_y (y_not rfl) rfl rfl ?_
      refine wl_nil ?_
      refine e_seq ?_
      refine w_cond_t rfl ?_
      refine w_ret ?_
      refine e_seq_ret ?_
      refine e_blk_ret ?_
      refine e_seq_ret ?_
      refine e_loop_ret ?_
      refine e_blk_ret ?_
      refine e_ret (ts := []) rfl rfl rfl (fun w hw => ?_)
      exact iter_end _ (.inr ⟨_, _, by rw [List.append_assoc]; exact hx2, hF⟩) hw
  · skip
    refine wl_nil ?_
    refine e_seq ?_
    refine w_seq ?_
    refine w_cond_f rfl ?_
    refine w_exit ?_
    refine e_seq_exit ?_
    refine e_loop_exit ?_
    refine e_blk_hit ?_
    refine e_end (ts := []) rfl rfl rfl (fun w hw => ?_)
    have hkk : k = slots.toNat := by split at h2_0 <;> omega
    rw [hkk, ← probeL_length n slots, List.take_length] at hI
    exact iter_end _ (.inl hI) hw

theorem c_HashSteps (n s : Str) (hn : n.length ≤ 9223372036854775807) (hs : s.length ≤ 9223372036854775807) : Pure Try.prog 3 #[.string (ba n), .string (ba s)] (.bool true) := by
  intro w0
  refine calls_of_W (ok0 := no) (S := []) (args := [.string (ba n), .string (ba s)]) 63 Try.func3 rfl rfl rfl (by simp) (by simp) ?_
  refine w_seq ?_
  refine w_region ?_
  refine o_y (y_assign rfl) rfl rfl ?_
  refine wl_nil ?_
  refine e_seq ?_
  refine w_seq ?_
  refine w_seq ?_
  refine w_region ?_
  refine o_callp rfl ent_13 c_law13_lives rfl ?_
  refine o_y (y_not rfl) rfl rfl ?_
  refine wl_nil ?_
  refine e_seq ?_
  refine w_cond_f rfl ?_
  refine w_skip ?_
  refine e_seq ?_
  refine w_seq ?_
  refine w_seq ?_
  refine w_region ?_
  refine o_y (y_move rfl) rfl rfl ?_
  refine o_y (y_lens Try.underlying22 rfl) rfl rfl ?_
  refine o_y (y_gtr rfl rfl) rfl rfl ?_
  refine wl_splitp (t := 11) rfl (fun h3_2 => ?_) (fun h3_2 => ?_)
  · skip
    refine o_y (y_move rfl) rfl rfl ?_
    refine wl_gno rfl rfl rfl rfl ?_
    refine wl_gno rfl rfl rfl rfl ?_
    refine wl_gno rfl rfl rfl rfl ?_
    refine o_y (y_pick_t rfl rfl) rfl rfl ?_
    refine wl_nil ?_
    refine e_seq ?_
    refine w_cond_t rfl ?_
    refine w_seq ?_
    refine w_region ?_
    refine o_y (y_assign rfl) rfl rfl ?_
    refine wl_nil ?_
    refine e_seq ?_
    refine w_ret ?_
    refine e_seq_ret ?_
    refine e_ret (ts := [4]) rfl rfl rfl (fun w hw => ?_)
    exact ⟨rfl, hw.base⟩
  · skip
    refine o_y (y_move rfl) rfl rfl ?_
    refine wl_gyes rfl rfl ?_
    refine o_y (y_move rfl) rfl rfl ?_
    refine wl_gyes rfl rfl ?_
    refine o_y (y_lens Try.underlying9 rfl) rfl rfl ?_
    refine wl_gyes rfl rfl ?_
    refine o_y (y_gtr rfl rfl) rfl rfl ?_
    refine wl_splitp (t := 15) rfl (fun h3_6 => ?_) (fun h3_6 => ?_)
    · skip
      refine o_y (y_pick_f rfl rfl) rfl rfl ?_
      refine wl_nil ?_
      refine e_seq ?_
      refine w_cond_t rfl ?_
      refine w_seq ?_
      refine w_region ?_
      refine o_y (y_assign rfl) rfl rfl ?_
      refine wl_nil ?_
      refine e_seq ?_
      refine w_ret ?_
      refine e_seq_ret ?_
      refine e_ret (ts := [4]) rfl rfl rfl (fun w hw => ?_)
      exact ⟨rfl, hw.base⟩
    · skip
      refine o_y (y_pick_f rfl rfl) rfl rfl ?_
      refine wl_nil ?_
      refine e_seq ?_
      refine w_cond_f rfl ?_
      refine w_skip ?_
      refine e_seq ?_
      refine w_seq ?_
      refine w_region ?_
      refine o_callp rfl ent_14 (c_hash_Sum _ (by first | omega | (simp only [List.length_nil, List.length_cons, List.length_take, List.length_drop, List.length_append]; omega))) rfl ?_
      refine o_y (y_assign rfl) rfl rfl ?_
      refine wl_nil ?_
      refine e_seq ?_
      refine w_seq ?_
      refine w_seq ?_
      refine w_region ?_
      refine o_y (y_assign rfl) rfl rfl ?_
      refine wl_nil ?_
      refine e_seq ?_
      refine w_block ?_
      refine w_loop0 (σ := Nat) [5, 6, 18, 19, 20, 21, 22, 23, 24, 25, 26, 27, 28, 29, 30] (fun k => k ≤ s.length) (fun k => s.length - k) (fun k => [(6, .int .i64 k), (5, .int .u64 (sumH (s.take k)))]) (0) ?_ ⟨rfl, rfl, trivial⟩ (fun k hI => ?_)
      · exact Nat.zero_le _
      refine w_seq ?_
      refine w_seq ?_
      refine w_region ?_
      refine o_y (y_move rfl) rfl rfl ?_
      refine o_y (y_move rfl) rfl rfl ?_
      refine o_y (y_lens Try.underlying9 rfl) rfl rfl ?_
      refine o_y (y_lss rfl rfl) rfl rfl ?_
      refine wl_splitp (t := 21) rfl (fun h7_3 => ?_) (fun h7_3 => ?_)
      · skip
        refine wl_nil ?_
        refine e_seq ?_
        refine w_cond_t rfl ?_
        refine w_skip ?_
        refine e_seq ?_
        refine w_seq ?_
        refine w_block ?_
        refine w_region ?_
        refine o_y (y_move rfl) rfl rfl ?_
        refine o_y (y_move rfl) rfl rfl ?_
        refine o_y (y_move rfl) rfl rfl ?_
        refine o_y (y_move rfl) rfl rfl ?_
        refine o_y (y_addi rfl rfl (by omega) (by omega)) rfl rfl ?_
        refine o_y (y_slices (n := k + 1) Try.underlying9 rfl rfl rfl rfl (by omega) (by omega) (by omega)) rfl rfl ?_
        refine o_callp rfl ent_15 (c_hash_More _ _ (by first | omega | (simp only [List.length_nil, List.length_cons, List.length_take, List.length_drop, List.length_append]; omega))) rfl ?_
        refine o_y (y_assign rfl) rfl rfl ?_
        refine wl_nil ?_
        refine e_blk ?_
        refine e_seq ?_
        refine w_region ?_
        refine o_y (y_move rfl) rfl rfl ?_
        refine o_y (y_addi rfl rfl (by omega) (by omega)) rfl rfl ?_
        refine o_y (y_assign rfl) rfl rfl ?_
        refine wl_nil ?_
        have hk : k < s.length := by omega
        refine e_back (k + 1) ?_ ?_ ⟨rfl, lk rfl (by rw [sumH_step s k hk]), trivial⟩ (by repeat (first | exact trivial | refine ⟨rfl, ?_⟩)) (fun w h => h)
        · omega
        · omega
      · skip
        refine wl_nil ?_
        refine e_seq ?_
        refine w_cond_f rfl ?_
        refine w_exit ?_
        refine e_seq_exit ?_
        refine e_loop_exit ?_
        refine e_blk_hit ?_
        refine e_seq ?_
        refine w_seq ?_
        refine w_region ?_
        obtain rfl : k = s.length := by omega
        have hfl := foldN_le n (by omega)
        refine o_y (y_move rfl) rfl rfl ?_
        refine o_y (y_move rfl) rfl rfl ?_
        refine o_callp rfl ent_14 (c_hash_Sum _ (by first | omega | (simp only [List.length_nil, List.length_cons, List.length_take, List.length_drop, List.length_append]; omega))) rfl ?_
        refine o_y (y_eql rfl rfl) rfl rfl ?_
        refine wl_at (t := 34) rfl (by rw [List.take_length]) ?_
        refine o_y (y_move rfl) rfl rfl ?_
        refine wl_gyes rfl rfl ?_
        refine o_y (y_move rfl) rfl rfl ?_
        refine wl_gyes rfl rfl ?_
        refine o_callp rfl ent_15 (c_hash_More _ _ (by first | omega | (simp only [List.length_nil, List.length_cons, List.length_take, List.length_drop, List.length_append]; omega))) rfl ?_
        refine wl_gyes rfl rfl ?_
        refine o_y (y_move rfl) rfl rfl ?_
        refine wl_gyes rfl rfl ?_
        refine o_y (y_eql rfl rfl) rfl rfl ?_
        refine wl_at (t := 39) rfl rfl ?_
        refine o_y (y_pick_t rfl rfl) rfl rfl ?_
        refine o_y (y_move rfl) rfl rfl ?_
        refine wl_gyes rfl rfl ?_
        refine o_y (y_move rfl) rfl rfl ?_
        refine wl_gyes rfl rfl ?_
        refine o_callp rfl ent_16 (c_hash_Name _ (by omega)) rfl ?_
        refine wl_gyes rfl rfl ?_
        refine o_y (y_move rfl) rfl rfl ?_
        refine wl_gyes rfl rfl ?_
        refine o_callp rfl ent_17 (p_name_Fold _ (by omega)) rfl ?_
        refine wl_gyes rfl rfl ?_
        refine o_callp rfl ent_14 (c_hash_Sum _ (by first | omega | (simp only [List.length_nil, List.length_cons, List.length_take, List.length_drop, List.length_append]; omega))) rfl ?_
        refine wl_gyes rfl rfl ?_
        refine o_y (y_eql rfl rfl) rfl rfl ?_
        refine wl_at (t := 47) rfl rfl ?_
        refine o_y (y_pick_t rfl rfl) rfl rfl ?_
        refine o_y (y_move rfl) rfl rfl ?_
        refine wl_gyes rfl rfl ?_
        refine o_y (y_move rfl) rfl rfl ?_
        refine wl_gyes rfl rfl ?_
        refine o_callp rfl ent_18 (c_hash_Slot _ _ (by omega) (by omega) (by omega)) rfl ?_
        refine wl_gyes rfl rfl ?_
        refine o_y (y_eql rfl rfl) rfl rfl ?_
        refine wl_at (t := 52) rfl (by have := slotH_val (n := n) (slots := 1) (by omega) (by omega); omega) ?_
        refine o_y (y_pick_t rfl rfl) rfl rfl ?_
        refine o_y (y_move rfl) rfl rfl ?_
        refine wl_gyes rfl rfl ?_
        refine o_y (y_move rfl) rfl rfl ?_
        refine wl_gyes rfl rfl ?_
        refine o_callp rfl ent_18 (c_hash_Slot _ _ (by omega) (by omega) (by omega)) rfl ?_
        have hsl := slotH_val (n := n) (slots := 65536) (by omega) (by omega)
        refine wl_gyes rfl rfl ?_
        refine o_y (y_convi Try.underlying3 Try.underlying24 rfl (wrap_u64 (by omega) (by omega))) rfl rfl ?_
        refine wl_gyes rfl rfl ?_
        refine o_y (y_move rfl) rfl rfl ?_
        refine wl_gyes rfl rfl ?_
        refine o_callp rfl ent_16 (c_hash_Name _ (by omega)) rfl ?_
        refine wl_gyes rfl rfl ?_
        refine o_y (y_rem rfl rfl (by omega)) rfl rfl ?_
        refine wl_gyes rfl rfl ?_
        refine o_y (y_eql rfl rfl) rfl rfl ?_
        refine wl_at (t := 61) rfl (by rw [hsl.1]; exact (Int.tmod_eq_emod_of_nonneg (sumH_rng _).1).symm) ?_
        refine o_y (y_pick_t rfl rfl) rfl rfl ?_
        refine o_y (y_assign rfl) rfl rfl ?_
        refine wl_nil ?_
        refine e_seq ?_
        refine w_ret ?_
        refine e_ret (ts := [4]) rfl rfl rfl (fun w hw => ?_)
        exact ⟨rfl, hw.base⟩
end Go.Proofs.Ytahpppncjbgpaaa
