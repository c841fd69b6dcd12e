/- hash: the sums -/
import Derived.Test.YtckfjfnkombelaaGreatCb
namespace Go.Proofs.YtckfjfnkombelaaGreat
open Go.RowKit Go.Shelf
set_option linter.unusedVariables false
set_option linter.unusedSimpArgs false


/-- The sum of octets, from a sum on. -/
def stepH (h : Int) (b : UInt8) : Int := IntKind.u64.wrap (bits .xor .u64 h b.toNat * 1099511628211)
def moreH (sum : Int) (s : Str) : Int := s.foldl stepH sum
def sumH (s : Str) : Int := moreH 14695981039346656037 s
def nameH (n : Str) : Int := sumH (foldN n)
/-- A name's slot. -/
def slotH (n : Str) (slots : Int) : Int := if slots < 1 then 0 else IntKind.i64.wrap (Int.tmod (nameH n) slots)
theorem moreH_append (h : Int) (s t : Str) : moreH h (s ++ t) = moreH (moreH h s) t := by simp [moreH]
theorem moreH_take (h : Int) (s : Str) (k : Nat) (hk : k < s.length) : moreH h (s.take (k + 1)) = stepH (moreH h (s.take k)) (s.getD k 0) := by
  rw [take_getD s 0 k hk, moreH_append]; rfl
theorem wrap64_rng (n : Int) : 0 ≤ IntKind.u64.wrap n ∧ IntKind.u64.wrap n ≤ 18446744073709551615 := by
  have : IntKind.u64.wrap n = n % 18446744073709551616 := rfl
  rw [this]; omega
theorem moreH_rng (h : Int) (h0 : 0 ≤ h ∧ h ≤ 18446744073709551615) : ∀ s : Str, 0 ≤ moreH h s ∧ moreH h s ≤ 18446744073709551615
  | [] => h0
  | b :: r => moreH_rng _ (wrap64_rng _) r
theorem sumH_rng (s : Str) : 0 ≤ sumH s ∧ sumH s ≤ 18446744073709551615 := moreH_rng _ (by omega) s



theorem slotH_val {n : Str} {slots : Int} (h1 : 1 ≤ slots) (h2 : slots ≤ 9223372036854775807) : slotH n slots = nameH n % slots ∧ 0 ≤ slotH n slots ∧ slotH n slots < slots := by
  have hr := sumH_rng (foldN n)
  have e : Int.tmod (nameH n) slots = nameH n % slots := Int.tmod_eq_emod_of_nonneg hr.1
  have l1 := Int.emod_nonneg (nameH n) (show slots ≠ 0 by omega)
  have l2 := Int.emod_lt_of_pos (nameH n) (show 0 < slots by omega)
  have e2 : slotH n slots = nameH n % slots := by rw [slotH, if_neg (by omega), e, wrap_i64 (by omega) (by omega)]
  rw [e2]; exact ⟨rfl, l1, l2⟩
theorem sumH_step (s : Str) (k : Nat) (hk : k < s.length) : moreH (sumH (s.take k)) ((s.take (k + 1)).drop k) = sumH (s.take (k + 1)) := by
  rw [sumH, ← moreH_append]
  congr 1
  have : s.take k = (s.take (k + 1)).take k := by rw [List.take_take, Nat.min_eq_left (by omega)]
  rw [this, List.take_append_drop]



theorem foldN_le (n : Str) (hn : n.length ≤ 1000000000) : (foldN n).length ≤ 1000000000 := by
  unfold foldN; split
  · rw [lowS_length]; exact hn
  · simp



/-- The slot that is looked at behind k others. -/
def atH (n : Str) (slots : Int) (k : Nat) : Int := if slots < 1 then 0 else (slotH n slots + k) % slots
def probeL (n : Str) (slots : Int) : List Int := (List.range slots.toNat).map (atH n slots)
theorem probeL_length (n : Str) (slots : Int) : (probeL n slots).length = slots.toNat := by simp [probeL]
theorem probeL_getD (n : Str) (slots : Int) (k : Nat) (h : k < slots.toNat) : (probeL n slots).getD k 0 = atH n slots k := by
  simp [probeL, List.getD_eq_getElem?_getD, h]
theorem emod_succ {x m : Int} (hm : 0 < m) : (x + 1) % m = if x % m + 1 = m then 0 else x % m + 1 := by
  have h0 := Int.emod_nonneg x (show m ≠ 0 by omega)
  have h1 := Int.emod_lt_of_pos x hm
  have e : x = x % m + m * (x / m) := (Int.emod_add_mul_ediv x m).symm
  have e2 : x + 1 = (x % m + 1) + m * (x / m) := by omega
  rw [e2, Int.add_mul_emod_self_left]
  split
  · rename_i h; rw [h]; exact Int.emod_self
  · exact Int.emod_eq_of_lt (by omega) (by omega)
theorem atH_zero {n : Str} {slots : Int} (h2 : slots ≤ 9223372036854775807) : atH n slots 0 = slotH n slots := by
  unfold atH
  by_cases h : slots < 1
  · rw [if_pos h, slotH, if_pos h]
  · obtain ⟨h3, h4, h5⟩ := slotH_val (n := n) (slots := slots) (by omega) h2
    rw [if_neg h]
    simpa using Int.emod_eq_of_lt h4 h5
theorem atH_rng {n : Str} {slots : Int} (h : 1 ≤ slots) (k : Nat) : 0 ≤ atH n slots k ∧ atH n slots k < slots := by
  unfold atH
  rw [if_neg (by omega)]
  exact ⟨Int.emod_nonneg _ (by omega), Int.emod_lt_of_pos _ (by omega)⟩
theorem atH_succ {n : Str} {slots : Int} (h : 1 ≤ slots) (k : Nat) : atH n slots (k + 1) = if atH n slots k + 1 = slots then 0 else atH n slots k + 1 := by
  have hs : ¬ slots < 1 := by omega
  simp only [atH, if_neg hs]
  rw [← emod_succ (by omega)]
  congr 1
  rw [Int.natCast_add]; omega
theorem iter_split {α : Type} (xs : List α) (d : α) (k : Nat) (h : k < xs.length) : xs = xs.take k ++ xs.getD k d :: xs.drop (k + 1) := by
  rw [← drop_getD xs d k h, List.take_append_drop]

end Go.Proofs.YtckfjfnkombelaaGreat
