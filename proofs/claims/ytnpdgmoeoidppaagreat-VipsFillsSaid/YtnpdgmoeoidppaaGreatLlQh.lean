import Derived.Test.YtnpdgmoeoidppaaGreatCbQh
import Derived.Test.YtnpdgmoeoidppaaGreatPaQh
import Derived.Lib.Bytealg
import GoSem.Extern.BytealgCompare
import Derived.Laws.StructEq
import Derived.ChangeKeysEq
/- hash: the sums -/
namespace Go.Proofs.YtnpdgmoeoidppaaGreat
open Go.RowKit Go.Shelf
set_option linter.unusedVariables false
set_option linter.unusedSimpArgs false

theorem ent_165 : Enters Tryz.prog 165 := enters_of Tryz.func165 (by kernel_rfl) rfl
theorem ent_214 : Enters Tryz.prog 214 := enters_of Tryz.func214 (by kernel_rfl) rfl
theorem ent_238 : Enters Tryz.prog 238 := enters_of Tryz.func238 (by kernel_rfl) rfl
theorem ent_256 : Enters Tryz.prog 256 := enters_of Tryz.func256 (by kernel_rfl) rfl
theorem gm : Enters Tryz.prog 73 := enters_of Tryz.func73 (by kernel_rfl) rfl
theorem ed : TyI Tryz.prog 3 false 1 8 (.int .i64 0) := TyI.mk' (by kernel_rfl) (fun _ => by kernel_rfl)

/-- The sum of octets, from a sum on. -/
def stepH (h : Int) (b : UInt8) : Int := IntKind.u64.wrap (bits .xor .u64 h b.toNat * 1099511628211)
def fm (sum : Int) (s : aX) : Int := s.foldl stepH sum
def sumH (s : aX) : Int := fm 14695981039346656037 s
def nameH (n : aX) : Int := sumH (aY n)
/-- A name's slot. -/
def dR (n : aX) (slots : Int) : Int := if slots < 1 then 0 else IntKind.i64.wrap (Int.tmod (nameH n) slots)
theorem moreH_append (h : Int) (s t : aX) : fm h (s ++ t) = fm (fm h s) t := by simp [fm]
theorem moreH_take (h : Int) (s : aX) (k : Nat) (hk : k < s.length) : fm h (s.take (k + 1)) = stepH (fm h (s.take k)) (s.getD k 0) := by
  rw [c4 s 0 k hk, moreH_append]; rfl
theorem wrap64_rng (n : Int) : 0 ≤ IntKind.u64.wrap n ∧ IntKind.u64.wrap n ≤ 18446744073709551615 := by
  have : IntKind.u64.wrap n = n % 18446744073709551616 := rfl
  rw [this]; omega
theorem moreH_rng (h : Int) (h0 : 0 ≤ h ∧ h ≤ 18446744073709551615) : ∀ s : aX, 0 ≤ fm h s ∧ fm h s ≤ 18446744073709551615
  | [] => h0
  | b :: r => moreH_rng _ (wrap64_rng _) r
theorem sumH_rng (s : aX) : 0 ≤ sumH s ∧ sumH s ≤ 18446744073709551615 := moreH_rng _ (by omega) s

theorem slotH_val {n : aX} {slots : Int} (h1 : 1 ≤ slots) (h2 : slots ≤ 9223372036854775807) : dR n slots = nameH n % slots ∧ 0 ≤ dR n slots ∧ dR n slots < slots := by
  have hr := sumH_rng (aY n)
  have e : Int.tmod (nameH n) slots = nameH n % slots := Int.tmod_eq_emod_of_nonneg hr.1
  have l1 := Int.emod_nonneg (nameH n) (show slots ≠ 0 by omega)
  have l2 := Int.emod_lt_of_pos (nameH n) (show 0 < slots by omega)
  have e2 : dR n slots = nameH n % slots := by rw [dR, if_neg (by omega), e, fp (by omega) (by omega)]
  rw [e2]; exact ⟨rfl, l1, l2⟩
theorem c_hash_More (sum : Int) (s : aX) (hs : s.length ≤ 1000000000000) : cC Tryz.prog 256 #[.int .u64 sum, .string (ba s)] (.int .u64 (fm sum s)) := by
 intro w0
 refine a6 (ok0 := no) (S := []) (args := [.int .u64 sum, .string (ba s)]) 21 Tryz.func256 rfl rfl rfl (by simp) (by simp) ?_
 refine ao ?_
 refine ab ?_
 refine ap (ai rfl) rfl rfl ?_
 refine ae ?_
 refine aj ?_
 refine ao ?_
 refine ab ?_
 refine ap (ak rfl) rfl rfl ?_
 refine ap (ai rfl) rfl rfl ?_
 refine ae ?_
 refine aj ?_
 refine ao ?_
 refine ao ?_
 refine ab ?_
 refine ap (ak rfl) rfl rfl ?_
 refine ap (dg Tryz.underlying9 rfl) rfl rfl ?_
 refine ap (ak rfl) rfl rfl ?_
 refine ae ?_
 refine aj ?_
 refine aT ?_
 refine bZ (σ := Nat) [4, 5, 9, 10, 11, 12, 13, 14, 15, 16, 17, 18, 19] (fun k => k ≤ s.length) (fun k => s.length - k) (fun k => [(9, .int .i64 k), (4, .int .u64 (fm sum (s.take k)))]) (0) ?_ ⟨rfl, rfl, trivial⟩ (fun k hI => ?_)
 exact Nat.zero_le _
 have hb := bt_lt s k
 refine ao ?_
 refine ab ?_
 refine ap (bQ rfl rfl) rfl rfl ?_
 refine aG (t := 10) rfl (fun h3_0 => ?_) (fun h3_0 => ?_)
 refine ae ?_
 refine aj ?_
 refine ao ?_
 refine ay rfl ?_
 refine aL ?_
 refine aj ?_
 refine ao ?_
 refine aT ?_
 refine ao ?_
 refine ab ?_
 refine ap (ak rfl) rfl rfl ?_
 refine ap (ai rfl) rfl rfl ?_
 refine ae ?_
 refine aj ?_
 refine ab ?_
 refine ap (ak rfl) rfl rfl ?_
 refine ap (ak rfl) rfl rfl ?_
 refine ap (ak rfl) rfl rfl ?_
 refine ap (gt  Tryz.underlying9 rfl rfl rfl (by omega)) rfl rfl ?_
 refine ap (cS Tryz.underlying5 Tryz.underlying27 rfl (cL (by omega) (by omega))) rfl rfl ?_
 refine ap (y_xor rfl rfl) rfl rfl ?_
 refine ap (y_mul rfl rfl) rfl rfl ?_
 refine ap (ai rfl) rfl rfl ?_
 refine ae ?_
 refine bw ?_
 refine aj ?_
 refine ab ?_
 refine ap (bi rfl rfl (by omega) (by omega)) rfl rfl ?_
 refine ap (ak rfl) rfl rfl ?_
 refine ae ?_
 have hk : k < s.length := by omega
 refine bA (k + 1) ?_ ?_ ⟨rfl, lk rfl (by rw [moreH_take sum s k hk]; rfl), trivial⟩ (by repeat (first | exact trivial | refine ⟨rfl, ?_⟩)) au
 omega
 omega
 refine ae ?_
 refine aj ?_
 refine ao ?_
 refine aw rfl ?_
 refine bG ?_
 refine a7 ?_
 refine aZ ?_
 refine bc ?_
 refine aj ?_
 refine ao ?_
 refine ab ?_
 refine ap (ak rfl) rfl rfl ?_
 refine ap (ai rfl) rfl rfl ?_
 refine ae ?_
 refine aj ?_
 refine aH ?_
 refine aN (ts := [4]) rfl rfl rfl (fun w hw => ?_)
 obtain rfl : k = s.length := by omega
 exact ⟨by rw [List.take_length]; rfl, hw.base⟩

theorem c_hash_Sum (s : aX) (hs : s.length ≤ 1000000000000) : cC Tryz.prog 238 #[.string (ba s)] (.int .u64 (sumH s)) := by
 intro w0
 refine a6 (ok0 := no) (S := []) (args := [.string (ba s)]) 5 Tryz.func238 rfl rfl rfl (by simp) (by simp) ?_
 refine ao ?_
 refine ab ?_
 refine ap (ai rfl) rfl rfl ?_
 refine ae ?_
 refine aj ?_
 refine ao ?_
 refine ab ?_
 refine ap (ak rfl) rfl rfl ?_
 refine aR rfl ent_256 (c_hash_More _ _ (by first | omega | (simp only [List.length_nil, List.length_cons, List.length_take, List.length_drop, List.length_append]; omega))) rfl ?_
 refine ap (ai rfl) rfl rfl ?_
 refine ae ?_
 refine aj ?_
 refine aH ?_
 refine aN (ts := [2]) rfl rfl rfl (fun w hw => ?_)
 exact ⟨rfl, hw.base⟩

theorem foldN_le (n : aX) (hn : n.length ≤ 1000000000) : (aY n).length ≤ 1000000000 := by
  unfold aY; split
  · rw [cJ]; exact hn
  · simp

theorem c_hash_Name (n : aX) (hn : n.length ≤ 1000000000) : cC Tryz.prog 214 #[.string (ba n)] (.int .u64 (nameH n)) := by
 intro w0
 have hfl := foldN_le n hn
 refine a6 (ok0 := no) (S := []) (args := [.string (ba n)]) 6 Tryz.func214 rfl rfl rfl (by simp) (by simp) ?_
 refine ao ?_
 refine ab ?_
 refine ap (ai rfl) rfl rfl ?_
 refine ae ?_
 refine aj ?_
 refine ao ?_
 refine ab ?_
 refine ap (ak rfl) rfl rfl ?_
 refine aR rfl gm (dP _ (by omega)) rfl ?_
 refine aR rfl ent_238 (c_hash_Sum _ (by first | omega | (simp only [List.length_nil, List.length_cons, List.length_take, List.length_drop, List.length_append]; omega))) rfl ?_
 refine ap (ai rfl) rfl rfl ?_
 refine ae ?_
 refine aj ?_
 refine aH ?_
 refine aN (ts := [2]) rfl rfl rfl (fun w hw => ?_)
 exact ⟨rfl, hw.base⟩

theorem c_hash_Slot (n : aX) (slots : Int) (hn : n.length ≤ 1000000000) (h1 : -9223372036854775808 ≤ slots) (h2 : slots ≤ 9223372036854775807) : cC Tryz.prog 165 #[.string (ba n), .int .i64 slots] (.int .i64 (dR n slots)) := by
 intro w0
 refine a6 (ok0 := no) (S := []) (args := [.string (ba n), .int .i64 slots]) 13 Tryz.func165 rfl rfl rfl (by simp) (by simp) ?_
 refine ao ?_
 refine ab ?_
 refine ap (ai rfl) rfl rfl ?_
 refine ae ?_
 refine aj ?_
 refine ao ?_
 refine ao ?_
 refine ab ?_
 refine ap (ak rfl) rfl rfl ?_
 refine ap (bQ rfl rfl) rfl rfl ?_
 refine aG (t := 6) rfl (fun h1_1 => ?_) (fun h1_1 => ?_)
 refine ae ?_
 refine aj ?_
 refine ay rfl ?_
 refine ao ?_
 refine ab ?_
 refine ap (ai rfl) rfl rfl ?_
 refine ae ?_
 refine aj ?_
 refine aH ?_
 refine az ?_
 refine aN (ts := [4]) rfl rfl rfl (fun w hw => ?_)
 exact ⟨by rw [dR, if_pos h1_1]; rfl, hw.base⟩
 refine ae ?_
 refine aj ?_
 refine aw rfl ?_
 refine aL ?_
 refine aj ?_
 refine ao ?_
 refine ab ?_
 refine ap (ak rfl) rfl rfl ?_
 refine aR rfl ent_214 (c_hash_Name _ (by omega)) rfl ?_
 refine ap (ak rfl) rfl rfl ?_
 refine ap (cS Tryz.underlying3 Tryz.underlying27 rfl (cL (by omega) (by omega))) rfl rfl ?_
 refine ap (y_rem rfl rfl (by omega)) rfl rfl ?_
 refine ap (fv Tryz.underlying27 Tryz.underlying3 rfl) rfl rfl ?_
 refine ap (ai rfl) rfl rfl ?_
 refine ae ?_
 refine aj ?_
 refine aH ?_
 refine aN (ts := [4]) rfl rfl rfl (fun w hw => ?_)
 exact ⟨by rw [dR, if_neg h1_1]; rfl, hw.base⟩

/-- The slot that is looked at behind k others. -/
def atH (n : aX) (slots : Int) (k : Nat) : Int := if slots < 1 then 0 else (dR n slots + k) % slots
def dh (n : aX) (slots : Int) : List Int := (List.range slots.toNat).map (atH n slots)
theorem cA (n : aX) (slots : Int) : (dh n slots).length = slots.toNat := by simp [dh]
theorem ee (n : aX) (slots : Int) (k : Nat) (h : k < slots.toNat) : (dh n slots).getD k 0 = atH n slots k := by
  simp [dh, List.getD_eq_getElem?_getD, h]
theorem emod_succ {x m : Int} (hm : 0 < m) : (x + 1) % m = if x % m + 1 = m then 0 else x % m + 1 := by
  have h0 := Int.emod_nonneg x (show m ≠ 0 by omega)
  have h1 := Int.emod_lt_of_pos x hm
  have e : x = x % m + m * (x / m) := (Int.emod_add_mul_ediv x m).symm
  have e2 : x + 1 = (x % m + 1) + m * (x / m) := by omega
  rw [e2, Int.add_mul_emod_self_left]
  split
  · rename_i h; rw [h]; exact Int.emod_self
  · exact Int.emod_eq_of_lt (by omega) (by omega)
theorem atH_zero {n : aX} {slots : Int} (h2 : slots ≤ 9223372036854775807) : atH n slots 0 = dR n slots := by
  unfold atH
  by_cases h : slots < 1
  · rw [if_pos h, dR, if_pos h]
  · obtain ⟨h3, h4, h5⟩ := slotH_val (n := n) (slots := slots) (by omega) h2
    rw [if_neg h]
    simpa using Int.emod_eq_of_lt h4 h5
theorem atH_rng {n : aX} {slots : Int} (h : 1 ≤ slots) (k : Nat) : 0 ≤ atH n slots k ∧ atH n slots k < slots := by
  unfold atH
  rw [if_neg (by omega)]
  exact ⟨Int.emod_nonneg _ (by omega), Int.emod_lt_of_pos _ (by omega)⟩
theorem atH_succ {n : aX} {slots : Int} (h : 1 ≤ slots) (k : Nat) : atH n slots (k + 1) = if atH n slots k + 1 = slots then 0 else atH n slots k + 1 := by
  have hs : ¬ slots < 1 := by omega
  simp only [atH, if_neg hs]
  rw [← emod_succ (by omega)]
  congr 1
  rw [Int.natCast_add]; omega
theorem iter_split {α : Type} (xs : List α) (d : α) (k : Nat) (h : k < xs.length) : xs = xs.take k ++ xs.getD k d :: xs.drop (k + 1) := by
  rw [← dI xs d k h, List.take_append_drop]

theorem gQ (n : aX) (slots : Int) : RC Tryz.prog 96 #[.string (ba n), .int .i64 slots] [] (α := Nat × Nat) (fun o => .func (.func 164) #[] #[.pointer (some ⟨o.1, 0, none⟩), .pointer (some ⟨o.2, 0, none⟩)]) (fun o => [Ch.row o.2 [.int .i64 slots] 3, Ch.row o.1 [.string (ba n)] 26]) := by
 refine bh (args := [.string (ba n), .int .i64 slots]) 6 Tryz.func96 rfl rfl rfl (fun w0 => ?_)
 refine ao ?_
 refine ab ?_
 refine bx rfl rfl rfl (fun b1 => ?_)
 refine bx rfl rfl rfl (fun b2 => ?_)
 refine ap (ai rfl) rfl rfl ?_
 refine ae ?_
 refine aj ?_
 refine ao ?_
 refine ab ?_
 refine ap (dE rfl rfl) rfl rfl ?_
 refine ap (ai rfl) rfl rfl ?_
 refine ae ?_
 refine aj ?_
 refine aH ?_
 refine aN (ts := [4]) rfl rfl rfl (fun w hw => ?_)
 exact ⟨(b1, b2), rfl, hw.base, (hw.weak (.cons_cons _ (.cons_cons _ .slnil)) (fun s hs => hs)).toNews⟩

theorem fU (n : aX) (slots : Int) (p q : Nat) (hn : n.length ≤ 1000000000) (h1 : -9223372036854775808 ≤ slots) (h2 : slots ≤ 9223372036854775807) : Iter Tryz.prog 164 [.pointer (some ⟨p, 0, none⟩), .pointer (some ⟨q, 0, none⟩)] [Ch.row p [.string (ba n)] 26, Ch.row q [.int .i64 slots] 3] enci (dh n slots) := by
 refine iter_of_W 22 Tryz.func164 rfl rfl rfl (fun lr σ I Ix C Sc hy g0 hg0 w0 => ?_)
 refine ao ?_
 refine ab ?_
 refine ap (bL 0 cW rfl rfl rfl) rfl rfl ?_
 refine ap (bL 1 ed rfl rfl rfl) rfl rfl ?_
 refine aR rfl ent_165 (c_hash_Slot _ _ (by omega) (by omega) (by omega)) rfl ?_
 refine ap (ai rfl) rfl rfl ?_
 refine ae ?_
 refine aj ?_
 refine ao ?_
 refine ab ?_
 refine ap (bL 1 ed rfl rfl rfl) rfl rfl ?_
 refine ap (y_max rfl rfl) rfl rfl ?_
 refine ap (ak rfl) rfl rfl ?_
 refine ae ?_
 refine aj ?_
 refine aT ?_
 refine dO (σ := Nat × σ) [4, 10, 11, 12, 13, 14, 15, 16, 17, 18, 19, 20, 21] (fun s => s.1 ≤ slots.toNat ∧ I ((dh n slots).take s.1) s.2) (fun s => slots.toNat - s.1) (fun s => [(10, .int .i64 s.1), (4, .int .i64 (atH n slots s.1))]) (fun s => C s.2) ((0, g0)) ?_ ⟨rfl, lk rfl (congrArg (Value.int .i64) (atH_zero h2).symm), trivial⟩ rfl (fun s hI => ?_)
 exact ⟨Nat.zero_le _, hg0⟩
 obtain ⟨k, g⟩ := s
 obtain ⟨hk, hI⟩ := hI
 dsimp only at hk hI ⊢
 refine ao ?_
 refine ab ?_
 refine ap (bQ rfl rfl) rfl rfl ?_
 refine aG (t := 11) rfl (fun h2_0 => ?_) (fun h2_0 => ?_)
 have hkl : k < slots.toNat := by
   split at h2_0 <;> omega
 have hs1 : 1 ≤ slots := by omega
 have har := atH_rng (n := n) hs1 k
 have hx2 := iter_split (dh n slots) 0 k (by rw [cA]; exact hkl)
 rw [ee n slots k hkl] at hx2
 refine ae ?_
 refine aj ?_
 refine ao ?_
 refine ay rfl ?_
 refine aL ?_
 refine aj ?_
 refine ao ?_
 refine aT ?_
 refine ao ?_
 refine ao ?_
 refine ab ?_
 refine ap (ak rfl) rfl rfl ?_
 refine ap (ak rfl) rfl rfl ?_
 refine o_yield rfl rfl (hy _ (atH n slots k) _ g hx2 hI) (fun _ => .z) (fun s hs => List.mem_append_right _ hs) rfl (fun g' hT => ?_) (fun g' hF => ?_)
 refine ap (bJ rfl) rfl rfl ?_
 refine ae ?_
 refine aj ?_
 refine aw rfl ?_
 refine aL ?_
 refine aj ?_
 refine ao ?_
 refine ab ?_
 refine ap (ak rfl) rfl rfl ?_
 refine ap (bi rfl rfl (by omega) (by omega)) rfl rfl ?_
 refine ap (ai rfl) rfl rfl ?_
 refine ae ?_
 refine aj ?_
 refine ao ?_
 refine ab ?_
 refine ap (ak rfl) rfl rfl ?_
 refine ap (bL 1 ed rfl rfl rfl) rfl rfl ?_
 refine ap (dl rfl rfl) rfl rfl ?_
 refine aG (t := 20) rfl (fun h5_2 => ?_) (fun h5_2 => ?_)
 refine ae ?_
 refine aj ?_
 refine ay rfl ?_
 refine ab ?_
 refine ap (ai rfl) rfl rfl ?_
 refine ae ?_
 refine bw ?_
 refine aj ?_
 refine ab ?_
 refine ap (bi rfl rfl (by omega) (by omega)) rfl rfl ?_
 refine ap (ak rfl) rfl rfl ?_
 refine ae ?_
 have hpl := c4 (dh n slots) 0 k (by rw [cA]; exact hkl)
 rw [ee n slots k hkl] at hpl
 refine bA ((k + 1, g')) ?_ ?_ ⟨rfl, lk rfl (congrArg (Value.int .i64) (by rw [atH_succ hs1 k]; first | rw [if_pos (by omega)] | rw [if_neg (by omega)])), trivial⟩ (by repeat (first | exact trivial | refine ⟨rfl, ?_⟩)) au
 exact ⟨by show k + 1 ≤ _; omega, by show I ((dh n slots).take (k + 1)) g'; rw [hpl]; exact hT⟩
 show slots.toNat - (k + 1) < slots.toNat - k
 omega
 refine ae ?_
 refine aj ?_
 refine aw rfl ?_
 refine aL ?_
 refine bw ?_
 refine aj ?_
 refine ab ?_
 refine ap (bi rfl rfl (by omega) (by omega)) rfl rfl ?_
 refine ap (ak rfl) rfl rfl ?_
 refine ae ?_
 have hpl := c4 (dh n slots) 0 k (by rw [cA]; exact hkl)
 rw [ee n slots k hkl] at hpl
 refine bA ((k + 1, g')) ?_ ?_ ⟨rfl, lk rfl (congrArg (Value.int .i64) (by rw [atH_succ hs1 k]; first | rw [if_pos (by omega)] | rw [if_neg (by omega)])), trivial⟩ (by repeat (first | exact trivial | refine ⟨rfl, ?_⟩)) au
 exact ⟨by show k + 1 ≤ _; omega, by show I ((dh n slots).take (k + 1)) g'; rw [hpl]; exact hT⟩
 show slots.toNat - (k + 1) < slots.toNat - k
 omega
 refine ap (bJ rfl) rfl rfl ?_
 refine ae ?_
 refine aj ?_
 refine ay rfl ?_
 refine aH ?_
 refine az ?_
 refine aU ?_
 refine az ?_
 refine bv ?_
 refine aU ?_
 refine aN (ts := []) rfl rfl rfl (fun w hw => ?_)
 exact eD _ (.inr ⟨_, _, by rw [List.append_assoc]; exact hx2, hF⟩) hw
 refine ae ?_
 refine aj ?_
 refine ao ?_
 refine aw rfl ?_
 refine bG ?_
 refine a7 ?_
 refine aZ ?_
 refine bc ?_
 refine e_end (ts := []) rfl rfl rfl (fun w hw => ?_)
 have hkk : k = slots.toNat := by split at h2_0 <;> omega
 rw [hkk, ← cA n slots, List.take_length] at hI
 exact eD _ (.inl hI) hw
end Go.Proofs.YtnpdgmoeoidppaaGreat

/- the references of labels, names, sums; the kit -/
namespace Go.Proofs.YtnpdgmoeoidppaaGreat
open Go.RowKit Go.Shelf
set_option linter.unusedVariables false
set_option linter.unusedSimpArgs false

theorem ent_111 : Enters Tryz.prog 111 := enters_of Tryz.func111 (by kernel_rfl) rfl
theorem ent_112 : Enters Tryz.prog 112 := enters_of Tryz.func112 (by kernel_rfl) rfl
theorem ent_143 : Enters Tryz.prog 143 := enters_of Tryz.func143 (by kernel_rfl) rfl
theorem ent_180 : Enters Tryz.prog 180 := enters_of Tryz.func180 (by kernel_rfl) rfl
theorem ent_194 : Enters Tryz.prog 194 := enters_of Tryz.func194 (by kernel_rfl) rfl
theorem ent_83 : Enters Tryz.prog 83 := enters_of Tryz.func83 (by kernel_rfl) rfl

theorem c_ref01_Check (l : aX) : cC Tryz.prog 194 #[.string (ba l)] (.int .i64 (ef l)) := by
 intro w0
 refine a6 (ok0 := no) (S := []) (args := [.string (ba l)]) 10 Tryz.func194 rfl rfl rfl (by simp) (by simp) ?_
 refine ao ?_
 refine ab ?_
 refine ap (ai rfl) rfl rfl ?_
 refine ae ?_
 refine aj ?_
 refine ao ?_
 refine aT ?_
 refine ao ?_
 refine ab ?_
 refine ap (ak rfl) rfl rfl ?_
 refine ap (y_eqls rfl rfl) rfl rfl ?_
 refine aG (t := 5) rfl (fun h1_1 => ?_) (fun h1_1 => ?_)
 refine ap (ai rfl) rfl rfl ?_
 refine ae ?_
 refine aj ?_
 refine ay rfl ?_
 refine ao ?_
 refine ab ?_
 refine ap (ai rfl) rfl rfl ?_
 refine ae ?_
 refine aj ?_
 refine aH ?_
 refine aU ?_
 refine az ?_
 refine aN (ts := [2]) rfl rfl rfl (fun w hw => ?_)
 subst h1_1
 exact ⟨rfl, hw.base⟩
 refine ap (ai rfl) rfl rfl ?_
 refine ae ?_
 refine aj ?_
 refine aw rfl ?_
 refine ao ?_
 refine ab ?_
 refine ap (ak rfl) rfl rfl ?_
 refine ap (dg Tryz.underlying9 rfl) rfl rfl ?_
 refine ap (dU rfl rfl) rfl rfl ?_
 refine aG (t := 9) rfl (fun h3_2 => ?_) (fun h3_2 => ?_)
 refine ap (ai rfl) rfl rfl ?_
 refine ae ?_
 refine aj ?_
 refine ay rfl ?_
 refine ao ?_
 refine ab ?_
 refine ap (ai rfl) rfl rfl ?_
 refine ae ?_
 refine aj ?_
 refine aH ?_
 refine aU ?_
 refine az ?_
 refine aN (ts := [2]) rfl rfl rfl (fun w hw => ?_)
 have := len_pos h1_1
 exact ⟨by unfold ef; rw [if_neg (by omega)]; first | rw [if_pos (by omega)]; rfl | rw [if_neg (by omega)]; rfl, hw.base⟩
 refine ap (ai rfl) rfl rfl ?_
 refine ae ?_
 refine aj ?_
 refine aw rfl ?_
 refine aL ?_
 refine bw ?_
 refine aj ?_
 refine ao ?_
 refine ab ?_
 refine ap (ai rfl) rfl rfl ?_
 refine ae ?_
 refine aj ?_
 refine aH ?_
 refine aN (ts := [2]) rfl rfl rfl (fun w hw => ?_)
 have := len_pos h1_1
 exact ⟨by unfold ef; rw [if_neg (by omega)]; first | rw [if_pos (by omega)]; rfl | rw [if_neg (by omega)]; rfl, hw.base⟩

theorem lowB_up {c : UInt8} (h1 : 65 ≤ c.toNat) (h2 : c.toNat ≤ 90) : (c.toNat : Int) + 32 = ((dD c).toNat : Int) := by
  unfold dD; rw [if_pos ⟨h1, h2⟩]; simp; omega
theorem lowB_no {c : UInt8} (h : ¬ (65 ≤ c.toNat ∧ c.toNat ≤ 90)) : dD c = c := by unfold dD; rw [if_neg h]
theorem set_same {α : Type} (l : List α) (d : α) (k : Nat) (h : k < l.length) : l.set k (l.getD k d) = l := by
  rw [List.getD_eq_getElem?_getD, List.getElem?_eq_getElem h, Option.getD_some, List.set_getElem_self]

theorem c_ref01_Fold (l : aX) (hl : l.length ≤ 1000000000000) : cC Tryz.prog 180 #[.string (ba l)] (.string (ba (db l))) := by
 intro w0
 refine a6 (ok0 := no) (S := []) (args := [.string (ba l)]) 35 Tryz.func180 rfl rfl rfl (by simp) (by simp) ?_
 refine ao ?_
 refine ab ?_
 refine ap (ai rfl) rfl rfl ?_
 refine ae ?_
 refine aj ?_
 refine ao ?_
 refine ab ?_
 refine ap (ak rfl) rfl rfl ?_
 refine o_s2b Tryz.underlying9 Tryz.underlying75 Tryz.underlying5 (by omega) rfl rfl (fun As1 cs1 => ?_)
 refine ap (ai rfl) rfl rfl ?_
 refine ae ?_
 refine aj ?_
 refine ao ?_
 refine ao ?_
 refine ab ?_
 refine ap (ai rfl) rfl rfl ?_
 refine ae ?_
 refine aj ?_
 refine aT ?_
 refine dO (σ := Nat) [3, 4, 7, 8, 9, 10, 11, 12, 13, 14, 15, 16, 17, 18, 19, 20, 21, 22, 23, 24, 25, 26, 27, 28, 29, 30, 31, 32] (fun k => k ≤ l.length) (fun k => l.length - k) (fun k => [(4, .int .i64 k), (3, .slice As1 ((l.take k).map dD ++ l.drop k).length cs1)]) (fun k => Ch.ls As1 cs1 5 1 encb ((l.take k).map dD ++ l.drop k)) (0) ?_ ⟨rfl, rfl, trivial⟩ rfl (fun k hI => ?_)
 exact Nat.zero_le _
 have hml := bH dD l k
 refine ao ?_
 refine ao ?_
 refine ab ?_
 refine ap (ak rfl) rfl rfl ?_
 refine ap (ak rfl) rfl rfl ?_
 refine ap (ck Tryz.underlying75 rfl) rfl rfl ?_
 refine ap (bQ rfl rfl) rfl rfl ?_
 refine aG (t := 10) rfl (fun h3_3 => ?_) (fun h3_3 => ?_)
 refine ae ?_
 refine aj ?_
 refine ay rfl ?_
 refine aL ?_
 refine aj ?_
 refine ao ?_
 refine aT ?_
 refine ao ?_
 refine ab ?_
 have hk : k < l.length := by omega
 have hat := map_at dD l k hk
 have hat2 : ((List.map dD (List.take k l) ++ List.drop k l).getD k 0).toNat = (l.getD k 0).toNat := by rw [hat]
 refine ap (ak rfl) rfl rfl ?_
 refine ap (ak rfl) rfl rfl ?_
 refine ap (cp  Tryz.underlying75 fA rfl rfl (ec 0 rfl) rfl (by rw [bH]; omega)) rfl rfl ?_
 refine ap (dd gP (0 : UInt8) fA rfl (ec 0 rfl) (by rw [bH]; omega) rfl rfl) rfl rfl ?_
 refine ap (fu rfl rfl) rfl rfl ?_
 refine aG (t := 17) rfl (fun h5_4 => ?_) (fun h5_4 => ?_)
 refine ap (ak rfl) rfl rfl ?_
 refine aA rfl rfl ?_
 refine ap (ak rfl) rfl rfl ?_
 refine aA rfl rfl ?_
 refine ap (ak rfl) rfl rfl ?_
 refine aA rfl rfl ?_
 refine ap (cp  Tryz.underlying75 fA rfl rfl (ec 0 rfl) rfl (by rw [bH]; omega)) rfl rfl ?_
 refine aA rfl rfl ?_
 refine ap (dd gP (0 : UInt8) fA rfl (ec 0 rfl) (by rw [bH]; omega) rfl rfl) rfl rfl ?_
 refine aA rfl rfl ?_
 refine ap (y_leq rfl rfl) rfl rfl ?_
 refine aG (t := 23) rfl (fun h5_10 => ?_) (fun h5_10 => ?_)
 refine ap (aP rfl rfl) rfl rfl ?_
 refine ae ?_
 refine aj ?_
 refine ay rfl ?_
 refine ab ?_
 refine ap (ak rfl) rfl rfl ?_
 refine ap (ak rfl) rfl rfl ?_
 refine ap (ak rfl) rfl rfl ?_
 refine ap (ak rfl) rfl rfl ?_
 refine ap (cp  Tryz.underlying75 fA rfl rfl (ec 0 rfl) rfl (by rw [bH]; omega)) rfl rfl ?_
 refine ap (dd gP (0 : UInt8) fA rfl (ec 0 rfl) (by rw [bH]; omega) rfl rfl) rfl rfl ?_
 refine ap (y_add rfl rfl) rfl rfl ?_
 refine bW (t := 31) (.int .u8 ((dD (l.getD k 0)).toNat : Int)) rfl (congrArg (Value.int .u8) (by rw [dW (by omega) (by omega), hat2]; exact lowB_up (by omega) (by omega))) ?_
 refine ap (cp  Tryz.underlying75 fA rfl rfl (ec 0 rfl) rfl (by rw [bH]; omega)) rfl rfl ?_
 refine o_stm0 gP (0 : UInt8) _ fA rfl rfl rfl .z rfl (by rw [bH]; omega) rfl rfl rfl ?_
 refine ae ?_
 refine bw ?_
 refine aj ?_
 refine ab ?_
 refine ap (ak rfl) rfl rfl ?_
 refine ap (bi rfl rfl (by omega) (by omega)) rfl rfl ?_
 refine ap (ai rfl) rfl rfl ?_
 refine ae ?_
 have hcc := UInt8.toNat_lt (l.getD k 0)
 refine bA (k + 1) ?_ ?_ ⟨rfl, lk rfl (by rw [bH, bH]), trivial⟩ (by repeat (first | exact trivial | refine ⟨rfl, ?_⟩)) (fun w h => by first | (rw [d6 dD l k hk] at h; exact h) | (rw [← d6 dD l k hk, lowB_no (by omega), ← map_at dD l k hk, set_same _ _ _ (by rw [bH]; exact hk)]; exact h))
 omega
 omega
 refine ap (aP rfl rfl) rfl rfl ?_
 refine ae ?_
 refine aj ?_
 refine aw rfl ?_
 refine aL ?_
 refine bw ?_
 refine aj ?_
 refine ab ?_
 refine ap (ak rfl) rfl rfl ?_
 refine ap (bi rfl rfl (by omega) (by omega)) rfl rfl ?_
 refine ap (ai rfl) rfl rfl ?_
 refine ae ?_
 have hcc := UInt8.toNat_lt (l.getD k 0)
 refine bA (k + 1) ?_ ?_ ⟨rfl, lk rfl (by rw [bH, bH]), trivial⟩ (by repeat (first | exact trivial | refine ⟨rfl, ?_⟩)) (fun w h => by first | (rw [d6 dD l k hk] at h; exact h) | (rw [← d6 dD l k hk, lowB_no (by omega), ← map_at dD l k hk, set_same _ _ _ (by rw [bH]; exact hk)]; exact h))
 omega
 omega
 refine ap (ak rfl) rfl rfl ?_
 refine aK rfl rfl rfl rfl ?_
 refine aK rfl rfl rfl rfl ?_
 refine aK rfl rfl rfl rfl ?_
 refine aK rfl rfl rfl rfl ?_
 refine aK rfl rfl rfl rfl ?_
 refine ap (aQ rfl rfl) rfl rfl ?_
 refine ae ?_
 refine aj ?_
 refine aw rfl ?_
 refine aL ?_
 refine bw ?_
 refine aj ?_
 refine ab ?_
 refine ap (ak rfl) rfl rfl ?_
 refine ap (bi rfl rfl (by omega) (by omega)) rfl rfl ?_
 refine ap (ai rfl) rfl rfl ?_
 refine ae ?_
 have hcc := UInt8.toNat_lt (l.getD k 0)
 refine bA (k + 1) ?_ ?_ ⟨rfl, lk rfl (by rw [bH, bH]), trivial⟩ (by repeat (first | exact trivial | refine ⟨rfl, ?_⟩)) (fun w h => by first | (rw [d6 dD l k hk] at h; exact h) | (rw [← d6 dD l k hk, lowB_no (by omega), ← map_at dD l k hk, set_same _ _ _ (by rw [bH]; exact hk)]; exact h))
 omega
 omega
 refine ae ?_
 refine aj ?_
 refine aw rfl ?_
 refine bG ?_
 refine a7 ?_
 refine aZ ?_
 refine bc ?_
 refine aj ?_
 refine ao ?_
 refine ab ?_
 refine ap (ak rfl) rfl rfl ?_
 refine ap (y_b2s Tryz.underlying75 Tryz.underlying9 Tryz.underlying5 rfl (ec 0 rfl)) rfl rfl ?_
 refine ap (ai rfl) rfl rfl ?_
 refine ae ?_
 refine aj ?_
 refine aH ?_
 refine aN (ts := [2]) rfl rfl rfl (fun w hw => ?_)
 obtain rfl : k = l.length := by omega
 exact ⟨by simp [da, db], hw.base⟩

theorem eR (n : aX) (k : Nat) : bt (n.drop k) 0 = bt n k := by
  unfold bt; simp [List.getD_eq_getElem?_getD]
theorem drop_ne {n : aX} {k : Nat} (h : k < n.length) : n.drop k ≠ [] := by
  intro e; have := congrArg List.length e; simp at this; omega
theorem gr {n : aX} {k : Nat} (h : k < n.length) (h1 : 1 ≤ bt n k) (h2 : bt n k ≤ 63) (h3 : k + 1 + bt n k ≤ n.length) : ct (n.drop k) = true ∧ rst (n.drop k) = n.drop (k + 1 + bt n k) ∧ lab (n.drop k) = (n.take (k + 1 + bt n k)).drop (k + 1) := by
  refine ⟨cutOk_iff.2 ⟨drop_ne h, by rw [eR]; exact h1, by rw [eR]; exact h2, by rw [eR, List.length_drop]; omega⟩, ?_, ?_⟩
  · rw [rst, eR, List.drop_drop, Nat.add_assoc]
  · rw [lab, eR, List.take_drop, List.drop_drop, Nat.add_assoc]
theorem eh {n : aX} {k : Nat} (h : bt n k < 1 ∨ 63 < bt n k ∨ n.length < k + 1 + bt n k) (hk : k < n.length) : ct (n.drop k) = false :=
  cut_no (by rw [eR, List.length_drop]; omega)

theorem ew (n : aX) : cC Tryz.prog 111 #[.string (ba n)] (.int .i64 (bg n)) := by
 intro w0
 refine a6 (ok0 := no) (S := []) (args := [.string (ba n)]) 35 Tryz.func111 rfl rfl rfl (by simp) (by simp) ?_
 refine ao ?_
 refine ab ?_
 refine ap (ai rfl) rfl rfl ?_
 refine ae ?_
 refine aj ?_
 refine ao ?_
 refine ao ?_
 refine ab ?_
 refine ap (ak rfl) rfl rfl ?_
 refine ap (dg Tryz.underlying26 rfl) rfl rfl ?_
 refine ap (dU rfl rfl) rfl rfl ?_
 refine aG (t := 7) rfl (fun h1_2 => ?_) (fun h1_2 => ?_)
 refine ae ?_
 refine aj ?_
 refine ay rfl ?_
 refine ao ?_
 refine ab ?_
 refine ap (ai rfl) rfl rfl ?_
 refine ae ?_
 refine aj ?_
 refine aH ?_
 refine az ?_
 refine aN (ts := [2]) rfl rfl rfl (fun w hw => ?_)
 exact ⟨by simp [da, bg, show 254 < n.length by omega], hw.base⟩
 refine ae ?_
 refine aj ?_
 refine aw rfl ?_
 refine aL ?_
 refine aj ?_
 refine ao ?_
 refine ao ?_
 refine ab ?_
 refine ap (ai rfl) rfl rfl ?_
 refine ae ?_
 refine aj ?_
 refine aT ?_
 refine bZ (σ := Nat) [2, 3, 4, 8, 9, 10, 11, 12, 13, 14, 15, 16, 17, 18, 19, 20, 21, 22, 23, 24, 25, 26, 27, 28, 29, 30, 31, 32, 33, 34] (fun k => k ≤ n.length ∧ gn n = gn (n.drop k)) (fun k => n.length - k) (fun k => [(3, .int .i64 k)]) (0) ?_ ⟨rfl, trivial⟩ (fun k hI => ?_)
 exact ⟨Nat.zero_le _, rfl⟩
 have hb := bt_lt n k
 refine ao ?_
 refine ao ?_
 refine ab ?_
 refine ap (ak rfl) rfl rfl ?_
 refine ap (ak rfl) rfl rfl ?_
 refine ap (dg Tryz.underlying26 rfl) rfl rfl ?_
 refine ap (bQ rfl rfl) rfl rfl ?_
 refine aG (t := 11) rfl (fun h4_3 => ?_) (fun h4_3 => ?_)
 refine ae ?_
 refine aj ?_
 refine ay rfl ?_
 refine aL ?_
 refine aj ?_
 refine aT ?_
 refine ao ?_
 refine ab ?_
 refine ap (ak rfl) rfl rfl ?_
 refine ap (ak rfl) rfl rfl ?_
 refine ap (gt  Tryz.underlying26 rfl rfl rfl (by omega)) rfl rfl ?_
 refine ap (cS Tryz.underlying5 Tryz.underlying3 rfl (fp (by omega) (by omega))) rfl rfl ?_
 refine ap (ai rfl) rfl rfl ?_
 refine ae ?_
 refine aj ?_
 refine ao ?_
 refine ao ?_
 refine ab ?_
 refine ap (ak rfl) rfl rfl ?_
 refine ap (bQ rfl rfl) rfl rfl ?_
 refine aG (t := 17) rfl (fun h6_1 => ?_) (fun h6_1 => ?_)
 refine ap (ak rfl) rfl rfl ?_
 refine aK rfl rfl rfl rfl ?_
 refine aK rfl rfl rfl rfl ?_
 refine ap (aP rfl rfl) rfl rfl ?_
 refine ap (ak rfl) rfl rfl ?_
 refine aK rfl rfl rfl rfl ?_
 refine aK rfl rfl rfl rfl ?_
 refine aK rfl rfl rfl rfl ?_
 refine aK rfl rfl rfl rfl ?_
 refine aK rfl rfl rfl rfl ?_
 refine aK rfl rfl rfl rfl ?_
 refine aK rfl rfl rfl rfl ?_
 refine ap (aP rfl rfl) rfl rfl ?_
 refine ae ?_
 refine aj ?_
 refine ay rfl ?_
 refine ao ?_
 refine ab ?_
 refine ap (ai rfl) rfl rfl ?_
 refine ae ?_
 refine aj ?_
 refine aH ?_
 refine az ?_
 refine aU ?_
 refine bv ?_
 refine aU ?_
 refine az ?_
 refine aN (ts := [2]) rfl rfl rfl (fun w hw => ?_)
 focus first
   | (have hc := eh (n := n) (k := k) (by omega) (by omega)
      have ho : gn n = false := by rw [hI.2, eA, hc]; simp; omega
      exact ⟨by simp [da, bg, show ¬ 254 < n.length by omega, ho], hw.base⟩)
   | (have ho : gn n = true := by rw [hI.2, List.drop_of_length_le (by omega)]; rfl
      exact ⟨by simp [da, bg, show ¬ 254 < n.length by omega, ho], hw.base⟩)
 refine ap (ak rfl) rfl rfl ?_
 refine aA rfl rfl ?_
 refine ap (ak rfl) rfl rfl ?_
 refine aA rfl rfl ?_
 refine ap (dU rfl rfl) rfl rfl ?_
 refine aG (t := 20) rfl (fun h6_4 => ?_) (fun h6_4 => ?_)
 refine ap (aQ rfl rfl) rfl rfl ?_
 refine ap (ak rfl) rfl rfl ?_
 refine aK rfl rfl rfl rfl ?_
 refine aK rfl rfl rfl rfl ?_
 refine aK rfl rfl rfl rfl ?_
 refine aK rfl rfl rfl rfl ?_
 refine aK rfl rfl rfl rfl ?_
 refine aK rfl rfl rfl rfl ?_
 refine aK rfl rfl rfl rfl ?_
 refine ap (aP rfl rfl) rfl rfl ?_
 refine ae ?_
 refine aj ?_
 refine ay rfl ?_
 refine ao ?_
 refine ab ?_
 refine ap (ai rfl) rfl rfl ?_
 refine ae ?_
 refine aj ?_
 refine aH ?_
 refine az ?_
 refine aU ?_
 refine bv ?_
 refine aU ?_
 refine az ?_
 refine aN (ts := [2]) rfl rfl rfl (fun w hw => ?_)
 focus first
   | (have hc := eh (n := n) (k := k) (by omega) (by omega)
      have ho : gn n = false := by rw [hI.2, eA, hc]; simp; omega
      exact ⟨by simp [da, bg, show ¬ 254 < n.length by omega, ho], hw.base⟩)
   | (have ho : gn n = true := by rw [hI.2, List.drop_of_length_le (by omega)]; rfl
      exact ⟨by simp [da, bg, show ¬ 254 < n.length by omega, ho], hw.base⟩)
 refine ap (aQ rfl rfl) rfl rfl ?_
 refine ap (ak rfl) rfl rfl ?_
 refine aA rfl rfl ?_
 refine ap (ak rfl) rfl rfl ?_
 refine aA rfl rfl ?_
 refine ap (bi rfl rfl (by omega) (by omega)) rfl rfl ?_
 refine aA rfl rfl ?_
 refine ap (ak rfl) rfl rfl ?_
 refine aA rfl rfl ?_
 refine ap (bi rfl rfl (by omega) (by omega)) rfl rfl ?_
 refine aA rfl rfl ?_
 refine ap (ak rfl) rfl rfl ?_
 refine aA rfl rfl ?_
 refine ap (dg Tryz.underlying26 rfl) rfl rfl ?_
 refine aA rfl rfl ?_
 refine ap (dU rfl rfl) rfl rfl ?_
 refine aG (t := 29) rfl (fun h6_13 => ?_) (fun h6_13 => ?_)
 refine ap (aQ rfl rfl) rfl rfl ?_
 refine ae ?_
 refine aj ?_
 refine ay rfl ?_
 refine ao ?_
 refine ab ?_
 refine ap (ai rfl) rfl rfl ?_
 refine ae ?_
 refine aj ?_
 refine aH ?_
 refine az ?_
 refine aU ?_
 refine bv ?_
 refine aU ?_
 refine az ?_
 refine aN (ts := [2]) rfl rfl rfl (fun w hw => ?_)
 focus first
   | (have hc := eh (n := n) (k := k) (by omega) (by omega)
      have ho : gn n = false := by rw [hI.2, eA, hc]; simp; omega
      exact ⟨by simp [da, bg, show ¬ 254 < n.length by omega, ho], hw.base⟩)
   | (have ho : gn n = true := by rw [hI.2, List.drop_of_length_le (by omega)]; rfl
      exact ⟨by simp [da, bg, show ¬ 254 < n.length by omega, ho], hw.base⟩)
 refine ap (aQ rfl rfl) rfl rfl ?_
 refine ae ?_
 refine aj ?_
 refine aw rfl ?_
 refine aL ?_
 refine aj ?_
 refine ab ?_
 refine ap (ak rfl) rfl rfl ?_
 refine ap (bi rfl rfl (by omega) (by omega)) rfl rfl ?_
 refine ap (ak rfl) rfl rfl ?_
 refine ap (bi rfl rfl (by omega) (by omega)) rfl rfl ?_
 refine ap (ai rfl) rfl rfl ?_
 refine ae ?_
 refine bw ?_
 obtain ⟨hc1, hc2, hc3⟩ := gr (n := n) (k := k) (by omega) (by omega) (by omega) (by omega)
 refine bA (k + 1 + bt n k) ?_ ?_ ⟨rfl, trivial⟩ (by repeat (first | exact trivial | refine ⟨rfl, ?_⟩)) au
 exact ⟨by omega, by rw [hI.2, eA (n.drop k), hc1, hc2]; simp; omega⟩
 omega
 refine ae ?_
 refine aj ?_
 refine aw rfl ?_
 refine bG ?_
 refine a7 ?_
 refine aZ ?_
 refine bc ?_
 refine aj ?_
 refine ao ?_
 refine ab ?_
 refine ap (ai rfl) rfl rfl ?_
 refine ae ?_
 refine aj ?_
 refine aH ?_
 refine aN (ts := [2]) rfl rfl rfl (fun w hw => ?_)
 focus first
   | (have hc := eh (n := n) (k := k) (by omega) (by omega)
      have ho : gn n = false := by rw [hI.2, eA, hc]; simp; omega
      exact ⟨by simp [da, bg, show ¬ 254 < n.length by omega, ho], hw.base⟩)
   | (have ho : gn n = true := by rw [hI.2, List.drop_of_length_le (by omega)]; rfl
      exact ⟨by simp [da, bg, show ¬ 254 < n.length by omega, ho], hw.base⟩)

theorem c_ref02_Labels (n : aX) : RC Tryz.prog 83 #[.string (ba n)] [] (α := Option Addr × Nat) (fun p => .slice p.1 (bD n).length p.2) (fun p => [Ch.ls p.1 p.2 9 1 fq (bD n)]) := by
 refine bh (args := [.string (ba n)]) 33 Tryz.func83 rfl rfl rfl (fun w0 => ?_)
 refine ao ?_
 refine ab ?_
 refine ap (ai rfl) rfl rfl ?_
 refine ae ?_
 refine aj ?_
 refine ao ?_
 refine ao ?_
 refine ab ?_
 refine ap (ak rfl) rfl rfl ?_
 refine aR rfl ent_111 (ew _) rfl ?_
 refine ap (cc rfl rfl) rfl rfl ?_
 refine aG (t := 8) rfl (fun h1_2 => ?_) (fun h1_2 => ?_)
 refine ae ?_
 refine aj ?_
 refine ay rfl ?_
 refine ao ?_
 refine ab ?_
 refine ap (ai rfl) rfl rfl ?_
 refine ae ?_
 refine aj ?_
 refine aH ?_
 refine az ?_
 refine aN (ts := [2]) rfl rfl rfl (fun w hw => ?_)
 have hl : bD n = [] := if_neg (by omega)
 rw [hl]
 exact ⟨(none, 0), rfl, hw.base, (hw.nilsl 9 1).toNews⟩
 refine ae ?_
 refine aj ?_
 refine aw rfl ?_
 refine aL ?_
 refine aj ?_
 refine ao ?_
 have hck : bg n = 0 := by omega
 have hnl := nameCk_zero.1 hck
 refine ab ?_
 refine ap (ai rfl) rfl rfl ?_
 refine ae ?_
 refine aj ?_
 refine ao ?_
 refine ao ?_
 refine ab ?_
 refine ap (ai rfl) rfl rfl ?_
 refine ae ?_
 refine aj ?_
 refine aT ?_
 refine eX (fun w h => h.nilsl 9 1) ?_
 refine dO (σ := Nat × List aX × Option Addr × Nat) [3, 4, 5, 9, 10, 11, 12, 13, 14, 15, 16, 17, 18, 19, 20, 21, 22, 23, 24, 25, 26, 27, 28, 29, 30, 31] (fun q => q.1 ≤ n.length ∧ dG n = q.2.1 ++ dG (n.drop q.1) ∧ gn (n.drop q.1) = true ∧ q.2.1.length ≤ q.1) (fun q => n.length - q.1) (fun q => [(4, .int .i64 q.1), (3, .slice q.2.2.1 q.2.1.length q.2.2.2)]) (fun q => Ch.ls q.2.2.1 q.2.2.2 9 1 fq q.2.1) ((0, [], none, 0)) ?_ ⟨rfl, rfl, trivial⟩ rfl (fun q hI => ?_)
 exact ⟨Nat.zero_le _, rfl, hnl.2, Nat.le_refl _⟩
 obtain ⟨k, pre, A, c⟩ := q
 obtain ⟨hk, hI, hok, hpl⟩ := hI
 dsimp only at hk hI hok hpl ⊢
 have hb := bt_lt n k
 refine ao ?_
 refine ao ?_
 refine ab ?_
 refine ap (ak rfl) rfl rfl ?_
 refine ap (ak rfl) rfl rfl ?_
 refine ap (dg Tryz.underlying26 rfl) rfl rfl ?_
 refine ap (bQ rfl rfl) rfl rfl ?_
 refine aG (t := 12) rfl (fun h5_3 => ?_) (fun h5_3 => ?_)
 have hkl : k < n.length := by omega
 rw [eA] at hok
 have hcu : ct (n.drop k) = true ∧ gn (rst (n.drop k)) = true := by
   have := drop_ne hkl
   simpa [this] using hok
 have hcc := cutOk_iff.1 hcu.1
 rw [eR, List.length_drop] at hcc
 obtain ⟨hc1, hc2, hc3⟩ := gr (n := n) (k := k) hkl (by omega) (by omega) (by omega)
 have ho2 := hcu.2
 refine ae ?_
 refine aj ?_
 refine ay rfl ?_
 refine aL ?_
 refine aj ?_
 refine aT ?_
 refine ao ?_
 refine ab ?_
 refine ap (ak rfl) rfl rfl ?_
 refine ap (ak rfl) rfl rfl ?_
 refine ap (gt  Tryz.underlying26 rfl rfl rfl (by omega)) rfl rfl ?_
 refine ap (cS Tryz.underlying5 Tryz.underlying3 rfl (fp (by omega) (by omega))) rfl rfl ?_
 refine ap (ai rfl) rfl rfl ?_
 refine ae ?_
 refine aj ?_
 refine ao ?_
 refine ab ?_
 refine ap (ak rfl) rfl rfl ?_
 refine ap (ak rfl) rfl rfl ?_
 refine ap (ak rfl) rfl rfl ?_
 refine ap (bi rfl rfl (by omega) (by omega)) rfl rfl ?_
 refine ap (ak rfl) rfl rfl ?_
 refine ap (bi rfl rfl (by omega) (by omega)) rfl rfl ?_
 refine ap (ak rfl) rfl rfl ?_
 refine ap (bi rfl rfl (by omega) (by omega)) rfl rfl ?_
 refine ap (y_slices (m := k + 1) (n := k + 1 + bt n k) Tryz.underlying26 rfl rfl rfl (by omega) (by omega) (by omega) (by omega)) rfl rfl ?_
 refine gq (vs := [_]) ([_] : List (aX)) fd Tryz.underlying135 eb rfl rfl rfl rfl rfl rfl (fun As1 => ?_)
 refine gc (enc := fq) (sz := 1) _ Tryz.underlying135 eb rfl rfl rfl (fun A c => (.s (.z))) (src_L 0 Tryz.underlying135 rfl) (by simp only [List.length_cons, List.length_nil, Nat.zero_add]; omega) (by simp only [List.length_cons, List.length_nil, Nat.zero_add]; omega) rfl (fun A1 c1 => ?_)
 refine ap (ai rfl) rfl rfl ?_
 refine ae ?_
 refine aj ?_
 refine ab ?_
 refine ap (ak rfl) rfl rfl ?_
 refine ap (bi rfl rfl (by omega) (by omega)) rfl rfl ?_
 refine ap (ak rfl) rfl rfl ?_
 refine ap (bi rfl rfl (by omega) (by omega)) rfl rfl ?_
 refine ap (ai rfl) rfl rfl ?_
 refine ae ?_
 refine bw ?_
 refine bA ((k + 1 + bt n k, pre ++ [(n.take (k + 1 + bt n k)).drop (k + 1)], A1, c1)) ?_ ?_ ⟨rfl, rfl, trivial⟩ (by repeat (first | exact trivial | refine ⟨rfl, ?_⟩)) (bP 1)
 refine ⟨?_, ?_, ?_, ?_⟩
 · show k + 1 + bt n k ≤ _; omega
 · show dG n = (pre ++ [_]) ++ dG (n.drop (k + 1 + bt n k)); rw [hI, e8 (n.drop k), if_pos hc1, hc2, hc3]; simp
 · show gn (n.drop (k + 1 + bt n k)) = true; rw [← hc2]; exact ho2
 · show (pre ++ [_]).length ≤ k + 1 + bt n k; simp; omega
 show n.length - (k + 1 + bt n k) < n.length - k
 omega
 refine ae ?_
 refine aj ?_
 refine aw rfl ?_
 refine bG ?_
 refine a7 ?_
 refine aZ ?_
 refine bc ?_
 refine aj ?_
 refine ao ?_
 refine ab ?_
 refine ap (ak rfl) rfl rfl ?_
 refine ap (ai rfl) rfl rfl ?_
 refine ae ?_
 refine aj ?_
 refine aH ?_
 refine aN (ts := [2]) rfl rfl rfl (fun w hw => ?_)
 have hl : bD n = pre := by rw [bD, if_pos hck, hI, List.drop_of_length_le (by omega)]; simp [dG, labsF]
 rw [hl]
 exact ⟨(A, c), rfl, hw.base, hw.toNews⟩

theorem make_long {ls : List aX} {k : Nat} (h0 : b8 ls = 0) (h : 254 < (cM (ls.take k)).length) : ek ls = ([], 3) := by
  have := eT ls k
  rw [ek, if_neg (by omega), if_pos (by omega)]
theorem make_done {ls : List aX} (h0 : b8 ls = 0) (h : (cM ls).length ≤ 254) : ek ls = (cM ls, 0) := by
  rw [ek, if_neg (by omega), if_neg (by omega)]

set_option maxRecDepth 100000 in
theorem c_ref02_Make (ls : List aX) (A : Option Addr) (ca : Nat) (hl : ls.length ≤ 1000000000000) : RC Tryz.prog 143 #[.slice A ls.length ca] [Ch.rd A 1 fq ls] (α := Unit) (fun _ => .tuple #[.string (ba (ek ls).1), .int .i64 (ek ls).2]) (fun _ => []) := by
 refine bh (args := [.slice A ls.length ca]) 47 Tryz.func143 rfl rfl rfl (fun w0 => ?_)
 refine ao ?_
 refine ab ?_
 refine ap (ai rfl) rfl rfl ?_
 refine ap (ai rfl) rfl rfl ?_
 refine ae ?_
 refine aj ?_
 refine ao ?_
 refine ab ?_
 refine ap (ai rfl) rfl rfl ?_
 refine ae ?_
 refine aj ?_
 refine ao ?_
 refine ao ?_
 refine ab ?_
 refine ap (ai rfl) rfl rfl ?_
 refine ae ?_
 refine aj ?_
 refine aT ?_
 refine bZ (σ := Nat) [2, 3, 5, 6, 8, 9, 10, 11, 12, 13, 14, 15, 16, 17, 18, 19, 20, 21] (fun k => k ≤ ls.length ∧ b8 ls = b8 (ls.drop k)) (fun k => ls.length - k) (fun k => [(5, .int .i64 k)]) (0) ?_ ⟨rfl, trivial⟩ (fun k hI => ?_)
 exact ⟨Nat.zero_le _, rfl⟩
 refine ao ?_
 refine ao ?_
 refine ab ?_
 refine ap (ak rfl) rfl rfl ?_
 refine ap (ak rfl) rfl rfl ?_
 refine ap (ck Tryz.underlying135 rfl) rfl rfl ?_
 refine ap (bQ rfl rfl) rfl rfl ?_
 refine aG (t := 11) rfl (fun h3_3 => ?_) (fun h3_3 => ?_)
 refine ae ?_
 refine aj ?_
 refine ay rfl ?_
 refine aL ?_
 refine aj ?_
 refine ao ?_
 refine aT ?_
 refine ao ?_
 refine ab ?_
 refine ap (ak rfl) rfl rfl ?_
 refine ap (ak rfl) rfl rfl ?_
 refine ap (cp  Tryz.underlying135 eb rfl rfl (cI 0 rfl) rfl (by omega)) rfl rfl ?_
 refine ap (dd fd ([] : aX) eb rfl (cI 0 rfl) (by omega) rfl rfl) rfl rfl ?_
 refine aR rfl ent_194 (c_ref01_Check _) rfl ?_
 refine ap (ai rfl) rfl rfl ?_
 refine ae ?_
 refine aj ?_
 refine ao ?_
 refine ab ?_
 refine ap (ak rfl) rfl rfl ?_
 refine ap (cc rfl rfl) rfl rfl ?_
 refine aG (t := 20) rfl (fun h6_1 => ?_) (fun h6_1 => ?_)
 refine ae ?_
 refine aj ?_
 refine ay rfl ?_
 refine ao ?_
 refine ab ?_
 refine ap (ak rfl) rfl rfl ?_
 refine ap (ai rfl) rfl rfl ?_
 refine ap (ai rfl) rfl rfl ?_
 refine ae ?_
 refine aj ?_
 refine aH ?_
 refine aU ?_
 refine az ?_
 refine bv ?_
 refine aU ?_
 refine az ?_
 refine aN (ts := [2, 3]) rfl rfl rfl (fun w hw => ?_)
 have hk : k < ls.length := by omega
 have hdk := dI ls [] k hk
 have hf : b8 ls = ef (ls.getD k []) := by rw [hI.2, hdk, b8, if_neg (by omega)]
 exact ⟨(), by rw [ek, if_pos (by omega), hf]; rfl, hw.base, hw.toNews⟩
 refine ae ?_
 refine aj ?_
 refine aw rfl ?_
 refine aL ?_
 refine bw ?_
 refine aj ?_
 refine ab ?_
 refine ap (ak rfl) rfl rfl ?_
 refine ap (bi rfl rfl (by omega) (by omega)) rfl rfl ?_
 refine ap (ai rfl) rfl rfl ?_
 refine ae ?_
 have hk : k < ls.length := by omega
 have hdk := dI ls [] k hk
 refine bA (k + 1) ?_ ?_ ⟨rfl, trivial⟩ (by repeat (first | exact trivial | refine ⟨rfl, ?_⟩)) au
 exact ⟨by omega, by rw [hI.2, hdk, b8, if_pos (by omega)]⟩
 omega
 refine ae ?_
 refine aj ?_
 refine aw rfl ?_
 refine bG ?_
 refine a7 ?_
 refine aZ ?_
 refine bc ?_
 refine aj ?_
 refine ao ?_
 refine ao ?_
 have hz : b8 ls = 0 := by rw [hI.2, List.drop_of_length_le (by omega)]; rfl
 refine ab ?_
 refine ap (ai rfl) rfl rfl ?_
 refine ae ?_
 refine aj ?_
 refine aT ?_
 refine bZ (σ := Nat) [2, 3, 4, 7, 22, 23, 24, 25, 26, 27, 28, 29, 30, 31, 32, 33, 34, 35, 36, 37, 38, 39, 40, 41, 42, 43, 44, 45] (fun k => k ≤ ls.length ∧ (cM (ls.take k)).length ≤ 254) (fun k => ls.length - k) (fun k => [(7, .int .i64 k), (4, .string (ba (cM (ls.take k))))]) (0) ?_ ⟨rfl, rfl, trivial⟩ (fun k hI => ?_)
 exact ⟨Nat.zero_le _, by simp [cM]⟩
 refine ao ?_
 refine ao ?_
 refine ab ?_
 refine ap (ak rfl) rfl rfl ?_
 refine ap (ak rfl) rfl rfl ?_
 refine ap (ck Tryz.underlying135 rfl) rfl rfl ?_
 refine ap (bQ rfl rfl) rfl rfl ?_
 refine aG (t := 25) rfl (fun h9_3 => ?_) (fun h9_3 => ?_)
 have hk : k < ls.length := by omega
 have hlk : 1 ≤ (ls.getD k []).length ∧ (ls.getD k []).length ≤ 63 := firstCk_zero.1 hz (ls.getD k []) (by rw [List.getD_eq_getElem?_getD, List.getElem?_eq_getElem hk]; exact List.getElem_mem hk)
 have htk := c4 ls [] k hk
 have htk2 : cM (ls.take (k + 1)) = cM (ls.take k) ++ ([UInt8.ofNat (ls.getD k []).length] ++ ls.getD k []) := by rw [htk, dQ, encn_one]; rfl
 refine ae ?_
 refine aj ?_
 refine ay rfl ?_
 refine aL ?_
 refine aj ?_
 refine ao ?_
 refine aT ?_
 refine ao ?_
 refine dH 16 rfl mixed ?_
 refine aB (i := 0) rfl ah (ak rfl) au au rfl (aa (ar (aa (aF (ar (aa aq)))))) (by kernel_rfl) rfl ?_
 refine aB (i := 1) rfl ah (ak rfl) au au rfl (aa (ar (aa (aF (ar (aa aq)))))) (by kernel_rfl) rfl ?_
 refine aB (i := 2) rfl ah (ak rfl) au au rfl (aa (ar (aa (aF (ar (aa aq)))))) (by kernel_rfl) rfl ?_
 refine aB (i := 3) rfl ah (cp  Tryz.underlying135 eb rfl rfl (cI 0 rfl) rfl (by omega)) au au rfl (aa (ar (aa (aF (ar (aa aq)))))) (by kernel_rfl) rfl ?_
 refine aB (i := 4) rfl ah (dd fd ([] : aX) eb rfl (cI 0 rfl) (by omega) rfl rfl) au au rfl (aa (ar (aa (aF (ar (aa aq)))))) (by kernel_rfl) rfl ?_
 refine aB (i := 5) rfl ah (dg Tryz.underlying9 rfl) au au rfl (aa (ar (aa (aF (ar (aa aq)))))) (by kernel_rfl) rfl ?_
 refine aB (i := 6) rfl ah (fv Tryz.underlying3 Tryz.underlying5 rfl) au au rfl (aa (ar (aa (aF (ar (aa aq)))))) (by kernel_rfl) rfl ?_
 refine wa_as (t := 34) (.int .u8 ((UInt8.ofNat (ls.getD k []).length).toNat : Int)) rfl (congrArg _ (by rw [dW (by omega) (by omega), u8len hlk.2])) ?_
 refine aB (i := 10) rfl ah (ak rfl) au au rfl (aa (ar (aa (aF (ar (aa aq)))))) (by kernel_rfl) rfl ?_
 refine aB (i := 11) rfl ah (ak rfl) au au rfl (aa (ar (aa (aF (ar (aa aq)))))) (by kernel_rfl) rfl ?_
 refine aB (i := 12) rfl ah (cp  Tryz.underlying135 eb rfl rfl (cI 0 rfl) rfl (by omega)) au au rfl (aa (ar (aa (aF (ar (aa aq)))))) (by kernel_rfl) rfl ?_
 refine aB (i := 13) rfl ah (dd fd ([] : aX) eb rfl (cI 0 rfl) (by omega) rfl rfl) au au rfl (aa (ar (aa (aF (ar (aa aq)))))) (by kernel_rfl) rfl ?_
 refine cB (i := 7) rfl rfl rfl (fun _ _ _ => bo (by kernel_rfl)) (by kernel_rfl) rfl ?_
 refine gq (vs := [_]) ([_] : List (UInt8)) gP Tryz.underlying75 fA rfl rfl rfl rfl rfl rfl (fun As1 => ?_)
 refine ae ?_
 refine cN (bP 1) ?_
 refine cB (i := 8) rfl rfl rfl (fun _ _ _ => bo (by kernel_rfl)) (by kernel_rfl) rfl ?_
 refine ap (y_b2s Tryz.underlying75 Tryz.underlying9 Tryz.underlying5 rfl (ec 0 rfl)) rfl rfl ?_
 refine ae ?_
 refine cN (bP 1) ?_
 refine aB (i := 9) rfl ah (y_adds rfl rfl (by first | omega | (simp only [List.length_nil, List.length_cons, List.length_take, List.length_drop, List.length_append]; omega))) (bP 1) au rfl (aa (ar (aa (aF (ar (aa aq)))))) (by kernel_rfl) rfl ?_
 refine aB (i := 14) rfl ah (y_adds rfl rfl (by first | omega | (simp only [List.length_nil, List.length_cons, List.length_take, List.length_drop, List.length_append]; omega))) (bP 1) au rfl (aa (ar (aa (aF (ar (aa aq)))))) (by kernel_rfl) rfl ?_
 refine aB (i := 15) rfl ah (ai rfl) (bP 1) au rfl (aa (ar (aa (aF (ar (aa aq)))))) (by kernel_rfl) rfl ?_
 refine cm (by kernel_rfl) ?_
 refine aj ?_
 refine ao ?_
 refine ab ?_
 refine ap (ak rfl) rfl rfl ?_
 refine ap (dg Tryz.underlying9 rfl) rfl rfl ?_
 refine ap (dU rfl rfl) rfl rfl ?_
 refine aG (t := 45) rfl (fun h12_2 => ?_) (fun h12_2 => ?_)
 refine ae ?_
 refine aj ?_
 refine ay rfl ?_
 refine ao ?_
 refine ab ?_
 refine ap (ai rfl) rfl rfl ?_
 refine ap (ai rfl) rfl rfl ?_
 refine ae ?_
 refine aj ?_
 refine aH ?_
 refine aU ?_
 refine az ?_
 refine bv ?_
 refine aU ?_
 refine az ?_
 refine aN (ts := [2, 3]) rfl rfl rfl (fun w hw => ?_)
 focus first
   | (have hlong : 254 < (cM (ls.take (k + 1))).length := by rw [htk2, ← List.append_assoc]; omega
      exact ⟨(), by rw [make_long hz hlong]; rfl, hw.base, (hw.weak (List.nil_sublist _) (fun s hs => hs)).toNews⟩)
   | (have hk : k = ls.length := by omega
      rw [hk, List.take_length] at hI ⊢
      exact ⟨(), by rw [make_done hz hI.2]; rfl, hw.base, (hw.weak (List.nil_sublist _) (fun s hs => hs)).toNews⟩)
   | (trace_state; fail)
 refine ae ?_
 refine aj ?_
 refine aw rfl ?_
 refine aL ?_
 refine bw ?_
 refine aj ?_
 refine ab ?_
 refine ap (ak rfl) rfl rfl ?_
 refine ap (bi rfl rfl (by omega) (by omega)) rfl rfl ?_
 refine ap (ai rfl) rfl rfl ?_
 refine ae ?_
 refine bA (k + 1) ?_ ?_ ⟨rfl, lk rfl (by rw [htk2, List.append_assoc]), trivial⟩ (by repeat (first | exact trivial | refine ⟨rfl, ?_⟩)) (bP 1)
 exact ⟨by omega, by rw [htk2, ← List.append_assoc]; omega⟩
 omega
 refine ae ?_
 refine aj ?_
 refine aw rfl ?_
 refine bG ?_
 refine a7 ?_
 refine aZ ?_
 refine bc ?_
 refine aj ?_
 refine ao ?_
 refine ab ?_
 refine ap (ak rfl) rfl rfl ?_
 refine ap (ai rfl) rfl rfl ?_
 refine ap (ai rfl) rfl rfl ?_
 refine ae ?_
 refine aj ?_
 refine aH ?_
 refine aN (ts := [2, 3]) rfl rfl rfl (fun w hw => ?_)
 focus first
   | (have hlong : 254 < (cM (ls.take (k + 1))).length := by rw [htk2, ← List.append_assoc]; omega
      exact ⟨(), by rw [make_long hz hlong]; rfl, hw.base, (hw.weak (List.nil_sublist _) (fun s hs => hs)).toNews⟩)
   | (have hk : k = ls.length := by omega
      rw [hk, List.take_length] at hI ⊢
      exact ⟨(), by rw [make_done hz hI.2]; rfl, hw.base, (hw.weak (List.nil_sublist _) (fun s hs => hs)).toNews⟩)
   | (trace_state; fail)

theorem c_ref02_Fold (n : aX) (hn : n.length ≤ 1000000000) : RC Tryz.prog 112 #[.string (ba n)] [] (α := Unit) (fun _ => .string (ba (aY n))) (fun _ => []) := by
 refine bh (args := [.string (ba n)]) 29 Tryz.func112 rfl rfl rfl (fun w0 => ?_)
 refine ao ?_
 refine ab ?_
 refine ap (ai rfl) rfl rfl ?_
 refine ae ?_
 refine aj ?_
 refine ao ?_
 refine ab ?_
 refine ap (ak rfl) rfl rfl ?_
 refine cw rfl ent_83 rfl (c_ref02_Labels _) (fun w hw => bf) (fun ⟨A0, c0⟩ => ?_)
 have hlb := labsN_le n hn
 refine ap (ai rfl) rfl rfl ?_
 refine ae ?_
 refine aj ?_
 refine ao ?_
 refine ao ?_
 refine ab ?_
 refine ap (ai rfl) rfl rfl ?_
 refine ae ?_
 refine aj ?_
 refine aT ?_
 refine dO (σ := Nat) [3, 4, 9, 10, 11, 12, 13, 14, 15, 16, 17, 18, 19, 20, 21, 22] (fun k => k ≤ (bD n).length) (fun k => (bD n).length - k) (fun k => [(4, .int .i64 k), (3, .slice A0 (((bD n).take k).map db ++ (bD n).drop k).length c0)]) (fun k => Ch.ls A0 c0 9 1 fq (((bD n).take k).map db ++ (bD n).drop k)) (0) ?_ ⟨rfl, rfl, trivial⟩ rfl (fun k hI => ?_)
 exact Nat.zero_le _
 have hml := cj db (bD n) k
 refine ao ?_
 refine ao ?_
 refine ab ?_
 refine ap (ak rfl) rfl rfl ?_
 refine ap (ak rfl) rfl rfl ?_
 refine ap (ck Tryz.underlying135 rfl) rfl rfl ?_
 refine ap (bQ rfl rfl) rfl rfl ?_
 refine aG (t := 12) rfl (fun h3_3 => ?_) (fun h3_3 => ?_)
 refine ae ?_
 refine aj ?_
 refine ay rfl ?_
 refine aL ?_
 refine aj ?_
 refine ao ?_
 refine aT ?_
 refine ab ?_
 refine ap (ak rfl) rfl rfl ?_
 refine ap (ak rfl) rfl rfl ?_
 refine ap (ak rfl) rfl rfl ?_
 refine ap (ak rfl) rfl rfl ?_
 refine ap (cp  Tryz.underlying135 eb rfl rfl (ec 0 rfl) rfl (by rw [cj]; omega)) rfl rfl ?_
 refine ap (dd fd ([] : aX) eb rfl (ec 0 rfl) (by rw [cj]; omega) rfl rfl) rfl rfl ?_
 refine aR rfl ent_180 (c_ref01_Fold _ (fold_b (by omega) hlb.2.1)) rfl ?_
 refine ap (cp  Tryz.underlying135 eb rfl rfl (ec 0 rfl) rfl (by rw [cj]; omega)) rfl rfl ?_
 refine o_stm0 fd ([] : aX) _ eb rfl rfl rfl .z rfl (by rw [cj]; omega) rfl rfl rfl ?_
 refine ae ?_
 refine bw ?_
 refine aj ?_
 refine ab ?_
 refine ap (ak rfl) rfl rfl ?_
 refine ap (bi rfl rfl (by omega) (by omega)) rfl rfl ?_
 refine ap (ai rfl) rfl rfl ?_
 refine ae ?_
 have hk : k < (bD n).length := by omega
 refine bA (k + 1) ?_ ?_ ⟨rfl, lk rfl (by rw [cj, cj]), trivial⟩ (by repeat (first | exact trivial | refine ⟨rfl, ?_⟩)) (fun w h => by rw [mapS_at db (bD n) k hk, mapS_step db (bD n) k hk] at h; exact h)
 omega
 omega
 refine ae ?_
 refine aj ?_
 refine aw rfl ?_
 refine bG ?_
 refine a7 ?_
 refine aZ ?_
 refine bc ?_
 refine aj ?_
 refine ao ?_
 refine ab ?_
 obtain rfl : k = (bD n).length := by omega
 refine ap (ak rfl) rfl rfl ?_
 refine bu rfl ent_143 rfl (c_ref02_Make _ _ _ (by simp; omega)) (fun w hw => (aW (gM 0 rfl hw) bf)) ?_
 refine ap (ak rfl) rfl rfl ?_
 refine ap (aJ rfl rfl) rfl rfl ?_
 refine ap (aJ rfl rfl) rfl rfl ?_
 refine ap (ai rfl) rfl rfl ?_
 refine ap (ai rfl) rfl rfl ?_
 refine ae ?_
 refine aj ?_
 refine ao ?_
 refine ab ?_
 refine ap (ak rfl) rfl rfl ?_
 refine ap (ai rfl) rfl rfl ?_
 refine ae ?_
 refine aj ?_
 refine aH ?_
 refine aN (ts := [2]) rfl rfl rfl (fun w hw => ?_)
 exact ⟨(), by rw [← make_fold]; simp [da], hw.base, (hw.weak (List.nil_sublist _) (fun s hs => hs)).toNews⟩

theorem gu (n : aX) (hn : n.length ≤ 1000000000) : cC Tryz.prog 112 #[.string (ba n)] (.string (ba (aY n))) := rc_pure (c_ref02_Fold n hn)

end Go.Proofs.YtnpdgmoeoidppaaGreat

/- Octets compared, slices that are made: plain laws. -/
namespace Go.Proofs.YtnpdgmoeoidppaaGreat
open Go.RowKit Go.Shelf
set_option linter.unusedVariables false
set_option linter.unusedSimpArgs false

/-- Octets compared, one behind the other. -/
def cmpS : aX → aX → Int
  | [], [] => 0
  | [], _ :: _ => -1
  | _ :: _, [] => 1
  | a :: r, b :: t => if a < b then -1 else if b < a then 1 else cmpS r t
/-! Slices that are made. -/
section
variable {x : Cx} {l : Fr} {L S : List Ch} {Q : Exit → Act → World → Prop} {ops : Array Oper} {rest : List Oper} {d : Nat} {ty : TypeId} {pos : String} {af : Array Edge} {gd : Option (Nat × Bool)}
end
end Go.Proofs.YtnpdgmoeoidppaaGreat

/- names that are the same; the laws of sums -/
namespace Go.Proofs.YtnpdgmoeoidppaaGreat
open Go.RowKit Go.Shelf
set_option linter.unusedVariables false
set_option linter.unusedSimpArgs false

theorem cF {α : Type} {l : List α} {d : α} {k : Nat} (h : k < l.length) : l.getD k d ∈ l := by
  rw [List.getD_eq_getElem?_getD, List.getElem?_eq_getElem h]; exact List.getElem_mem h
theorem okN_low {n : aX} (h : gn n = true) : gn (db n) = true := by
  have e := gL (dG n) (dX n)
  rw [eE n h] at e
  rw [← e]
  refine (fx _ ?_).1
  intro s hs
  obtain ⟨t, ht, rfl⟩ := List.mem_map.1 hs
  rw [cJ]; exact dX n t ht
theorem nameCk_low {n : aX} (h : bg n = 0) : bg (db n) = 0 := by
  obtain ⟨h1, h2⟩ := nameCk_zero.1 h
  exact nameCk_zero.2 ⟨by rw [cJ]; exact h1, okN_low h2⟩
end Go.Proofs.YtnpdgmoeoidppaaGreat

/- Structs and arrays compared. -/
namespace Go.Proofs.YtnpdgmoeoidppaaGreat
open Go.RowKit Go.Shelf
set_option linter.unusedVariables false
set_option linter.unusedSimpArgs false

/-- An equality that the model settles so from some depth on. -/
def EqD (P : Program) (n : Nat) (t : TypeId) (v u : Value) (b : Bool) : Prop := ∀ d w, (Op.equalIn (d + n) t v u).run P w = .ok b w
def EqF (P : Program) (n : Nat) (xs ys : Array Value) (fs : List Field) (b : Bool) : Prop := ∀ d w, (Op.eqFields (d + n) xs ys fs).run P w = .ok b w
section
variable {P : Program} {n m : Nat} {t : TypeId} {xs ys : Array Value} {f : Field} {fs : List Field} {v u : Value} {r s : Bool}
theorem EqD.up (h : EqD P m t v u r) (hm : m ≤ n) : EqD P n t v u r := fun d w => by
  obtain ⟨k, rfl⟩ : ∃ k, n = k + m := ⟨n - m, by omega⟩
  rw [← Nat.add_assoc]; exact h _ w
theorem eqd_int {k k' : IntKind} {a b : Int} (h : P.underlying t = some (.int k')) : EqD P 1 t (.int k a) (.int k b) (a == b) := fun d w => run_equalIn_int w d t k k' a b h
theorem eqd_bool {a b : Bool} (h : P.underlying t = some .bool) : EqD P 1 t (.bool a) (.bool b) (a == b) := fun d w => run_equalIn_bool' w d t a b h
theorem eqf_nil : EqF P n xs ys [] true := fun d w => by simp [Op.eqFields]
theorem eqf_cons (hn : (f.name == "_") = false) (ha : ∀ w, (part f.type xs f.offset).run P w = .ok v w) (hb : ∀ w, (part f.type ys f.offset).run P w = .ok u w) (he : EqD P m f.type v u r) (hm : Nat.ble m n = true) (hr : EqF P n xs ys fs s) : EqF P n xs ys (f :: fs) (r && s) := fun d w => by
  have hn' : f.name ≠ "_" := by simpa using hn
  rw [Op.eqFields]
  simp only [if_pos hn', Sem.run_bind, ha, hb, (he.up (Nat.le_of_ble_eq_true hm)) d w, Result.andThen_ok]
  cases r
  · simp
  · simpa using hr d w
theorem eqd_struct {fa : Array Field} (hu : P.underlying t = some (.struct fa)) (hp : P.stoodInHeld t = false) (h : EqF P n xs ys fa.toList r) : EqD P (n + 1) t (.agg xs) (.agg ys) r := fun d w => by
  have hf : P.fieldsOf t = fa := by simp [Program.fieldsOf, hu]
  rw [← Nat.add_assoc, run_equalIn_struct (P := P) w (d + n) t xs ys (by rw [hf]; exact hu) hp, hf]
  exact h d w
end
section
variable {x : Cx} {l : Fr} {L S : List Ch} {d : Nat} {ty : TypeId} {pos : String} {af : Array Edge} {gd : Option (Nat × Bool)}
theorem y_eqst {y z : Operand} {xs ys : Array Value} {b : Bool} {yt zt : TypeId} {n : Nat} (hm : x.P.eqGuardType x.P.depth yt = false) (hy : ev l y = some (.agg xs)) (hz : ev l z = some (.agg ys)) (h : EqD x.P n yt (.agg xs) (.agg ys) b) (hn : Nat.ble n 10000 = true) :
    Yv x l L S ⟨some d, .binOp .eql yt y z zt, ty, pos, af, gd⟩ (.bool b) := fun a w ha hw => by
  have he : (Op.equalIn 10000 yt (.agg xs) (.agg ys)).run x.P w = .ok b w := by
    obtain ⟨k, hk⟩ : ∃ k, 10000 = k + n := ⟨10000 - n, by have := Nat.le_of_ble_eq_true hn; omega⟩
    rw [hk]; exact h k w
  simp only [execOp, ha.ev hy, ha.ev hz]
  simp [run_eqGuard_agg w .eql yt y z xs ys hm, run_eql_struct, he]
theorem y_nest {y z : Operand} {xs ys : Array Value} {b : Bool} {yt zt : TypeId} {n : Nat} (hm : x.P.eqGuardType x.P.depth yt = false) (hy : ev l y = some (.agg xs)) (hz : ev l z = some (.agg ys)) (h : EqD x.P n yt (.agg xs) (.agg ys) b) (hn : Nat.ble n 10000 = true) :
    Yv x l L S ⟨some d, .binOp .neq yt y z zt, ty, pos, af, gd⟩ (.bool (!b)) := fun a w ha hw => by
  have he : (Op.equalIn 10000 yt (.agg xs) (.agg ys)).run x.P w = .ok b w := by
    obtain ⟨k, hk⟩ : ∃ k, 10000 = k + n := ⟨10000 - n, by have := Nat.le_of_ble_eq_true hn; omega⟩
    rw [hk]; exact h k w
  simp only [execOp, ha.ev hy, ha.ev hz]
  simp [run_eqGuard_agg w .neq yt y z xs ys hm, run_neq_struct, he]
theorem y_nestd {y z : Operand} {xs ys : Array Value} {p : Prop} [Decidable p] {yt zt : TypeId} {n : Nat} (hm : x.P.eqGuardType x.P.depth yt = false) (hy : ev l y = some (.agg xs)) (hz : ev l z = some (.agg ys)) (h : EqD x.P n yt (.agg xs) (.agg ys) (decide p)) (hn : Nat.ble n 10000 = true) :
    Yv x l L S ⟨some d, .binOp .neq yt y z zt, ty, pos, af, gd⟩ (.bool (decide (¬ p))) := (y_nest hm hy hz h hn).eq (by rw [decide_not])
end
end Go.Proofs.YtnpdgmoeoidppaaGreat
