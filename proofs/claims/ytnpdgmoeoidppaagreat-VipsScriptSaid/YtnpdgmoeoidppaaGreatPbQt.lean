import Derived.Test.YtnpdgmoeoidppaaGreatCbQt
import Derived.Test.YtnpdgmoeoidppaaGreatPaQt
import Derived.Lib.Bytealg
import GoSem.Extern.BytealgCompare
/- hash: the sums -/
namespace Go.Proofs.YtnpdgmoeoidppaaGreat
open Go.RowKit Go.Shelf
set_option linter.unusedVariables false
set_option linter.unusedSimpArgs false

theorem ent_165 : Enters Tryz.prog 165 := enters_of Tryz.func165 (by kernel_rfl) rfl
theorem ent_214 : Enters Tryz.prog 214 := enters_of Tryz.func214 (by kernel_rfl) rfl
theorem ent_238 : Enters Tryz.prog 238 := enters_of Tryz.func238 (by kernel_rfl) rfl
theorem ent_256 : Enters Tryz.prog 256 := enters_of Tryz.func256 (by kernel_rfl) rfl
theorem gl : Enters Tryz.prog 73 := enters_of Tryz.func73 (by kernel_rfl) rfl
theorem eW : TyI Tryz.prog 3 false 1 8 (.int .i64 0) := TyI.mk' (by kernel_rfl) (fun _ => by kernel_rfl)

/-- The sum of octets, from a sum on. -/
def stepH (h : Int) (b : UInt8) : Int := IntKind.u64.wrap (bits .xor .u64 h b.toNat * 1099511628211)
def fR (sum : Int) (s : aV) : Int := s.foldl stepH sum
def sumH (s : aV) : Int := fR 14695981039346656037 s
def jb (n : aV) : Int := sumH (a6 n)
/-- A name's slot. -/
def dO (n : aV) (slots : Int) : Int := if slots < 1 then 0 else IntKind.i64.wrap (Int.tmod (jb n) slots)
theorem moreH_append (h : Int) (s t : aV) : fR h (s ++ t) = fR (fR h s) t := by simp [fR]
theorem moreH_take (h : Int) (s : aV) (k : Nat) (hk : k < s.length) : fR h (s.take (k + 1)) = stepH (fR h (s.take k)) (s.getD k 0) := by
  rw [bH s 0 k hk, moreH_append]; rfl
theorem wrap64_rng (n : Int) : 0 ≤ IntKind.u64.wrap n ∧ IntKind.u64.wrap n ≤ 18446744073709551615 := by
  have : IntKind.u64.wrap n = n % 18446744073709551616 := rfl
  rw [this]; omega
theorem moreH_rng (h : Int) (h0 : 0 ≤ h ∧ h ≤ 18446744073709551615) : ∀ s : aV, 0 ≤ fR h s ∧ fR h s ≤ 18446744073709551615
  | [] => h0
  | b :: r => moreH_rng _ (wrap64_rng _) r
theorem sumH_rng (s : aV) : 0 ≤ sumH s ∧ sumH s ≤ 18446744073709551615 := moreH_rng _ (by omega) s

theorem slotH_val {n : aV} {slots : Int} (h1 : 1 ≤ slots) (h2 : slots ≤ 9223372036854775807) : dO n slots = jb n % slots ∧ 0 ≤ dO n slots ∧ dO n slots < slots := by
  have hr := sumH_rng (a6 n)
  have e : Int.tmod (jb n) slots = jb n % slots := Int.tmod_eq_emod_of_nonneg hr.1
  have l1 := Int.emod_nonneg (jb n) (show slots ≠ 0 by omega)
  have l2 := Int.emod_lt_of_pos (jb n) (show 0 < slots by omega)
  have e2 : dO n slots = jb n % slots := by rw [dO, if_neg (by omega), e, iU (by omega) (by omega)]
  rw [e2]; exact ⟨rfl, l1, l2⟩
theorem c_hash_More (sum : Int) (s : aV) (hs : s.length ≤ 1000000000000) : cO Tryz.prog 256 #[.int .u64 sum, .string (ba s)] (.int .u64 (fR sum s)) := by
 intro w0
 refine bd (ok0 := no) (S := []) (args := [.int .u64 sum, .string (ba s)]) 21 Tryz.func256 rfl rfl rfl (by simp) (by simp) ?_
 refine ao ?_
 refine ab ?_
 refine ap (ai rfl) rfl rfl ?_
 refine ae ?_
 refine aj ?_
 refine ao ?_
 refine ab ?_
 refine ap (ak rfl) rfl rfl ?_
 refine ap (ai rfl) rfl rfl ?_
 refine ae ?_
 refine aj ?_
 refine ao ?_
 refine ao ?_
 refine ab ?_
 refine ap (ak rfl) rfl rfl ?_
 refine ap (dW Tryz.underlying9 rfl) rfl rfl ?_
 refine ap (ak rfl) rfl rfl ?_
 refine ae ?_
 refine aj ?_
 refine aP ?_
 refine b8 (σ := Nat) [4, 5, 9, 10, 11, 12, 13, 14, 15, 16, 17, 18, 19] (fun k => k ≤ s.length) (fun k => s.length - k) (fun k => [(9, .int .i64 k), (4, .int .u64 (fR sum (s.take k)))]) (0) ?_ ⟨rfl, rfl, trivial⟩ (fun k hI => ?_)
 exact Nat.zero_le _
 have hb := bt_lt s k
 refine ao ?_
 refine ab ?_
 refine ap (bF rfl rfl) rfl rfl ?_
 refine aC (t := 10) rfl (fun h3_0 => ?_) (fun h3_0 => ?_)
 refine ae ?_
 refine aj ?_
 refine ao ?_
 refine ay rfl ?_
 refine aH ?_
 refine aj ?_
 refine ao ?_
 refine aP ?_
 refine ao ?_
 refine ab ?_
 refine ap (ak rfl) rfl rfl ?_
 refine ap (ai rfl) rfl rfl ?_
 refine ae ?_
 refine aj ?_
 refine ab ?_
 refine ap (ak rfl) rfl rfl ?_
 refine ap (ak rfl) rfl rfl ?_
 refine ap (ak rfl) rfl rfl ?_
 refine ap (gE  Tryz.underlying9 rfl rfl rfl (by omega)) rfl rfl ?_
 refine ap (dS Tryz.underlying5 Tryz.underlying27 rfl (dy (by omega) (by omega))) rfl rfl ?_
 refine ap (y_xor rfl rfl) rfl rfl ?_
 refine ap (y_mul rfl rfl) rfl rfl ?_
 refine ap (ai rfl) rfl rfl ?_
 refine ae ?_
 refine bq ?_
 refine aj ?_
 refine ab ?_
 refine ap (bg rfl rfl (by omega) (by omega)) rfl rfl ?_
 refine ap (ak rfl) rfl rfl ?_
 refine ae ?_
 have hk : k < s.length := by omega
 refine bo (k + 1) ?_ ?_ ⟨rfl, lk rfl (by rw [moreH_take sum s k hk]; rfl), trivial⟩ (by repeat (first | exact trivial | refine ⟨rfl, ?_⟩)) aw
 omega
 omega
 refine ae ?_
 refine aj ?_
 refine ao ?_
 refine au rfl ?_
 refine bC ?_
 refine aY ?_
 refine aU ?_
 refine a8 ?_
 refine aj ?_
 refine ao ?_
 refine ab ?_
 refine ap (ak rfl) rfl rfl ?_
 refine ap (ai rfl) rfl rfl ?_
 refine ae ?_
 refine aj ?_
 refine aF ?_
 refine aJ (ts := [4]) rfl rfl rfl (fun w hw => ?_)
 obtain rfl : k = s.length := by omega
 exact ⟨by rw [List.take_length]; rfl, hw.base⟩

theorem c_hash_Sum (s : aV) (hs : s.length ≤ 1000000000000) : cO Tryz.prog 238 #[.string (ba s)] (.int .u64 (sumH s)) := by
 intro w0
 refine bd (ok0 := no) (S := []) (args := [.string (ba s)]) 5 Tryz.func238 rfl rfl rfl (by simp) (by simp) ?_
 refine ao ?_
 refine ab ?_
 refine ap (ai rfl) rfl rfl ?_
 refine ae ?_
 refine aj ?_
 refine ao ?_
 refine ab ?_
 refine ap (ak rfl) rfl rfl ?_
 refine aS rfl ent_256 (c_hash_More _ _ (by first | omega | (simp only [List.length_nil, List.length_cons, List.length_take, List.length_drop, List.length_append]; omega))) rfl ?_
 refine ap (ai rfl) rfl rfl ?_
 refine ae ?_
 refine aj ?_
 refine aF ?_
 refine aJ (ts := [2]) rfl rfl rfl (fun w hw => ?_)
 exact ⟨rfl, hw.base⟩

theorem foldN_le (n : aV) (hn : n.length ≤ 1000000000) : (a6 n).length ≤ 1000000000 := by
  unfold a6; split
  · rw [dd]; exact hn
  · simp

theorem c_hash_Name (n : aV) (hn : n.length ≤ 1000000000) : cO Tryz.prog 214 #[.string (ba n)] (.int .u64 (jb n)) := by
 intro w0
 have hfl := foldN_le n hn
 refine bd (ok0 := no) (S := []) (args := [.string (ba n)]) 6 Tryz.func214 rfl rfl rfl (by simp) (by simp) ?_
 refine ao ?_
 refine ab ?_
 refine ap (ai rfl) rfl rfl ?_
 refine ae ?_
 refine aj ?_
 refine ao ?_
 refine ab ?_
 refine ap (ak rfl) rfl rfl ?_
 refine aS rfl gl (dK _ (by omega)) rfl ?_
 refine aS rfl ent_238 (c_hash_Sum _ (by first | omega | (simp only [List.length_nil, List.length_cons, List.length_take, List.length_drop, List.length_append]; omega))) rfl ?_
 refine ap (ai rfl) rfl rfl ?_
 refine ae ?_
 refine aj ?_
 refine aF ?_
 refine aJ (ts := [2]) rfl rfl rfl (fun w hw => ?_)
 exact ⟨rfl, hw.base⟩

theorem c_hash_Slot (n : aV) (slots : Int) (hn : n.length ≤ 1000000000) (h1 : -9223372036854775808 ≤ slots) (h2 : slots ≤ 9223372036854775807) : cO Tryz.prog 165 #[.string (ba n), .int .i64 slots] (.int .i64 (dO n slots)) := by
 intro w0
 refine bd (ok0 := no) (S := []) (args := [.string (ba n), .int .i64 slots]) 13 Tryz.func165 rfl rfl rfl (by simp) (by simp) ?_
 refine ao ?_
 refine ab ?_
 refine ap (ai rfl) rfl rfl ?_
 refine ae ?_
 refine aj ?_
 refine ao ?_
 refine ao ?_
 refine ab ?_
 refine ap (ak rfl) rfl rfl ?_
 refine ap (bF rfl rfl) rfl rfl ?_
 refine aC (t := 6) rfl (fun h1_1 => ?_) (fun h1_1 => ?_)
 refine ae ?_
 refine aj ?_
 refine ay rfl ?_
 refine ao ?_
 refine ab ?_
 refine ap (ai rfl) rfl rfl ?_
 refine ae ?_
 refine aj ?_
 refine aF ?_
 refine aA ?_
 refine aJ (ts := [4]) rfl rfl rfl (fun w hw => ?_)
 exact ⟨by rw [dO, if_pos h1_1]; rfl, hw.base⟩
 refine ae ?_
 refine aj ?_
 refine au rfl ?_
 refine aH ?_
 refine aj ?_
 refine ao ?_
 refine ab ?_
 refine ap (ak rfl) rfl rfl ?_
 refine aS rfl ent_214 (c_hash_Name _ (by omega)) rfl ?_
 refine ap (ak rfl) rfl rfl ?_
 refine ap (dS Tryz.underlying3 Tryz.underlying27 rfl (dy (by omega) (by omega))) rfl rfl ?_
 refine ap (y_rem rfl rfl (by omega)) rfl rfl ?_
 refine ap (gD Tryz.underlying27 Tryz.underlying3 rfl) rfl rfl ?_
 refine ap (ai rfl) rfl rfl ?_
 refine ae ?_
 refine aj ?_
 refine aF ?_
 refine aJ (ts := [4]) rfl rfl rfl (fun w hw => ?_)
 exact ⟨by rw [dO, if_neg h1_1]; rfl, hw.base⟩

/-- The slot that is looked at behind k others. -/
def gj (n : aV) (slots : Int) (k : Nat) : Int := if slots < 1 then 0 else (dO n slots + k) % slots
def dZ (n : aV) (slots : Int) : List Int := (List.range slots.toNat).map (gj n slots)
theorem dh (n : aV) (slots : Int) : (dZ n slots).length = slots.toNat := by simp [dZ]
theorem fC (n : aV) (slots : Int) (k : Nat) (h : k < slots.toNat) : (dZ n slots).getD k 0 = gj n slots k := by
  simp [dZ, List.getD_eq_getElem?_getD, h]
theorem emod_succ {x m : Int} (hm : 0 < m) : (x + 1) % m = if x % m + 1 = m then 0 else x % m + 1 := by
  have h0 := Int.emod_nonneg x (show m ≠ 0 by omega)
  have h1 := Int.emod_lt_of_pos x hm
  have e : x = x % m + m * (x / m) := (Int.emod_add_mul_ediv x m).symm
  have e2 : x + 1 = (x % m + 1) + m * (x / m) := by omega
  rw [e2, Int.add_mul_emod_self_left]
  split
  · rename_i h; rw [h]; exact Int.emod_self
  · exact Int.emod_eq_of_lt (by omega) (by omega)
theorem atH_zero {n : aV} {slots : Int} (h2 : slots ≤ 9223372036854775807) : gj n slots 0 = dO n slots := by
  unfold gj
  by_cases h : slots < 1
  · rw [if_pos h, dO, if_pos h]
  · obtain ⟨h3, h4, h5⟩ := slotH_val (n := n) (slots := slots) (by omega) h2
    rw [if_neg h]
    simpa using Int.emod_eq_of_lt h4 h5
theorem atH_rng {n : aV} {slots : Int} (h : 1 ≤ slots) (k : Nat) : 0 ≤ gj n slots k ∧ gj n slots k < slots := by
  unfold gj
  rw [if_neg (by omega)]
  exact ⟨Int.emod_nonneg _ (by omega), Int.emod_lt_of_pos _ (by omega)⟩
theorem atH_succ {n : aV} {slots : Int} (h : 1 ≤ slots) (k : Nat) : gj n slots (k + 1) = if gj n slots k + 1 = slots then 0 else gj n slots k + 1 := by
  have hs : ¬ slots < 1 := by omega
  simp only [gj, if_neg hs]
  rw [← emod_succ (by omega)]
  congr 1
  rw [Int.natCast_add]; omega
theorem iter_split {α : Type} (xs : List α) (d : α) (k : Nat) (h : k < xs.length) : xs = xs.take k ++ xs.getD k d :: xs.drop (k + 1) := by
  rw [← el xs d k h, List.take_append_drop]

theorem iT (n : aV) (slots : Int) : RC Tryz.prog 96 #[.string (ba n), .int .i64 slots] [] (α := Nat × Nat) (fun o => .func (.func 164) #[] #[.pointer (some ⟨o.1, 0, none⟩), .pointer (some ⟨o.2, 0, none⟩)]) (fun o => [Ch.row o.2 [.int .i64 slots] 3, Ch.row o.1 [.string (ba n)] 26]) := by
 refine bi (args := [.string (ba n), .int .i64 slots]) 6 Tryz.func96 rfl rfl rfl (fun w0 => ?_)
 refine ao ?_
 refine ab ?_
 refine bE rfl rfl rfl (fun b1 => ?_)
 refine bE rfl rfl rfl (fun b2 => ?_)
 refine ap (ai rfl) rfl rfl ?_
 refine ae ?_
 refine aj ?_
 refine ao ?_
 refine ab ?_
 refine ap (ee rfl rfl) rfl rfl ?_
 refine ap (ai rfl) rfl rfl ?_
 refine ae ?_
 refine aj ?_
 refine aF ?_
 refine aJ (ts := [4]) rfl rfl rfl (fun w hw => ?_)
 exact ⟨(b1, b2), rfl, hw.base, (hw.weak (.cons_cons _ (.cons_cons _ .slnil)) (fun s hs => hs)).toNews⟩

theorem hX (n : aV) (slots : Int) (p q : Nat) (hn : n.length ≤ 1000000000) (h1 : -9223372036854775808 ≤ slots) (h2 : slots ≤ 9223372036854775807) : Iter Tryz.prog 164 [.pointer (some ⟨p, 0, none⟩), .pointer (some ⟨q, 0, none⟩)] [Ch.row p [.string (ba n)] 26, Ch.row q [.int .i64 slots] 3] enci (dZ n slots) := by
 refine iter_of_W 22 Tryz.func164 rfl rfl rfl (fun lr σ I Ix C Sc hy g0 hg0 w0 => ?_)
 refine ao ?_
 refine ab ?_
 refine ap (bp 0 bL rfl rfl rfl) rfl rfl ?_
 refine ap (bp 1 eW rfl rfl rfl) rfl rfl ?_
 refine aS rfl ent_165 (c_hash_Slot _ _ (by omega) (by omega) (by omega)) rfl ?_
 refine ap (ai rfl) rfl rfl ?_
 refine ae ?_
 refine aj ?_
 refine ao ?_
 refine ab ?_
 refine ap (bp 1 eW rfl rfl rfl) rfl rfl ?_
 refine ap (y_max rfl rfl) rfl rfl ?_
 refine ap (ak rfl) rfl rfl ?_
 refine ae ?_
 refine aj ?_
 refine aP ?_
 refine d6 (σ := Nat × σ) [4, 10, 11, 12, 13, 14, 15, 16, 17, 18, 19, 20, 21] (fun s => s.1 ≤ slots.toNat ∧ I ((dZ n slots).take s.1) s.2) (fun s => slots.toNat - s.1) (fun s => [(10, .int .i64 s.1), (4, .int .i64 (gj n slots s.1))]) (fun s => C s.2) ((0, g0)) ?_ ⟨rfl, lk rfl (congrArg (Value.int .i64) (atH_zero h2).symm), trivial⟩ rfl (fun s hI => ?_)
 exact ⟨Nat.zero_le _, hg0⟩
 obtain ⟨k, g⟩ := s
 obtain ⟨hk, hI⟩ := hI
 dsimp only at hk hI ⊢
 refine ao ?_
 refine ab ?_
 refine ap (bF rfl rfl) rfl rfl ?_
 refine aC (t := 11) rfl (fun h2_0 => ?_) (fun h2_0 => ?_)
 have hkl : k < slots.toNat := by
   split at h2_0 <;> omega
 have hs1 : 1 ≤ slots := by omega
 have har := atH_rng (n := n) hs1 k
 have hx2 := iter_split (dZ n slots) 0 k (by rw [dh]; exact hkl)
 rw [fC n slots k hkl] at hx2
 refine ae ?_
 refine aj ?_
 refine ao ?_
 refine ay rfl ?_
 refine aH ?_
 refine aj ?_
 refine ao ?_
 refine aP ?_
 refine ao ?_
 refine ao ?_
 refine ab ?_
 refine ap (ak rfl) rfl rfl ?_
 refine ap (ak rfl) rfl rfl ?_
 refine iC rfl rfl (hy _ (gj n slots k) _ g hx2 hI) (fun _ => .z) (fun s hs => List.mem_append_right _ hs) rfl (fun g' hT => ?_) (fun g' hF => ?_)
 refine ap (bJ rfl) rfl rfl ?_
 refine ae ?_
 refine aj ?_
 refine au rfl ?_
 refine aH ?_
 refine aj ?_
 refine ao ?_
 refine ab ?_
 refine ap (ak rfl) rfl rfl ?_
 refine ap (bg rfl rfl (by omega) (by omega)) rfl rfl ?_
 refine ap (ai rfl) rfl rfl ?_
 refine ae ?_
 refine aj ?_
 refine ao ?_
 refine ab ?_
 refine ap (ak rfl) rfl rfl ?_
 refine ap (bp 1 eW rfl rfl rfl) rfl rfl ?_
 refine ap (dB rfl rfl) rfl rfl ?_
 refine aC (t := 20) rfl (fun h5_2 => ?_) (fun h5_2 => ?_)
 refine ae ?_
 refine aj ?_
 refine ay rfl ?_
 refine ab ?_
 refine ap (ai rfl) rfl rfl ?_
 refine ae ?_
 refine bq ?_
 refine aj ?_
 refine ab ?_
 refine ap (bg rfl rfl (by omega) (by omega)) rfl rfl ?_
 refine ap (ak rfl) rfl rfl ?_
 refine ae ?_
 have hpl := bH (dZ n slots) 0 k (by rw [dh]; exact hkl)
 rw [fC n slots k hkl] at hpl
 refine bo ((k + 1, g')) ?_ ?_ ⟨rfl, lk rfl (congrArg (Value.int .i64) (by rw [atH_succ hs1 k]; first | rw [if_pos (by omega)] | rw [if_neg (by omega)])), trivial⟩ (by repeat (first | exact trivial | refine ⟨rfl, ?_⟩)) aw
 exact ⟨by show k + 1 ≤ _; omega, by show I ((dZ n slots).take (k + 1)) g'; rw [hpl]; exact hT⟩
 show slots.toNat - (k + 1) < slots.toNat - k
 omega
 refine ae ?_
 refine aj ?_
 refine au rfl ?_
 refine aH ?_
 refine bq ?_
 refine aj ?_
 refine ab ?_
 refine ap (bg rfl rfl (by omega) (by omega)) rfl rfl ?_
 refine ap (ak rfl) rfl rfl ?_
 refine ae ?_
 have hpl := bH (dZ n slots) 0 k (by rw [dh]; exact hkl)
 rw [fC n slots k hkl] at hpl
 refine bo ((k + 1, g')) ?_ ?_ ⟨rfl, lk rfl (congrArg (Value.int .i64) (by rw [atH_succ hs1 k]; first | rw [if_pos (by omega)] | rw [if_neg (by omega)])), trivial⟩ (by repeat (first | exact trivial | refine ⟨rfl, ?_⟩)) aw
 exact ⟨by show k + 1 ≤ _; omega, by show I ((dZ n slots).take (k + 1)) g'; rw [hpl]; exact hT⟩
 show slots.toNat - (k + 1) < slots.toNat - k
 omega
 refine ap (bJ rfl) rfl rfl ?_
 refine ae ?_
 refine aj ?_
 refine ay rfl ?_
 refine aF ?_
 refine aA ?_
 refine aL ?_
 refine aA ?_
 refine bu ?_
 refine aL ?_
 refine aJ (ts := []) rfl rfl rfl (fun w hw => ?_)
 exact fY _ (.inr ⟨_, _, by rw [List.append_assoc]; exact hx2, hF⟩) hw
 refine ae ?_
 refine aj ?_
 refine ao ?_
 refine au rfl ?_
 refine bC ?_
 refine aY ?_
 refine aU ?_
 refine a8 ?_
 refine i5 (ts := []) rfl rfl rfl (fun w hw => ?_)
 have hkk : k = slots.toNat := by split at h2_0 <;> omega
 rw [hkk, ← dh n slots, List.take_length] at hI
 exact fY _ (.inl hI) hw
end Go.Proofs.YtnpdgmoeoidppaaGreat

/- the references of labels, names, sums; the kit -/
namespace Go.Proofs.YtnpdgmoeoidppaaGreat
open Go.RowKit Go.Shelf
set_option linter.unusedVariables false
set_option linter.unusedSimpArgs false

theorem ent_111 : Enters Tryz.prog 111 := enters_of Tryz.func111 (by kernel_rfl) rfl
theorem ent_112 : Enters Tryz.prog 112 := enters_of Tryz.func112 (by kernel_rfl) rfl
theorem ent_143 : Enters Tryz.prog 143 := enters_of Tryz.func143 (by kernel_rfl) rfl
theorem ent_180 : Enters Tryz.prog 180 := enters_of Tryz.func180 (by kernel_rfl) rfl
theorem ent_194 : Enters Tryz.prog 194 := enters_of Tryz.func194 (by kernel_rfl) rfl
theorem ent_221 : Enters Tryz.prog 221 := enters_of Tryz.func221 (by kernel_rfl) rfl
theorem ent_247 : Enters Tryz.prog 247 := enters_of Tryz.func247 (by kernel_rfl) rfl
theorem ent_260 : Enters Tryz.prog 260 := enters_of Tryz.func260 (by kernel_rfl) rfl
theorem ent_83 : Enters Tryz.prog 83 := enters_of Tryz.func83 (by kernel_rfl) rfl

theorem c_ref01_Check (l : aV) : cO Tryz.prog 194 #[.string (ba l)] (.int .i64 (fG l)) := by
 intro w0
 refine bd (ok0 := no) (S := []) (args := [.string (ba l)]) 10 Tryz.func194 rfl rfl rfl (by simp) (by simp) ?_
 refine ao ?_
 refine ab ?_
 refine ap (ai rfl) rfl rfl ?_
 refine ae ?_
 refine aj ?_
 refine ao ?_
 refine aP ?_
 refine ao ?_
 refine ab ?_
 refine ap (ak rfl) rfl rfl ?_
 refine ap (y_eqls rfl rfl) rfl rfl ?_
 refine aC (t := 5) rfl (fun h1_1 => ?_) (fun h1_1 => ?_)
 refine ap (ai rfl) rfl rfl ?_
 refine ae ?_
 refine aj ?_
 refine ay rfl ?_
 refine ao ?_
 refine ab ?_
 refine ap (ai rfl) rfl rfl ?_
 refine ae ?_
 refine aj ?_
 refine aF ?_
 refine aL ?_
 refine aA ?_
 refine aJ (ts := [2]) rfl rfl rfl (fun w hw => ?_)
 subst h1_1
 exact ⟨rfl, hw.base⟩
 refine ap (ai rfl) rfl rfl ?_
 refine ae ?_
 refine aj ?_
 refine au rfl ?_
 refine ao ?_
 refine ab ?_
 refine ap (ak rfl) rfl rfl ?_
 refine ap (dW Tryz.underlying9 rfl) rfl rfl ?_
 refine ap (eI rfl rfl) rfl rfl ?_
 refine aC (t := 9) rfl (fun h3_2 => ?_) (fun h3_2 => ?_)
 refine ap (ai rfl) rfl rfl ?_
 refine ae ?_
 refine aj ?_
 refine ay rfl ?_
 refine ao ?_
 refine ab ?_
 refine ap (ai rfl) rfl rfl ?_
 refine ae ?_
 refine aj ?_
 refine aF ?_
 refine aL ?_
 refine aA ?_
 refine aJ (ts := [2]) rfl rfl rfl (fun w hw => ?_)
 have := len_pos h1_1
 exact ⟨by unfold fG; rw [if_neg (by omega)]; first | rw [if_pos (by omega)]; rfl | rw [if_neg (by omega)]; rfl, hw.base⟩
 refine ap (ai rfl) rfl rfl ?_
 refine ae ?_
 refine aj ?_
 refine au rfl ?_
 refine aH ?_
 refine bq ?_
 refine aj ?_
 refine ao ?_
 refine ab ?_
 refine ap (ai rfl) rfl rfl ?_
 refine ae ?_
 refine aj ?_
 refine aF ?_
 refine aJ (ts := [2]) rfl rfl rfl (fun w hw => ?_)
 have := len_pos h1_1
 exact ⟨by unfold fG; rw [if_neg (by omega)]; first | rw [if_pos (by omega)]; rfl | rw [if_neg (by omega)]; rfl, hw.base⟩

theorem lowB_up {c : UInt8} (h1 : 65 ≤ c.toNat) (h2 : c.toNat ≤ 90) : (c.toNat : Int) + 32 = ((eG c).toNat : Int) := by
  unfold eG; rw [if_pos ⟨h1, h2⟩]; simp; omega
theorem lowB_no {c : UInt8} (h : ¬ (65 ≤ c.toNat ∧ c.toNat ≤ 90)) : eG c = c := by unfold eG; rw [if_neg h]
theorem set_same {α : Type} (l : List α) (d : α) (k : Nat) (h : k < l.length) : l.set k (l.getD k d) = l := by
  rw [List.getD_eq_getElem?_getD, List.getElem?_eq_getElem h, Option.getD_some, List.set_getElem_self]

theorem c_ref01_Fold (l : aV) (hl : l.length ≤ 1000000000000) : cO Tryz.prog 180 #[.string (ba l)] (.string (ba (d5 l))) := by
 intro w0
 refine bd (ok0 := no) (S := []) (args := [.string (ba l)]) 35 Tryz.func180 rfl rfl rfl (by simp) (by simp) ?_
 refine ao ?_
 refine ab ?_
 refine ap (ai rfl) rfl rfl ?_
 refine ae ?_
 refine aj ?_
 refine ao ?_
 refine ab ?_
 refine ap (ak rfl) rfl rfl ?_
 refine o_s2b Tryz.underlying9 Tryz.underlying75 Tryz.underlying5 (by omega) rfl rfl (fun As1 cs1 => ?_)
 refine ap (ai rfl) rfl rfl ?_
 refine ae ?_
 refine aj ?_
 refine ao ?_
 refine ao ?_
 refine ab ?_
 refine ap (ai rfl) rfl rfl ?_
 refine ae ?_
 refine aj ?_
 refine aP ?_
 refine d6 (σ := Nat) [3, 4, 7, 8, 9, 10, 11, 12, 13, 14, 15, 16, 17, 18, 19, 20, 21, 22, 23, 24, 25, 26, 27, 28, 29, 30, 31, 32] (fun k => k ≤ l.length) (fun k => l.length - k) (fun k => [(4, .int .i64 k), (3, .slice As1 ((l.take k).map eG ++ l.drop k).length cs1)]) (fun k => Ch.ls As1 cs1 5 1 encb ((l.take k).map eG ++ l.drop k)) (0) ?_ ⟨rfl, rfl, trivial⟩ rfl (fun k hI => ?_)
 exact Nat.zero_le _
 have hml := ck eG l k
 refine ao ?_
 refine ao ?_
 refine ab ?_
 refine ap (ak rfl) rfl rfl ?_
 refine ap (ak rfl) rfl rfl ?_
 refine ap (bM Tryz.underlying75 rfl) rfl rfl ?_
 refine ap (bF rfl rfl) rfl rfl ?_
 refine aC (t := 10) rfl (fun h3_3 => ?_) (fun h3_3 => ?_)
 refine ae ?_
 refine aj ?_
 refine ay rfl ?_
 refine aH ?_
 refine aj ?_
 refine ao ?_
 refine aP ?_
 refine ao ?_
 refine ab ?_
 have hk : k < l.length := by omega
 have hat := map_at eG l k hk
 have hat2 : ((List.map eG (List.take k l) ++ List.drop k l).getD k 0).toNat = (l.getD k 0).toNat := by rw [hat]
 refine ap (ak rfl) rfl rfl ?_
 refine ap (ak rfl) rfl rfl ?_
 refine ap (bP  Tryz.underlying75 g9 rfl rfl (ek 0 rfl) rfl (by rw [ck]; omega)) rfl rfl ?_
 refine ap (cG enc_b (0 : UInt8) g9 rfl (ek 0 rfl) (by rw [ck]; omega) rfl rfl) rfl rfl ?_
 refine ap (gF rfl rfl) rfl rfl ?_
 refine aC (t := 17) rfl (fun h5_4 => ?_) (fun h5_4 => ?_)
 refine ap (ak rfl) rfl rfl ?_
 refine az rfl rfl ?_
 refine ap (ak rfl) rfl rfl ?_
 refine az rfl rfl ?_
 refine ap (ak rfl) rfl rfl ?_
 refine az rfl rfl ?_
 refine ap (bP  Tryz.underlying75 g9 rfl rfl (ek 0 rfl) rfl (by rw [ck]; omega)) rfl rfl ?_
 refine az rfl rfl ?_
 refine ap (cG enc_b (0 : UInt8) g9 rfl (ek 0 rfl) (by rw [ck]; omega) rfl rfl) rfl rfl ?_
 refine az rfl rfl ?_
 refine ap (y_leq rfl rfl) rfl rfl ?_
 refine aC (t := 23) rfl (fun h5_10 => ?_) (fun h5_10 => ?_)
 refine ap (aX rfl rfl) rfl rfl ?_
 refine ae ?_
 refine aj ?_
 refine ay rfl ?_
 refine ab ?_
 refine ap (ak rfl) rfl rfl ?_
 refine ap (ak rfl) rfl rfl ?_
 refine ap (ak rfl) rfl rfl ?_
 refine ap (ak rfl) rfl rfl ?_
 refine ap (bP  Tryz.underlying75 g9 rfl rfl (ek 0 rfl) rfl (by rw [ck]; omega)) rfl rfl ?_
 refine ap (cG enc_b (0 : UInt8) g9 rfl (ek 0 rfl) (by rw [ck]; omega) rfl rfl) rfl rfl ?_
 refine ap (y_add rfl rfl) rfl rfl ?_
 refine bV (t := 31) (.int .u8 ((eG (l.getD k 0)).toNat : Int)) rfl (congrArg (Value.int .u8) (by rw [gp (by omega) (by omega), hat2]; exact lowB_up (by omega) (by omega))) ?_
 refine ap (bP  Tryz.underlying75 g9 rfl rfl (ek 0 rfl) rfl (by rw [ck]; omega)) rfl rfl ?_
 refine o_stm0 enc_b (0 : UInt8) _ g9 rfl rfl rfl .z rfl (by rw [ck]; omega) rfl rfl rfl ?_
 refine ae ?_
 refine bq ?_
 refine aj ?_
 refine ab ?_
 refine ap (ak rfl) rfl rfl ?_
 refine ap (bg rfl rfl (by omega) (by omega)) rfl rfl ?_
 refine ap (ai rfl) rfl rfl ?_
 refine ae ?_
 have hcc := UInt8.toNat_lt (l.getD k 0)
 refine bo (k + 1) ?_ ?_ ⟨rfl, lk rfl (by rw [ck, ck]), trivial⟩ (by repeat (first | exact trivial | refine ⟨rfl, ?_⟩)) (fun w h => by first | (rw [fv eG l k hk] at h; exact h) | (rw [← fv eG l k hk, lowB_no (by omega), ← map_at eG l k hk, set_same _ _ _ (by rw [ck]; exact hk)]; exact h))
 omega
 omega
 refine ap (aX rfl rfl) rfl rfl ?_
 refine ae ?_
 refine aj ?_
 refine au rfl ?_
 refine aH ?_
 refine bq ?_
 refine aj ?_
 refine ab ?_
 refine ap (ak rfl) rfl rfl ?_
 refine ap (bg rfl rfl (by omega) (by omega)) rfl rfl ?_
 refine ap (ai rfl) rfl rfl ?_
 refine ae ?_
 have hcc := UInt8.toNat_lt (l.getD k 0)
 refine bo (k + 1) ?_ ?_ ⟨rfl, lk rfl (by rw [ck, ck]), trivial⟩ (by repeat (first | exact trivial | refine ⟨rfl, ?_⟩)) (fun w h => by first | (rw [fv eG l k hk] at h; exact h) | (rw [← fv eG l k hk, lowB_no (by omega), ← map_at eG l k hk, set_same _ _ _ (by rw [ck]; exact hk)]; exact h))
 omega
 omega
 refine ap (ak rfl) rfl rfl ?_
 refine aO rfl rfl rfl rfl ?_
 refine aO rfl rfl rfl rfl ?_
 refine aO rfl rfl rfl rfl ?_
 refine aO rfl rfl rfl rfl ?_
 refine aO rfl rfl rfl rfl ?_
 refine ap (aW rfl rfl) rfl rfl ?_
 refine ae ?_
 refine aj ?_
 refine au rfl ?_
 refine aH ?_
 refine bq ?_
 refine aj ?_
 refine ab ?_
 refine ap (ak rfl) rfl rfl ?_
 refine ap (bg rfl rfl (by omega) (by omega)) rfl rfl ?_
 refine ap (ai rfl) rfl rfl ?_
 refine ae ?_
 have hcc := UInt8.toNat_lt (l.getD k 0)
 refine bo (k + 1) ?_ ?_ ⟨rfl, lk rfl (by rw [ck, ck]), trivial⟩ (by repeat (first | exact trivial | refine ⟨rfl, ?_⟩)) (fun w h => by first | (rw [fv eG l k hk] at h; exact h) | (rw [← fv eG l k hk, lowB_no (by omega), ← map_at eG l k hk, set_same _ _ _ (by rw [ck]; exact hk)]; exact h))
 omega
 omega
 refine ae ?_
 refine aj ?_
 refine au rfl ?_
 refine bC ?_
 refine aY ?_
 refine aU ?_
 refine a8 ?_
 refine aj ?_
 refine ao ?_
 refine ab ?_
 refine ap (ak rfl) rfl rfl ?_
 refine ap (y_b2s Tryz.underlying75 Tryz.underlying9 Tryz.underlying5 rfl (ek 0 rfl)) rfl rfl ?_
 refine ap (ai rfl) rfl rfl ?_
 refine ae ?_
 refine aj ?_
 refine aF ?_
 refine aJ (ts := [2]) rfl rfl rfl (fun w hw => ?_)
 obtain rfl : k = l.length := by omega
 exact ⟨by simp [d3, d5], hw.base⟩

theorem gw (n : aV) (k : Nat) : bt (n.drop k) 0 = bt n k := by
  unfold bt; simp [List.getD_eq_getElem?_getD]
theorem drop_ne {n : aV} {k : Nat} (h : k < n.length) : n.drop k ≠ [] := by
  intro e; have := congrArg List.length e; simp at this; omega
theorem iE {n : aV} {k : Nat} (h : k < n.length) (h1 : 1 ≤ bt n k) (h2 : bt n k ≤ 63) (h3 : k + 1 + bt n k ≤ n.length) : cY (n.drop k) = true ∧ rst (n.drop k) = n.drop (k + 1 + bt n k) ∧ lab (n.drop k) = (n.take (k + 1 + bt n k)).drop (k + 1) := by
  refine ⟨cutOk_iff.2 ⟨drop_ne h, by rw [gw]; exact h1, by rw [gw]; exact h2, by rw [gw, List.length_drop]; omega⟩, ?_, ?_⟩
  · rw [rst, gw, List.drop_drop, Nat.add_assoc]
  · rw [lab, gw, List.take_drop, List.drop_drop, Nat.add_assoc]
theorem fE {n : aV} {k : Nat} (h : bt n k < 1 ∨ 63 < bt n k ∨ n.length < k + 1 + bt n k) (hk : k < n.length) : cY (n.drop k) = false :=
  cut_no (by rw [gw, List.length_drop]; omega)

theorem eS (n : aV) : cO Tryz.prog 111 #[.string (ba n)] (.int .i64 (bB n)) := by
 intro w0
 refine bd (ok0 := no) (S := []) (args := [.string (ba n)]) 35 Tryz.func111 rfl rfl rfl (by simp) (by simp) ?_
 refine ao ?_
 refine ab ?_
 refine ap (ai rfl) rfl rfl ?_
 refine ae ?_
 refine aj ?_
 refine ao ?_
 refine ao ?_
 refine ab ?_
 refine ap (ak rfl) rfl rfl ?_
 refine ap (dW Tryz.underlying26 rfl) rfl rfl ?_
 refine ap (eI rfl rfl) rfl rfl ?_
 refine aC (t := 7) rfl (fun h1_2 => ?_) (fun h1_2 => ?_)
 refine ae ?_
 refine aj ?_
 refine ay rfl ?_
 refine ao ?_
 refine ab ?_
 refine ap (ai rfl) rfl rfl ?_
 refine ae ?_
 refine aj ?_
 refine aF ?_
 refine aA ?_
 refine aJ (ts := [2]) rfl rfl rfl (fun w hw => ?_)
 exact ⟨by simp [d3, bB, show 254 < n.length by omega], hw.base⟩
 refine ae ?_
 refine aj ?_
 refine au rfl ?_
 refine aH ?_
 refine aj ?_
 refine ao ?_
 refine ao ?_
 refine ab ?_
 refine ap (ai rfl) rfl rfl ?_
 refine ae ?_
 refine aj ?_
 refine aP ?_
 refine b8 (σ := Nat) [2, 3, 4, 8, 9, 10, 11, 12, 13, 14, 15, 16, 17, 18, 19, 20, 21, 22, 23, 24, 25, 26, 27, 28, 29, 30, 31, 32, 33, 34] (fun k => k ≤ n.length ∧ iy n = iy (n.drop k)) (fun k => n.length - k) (fun k => [(3, .int .i64 k)]) (0) ?_ ⟨rfl, trivial⟩ (fun k hI => ?_)
 exact ⟨Nat.zero_le _, rfl⟩
 have hb := bt_lt n k
 refine ao ?_
 refine ao ?_
 refine ab ?_
 refine ap (ak rfl) rfl rfl ?_
 refine ap (ak rfl) rfl rfl ?_
 refine ap (dW Tryz.underlying26 rfl) rfl rfl ?_
 refine ap (bF rfl rfl) rfl rfl ?_
 refine aC (t := 11) rfl (fun h4_3 => ?_) (fun h4_3 => ?_)
 refine ae ?_
 refine aj ?_
 refine ay rfl ?_
 refine aH ?_
 refine aj ?_
 refine aP ?_
 refine ao ?_
 refine ab ?_
 refine ap (ak rfl) rfl rfl ?_
 refine ap (ak rfl) rfl rfl ?_
 refine ap (gE  Tryz.underlying26 rfl rfl rfl (by omega)) rfl rfl ?_
 refine ap (dS Tryz.underlying5 Tryz.underlying3 rfl (iU (by omega) (by omega))) rfl rfl ?_
 refine ap (ai rfl) rfl rfl ?_
 refine ae ?_
 refine aj ?_
 refine ao ?_
 refine ao ?_
 refine ab ?_
 refine ap (ak rfl) rfl rfl ?_
 refine ap (bF rfl rfl) rfl rfl ?_
 refine aC (t := 17) rfl (fun h6_1 => ?_) (fun h6_1 => ?_)
 refine ap (ak rfl) rfl rfl ?_
 refine aO rfl rfl rfl rfl ?_
 refine aO rfl rfl rfl rfl ?_
 refine ap (aX rfl rfl) rfl rfl ?_
 refine ap (ak rfl) rfl rfl ?_
 refine aO rfl rfl rfl rfl ?_
 refine aO rfl rfl rfl rfl ?_
 refine aO rfl rfl rfl rfl ?_
 refine aO rfl rfl rfl rfl ?_
 refine aO rfl rfl rfl rfl ?_
 refine aO rfl rfl rfl rfl ?_
 refine aO rfl rfl rfl rfl ?_
 refine ap (aX rfl rfl) rfl rfl ?_
 refine ae ?_
 refine aj ?_
 refine ay rfl ?_
 refine ao ?_
 refine ab ?_
 refine ap (ai rfl) rfl rfl ?_
 refine ae ?_
 refine aj ?_
 refine aF ?_
 refine aA ?_
 refine aL ?_
 refine bu ?_
 refine aL ?_
 refine aA ?_
 refine aJ (ts := [2]) rfl rfl rfl (fun w hw => ?_)
 focus first
   | (have hc := fE (n := n) (k := k) (by omega) (by omega)
      have ho : iy n = false := by rw [hI.2, fQ, hc]; simp; omega
      exact ⟨by simp [d3, bB, show ¬ 254 < n.length by omega, ho], hw.base⟩)
   | (have ho : iy n = true := by rw [hI.2, List.drop_of_length_le (by omega)]; rfl
      exact ⟨by simp [d3, bB, show ¬ 254 < n.length by omega, ho], hw.base⟩)
 refine ap (ak rfl) rfl rfl ?_
 refine az rfl rfl ?_
 refine ap (ak rfl) rfl rfl ?_
 refine az rfl rfl ?_
 refine ap (eI rfl rfl) rfl rfl ?_
 refine aC (t := 20) rfl (fun h6_4 => ?_) (fun h6_4 => ?_)
 refine ap (aW rfl rfl) rfl rfl ?_
 refine ap (ak rfl) rfl rfl ?_
 refine aO rfl rfl rfl rfl ?_
 refine aO rfl rfl rfl rfl ?_
 refine aO rfl rfl rfl rfl ?_
 refine aO rfl rfl rfl rfl ?_
 refine aO rfl rfl rfl rfl ?_
 refine aO rfl rfl rfl rfl ?_
 refine aO rfl rfl rfl rfl ?_
 refine ap (aX rfl rfl) rfl rfl ?_
 refine ae ?_
 refine aj ?_
 refine ay rfl ?_
 refine ao ?_
 refine ab ?_
 refine ap (ai rfl) rfl rfl ?_
 refine ae ?_
 refine aj ?_
 refine aF ?_
 refine aA ?_
 refine aL ?_
 refine bu ?_
 refine aL ?_
 refine aA ?_
 refine aJ (ts := [2]) rfl rfl rfl (fun w hw => ?_)
 focus first
   | (have hc := fE (n := n) (k := k) (by omega) (by omega)
      have ho : iy n = false := by rw [hI.2, fQ, hc]; simp; omega
      exact ⟨by simp [d3, bB, show ¬ 254 < n.length by omega, ho], hw.base⟩)
   | (have ho : iy n = true := by rw [hI.2, List.drop_of_length_le (by omega)]; rfl
      exact ⟨by simp [d3, bB, show ¬ 254 < n.length by omega, ho], hw.base⟩)
 refine ap (aW rfl rfl) rfl rfl ?_
 refine ap (ak rfl) rfl rfl ?_
 refine az rfl rfl ?_
 refine ap (ak rfl) rfl rfl ?_
 refine az rfl rfl ?_
 refine ap (bg rfl rfl (by omega) (by omega)) rfl rfl ?_
 refine az rfl rfl ?_
 refine ap (ak rfl) rfl rfl ?_
 refine az rfl rfl ?_
 refine ap (bg rfl rfl (by omega) (by omega)) rfl rfl ?_
 refine az rfl rfl ?_
 refine ap (ak rfl) rfl rfl ?_
 refine az rfl rfl ?_
 refine ap (dW Tryz.underlying26 rfl) rfl rfl ?_
 refine az rfl rfl ?_
 refine ap (eI rfl rfl) rfl rfl ?_
 refine aC (t := 29) rfl (fun h6_13 => ?_) (fun h6_13 => ?_)
 refine ap (aW rfl rfl) rfl rfl ?_
 refine ae ?_
 refine aj ?_
 refine ay rfl ?_
 refine ao ?_
 refine ab ?_
 refine ap (ai rfl) rfl rfl ?_
 refine ae ?_
 refine aj ?_
 refine aF ?_
 refine aA ?_
 refine aL ?_
 refine bu ?_
 refine aL ?_
 refine aA ?_
 refine aJ (ts := [2]) rfl rfl rfl (fun w hw => ?_)
 focus first
   | (have hc := fE (n := n) (k := k) (by omega) (by omega)
      have ho : iy n = false := by rw [hI.2, fQ, hc]; simp; omega
      exact ⟨by simp [d3, bB, show ¬ 254 < n.length by omega, ho], hw.base⟩)
   | (have ho : iy n = true := by rw [hI.2, List.drop_of_length_le (by omega)]; rfl
      exact ⟨by simp [d3, bB, show ¬ 254 < n.length by omega, ho], hw.base⟩)
 refine ap (aW rfl rfl) rfl rfl ?_
 refine ae ?_
 refine aj ?_
 refine au rfl ?_
 refine aH ?_
 refine aj ?_
 refine ab ?_
 refine ap (ak rfl) rfl rfl ?_
 refine ap (bg rfl rfl (by omega) (by omega)) rfl rfl ?_
 refine ap (ak rfl) rfl rfl ?_
 refine ap (bg rfl rfl (by omega) (by omega)) rfl rfl ?_
 refine ap (ai rfl) rfl rfl ?_
 refine ae ?_
 refine bq ?_
 obtain ⟨hc1, hc2, hc3⟩ := iE (n := n) (k := k) (by omega) (by omega) (by omega) (by omega)
 refine bo (k + 1 + bt n k) ?_ ?_ ⟨rfl, trivial⟩ (by repeat (first | exact trivial | refine ⟨rfl, ?_⟩)) aw
 exact ⟨by omega, by rw [hI.2, fQ (n.drop k), hc1, hc2]; simp; omega⟩
 omega
 refine ae ?_
 refine aj ?_
 refine au rfl ?_
 refine bC ?_
 refine aY ?_
 refine aU ?_
 refine a8 ?_
 refine aj ?_
 refine ao ?_
 refine ab ?_
 refine ap (ai rfl) rfl rfl ?_
 refine ae ?_
 refine aj ?_
 refine aF ?_
 refine aJ (ts := [2]) rfl rfl rfl (fun w hw => ?_)
 focus first
   | (have hc := fE (n := n) (k := k) (by omega) (by omega)
      have ho : iy n = false := by rw [hI.2, fQ, hc]; simp; omega
      exact ⟨by simp [d3, bB, show ¬ 254 < n.length by omega, ho], hw.base⟩)
   | (have ho : iy n = true := by rw [hI.2, List.drop_of_length_le (by omega)]; rfl
      exact ⟨by simp [d3, bB, show ¬ 254 < n.length by omega, ho], hw.base⟩)

theorem c_ref02_Labels (n : aV) : RC Tryz.prog 83 #[.string (ba n)] [] (α := Option Addr × Nat) (fun p => .slice p.1 (ce n).length p.2) (fun p => [Ch.ls p.1 p.2 9 1 dw (ce n)]) := by
 refine bi (args := [.string (ba n)]) 33 Tryz.func83 rfl rfl rfl (fun w0 => ?_)
 refine ao ?_
 refine ab ?_
 refine ap (ai rfl) rfl rfl ?_
 refine ae ?_
 refine aj ?_
 refine ao ?_
 refine ao ?_
 refine ab ?_
 refine ap (ak rfl) rfl rfl ?_
 refine aS rfl ent_111 (eS _) rfl ?_
 refine ap (cv rfl rfl) rfl rfl ?_
 refine aC (t := 8) rfl (fun h1_2 => ?_) (fun h1_2 => ?_)
 refine ae ?_
 refine aj ?_
 refine ay rfl ?_
 refine ao ?_
 refine ab ?_
 refine ap (ai rfl) rfl rfl ?_
 refine ae ?_
 refine aj ?_
 refine aF ?_
 refine aA ?_
 refine aJ (ts := [2]) rfl rfl rfl (fun w hw => ?_)
 have hl : ce n = [] := if_neg (by omega)
 rw [hl]
 exact ⟨(none, 0), rfl, hw.base, (hw.nilsl 9 1).toNews⟩
 refine ae ?_
 refine aj ?_
 refine au rfl ?_
 refine aH ?_
 refine aj ?_
 refine ao ?_
 have hck : bB n = 0 := by omega
 have hnl := nameCk_zero.1 hck
 refine ab ?_
 refine ap (ai rfl) rfl rfl ?_
 refine ae ?_
 refine aj ?_
 refine ao ?_
 refine ao ?_
 refine ab ?_
 refine ap (ai rfl) rfl rfl ?_
 refine ae ?_
 refine aj ?_
 refine aP ?_
 refine cH (fun w h => h.nilsl 9 1) ?_
 refine d6 (σ := Nat × List aV × Option Addr × Nat) [3, 4, 5, 9, 10, 11, 12, 13, 14, 15, 16, 17, 18, 19, 20, 21, 22, 23, 24, 25, 26, 27, 28, 29, 30, 31] (fun q => q.1 ≤ n.length ∧ eL n = q.2.1 ++ eL (n.drop q.1) ∧ iy (n.drop q.1) = true ∧ q.2.1.length ≤ q.1) (fun q => n.length - q.1) (fun q => [(4, .int .i64 q.1), (3, .slice q.2.2.1 q.2.1.length q.2.2.2)]) (fun q => Ch.ls q.2.2.1 q.2.2.2 9 1 dw q.2.1) ((0, [], none, 0)) ?_ ⟨rfl, rfl, trivial⟩ rfl (fun q hI => ?_)
 exact ⟨Nat.zero_le _, rfl, hnl.2, Nat.le_refl _⟩
 obtain ⟨k, pre, A, c⟩ := q
 obtain ⟨hk, hI, hok, hpl⟩ := hI
 dsimp only at hk hI hok hpl ⊢
 have hb := bt_lt n k
 refine ao ?_
 refine ao ?_
 refine ab ?_
 refine ap (ak rfl) rfl rfl ?_
 refine ap (ak rfl) rfl rfl ?_
 refine ap (dW Tryz.underlying26 rfl) rfl rfl ?_
 refine ap (bF rfl rfl) rfl rfl ?_
 refine aC (t := 12) rfl (fun h5_3 => ?_) (fun h5_3 => ?_)
 have hkl : k < n.length := by omega
 rw [fQ] at hok
 have hcu : cY (n.drop k) = true ∧ iy (rst (n.drop k)) = true := by
   have := drop_ne hkl
   simpa [this] using hok
 have hcc := cutOk_iff.1 hcu.1
 rw [gw, List.length_drop] at hcc
 obtain ⟨hc1, hc2, hc3⟩ := iE (n := n) (k := k) hkl (by omega) (by omega) (by omega)
 have ho2 := hcu.2
 refine ae ?_
 refine aj ?_
 refine ay rfl ?_
 refine aH ?_
 refine aj ?_
 refine aP ?_
 refine ao ?_
 refine ab ?_
 refine ap (ak rfl) rfl rfl ?_
 refine ap (ak rfl) rfl rfl ?_
 refine ap (gE  Tryz.underlying26 rfl rfl rfl (by omega)) rfl rfl ?_
 refine ap (dS Tryz.underlying5 Tryz.underlying3 rfl (iU (by omega) (by omega))) rfl rfl ?_
 refine ap (ai rfl) rfl rfl ?_
 refine ae ?_
 refine aj ?_
 refine ao ?_
 refine ab ?_
 refine ap (ak rfl) rfl rfl ?_
 refine ap (ak rfl) rfl rfl ?_
 refine ap (ak rfl) rfl rfl ?_
 refine ap (bg rfl rfl (by omega) (by omega)) rfl rfl ?_
 refine ap (ak rfl) rfl rfl ?_
 refine ap (bg rfl rfl (by omega) (by omega)) rfl rfl ?_
 refine ap (ak rfl) rfl rfl ?_
 refine ap (bg rfl rfl (by omega) (by omega)) rfl rfl ?_
 refine ap (y_slices (m := k + 1) (n := k + 1 + bt n k) Tryz.underlying26 rfl rfl rfl (by omega) (by omega) (by omega) (by omega)) rfl rfl ?_
 refine du (vs := [_]) ([_] : List (aV)) dq Tryz.underlying135 fy rfl rfl rfl rfl rfl rfl (fun As1 => ?_)
 refine cg (enc := dw) (sz := 1) _ Tryz.underlying135 fy rfl rfl rfl (fun A c => (.s (.z))) (eZ 0 Tryz.underlying135 rfl) (by simp only [List.length_cons, List.length_nil, Nat.zero_add]; omega) (by simp only [List.length_cons, List.length_nil, Nat.zero_add]; omega) rfl (fun A1 c1 => ?_)
 refine ap (ai rfl) rfl rfl ?_
 refine ae ?_
 refine aj ?_
 refine ab ?_
 refine ap (ak rfl) rfl rfl ?_
 refine ap (bg rfl rfl (by omega) (by omega)) rfl rfl ?_
 refine ap (ak rfl) rfl rfl ?_
 refine ap (bg rfl rfl (by omega) (by omega)) rfl rfl ?_
 refine ap (ai rfl) rfl rfl ?_
 refine ae ?_
 refine bq ?_
 refine bo ((k + 1 + bt n k, pre ++ [(n.take (k + 1 + bt n k)).drop (k + 1)], A1, c1)) ?_ ?_ ⟨rfl, rfl, trivial⟩ (by repeat (first | exact trivial | refine ⟨rfl, ?_⟩)) (bS 1)
 refine ⟨?_, ?_, ?_, ?_⟩
 · show k + 1 + bt n k ≤ _; omega
 · show eL n = (pre ++ [_]) ++ eL (n.drop (k + 1 + bt n k)); rw [hI, gy (n.drop k), if_pos hc1, hc2, hc3]; simp
 · show iy (n.drop (k + 1 + bt n k)) = true; rw [← hc2]; exact ho2
 · show (pre ++ [_]).length ≤ k + 1 + bt n k; simp; omega
 show n.length - (k + 1 + bt n k) < n.length - k
 omega
 refine ae ?_
 refine aj ?_
 refine au rfl ?_
 refine bC ?_
 refine aY ?_
 refine aU ?_
 refine a8 ?_
 refine aj ?_
 refine ao ?_
 refine ab ?_
 refine ap (ak rfl) rfl rfl ?_
 refine ap (ai rfl) rfl rfl ?_
 refine ae ?_
 refine aj ?_
 refine aF ?_
 refine aJ (ts := [2]) rfl rfl rfl (fun w hw => ?_)
 have hl : ce n = pre := by rw [ce, if_pos hck, hI, List.drop_of_length_le (by omega)]; simp [eL, labsF]
 rw [hl]
 exact ⟨(A, c), rfl, hw.base, hw.toNews⟩

theorem make_long {ls : List aV} {k : Nat} (h0 : cJ ls = 0) (h : 254 < (dz (ls.take k)).length) : fB ls = ([], 3) := by
  have := gu ls k
  rw [fB, if_neg (by omega), if_pos (by omega)]
theorem make_done {ls : List aV} (h0 : cJ ls = 0) (h : (dz ls).length ≤ 254) : fB ls = (dz ls, 0) := by
  rw [fB, if_neg (by omega), if_neg (by omega)]

set_option maxRecDepth 100000 in
theorem c_ref02_Make (ls : List aV) (A : Option Addr) (ca : Nat) (hl : ls.length ≤ 1000000000000) : RC Tryz.prog 143 #[.slice A ls.length ca] [Ch.rd A 1 dw ls] (α := Unit) (fun _ => .tuple #[.string (ba (fB ls).1), .int .i64 (fB ls).2]) (fun _ => []) := by
 refine bi (args := [.slice A ls.length ca]) 47 Tryz.func143 rfl rfl rfl (fun w0 => ?_)
 refine ao ?_
 refine ab ?_
 refine ap (ai rfl) rfl rfl ?_
 refine ap (ai rfl) rfl rfl ?_
 refine ae ?_
 refine aj ?_
 refine ao ?_
 refine ab ?_
 refine ap (ai rfl) rfl rfl ?_
 refine ae ?_
 refine aj ?_
 refine ao ?_
 refine ao ?_
 refine ab ?_
 refine ap (ai rfl) rfl rfl ?_
 refine ae ?_
 refine aj ?_
 refine aP ?_
 refine b8 (σ := Nat) [2, 3, 5, 6, 8, 9, 10, 11, 12, 13, 14, 15, 16, 17, 18, 19, 20, 21] (fun k => k ≤ ls.length ∧ cJ ls = cJ (ls.drop k)) (fun k => ls.length - k) (fun k => [(5, .int .i64 k)]) (0) ?_ ⟨rfl, trivial⟩ (fun k hI => ?_)
 exact ⟨Nat.zero_le _, rfl⟩
 refine ao ?_
 refine ao ?_
 refine ab ?_
 refine ap (ak rfl) rfl rfl ?_
 refine ap (ak rfl) rfl rfl ?_
 refine ap (bM Tryz.underlying135 rfl) rfl rfl ?_
 refine ap (bF rfl rfl) rfl rfl ?_
 refine aC (t := 11) rfl (fun h3_3 => ?_) (fun h3_3 => ?_)
 refine ae ?_
 refine aj ?_
 refine ay rfl ?_
 refine aH ?_
 refine aj ?_
 refine ao ?_
 refine aP ?_
 refine ao ?_
 refine ab ?_
 refine ap (ak rfl) rfl rfl ?_
 refine ap (ak rfl) rfl rfl ?_
 refine ap (bP  Tryz.underlying135 fy rfl rfl (bY 0 rfl) rfl (by omega)) rfl rfl ?_
 refine ap (cG dq ([] : aV) fy rfl (bY 0 rfl) (by omega) rfl rfl) rfl rfl ?_
 refine aS rfl ent_194 (c_ref01_Check _) rfl ?_
 refine ap (ai rfl) rfl rfl ?_
 refine ae ?_
 refine aj ?_
 refine ao ?_
 refine ab ?_
 refine ap (ak rfl) rfl rfl ?_
 refine ap (cv rfl rfl) rfl rfl ?_
 refine aC (t := 20) rfl (fun h6_1 => ?_) (fun h6_1 => ?_)
 refine ae ?_
 refine aj ?_
 refine ay rfl ?_
 refine ao ?_
 refine ab ?_
 refine ap (ak rfl) rfl rfl ?_
 refine ap (ai rfl) rfl rfl ?_
 refine ap (ai rfl) rfl rfl ?_
 refine ae ?_
 refine aj ?_
 refine aF ?_
 refine aL ?_
 refine aA ?_
 refine bu ?_
 refine aL ?_
 refine aA ?_
 refine aJ (ts := [2, 3]) rfl rfl rfl (fun w hw => ?_)
 have hk : k < ls.length := by omega
 have hdk := el ls [] k hk
 have hf : cJ ls = fG (ls.getD k []) := by rw [hI.2, hdk, cJ, if_neg (by omega)]
 exact ⟨(), by rw [fB, if_pos (by omega), hf]; rfl, hw.base, hw.toNews⟩
 refine ae ?_
 refine aj ?_
 refine au rfl ?_
 refine aH ?_
 refine bq ?_
 refine aj ?_
 refine ab ?_
 refine ap (ak rfl) rfl rfl ?_
 refine ap (bg rfl rfl (by omega) (by omega)) rfl rfl ?_
 refine ap (ai rfl) rfl rfl ?_
 refine ae ?_
 have hk : k < ls.length := by omega
 have hdk := el ls [] k hk
 refine bo (k + 1) ?_ ?_ ⟨rfl, trivial⟩ (by repeat (first | exact trivial | refine ⟨rfl, ?_⟩)) aw
 exact ⟨by omega, by rw [hI.2, hdk, cJ, if_pos (by omega)]⟩
 omega
 refine ae ?_
 refine aj ?_
 refine au rfl ?_
 refine bC ?_
 refine aY ?_
 refine aU ?_
 refine a8 ?_
 refine aj ?_
 refine ao ?_
 refine ao ?_
 have hz : cJ ls = 0 := by rw [hI.2, List.drop_of_length_le (by omega)]; rfl
 refine ab ?_
 refine ap (ai rfl) rfl rfl ?_
 refine ae ?_
 refine aj ?_
 refine aP ?_
 refine b8 (σ := Nat) [2, 3, 4, 7, 22, 23, 24, 25, 26, 27, 28, 29, 30, 31, 32, 33, 34, 35, 36, 37, 38, 39, 40, 41, 42, 43, 44, 45] (fun k => k ≤ ls.length ∧ (dz (ls.take k)).length ≤ 254) (fun k => ls.length - k) (fun k => [(7, .int .i64 k), (4, .string (ba (dz (ls.take k))))]) (0) ?_ ⟨rfl, rfl, trivial⟩ (fun k hI => ?_)
 exact ⟨Nat.zero_le _, by simp [dz]⟩
 refine ao ?_
 refine ao ?_
 refine ab ?_
 refine ap (ak rfl) rfl rfl ?_
 refine ap (ak rfl) rfl rfl ?_
 refine ap (bM Tryz.underlying135 rfl) rfl rfl ?_
 refine ap (bF rfl rfl) rfl rfl ?_
 refine aC (t := 25) rfl (fun h9_3 => ?_) (fun h9_3 => ?_)
 have hk : k < ls.length := by omega
 have hlk : 1 ≤ (ls.getD k []).length ∧ (ls.getD k []).length ≤ 63 := firstCk_zero.1 hz (ls.getD k []) (by rw [List.getD_eq_getElem?_getD, List.getElem?_eq_getElem hk]; exact List.getElem_mem hk)
 have htk := bH ls [] k hk
 have htk2 : dz (ls.take (k + 1)) = dz (ls.take k) ++ ([UInt8.ofNat (ls.getD k []).length] ++ ls.getD k []) := by rw [htk, eT, encn_one]; rfl
 refine ae ?_
 refine aj ?_
 refine ay rfl ?_
 refine aH ?_
 refine aj ?_
 refine ao ?_
 refine aP ?_
 refine ao ?_
 refine eh 16 rfl mixed ?_
 refine aD (i := 0) rfl ah (ak rfl) aw aw rfl (aa (aq (aa (av (aq (aa ar)))))) (by kernel_rfl) rfl ?_
 refine aD (i := 1) rfl ah (ak rfl) aw aw rfl (aa (aq (aa (av (aq (aa ar)))))) (by kernel_rfl) rfl ?_
 refine aD (i := 2) rfl ah (ak rfl) aw aw rfl (aa (aq (aa (av (aq (aa ar)))))) (by kernel_rfl) rfl ?_
 refine aD (i := 3) rfl ah (bP  Tryz.underlying135 fy rfl rfl (bY 0 rfl) rfl (by omega)) aw aw rfl (aa (aq (aa (av (aq (aa ar)))))) (by kernel_rfl) rfl ?_
 refine aD (i := 4) rfl ah (cG dq ([] : aV) fy rfl (bY 0 rfl) (by omega) rfl rfl) aw aw rfl (aa (aq (aa (av (aq (aa ar)))))) (by kernel_rfl) rfl ?_
 refine aD (i := 5) rfl ah (dW Tryz.underlying9 rfl) aw aw rfl (aa (aq (aa (av (aq (aa ar)))))) (by kernel_rfl) rfl ?_
 refine aD (i := 6) rfl ah (gD Tryz.underlying3 Tryz.underlying5 rfl) aw aw rfl (aa (aq (aa (av (aq (aa ar)))))) (by kernel_rfl) rfl ?_
 refine wa_as (t := 34) (.int .u8 ((UInt8.ofNat (ls.getD k []).length).toNat : Int)) rfl (congrArg _ (by rw [gp (by omega) (by omega), u8len hlk.2])) ?_
 refine aD (i := 10) rfl ah (ak rfl) aw aw rfl (aa (aq (aa (av (aq (aa ar)))))) (by kernel_rfl) rfl ?_
 refine aD (i := 11) rfl ah (ak rfl) aw aw rfl (aa (aq (aa (av (aq (aa ar)))))) (by kernel_rfl) rfl ?_
 refine aD (i := 12) rfl ah (bP  Tryz.underlying135 fy rfl rfl (bY 0 rfl) rfl (by omega)) aw aw rfl (aa (aq (aa (av (aq (aa ar)))))) (by kernel_rfl) rfl ?_
 refine aD (i := 13) rfl ah (cG dq ([] : aV) fy rfl (bY 0 rfl) (by omega) rfl rfl) aw aw rfl (aa (aq (aa (av (aq (aa ar)))))) (by kernel_rfl) rfl ?_
 refine dm (i := 7) rfl rfl rfl (fun _ _ _ => a7 (by kernel_rfl)) (by kernel_rfl) rfl ?_
 refine du (vs := [_]) ([_] : List (UInt8)) enc_b Tryz.underlying75 g9 rfl rfl rfl rfl rfl rfl (fun As1 => ?_)
 refine ae ?_
 refine dC (bS 1) ?_
 refine dm (i := 8) rfl rfl rfl (fun _ _ _ => a7 (by kernel_rfl)) (by kernel_rfl) rfl ?_
 refine ap (y_b2s Tryz.underlying75 Tryz.underlying9 Tryz.underlying5 rfl (ek 0 rfl)) rfl rfl ?_
 refine ae ?_
 refine dC (bS 1) ?_
 refine aD (i := 9) rfl ah (y_adds rfl rfl (by first | omega | (simp only [List.length_nil, List.length_cons, List.length_take, List.length_drop, List.length_append]; omega))) (bS 1) aw rfl (aa (aq (aa (av (aq (aa ar)))))) (by kernel_rfl) rfl ?_
 refine aD (i := 14) rfl ah (y_adds rfl rfl (by first | omega | (simp only [List.length_nil, List.length_cons, List.length_take, List.length_drop, List.length_append]; omega))) (bS 1) aw rfl (aa (aq (aa (av (aq (aa ar)))))) (by kernel_rfl) rfl ?_
 refine aD (i := 15) rfl ah (ai rfl) (bS 1) aw rfl (aa (aq (aa (av (aq (aa ar)))))) (by kernel_rfl) rfl ?_
 refine cB (by kernel_rfl) ?_
 refine aj ?_
 refine ao ?_
 refine ab ?_
 refine ap (ak rfl) rfl rfl ?_
 refine ap (dW Tryz.underlying9 rfl) rfl rfl ?_
 refine ap (eI rfl rfl) rfl rfl ?_
 refine aC (t := 45) rfl (fun h12_2 => ?_) (fun h12_2 => ?_)
 refine ae ?_
 refine aj ?_
 refine ay rfl ?_
 refine ao ?_
 refine ab ?_
 refine ap (ai rfl) rfl rfl ?_
 refine ap (ai rfl) rfl rfl ?_
 refine ae ?_
 refine aj ?_
 refine aF ?_
 refine aL ?_
 refine aA ?_
 refine bu ?_
 refine aL ?_
 refine aA ?_
 refine aJ (ts := [2, 3]) rfl rfl rfl (fun w hw => ?_)
 focus first
   | (have hlong : 254 < (dz (ls.take (k + 1))).length := by rw [htk2, ← List.append_assoc]; omega
      exact ⟨(), by rw [make_long hz hlong]; rfl, hw.base, (hw.weak (List.nil_sublist _) (fun s hs => hs)).toNews⟩)
   | (have hk : k = ls.length := by omega
      rw [hk, List.take_length] at hI ⊢
      exact ⟨(), by rw [make_done hz hI.2]; rfl, hw.base, (hw.weak (List.nil_sublist _) (fun s hs => hs)).toNews⟩)
   | (trace_state; fail)
 refine ae ?_
 refine aj ?_
 refine au rfl ?_
 refine aH ?_
 refine bq ?_
 refine aj ?_
 refine ab ?_
 refine ap (ak rfl) rfl rfl ?_
 refine ap (bg rfl rfl (by omega) (by omega)) rfl rfl ?_
 refine ap (ai rfl) rfl rfl ?_
 refine ae ?_
 refine bo (k + 1) ?_ ?_ ⟨rfl, lk rfl (by rw [htk2, List.append_assoc]), trivial⟩ (by repeat (first | exact trivial | refine ⟨rfl, ?_⟩)) (bS 1)
 exact ⟨by omega, by rw [htk2, ← List.append_assoc]; omega⟩
 omega
 refine ae ?_
 refine aj ?_
 refine au rfl ?_
 refine bC ?_
 refine aY ?_
 refine aU ?_
 refine a8 ?_
 refine aj ?_
 refine ao ?_
 refine ab ?_
 refine ap (ak rfl) rfl rfl ?_
 refine ap (ai rfl) rfl rfl ?_
 refine ap (ai rfl) rfl rfl ?_
 refine ae ?_
 refine aj ?_
 refine aF ?_
 refine aJ (ts := [2, 3]) rfl rfl rfl (fun w hw => ?_)
 focus first
   | (have hlong : 254 < (dz (ls.take (k + 1))).length := by rw [htk2, ← List.append_assoc]; omega
      exact ⟨(), by rw [make_long hz hlong]; rfl, hw.base, (hw.weak (List.nil_sublist _) (fun s hs => hs)).toNews⟩)
   | (have hk : k = ls.length := by omega
      rw [hk, List.take_length] at hI ⊢
      exact ⟨(), by rw [make_done hz hI.2]; rfl, hw.base, (hw.weak (List.nil_sublist _) (fun s hs => hs)).toNews⟩)
   | (trace_state; fail)

theorem c_ref02_Fold (n : aV) (hn : n.length ≤ 1000000000) : RC Tryz.prog 112 #[.string (ba n)] [] (α := Unit) (fun _ => .string (ba (a6 n))) (fun _ => []) := by
 refine bi (args := [.string (ba n)]) 29 Tryz.func112 rfl rfl rfl (fun w0 => ?_)
 refine ao ?_
 refine ab ?_
 refine ap (ai rfl) rfl rfl ?_
 refine ae ?_
 refine aj ?_
 refine ao ?_
 refine ab ?_
 refine ap (ak rfl) rfl rfl ?_
 refine co rfl ent_83 rfl (c_ref02_Labels _) (fun w hw => bf) (fun ⟨A0, c0⟩ => ?_)
 have hlb := labsN_le n hn
 refine ap (ai rfl) rfl rfl ?_
 refine ae ?_
 refine aj ?_
 refine ao ?_
 refine ao ?_
 refine ab ?_
 refine ap (ai rfl) rfl rfl ?_
 refine ae ?_
 refine aj ?_
 refine aP ?_
 refine d6 (σ := Nat) [3, 4, 9, 10, 11, 12, 13, 14, 15, 16, 17, 18, 19, 20, 21, 22] (fun k => k ≤ (ce n).length) (fun k => (ce n).length - k) (fun k => [(4, .int .i64 k), (3, .slice A0 (((ce n).take k).map d5 ++ (ce n).drop k).length c0)]) (fun k => Ch.ls A0 c0 9 1 dw (((ce n).take k).map d5 ++ (ce n).drop k)) (0) ?_ ⟨rfl, rfl, trivial⟩ rfl (fun k hI => ?_)
 exact Nat.zero_le _
 have hml := cL d5 (ce n) k
 refine ao ?_
 refine ao ?_
 refine ab ?_
 refine ap (ak rfl) rfl rfl ?_
 refine ap (ak rfl) rfl rfl ?_
 refine ap (bM Tryz.underlying135 rfl) rfl rfl ?_
 refine ap (bF rfl rfl) rfl rfl ?_
 refine aC (t := 12) rfl (fun h3_3 => ?_) (fun h3_3 => ?_)
 refine ae ?_
 refine aj ?_
 refine ay rfl ?_
 refine aH ?_
 refine aj ?_
 refine ao ?_
 refine aP ?_
 refine ab ?_
 refine ap (ak rfl) rfl rfl ?_
 refine ap (ak rfl) rfl rfl ?_
 refine ap (ak rfl) rfl rfl ?_
 refine ap (ak rfl) rfl rfl ?_
 refine ap (bP  Tryz.underlying135 fy rfl rfl (ek 0 rfl) rfl (by rw [cL]; omega)) rfl rfl ?_
 refine ap (cG dq ([] : aV) fy rfl (ek 0 rfl) (by rw [cL]; omega) rfl rfl) rfl rfl ?_
 refine aS rfl ent_180 (c_ref01_Fold _ (fold_b (by omega) hlb.2.1)) rfl ?_
 refine ap (bP  Tryz.underlying135 fy rfl rfl (ek 0 rfl) rfl (by rw [cL]; omega)) rfl rfl ?_
 refine o_stm0 dq ([] : aV) _ fy rfl rfl rfl .z rfl (by rw [cL]; omega) rfl rfl rfl ?_
 refine ae ?_
 refine bq ?_
 refine aj ?_
 refine ab ?_
 refine ap (ak rfl) rfl rfl ?_
 refine ap (bg rfl rfl (by omega) (by omega)) rfl rfl ?_
 refine ap (ai rfl) rfl rfl ?_
 refine ae ?_
 have hk : k < (ce n).length := by omega
 refine bo (k + 1) ?_ ?_ ⟨rfl, lk rfl (by rw [cL, cL]), trivial⟩ (by repeat (first | exact trivial | refine ⟨rfl, ?_⟩)) (fun w h => by rw [mapS_at d5 (ce n) k hk, mapS_step d5 (ce n) k hk] at h; exact h)
 omega
 omega
 refine ae ?_
 refine aj ?_
 refine au rfl ?_
 refine bC ?_
 refine aY ?_
 refine aU ?_
 refine a8 ?_
 refine aj ?_
 refine ao ?_
 refine ab ?_
 obtain rfl : k = (ce n).length := by omega
 refine ap (ak rfl) rfl rfl ?_
 refine bv rfl ent_143 rfl (c_ref02_Make _ _ _ (by simp; omega)) (fun w hw => (aQ (eF 0 rfl hw) bf)) ?_
 refine ap (ak rfl) rfl rfl ?_
 refine ap (aI rfl rfl) rfl rfl ?_
 refine ap (aI rfl rfl) rfl rfl ?_
 refine ap (ai rfl) rfl rfl ?_
 refine ap (ai rfl) rfl rfl ?_
 refine ae ?_
 refine aj ?_
 refine ao ?_
 refine ab ?_
 refine ap (ak rfl) rfl rfl ?_
 refine ap (ai rfl) rfl rfl ?_
 refine ae ?_
 refine aj ?_
 refine aF ?_
 refine aJ (ts := [2]) rfl rfl rfl (fun w hw => ?_)
 exact ⟨(), by rw [← make_fold]; simp [d3], hw.base, (hw.weak (List.nil_sublist _) (fun s hs => hs)).toNews⟩

theorem gt (n : aV) (hn : n.length ≤ 1000000000) : cO Tryz.prog 112 #[.string (ba n)] (.string (ba (a6 n))) := rc_pure (c_ref02_Fold n hn)

theorem c_ref13_More (sum : Int) (s : aV) (hs : s.length ≤ 1000000000000) : cO Tryz.prog 260 #[.int .u64 sum, .string (ba s)] (.int .u64 (fR sum s)) := by
 intro w0
 refine bd (ok0 := no) (S := []) (args := [.int .u64 sum, .string (ba s)]) 20 Tryz.func260 rfl rfl rfl (by simp) (by simp) ?_
 refine ao ?_
 refine ab ?_
 refine ap (ai rfl) rfl rfl ?_
 refine ae ?_
 refine aj ?_
 refine ao ?_
 refine ao ?_
 refine ab ?_
 refine ap (ai rfl) rfl rfl ?_
 refine ae ?_
 refine aj ?_
 refine aP ?_
 refine b8 (σ := Nat) [0, 5, 6, 7, 8, 9, 10, 11, 12, 13, 14, 15, 16, 17, 18] (fun k => k ≤ s.length) (fun k => s.length - k) (fun k => [(5, .int .i64 k), (0, .int .u64 (fR sum (s.take k)))]) (0) ?_ ⟨rfl, rfl, trivial⟩ (fun k hI => ?_)
 exact Nat.zero_le _
 have hb := bt_lt s k
 refine ao ?_
 refine ao ?_
 refine ab ?_
 refine ap (ak rfl) rfl rfl ?_
 refine ap (ak rfl) rfl rfl ?_
 refine ap (dW Tryz.underlying9 rfl) rfl rfl ?_
 refine ap (bF rfl rfl) rfl rfl ?_
 refine aC (t := 9) rfl (fun h2_3 => ?_) (fun h2_3 => ?_)
 refine ae ?_
 refine aj ?_
 refine ay rfl ?_
 refine aH ?_
 refine aj ?_
 refine ao ?_
 refine aP ?_
 refine ab ?_
 refine ap (ak rfl) rfl rfl ?_
 refine ap (ak rfl) rfl rfl ?_
 refine ap (ak rfl) rfl rfl ?_
 refine ap (gE  Tryz.underlying9 rfl rfl rfl (by omega)) rfl rfl ?_
 refine ap (dS Tryz.underlying5 Tryz.underlying27 rfl (dy (by omega) (by omega))) rfl rfl ?_
 refine ap (y_xor rfl rfl) rfl rfl ?_
 refine ap (y_mul rfl rfl) rfl rfl ?_
 refine ap (ai rfl) rfl rfl ?_
 refine ae ?_
 refine bq ?_
 refine aj ?_
 refine ab ?_
 refine ap (ak rfl) rfl rfl ?_
 refine ap (bg rfl rfl (by omega) (by omega)) rfl rfl ?_
 refine ap (ai rfl) rfl rfl ?_
 refine ae ?_
 have hk : k < s.length := by omega
 refine bo (k + 1) ?_ ?_ ⟨rfl, lk rfl (by rw [moreH_take sum s k hk]; rfl), trivial⟩ (by repeat (first | exact trivial | refine ⟨rfl, ?_⟩)) aw
 omega
 omega
 refine ae ?_
 refine aj ?_
 refine au rfl ?_
 refine bC ?_
 refine aY ?_
 refine aU ?_
 refine a8 ?_
 refine aj ?_
 refine ao ?_
 refine ab ?_
 refine ap (ak rfl) rfl rfl ?_
 refine ap (ai rfl) rfl rfl ?_
 refine ae ?_
 refine aj ?_
 refine aF ?_
 refine aJ (ts := [4]) rfl rfl rfl (fun w hw => ?_)
 obtain rfl : k = s.length := by omega
 exact ⟨by rw [List.take_length]; rfl, hw.base⟩

theorem c_ref13_Sum (s : aV) (hs : s.length ≤ 1000000000000) : cO Tryz.prog 247 #[.string (ba s)] (.int .u64 (sumH s)) := by
 intro w0
 refine bd (ok0 := no) (S := []) (args := [.string (ba s)]) 5 Tryz.func247 rfl rfl rfl (by simp) (by simp) ?_
 refine ao ?_
 refine ab ?_
 refine ap (ai rfl) rfl rfl ?_
 refine ae ?_
 refine aj ?_
 refine ao ?_
 refine ab ?_
 refine ap (ak rfl) rfl rfl ?_
 refine aS rfl ent_260 (c_ref13_More _ _ (by first | omega | (simp only [List.length_nil, List.length_cons, List.length_take, List.length_drop, List.length_append]; omega))) rfl ?_
 refine ap (ai rfl) rfl rfl ?_
 refine ae ?_
 refine aj ?_
 refine aF ?_
 refine aJ (ts := [2]) rfl rfl rfl (fun w hw => ?_)
 exact ⟨rfl, hw.base⟩

theorem c_ref13_Name (n : aV) (hn : n.length ≤ 1000000000) : cO Tryz.prog 221 #[.string (ba n)] (.int .u64 (jb n)) := by
 intro w0
 have hfl := foldN_le n hn
 refine bd (ok0 := no) (S := []) (args := [.string (ba n)]) 6 Tryz.func221 rfl rfl rfl (by simp) (by simp) ?_
 refine ao ?_
 refine ab ?_
 refine ap (ai rfl) rfl rfl ?_
 refine ae ?_
 refine aj ?_
 refine ao ?_
 refine ab ?_
 refine ap (ak rfl) rfl rfl ?_
 refine aS rfl ent_112 (gt _ (by omega)) rfl ?_
 refine aS rfl ent_247 (c_ref13_Sum _ (by first | omega | (simp only [List.length_nil, List.length_cons, List.length_take, List.length_drop, List.length_append]; omega))) rfl ?_
 refine ap (ai rfl) rfl rfl ?_
 refine ae ?_
 refine aj ?_
 refine aF ?_
 refine aJ (ts := [2]) rfl rfl rfl (fun w hw => ?_)
 exact ⟨rfl, hw.base⟩

theorem c_ref13_Slot (n : aV) (slots : Int) (hn : n.length ≤ 1000000000) (h1 : -9223372036854775808 ≤ slots) (h2 : slots ≤ 9223372036854775807) : cO Tryz.prog 183 #[.string (ba n), .int .i64 slots] (.int .i64 (dO n slots)) := by
 intro w0
 refine bd (ok0 := no) (S := []) (args := [.string (ba n), .int .i64 slots]) 13 Tryz.func183 rfl rfl rfl (by simp) (by simp) ?_
 refine ao ?_
 refine ab ?_
 refine ap (ai rfl) rfl rfl ?_
 refine ae ?_
 refine aj ?_
 refine ao ?_
 refine ao ?_
 refine ab ?_
 refine ap (ak rfl) rfl rfl ?_
 refine ap (bF rfl rfl) rfl rfl ?_
 refine aC (t := 6) rfl (fun h1_1 => ?_) (fun h1_1 => ?_)
 refine ae ?_
 refine aj ?_
 refine ay rfl ?_
 refine ao ?_
 refine ab ?_
 refine ap (ai rfl) rfl rfl ?_
 refine ae ?_
 refine aj ?_
 refine aF ?_
 refine aA ?_
 refine aJ (ts := [4]) rfl rfl rfl (fun w hw => ?_)
 exact ⟨by rw [dO, if_pos h1_1]; rfl, hw.base⟩
 refine ae ?_
 refine aj ?_
 refine au rfl ?_
 refine aH ?_
 refine aj ?_
 refine ao ?_
 refine ab ?_
 refine ap (ak rfl) rfl rfl ?_
 refine aS rfl ent_221 (c_ref13_Name _ (by omega)) rfl ?_
 refine ap (ak rfl) rfl rfl ?_
 refine ap (dS Tryz.underlying3 Tryz.underlying27 rfl (dy (by omega) (by omega))) rfl rfl ?_
 refine ap (y_rem rfl rfl (by omega)) rfl rfl ?_
 refine ap (gD Tryz.underlying27 Tryz.underlying3 rfl) rfl rfl ?_
 refine ap (ai rfl) rfl rfl ?_
 refine ae ?_
 refine aj ?_
 refine aF ?_
 refine aJ (ts := [4]) rfl rfl rfl (fun w hw => ?_)
 exact ⟨by rw [dO, if_neg h1_1]; rfl, hw.base⟩

theorem iZ {α : Type} {a b : List α} (d : α) {k : Nat} (ha : k < a.length) (hb : k < b.length) (h : a.take k = b.take k) (he : a.getD k d = b.getD k d) : a.take (k + 1) = b.take (k + 1) := by
  rw [bH a d k ha, bH b d k hb, h, he]
theorem gn {α : Type} {a b : List α} (d : α) {k : Nat} (he : a.getD k d ≠ b.getD k d) : a ≠ b := fun e => he (by rw [e])

def pickI (n m : Int) : Int := if m < 1 then 0 else n % m
theorem tmod_pos {n m : Int} (hm : 0 < m) : (0 ≤ n.tmod m ∧ n.tmod m = n % m) ∨ (n.tmod m < 0 ∧ n.tmod m + m = n % m) := by
  have h0 := Int.emod_nonneg n (show m ≠ 0 by omega)
  have h1 := Int.emod_lt_of_pos n hm
  by_cases hn : 0 ≤ n
  · left; rw [Int.tmod_eq_emod_of_nonneg hn]; exact ⟨h0, rfl⟩
  · have e := Int.tmod_eq_emod (a := n) (b := m)
    by_cases hd : m ∣ n
    · have hz : n % m = 0 := Int.emod_eq_zero_of_dvd hd
      left; rw [if_pos (.inr hd)] at e; omega
    · have hz : n % m ≠ 0 := fun h => hd (Int.dvd_of_emod_eq_zero h)
      right; rw [if_neg (by omega)] at e
      have : (m.natAbs : Int) = m := by omega
      omega

theorem c_kit_Pick (n m : Int) (h1 : -9223372036854775808 ≤ m) (h2 : m ≤ 9223372036854775807) : cO Tryz.prog 48 #[.int .i64 n, .int .i64 m] (.int .i64 (pickI n m)) := by
 intro w0
 refine bd (ok0 := no) (S := []) (args := [.int .i64 n, .int .i64 m]) 17 Tryz.func48 rfl rfl rfl (by simp) (by simp) ?_
 refine ao ?_
 refine ab ?_
 refine ap (ai rfl) rfl rfl ?_
 refine ae ?_
 refine aj ?_
 refine ao ?_
 refine ao ?_
 refine ab ?_
 refine ap (ak rfl) rfl rfl ?_
 refine ap (bF rfl rfl) rfl rfl ?_
 refine aC (t := 7) rfl (fun h1_1 => ?_) (fun h1_1 => ?_)
 refine ae ?_
 refine aj ?_
 refine ay rfl ?_
 refine ao ?_
 refine ab ?_
 refine ap (ai rfl) rfl rfl ?_
 refine ae ?_
 refine aj ?_
 refine aF ?_
 refine aA ?_
 refine aJ (ts := [4]) rfl rfl rfl (fun w hw => ?_)
 exact ⟨by rw [pickI, if_pos h1_1]; rfl, hw.base⟩
 refine ae ?_
 refine aj ?_
 refine au rfl ?_
 refine aH ?_
 refine aj ?_
 refine ao ?_
 have htm := tmod_pos (n := n) (m := m) (by omega)
 have he0 := Int.emod_nonneg n (show m ≠ 0 by omega)
 have he1 := Int.emod_lt_of_pos n (show 0 < m by omega)
 refine ab ?_
 refine ap (ak rfl) rfl rfl ?_
 refine ap (ak rfl) rfl rfl ?_
 refine ap (y_rem rfl rfl (by omega)) rfl rfl ?_
 refine ap (ai rfl) rfl rfl ?_
 refine ae ?_
 refine aj ?_
 refine ao ?_
 refine ao ?_
 refine ab ?_
 refine ap (ak rfl) rfl rfl ?_
 refine ap (bF rfl rfl) rfl rfl ?_
 refine aC (t := 12) rfl (fun h4_1 => ?_) (fun h4_1 => ?_)
 refine ae ?_
 refine aj ?_
 refine ay rfl ?_
 refine ab ?_
 refine ap (ak rfl) rfl rfl ?_
 refine ap (ak rfl) rfl rfl ?_
 refine ap (bg rfl rfl (by omega) (by omega)) rfl rfl ?_
 refine ap (ai rfl) rfl rfl ?_
 refine ae ?_
 refine aj ?_
 refine ao ?_
 refine ab ?_
 refine ap (ak rfl) rfl rfl ?_
 refine ap (ai rfl) rfl rfl ?_
 refine ae ?_
 refine aj ?_
 refine aF ?_
 refine aJ (ts := [4]) rfl rfl rfl (fun w hw => ?_)
 exact ⟨by rw [pickI, if_neg h1_1]; show Ending.returned (.int _ _) = _; congr 2; omega, hw.base⟩
 refine ae ?_
 refine aj ?_
 refine au rfl ?_
 refine aH ?_
 refine aj ?_
 refine ao ?_
 refine ab ?_
 refine ap (ak rfl) rfl rfl ?_
 refine ap (ai rfl) rfl rfl ?_
 refine ae ?_
 refine aj ?_
 refine aF ?_
 refine aJ (ts := [4]) rfl rfl rfl (fun w hw => ?_)
 exact ⟨by rw [pickI, if_neg h1_1]; show Ending.returned (.int _ _) = _; congr 2; omega, hw.base⟩
end Go.Proofs.YtnpdgmoeoidppaaGreat

/- Octets compared, slices that are made: plain laws. -/
namespace Go.Proofs.YtnpdgmoeoidppaaGreat
open Go.RowKit Go.Shelf
set_option linter.unusedVariables false
set_option linter.unusedSimpArgs false

/-- Octets compared, one behind the other. -/
def cmpS : aV → aV → Int
  | [], [] => 0
  | [], _ :: _ => -1
  | _ :: _, [] => 1
  | a :: r, b :: t => if a < b then -1 else if b < a then 1 else cmpS r t
/-! Slices that are made. -/
section
variable {x : Cx} {l : Fr} {L S : List Ch} {Q : Exit → Act → World → Prop} {ops : Array Oper} {rest : List Oper} {d : Nat} {ty : TypeId} {pos : String} {af : Array Edge} {gd : Option (Nat × Bool)}
end
end Go.Proofs.YtnpdgmoeoidppaaGreat
