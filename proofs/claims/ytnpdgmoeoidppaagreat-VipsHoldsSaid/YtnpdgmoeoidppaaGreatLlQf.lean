import Derived.Test.YtnpdgmoeoidppaaGreatCbQf
import Derived.Test.YtnpdgmoeoidppaaGreatPaQf
import Derived.Lib.Bytealg
import GoSem.Extern.BytealgCompare
import Derived.Laws.StructEq
import Derived.ChangeKeysEq
/- hash: the sums -/
namespace Go.Proofs.YtnpdgmoeoidppaaGreat
open Go.RowKit Go.Shelf
set_option linter.unusedVariables false
set_option linter.unusedSimpArgs false

theorem ent_165 : Enters Tryz.prog 165 := enters_of Tryz.func165 (by kernel_rfl) rfl
theorem ent_214 : Enters Tryz.prog 214 := enters_of Tryz.func214 (by kernel_rfl) rfl
theorem ent_238 : Enters Tryz.prog 238 := enters_of Tryz.func238 (by kernel_rfl) rfl
theorem ent_256 : Enters Tryz.prog 256 := enters_of Tryz.func256 (by kernel_rfl) rfl
theorem fM : Enters Tryz.prog 73 := enters_of Tryz.func73 (by kernel_rfl) rfl
theorem eQ : TyI Tryz.prog 3 false 1 8 (.int .i64 0) := TyI.mk' (by kernel_rfl) (fun _ => by kernel_rfl)

/-- The sum of octets, from a sum on. -/
def stepH (h : Int) (b : UInt8) : Int := IntKind.u64.wrap (bits .xor .u64 h b.toNat * 1099511628211)
def gm (sum : Int) (s : aU) : Int := s.foldl stepH sum
def sumH (s : aU) : Int := gm 14695981039346656037 s
def nameH (n : aU) : Int := sumH (aX n)
/-- A name's slot. -/
def ew (n : aU) (slots : Int) : Int := if slots < 1 then 0 else IntKind.i64.wrap (Int.tmod (nameH n) slots)
theorem moreH_append (h : Int) (s t : aU) : gm h (s ++ t) = gm (gm h s) t := by simp [gm]
theorem moreH_take (h : Int) (s : aU) (k : Nat) (hk : k < s.length) : gm h (s.take (k + 1)) = stepH (gm h (s.take k)) (s.getD k 0) := by
  rw [bV s 0 k hk, moreH_append]; rfl
theorem wrap64_rng (n : Int) : 0 ≤ IntKind.u64.wrap n ∧ IntKind.u64.wrap n ≤ 18446744073709551615 := by
  have : IntKind.u64.wrap n = n % 18446744073709551616 := rfl
  rw [this]; omega
theorem moreH_rng (h : Int) (h0 : 0 ≤ h ∧ h ≤ 18446744073709551615) : ∀ s : aU, 0 ≤ gm h s ∧ gm h s ≤ 18446744073709551615
  | [] => h0
  | b :: r => moreH_rng _ (wrap64_rng _) r
theorem sumH_rng (s : aU) : 0 ≤ sumH s ∧ sumH s ≤ 18446744073709551615 := moreH_rng _ (by omega) s

theorem slotH_val {n : aU} {slots : Int} (h1 : 1 ≤ slots) (h2 : slots ≤ 9223372036854775807) : ew n slots = nameH n % slots ∧ 0 ≤ ew n slots ∧ ew n slots < slots := by
  have hr := sumH_rng (aX n)
  have e : Int.tmod (nameH n) slots = nameH n % slots := Int.tmod_eq_emod_of_nonneg hr.1
  have l1 := Int.emod_nonneg (nameH n) (show slots ≠ 0 by omega)
  have l2 := Int.emod_lt_of_pos (nameH n) (show 0 < slots by omega)
  have e2 : ew n slots = nameH n % slots := by rw [ew, if_neg (by omega), e, ig (by omega) (by omega)]
  rw [e2]; exact ⟨rfl, l1, l2⟩
theorem c_hash_More (sum : Int) (s : aU) (hs : s.length ≤ 1000000000000) : Pure Tryz.prog 256 #[.int .u64 sum, .string (ba s)] (.int .u64 (gm sum s)) := by
 intro w0
 refine bb (ok0 := no) (S := []) (args := [.int .u64 sum, .string (ba s)]) 21 Tryz.func256 rfl rfl rfl (by simp) (by simp) ?_
 refine ap ?_
 refine ab ?_
 refine aq (ai rfl) rfl rfl ?_
 refine ae ?_
 refine ak ?_
 refine ap ?_
 refine ab ?_
 refine aq (aj rfl) rfl rfl ?_
 refine aq (ai rfl) rfl rfl ?_
 refine ae ?_
 refine ak ?_
 refine ap ?_
 refine ap ?_
 refine ab ?_
 refine aq (aj rfl) rfl rfl ?_
 refine aq (dJ Tryz.underlying9 rfl) rfl rfl ?_
 refine aq (aj rfl) rfl rfl ?_
 refine ae ?_
 refine ak ?_
 refine aR ?_
 refine bY (σ := Nat) [4, 5, 9, 10, 11, 12, 13, 14, 15, 16, 17, 18, 19] (fun k => k ≤ s.length) (fun k => s.length - k) (fun k => [(9, .int .i64 k), (4, .int .u64 (gm sum (s.take k)))]) (0) ?_ ⟨rfl, rfl, trivial⟩ (fun k hI => ?_)
 exact Nat.zero_le _
 have hb := bt_lt s k
 refine ap ?_
 refine ab ?_
 refine aq (bP rfl rfl) rfl rfl ?_
 refine aG (t := 10) rfl (fun h3_0 => ?_) (fun h3_0 => ?_)
 refine ae ?_
 refine ak ?_
 refine ap ?_
 refine aA rfl ?_
 refine aH ?_
 refine ak ?_
 refine ap ?_
 refine aR ?_
 refine ap ?_
 refine ab ?_
 refine aq (aj rfl) rfl rfl ?_
 refine aq (ai rfl) rfl rfl ?_
 refine ae ?_
 refine ak ?_
 refine ab ?_
 refine aq (aj rfl) rfl rfl ?_
 refine aq (aj rfl) rfl rfl ?_
 refine aq (aj rfl) rfl rfl ?_
 refine aq (ip  Tryz.underlying9 rfl rfl rfl (by omega)) rfl rfl ?_
 refine aq (dF Tryz.underlying5 Tryz.underlying27 rfl (da (by omega) (by omega))) rfl rfl ?_
 refine aq (y_xor rfl rfl) rfl rfl ?_
 refine aq (y_mul rfl rfl) rfl rfl ?_
 refine aq (ai rfl) rfl rfl ?_
 refine ae ?_
 refine bo ?_
 refine ak ?_
 refine ab ?_
 refine aq (bd rfl rfl (by omega) (by omega)) rfl rfl ?_
 refine aq (aj rfl) rfl rfl ?_
 refine ae ?_
 have hk : k < s.length := by omega
 refine bj (k + 1) ?_ ?_ ⟨rfl, lk rfl (by rw [moreH_take sum s k hk]; rfl), trivial⟩ (by repeat (first | exact trivial | refine ⟨rfl, ?_⟩)) av
 omega
 omega
 refine ae ?_
 refine ak ?_
 refine ap ?_
 refine ay rfl ?_
 refine bE ?_
 refine aZ ?_
 refine aY ?_
 refine a7 ?_
 refine ak ?_
 refine ap ?_
 refine ab ?_
 refine aq (aj rfl) rfl rfl ?_
 refine aq (ai rfl) rfl rfl ?_
 refine ae ?_
 refine ak ?_
 refine aJ ?_
 refine aN (ts := [4]) rfl rfl rfl (fun w hw => ?_)
 obtain rfl : k = s.length := by omega
 exact ⟨by rw [List.take_length]; rfl, hw.base⟩

theorem c_hash_Sum (s : aU) (hs : s.length ≤ 1000000000000) : Pure Tryz.prog 238 #[.string (ba s)] (.int .u64 (sumH s)) := by
 intro w0
 refine bb (ok0 := no) (S := []) (args := [.string (ba s)]) 5 Tryz.func238 rfl rfl rfl (by simp) (by simp) ?_
 refine ap ?_
 refine ab ?_
 refine aq (ai rfl) rfl rfl ?_
 refine ae ?_
 refine ak ?_
 refine ap ?_
 refine ab ?_
 refine aq (aj rfl) rfl rfl ?_
 refine aV rfl ent_256 (c_hash_More _ _ (by first | omega | (simp only [List.length_nil, List.length_cons, List.length_take, List.length_drop, List.length_append]; omega))) rfl ?_
 refine aq (ai rfl) rfl rfl ?_
 refine ae ?_
 refine ak ?_
 refine aJ ?_
 refine aN (ts := [2]) rfl rfl rfl (fun w hw => ?_)
 exact ⟨rfl, hw.base⟩

theorem foldN_le (n : aU) (hn : n.length ≤ 1000000000) : (aX n).length ≤ 1000000000 := by
  unfold aX; split
  · rw [cY]; exact hn
  · simp

theorem c_hash_Name (n : aU) (hn : n.length ≤ 1000000000) : Pure Tryz.prog 214 #[.string (ba n)] (.int .u64 (nameH n)) := by
 intro w0
 have hfl := foldN_le n hn
 refine bb (ok0 := no) (S := []) (args := [.string (ba n)]) 6 Tryz.func214 rfl rfl rfl (by simp) (by simp) ?_
 refine ap ?_
 refine ab ?_
 refine aq (ai rfl) rfl rfl ?_
 refine ae ?_
 refine ak ?_
 refine ap ?_
 refine ab ?_
 refine aq (aj rfl) rfl rfl ?_
 refine aV rfl fM (dx _ (by omega)) rfl ?_
 refine aV rfl ent_238 (c_hash_Sum _ (by first | omega | (simp only [List.length_nil, List.length_cons, List.length_take, List.length_drop, List.length_append]; omega))) rfl ?_
 refine aq (ai rfl) rfl rfl ?_
 refine ae ?_
 refine ak ?_
 refine aJ ?_
 refine aN (ts := [2]) rfl rfl rfl (fun w hw => ?_)
 exact ⟨rfl, hw.base⟩

theorem c_hash_Slot (n : aU) (slots : Int) (hn : n.length ≤ 1000000000) (h1 : -9223372036854775808 ≤ slots) (h2 : slots ≤ 9223372036854775807) : Pure Tryz.prog 165 #[.string (ba n), .int .i64 slots] (.int .i64 (ew n slots)) := by
 intro w0
 refine bb (ok0 := no) (S := []) (args := [.string (ba n), .int .i64 slots]) 13 Tryz.func165 rfl rfl rfl (by simp) (by simp) ?_
 refine ap ?_
 refine ab ?_
 refine aq (ai rfl) rfl rfl ?_
 refine ae ?_
 refine ak ?_
 refine ap ?_
 refine ap ?_
 refine ab ?_
 refine aq (aj rfl) rfl rfl ?_
 refine aq (bP rfl rfl) rfl rfl ?_
 refine aG (t := 6) rfl (fun h1_1 => ?_) (fun h1_1 => ?_)
 refine ae ?_
 refine ak ?_
 refine aA rfl ?_
 refine ap ?_
 refine ab ?_
 refine aq (ai rfl) rfl rfl ?_
 refine ae ?_
 refine ak ?_
 refine aJ ?_
 refine aC ?_
 refine aN (ts := [4]) rfl rfl rfl (fun w hw => ?_)
 exact ⟨by rw [ew, if_pos h1_1]; rfl, hw.base⟩
 refine ae ?_
 refine ak ?_
 refine ay rfl ?_
 refine aH ?_
 refine ak ?_
 refine ap ?_
 refine ab ?_
 refine aq (aj rfl) rfl rfl ?_
 refine aV rfl ent_214 (c_hash_Name _ (by omega)) rfl ?_
 refine aq (aj rfl) rfl rfl ?_
 refine aq (dF Tryz.underlying3 Tryz.underlying27 rfl (da (by omega) (by omega))) rfl rfl ?_
 refine aq (y_rem rfl rfl (by omega)) rfl rfl ?_
 refine aq (gj Tryz.underlying27 Tryz.underlying3 rfl) rfl rfl ?_
 refine aq (ai rfl) rfl rfl ?_
 refine ae ?_
 refine ak ?_
 refine aJ ?_
 refine aN (ts := [4]) rfl rfl rfl (fun w hw => ?_)
 exact ⟨by rw [ew, if_neg h1_1]; rfl, hw.base⟩

/-- The slot that is looked at behind k others. -/
def atH (n : aU) (slots : Int) (k : Nat) : Int := if slots < 1 then 0 else (ew n slots + k) % slots
def dM (n : aU) (slots : Int) : List Int := (List.range slots.toNat).map (atH n slots)
theorem cP (n : aU) (slots : Int) : (dM n slots).length = slots.toNat := by simp [dM]
theorem e5 (n : aU) (slots : Int) (k : Nat) (h : k < slots.toNat) : (dM n slots).getD k 0 = atH n slots k := by
  simp [dM, List.getD_eq_getElem?_getD, h]
theorem emod_succ {x m : Int} (hm : 0 < m) : (x + 1) % m = if x % m + 1 = m then 0 else x % m + 1 := by
  have h0 := Int.emod_nonneg x (show m ≠ 0 by omega)
  have h1 := Int.emod_lt_of_pos x hm
  have e : x = x % m + m * (x / m) := (Int.emod_add_mul_ediv x m).symm
  have e2 : x + 1 = (x % m + 1) + m * (x / m) := by omega
  rw [e2, Int.add_mul_emod_self_left]
  split
  · rename_i h; rw [h]; exact Int.emod_self
  · exact Int.emod_eq_of_lt (by omega) (by omega)
theorem atH_zero {n : aU} {slots : Int} (h2 : slots ≤ 9223372036854775807) : atH n slots 0 = ew n slots := by
  unfold atH
  by_cases h : slots < 1
  · rw [if_pos h, ew, if_pos h]
  · obtain ⟨h3, h4, h5⟩ := slotH_val (n := n) (slots := slots) (by omega) h2
    rw [if_neg h]
    simpa using Int.emod_eq_of_lt h4 h5
theorem atH_rng {n : aU} {slots : Int} (h : 1 ≤ slots) (k : Nat) : 0 ≤ atH n slots k ∧ atH n slots k < slots := by
  unfold atH
  rw [if_neg (by omega)]
  exact ⟨Int.emod_nonneg _ (by omega), Int.emod_lt_of_pos _ (by omega)⟩
theorem atH_succ {n : aU} {slots : Int} (h : 1 ≤ slots) (k : Nat) : atH n slots (k + 1) = if atH n slots k + 1 = slots then 0 else atH n slots k + 1 := by
  have hs : ¬ slots < 1 := by omega
  simp only [atH, if_neg hs]
  rw [← emod_succ (by omega)]
  congr 1
  rw [Int.natCast_add]; omega
theorem iter_split {α : Type} (xs : List α) (d : α) (k : Nat) (h : k < xs.length) : xs = xs.take k ++ xs.getD k d :: xs.drop (k + 1) := by
  rw [← ec xs d k h, List.take_append_drop]

theorem ik (n : aU) (slots : Int) : RC Tryz.prog 96 #[.string (ba n), .int .i64 slots] [] (α := Nat × Nat) (fun o => .func (.func 164) #[] #[.pointer (some ⟨o.1, 0, none⟩), .pointer (some ⟨o.2, 0, none⟩)]) (fun o => [Ch.row o.2 [.int .i64 slots] 3, Ch.row o.1 [.string (ba n)] 26]) := by
 refine bp (args := [.string (ba n), .int .i64 slots]) 6 Tryz.func96 rfl rfl rfl (fun w0 => ?_)
 refine ap ?_
 refine ab ?_
 refine bI rfl rfl rfl (fun b1 => ?_)
 refine bI rfl rfl rfl (fun b2 => ?_)
 refine aq (ai rfl) rfl rfl ?_
 refine ae ?_
 refine ak ?_
 refine ap ?_
 refine ab ?_
 refine aq (dN rfl rfl) rfl rfl ?_
 refine aq (ai rfl) rfl rfl ?_
 refine ae ?_
 refine ak ?_
 refine aJ ?_
 refine aN (ts := [4]) rfl rfl rfl (fun w hw => ?_)
 exact ⟨(b1, b2), rfl, hw.base, (hw.weak (.cons_cons _ (.cons_cons _ .slnil)) (fun s hs => hs)).toNews⟩

theorem gM (n : aU) (slots : Int) (p q : Nat) (hn : n.length ≤ 1000000000) (h1 : -9223372036854775808 ≤ slots) (h2 : slots ≤ 9223372036854775807) : Iter Tryz.prog 164 [.pointer (some ⟨p, 0, none⟩), .pointer (some ⟨q, 0, none⟩)] [Ch.row p [.string (ba n)] 26, Ch.row q [.int .i64 slots] 3] enci (dM n slots) := by
 refine iter_of_W 22 Tryz.func164 rfl rfl rfl (fun lr σ I Ix C Sc hy g0 hg0 w0 => ?_)
 refine ap ?_
 refine ab ?_
 refine aq (bO 0 bC rfl rfl rfl) rfl rfl ?_
 refine aq (bO 1 eQ rfl rfl rfl) rfl rfl ?_
 refine aV rfl ent_165 (c_hash_Slot _ _ (by omega) (by omega) (by omega)) rfl ?_
 refine aq (ai rfl) rfl rfl ?_
 refine ae ?_
 refine ak ?_
 refine ap ?_
 refine ab ?_
 refine aq (bO 1 eQ rfl rfl rfl) rfl rfl ?_
 refine aq (y_max rfl rfl) rfl rfl ?_
 refine aq (aj rfl) rfl rfl ?_
 refine ae ?_
 refine ak ?_
 refine aR ?_
 refine d5 (σ := Nat × σ) [4, 10, 11, 12, 13, 14, 15, 16, 17, 18, 19, 20, 21] (fun s => s.1 ≤ slots.toNat ∧ I ((dM n slots).take s.1) s.2) (fun s => slots.toNat - s.1) (fun s => [(10, .int .i64 s.1), (4, .int .i64 (atH n slots s.1))]) (fun s => C s.2) ((0, g0)) ?_ ⟨rfl, lk rfl (congrArg (Value.int .i64) (atH_zero h2).symm), trivial⟩ rfl (fun s hI => ?_)
 exact ⟨Nat.zero_le _, hg0⟩
 obtain ⟨k, g⟩ := s
 obtain ⟨hk, hI⟩ := hI
 dsimp only at hk hI ⊢
 refine ap ?_
 refine ab ?_
 refine aq (bP rfl rfl) rfl rfl ?_
 refine aG (t := 11) rfl (fun h2_0 => ?_) (fun h2_0 => ?_)
 have hkl : k < slots.toNat := by
   split at h2_0 <;> omega
 have hs1 : 1 ≤ slots := by omega
 have har := atH_rng (n := n) hs1 k
 have hx2 := iter_split (dM n slots) 0 k (by rw [cP]; exact hkl)
 rw [e5 n slots k hkl] at hx2
 refine ae ?_
 refine ak ?_
 refine ap ?_
 refine aA rfl ?_
 refine aH ?_
 refine ak ?_
 refine ap ?_
 refine aR ?_
 refine ap ?_
 refine ap ?_
 refine ab ?_
 refine aq (aj rfl) rfl rfl ?_
 refine aq (aj rfl) rfl rfl ?_
 refine ij rfl rfl (hy _ (atH n slots k) _ g hx2 hI) (fun _ => .z) (fun s hs => List.mem_append_right _ hs) rfl (fun g' hT => ?_) (fun g' hF => ?_)
 refine aq (bF rfl) rfl rfl ?_
 refine ae ?_
 refine ak ?_
 refine ay rfl ?_
 refine aH ?_
 refine ak ?_
 refine ap ?_
 refine ab ?_
 refine aq (aj rfl) rfl rfl ?_
 refine aq (bd rfl rfl (by omega) (by omega)) rfl rfl ?_
 refine aq (ai rfl) rfl rfl ?_
 refine ae ?_
 refine ak ?_
 refine ap ?_
 refine ab ?_
 refine aq (aj rfl) rfl rfl ?_
 refine aq (bO 1 eQ rfl rfl rfl) rfl rfl ?_
 refine aq (fc rfl rfl) rfl rfl ?_
 refine aG (t := 20) rfl (fun h5_2 => ?_) (fun h5_2 => ?_)
 refine ae ?_
 refine ak ?_
 refine aA rfl ?_
 refine ab ?_
 refine aq (ai rfl) rfl rfl ?_
 refine ae ?_
 refine bo ?_
 refine ak ?_
 refine ab ?_
 refine aq (bd rfl rfl (by omega) (by omega)) rfl rfl ?_
 refine aq (aj rfl) rfl rfl ?_
 refine ae ?_
 have hpl := bV (dM n slots) 0 k (by rw [cP]; exact hkl)
 rw [e5 n slots k hkl] at hpl
 refine bj ((k + 1, g')) ?_ ?_ ⟨rfl, lk rfl (congrArg (Value.int .i64) (by rw [atH_succ hs1 k]; first | rw [if_pos (by omega)] | rw [if_neg (by omega)])), trivial⟩ (by repeat (first | exact trivial | refine ⟨rfl, ?_⟩)) av
 exact ⟨by show k + 1 ≤ _; omega, by show I ((dM n slots).take (k + 1)) g'; rw [hpl]; exact hT⟩
 show slots.toNat - (k + 1) < slots.toNat - k
 omega
 refine ae ?_
 refine ak ?_
 refine ay rfl ?_
 refine aH ?_
 refine bo ?_
 refine ak ?_
 refine ab ?_
 refine aq (bd rfl rfl (by omega) (by omega)) rfl rfl ?_
 refine aq (aj rfl) rfl rfl ?_
 refine ae ?_
 have hpl := bV (dM n slots) 0 k (by rw [cP]; exact hkl)
 rw [e5 n slots k hkl] at hpl
 refine bj ((k + 1, g')) ?_ ?_ ⟨rfl, lk rfl (congrArg (Value.int .i64) (by rw [atH_succ hs1 k]; first | rw [if_pos (by omega)] | rw [if_neg (by omega)])), trivial⟩ (by repeat (first | exact trivial | refine ⟨rfl, ?_⟩)) av
 exact ⟨by show k + 1 ≤ _; omega, by show I ((dM n slots).take (k + 1)) g'; rw [hpl]; exact hT⟩
 show slots.toNat - (k + 1) < slots.toNat - k
 omega
 refine aq (bF rfl) rfl rfl ?_
 refine ae ?_
 refine ak ?_
 refine aA rfl ?_
 refine aJ ?_
 refine aC ?_
 refine aT ?_
 refine aC ?_
 refine bw ?_
 refine aT ?_
 refine aN (ts := []) rfl rfl rfl (fun w hw => ?_)
 exact fA _ (.inr ⟨_, _, by rw [List.append_assoc]; exact hx2, hF⟩) hw
 refine ae ?_
 refine ak ?_
 refine ap ?_
 refine ay rfl ?_
 refine bE ?_
 refine aZ ?_
 refine aY ?_
 refine a7 ?_
 refine im (ts := []) rfl rfl rfl (fun w hw => ?_)
 have hkk : k = slots.toNat := by split at h2_0 <;> omega
 rw [hkk, ← cP n slots, List.take_length] at hI
 exact fA _ (.inl hI) hw
end Go.Proofs.YtnpdgmoeoidppaaGreat

/- the references of labels, names, sums; the kit -/
namespace Go.Proofs.YtnpdgmoeoidppaaGreat
open Go.RowKit Go.Shelf
set_option linter.unusedVariables false
set_option linter.unusedSimpArgs false

theorem ent_111 : Enters Tryz.prog 111 := enters_of Tryz.func111 (by kernel_rfl) rfl
theorem ent_112 : Enters Tryz.prog 112 := enters_of Tryz.func112 (by kernel_rfl) rfl
theorem ent_143 : Enters Tryz.prog 143 := enters_of Tryz.func143 (by kernel_rfl) rfl
theorem ent_180 : Enters Tryz.prog 180 := enters_of Tryz.func180 (by kernel_rfl) rfl
theorem ent_194 : Enters Tryz.prog 194 := enters_of Tryz.func194 (by kernel_rfl) rfl
theorem ent_83 : Enters Tryz.prog 83 := enters_of Tryz.func83 (by kernel_rfl) rfl

theorem c_ref01_Check (l : aU) : Pure Tryz.prog 194 #[.string (ba l)] (.int .i64 (fb l)) := by
 intro w0
 refine bb (ok0 := no) (S := []) (args := [.string (ba l)]) 10 Tryz.func194 rfl rfl rfl (by simp) (by simp) ?_
 refine ap ?_
 refine ab ?_
 refine aq (ai rfl) rfl rfl ?_
 refine ae ?_
 refine ak ?_
 refine ap ?_
 refine aR ?_
 refine ap ?_
 refine ab ?_
 refine aq (aj rfl) rfl rfl ?_
 refine aq (y_eqls rfl rfl) rfl rfl ?_
 refine aG (t := 5) rfl (fun h1_1 => ?_) (fun h1_1 => ?_)
 refine aq (ai rfl) rfl rfl ?_
 refine ae ?_
 refine ak ?_
 refine aA rfl ?_
 refine ap ?_
 refine ab ?_
 refine aq (ai rfl) rfl rfl ?_
 refine ae ?_
 refine ak ?_
 refine aJ ?_
 refine aT ?_
 refine aC ?_
 refine aN (ts := [2]) rfl rfl rfl (fun w hw => ?_)
 subst h1_1
 exact ⟨rfl, hw.base⟩
 refine aq (ai rfl) rfl rfl ?_
 refine ae ?_
 refine ak ?_
 refine ay rfl ?_
 refine ap ?_
 refine ab ?_
 refine aq (aj rfl) rfl rfl ?_
 refine aq (dJ Tryz.underlying9 rfl) rfl rfl ?_
 refine aq (dO rfl rfl) rfl rfl ?_
 refine aG (t := 9) rfl (fun h3_2 => ?_) (fun h3_2 => ?_)
 refine aq (ai rfl) rfl rfl ?_
 refine ae ?_
 refine ak ?_
 refine aA rfl ?_
 refine ap ?_
 refine ab ?_
 refine aq (ai rfl) rfl rfl ?_
 refine ae ?_
 refine ak ?_
 refine aJ ?_
 refine aT ?_
 refine aC ?_
 refine aN (ts := [2]) rfl rfl rfl (fun w hw => ?_)
 have := len_pos h1_1
 exact ⟨by unfold fb; rw [if_neg (by omega)]; first | rw [if_pos (by omega)]; rfl | rw [if_neg (by omega)]; rfl, hw.base⟩
 refine aq (ai rfl) rfl rfl ?_
 refine ae ?_
 refine ak ?_
 refine ay rfl ?_
 refine aH ?_
 refine bo ?_
 refine ak ?_
 refine ap ?_
 refine ab ?_
 refine aq (ai rfl) rfl rfl ?_
 refine ae ?_
 refine ak ?_
 refine aJ ?_
 refine aN (ts := [2]) rfl rfl rfl (fun w hw => ?_)
 have := len_pos h1_1
 exact ⟨by unfold fb; rw [if_neg (by omega)]; first | rw [if_pos (by omega)]; rfl | rw [if_neg (by omega)]; rfl, hw.base⟩

theorem lowB_up {c : UInt8} (h1 : 65 ≤ c.toNat) (h2 : c.toNat ≤ 90) : (c.toNat : Int) + 32 = ((d7 c).toNat : Int) := by
  unfold d7; rw [if_pos ⟨h1, h2⟩]; simp; omega
theorem lowB_no {c : UInt8} (h : ¬ (65 ≤ c.toNat ∧ c.toNat ≤ 90)) : d7 c = c := by unfold d7; rw [if_neg h]
theorem set_same {α : Type} (l : List α) (d : α) (k : Nat) (h : k < l.length) : l.set k (l.getD k d) = l := by
  rw [List.getD_eq_getElem?_getD, List.getElem?_eq_getElem h, Option.getD_some, List.set_getElem_self]

theorem c_ref01_Fold (l : aU) (hl : l.length ≤ 1000000000000) : Pure Tryz.prog 180 #[.string (ba l)] (.string (ba (dD l))) := by
 intro w0
 refine bb (ok0 := no) (S := []) (args := [.string (ba l)]) 35 Tryz.func180 rfl rfl rfl (by simp) (by simp) ?_
 refine ap ?_
 refine ab ?_
 refine aq (ai rfl) rfl rfl ?_
 refine ae ?_
 refine ak ?_
 refine ap ?_
 refine ab ?_
 refine aq (aj rfl) rfl rfl ?_
 refine o_s2b Tryz.underlying9 Tryz.underlying75 Tryz.underlying5 (by omega) rfl rfl (fun As1 cs1 => ?_)
 refine aq (ai rfl) rfl rfl ?_
 refine ae ?_
 refine ak ?_
 refine ap ?_
 refine ap ?_
 refine ab ?_
 refine aq (ai rfl) rfl rfl ?_
 refine ae ?_
 refine ak ?_
 refine aR ?_
 refine d5 (σ := Nat) [3, 4, 7, 8, 9, 10, 11, 12, 13, 14, 15, 16, 17, 18, 19, 20, 21, 22, 23, 24, 25, 26, 27, 28, 29, 30, 31, 32] (fun k => k ≤ l.length) (fun k => l.length - k) (fun k => [(4, .int .i64 k), (3, .slice As1 ((l.take k).map d7 ++ l.drop k).length cs1)]) (fun k => Ch.ls As1 cs1 5 1 encb ((l.take k).map d7 ++ l.drop k)) (0) ?_ ⟨rfl, rfl, trivial⟩ rfl (fun k hI => ?_)
 exact Nat.zero_le _
 have hml := bU d7 l k
 refine ap ?_
 refine ap ?_
 refine ab ?_
 refine aq (aj rfl) rfl rfl ?_
 refine aq (aj rfl) rfl rfl ?_
 refine aq (bK Tryz.underlying75 rfl) rfl rfl ?_
 refine aq (bP rfl rfl) rfl rfl ?_
 refine aG (t := 10) rfl (fun h3_3 => ?_) (fun h3_3 => ?_)
 refine ae ?_
 refine ak ?_
 refine aA rfl ?_
 refine aH ?_
 refine ak ?_
 refine ap ?_
 refine aR ?_
 refine ap ?_
 refine ab ?_
 have hk : k < l.length := by omega
 have hat := map_at d7 l k hk
 have hat2 : ((List.map d7 (List.take k l) ++ List.drop k l).getD k 0).toNat = (l.getD k 0).toNat := by rw [hat]
 refine aq (aj rfl) rfl rfl ?_
 refine aq (aj rfl) rfl rfl ?_
 refine aq (bq  Tryz.underlying75 gH rfl rfl (cZ 0 rfl) rfl (by rw [bU]; omega)) rfl rfl ?_
 refine aq (bu enc_b (0 : UInt8) gH rfl (cZ 0 rfl) (by rw [bU]; omega) rfl rfl) rfl rfl ?_
 refine aq (gr rfl rfl) rfl rfl ?_
 refine aG (t := 17) rfl (fun h5_4 => ?_) (fun h5_4 => ?_)
 refine aq (aj rfl) rfl rfl ?_
 refine aw rfl rfl ?_
 refine aq (aj rfl) rfl rfl ?_
 refine aw rfl rfl ?_
 refine aq (aj rfl) rfl rfl ?_
 refine aw rfl rfl ?_
 refine aq (bq  Tryz.underlying75 gH rfl rfl (cZ 0 rfl) rfl (by rw [bU]; omega)) rfl rfl ?_
 refine aw rfl rfl ?_
 refine aq (bu enc_b (0 : UInt8) gH rfl (cZ 0 rfl) (by rw [bU]; omega) rfl rfl) rfl rfl ?_
 refine aw rfl rfl ?_
 refine aq (y_leq rfl rfl) rfl rfl ?_
 refine aG (t := 23) rfl (fun h5_10 => ?_) (fun h5_10 => ?_)
 refine aq (aS rfl rfl) rfl rfl ?_
 refine ae ?_
 refine ak ?_
 refine aA rfl ?_
 refine ab ?_
 refine aq (aj rfl) rfl rfl ?_
 refine aq (aj rfl) rfl rfl ?_
 refine aq (aj rfl) rfl rfl ?_
 refine aq (aj rfl) rfl rfl ?_
 refine aq (bq  Tryz.underlying75 gH rfl rfl (cZ 0 rfl) rfl (by rw [bU]; omega)) rfl rfl ?_
 refine aq (bu enc_b (0 : UInt8) gH rfl (cZ 0 rfl) (by rw [bU]; omega) rfl rfl) rfl rfl ?_
 refine aq (y_add rfl rfl) rfl rfl ?_
 refine bZ (t := 31) (.int .u8 ((d7 (l.getD k 0)).toNat : Int)) rfl (congrArg (Value.int .u8) (by rw [fL (by omega) (by omega), hat2]; exact lowB_up (by omega) (by omega))) ?_
 refine aq (bq  Tryz.underlying75 gH rfl rfl (cZ 0 rfl) rfl (by rw [bU]; omega)) rfl rfl ?_
 refine o_stm0 enc_b (0 : UInt8) _ gH rfl rfl rfl .z rfl (by rw [bU]; omega) rfl rfl rfl ?_
 refine ae ?_
 refine bo ?_
 refine ak ?_
 refine ab ?_
 refine aq (aj rfl) rfl rfl ?_
 refine aq (bd rfl rfl (by omega) (by omega)) rfl rfl ?_
 refine aq (ai rfl) rfl rfl ?_
 refine ae ?_
 have hcc := UInt8.toNat_lt (l.getD k 0)
 refine bj (k + 1) ?_ ?_ ⟨rfl, lk rfl (by rw [bU, bU]), trivial⟩ (by repeat (first | exact trivial | refine ⟨rfl, ?_⟩)) (fun w h => by first | (rw [eO d7 l k hk] at h; exact h) | (rw [← eO d7 l k hk, lowB_no (by omega), ← map_at d7 l k hk, set_same _ _ _ (by rw [bU]; exact hk)]; exact h))
 omega
 omega
 refine aq (aS rfl rfl) rfl rfl ?_
 refine ae ?_
 refine ak ?_
 refine ay rfl ?_
 refine aH ?_
 refine bo ?_
 refine ak ?_
 refine ab ?_
 refine aq (aj rfl) rfl rfl ?_
 refine aq (bd rfl rfl (by omega) (by omega)) rfl rfl ?_
 refine aq (ai rfl) rfl rfl ?_
 refine ae ?_
 have hcc := UInt8.toNat_lt (l.getD k 0)
 refine bj (k + 1) ?_ ?_ ⟨rfl, lk rfl (by rw [bU, bU]), trivial⟩ (by repeat (first | exact trivial | refine ⟨rfl, ?_⟩)) (fun w h => by first | (rw [eO d7 l k hk] at h; exact h) | (rw [← eO d7 l k hk, lowB_no (by omega), ← map_at d7 l k hk, set_same _ _ _ (by rw [bU]; exact hk)]; exact h))
 omega
 omega
 refine aq (aj rfl) rfl rfl ?_
 refine aK rfl rfl rfl rfl ?_
 refine aK rfl rfl rfl rfl ?_
 refine aK rfl rfl rfl rfl ?_
 refine aK rfl rfl rfl rfl ?_
 refine aK rfl rfl rfl rfl ?_
 refine aq (aL rfl rfl) rfl rfl ?_
 refine ae ?_
 refine ak ?_
 refine ay rfl ?_
 refine aH ?_
 refine bo ?_
 refine ak ?_
 refine ab ?_
 refine aq (aj rfl) rfl rfl ?_
 refine aq (bd rfl rfl (by omega) (by omega)) rfl rfl ?_
 refine aq (ai rfl) rfl rfl ?_
 refine ae ?_
 have hcc := UInt8.toNat_lt (l.getD k 0)
 refine bj (k + 1) ?_ ?_ ⟨rfl, lk rfl (by rw [bU, bU]), trivial⟩ (by repeat (first | exact trivial | refine ⟨rfl, ?_⟩)) (fun w h => by first | (rw [eO d7 l k hk] at h; exact h) | (rw [← eO d7 l k hk, lowB_no (by omega), ← map_at d7 l k hk, set_same _ _ _ (by rw [bU]; exact hk)]; exact h))
 omega
 omega
 refine ae ?_
 refine ak ?_
 refine ay rfl ?_
 refine bE ?_
 refine aZ ?_
 refine aY ?_
 refine a7 ?_
 refine ak ?_
 refine ap ?_
 refine ab ?_
 refine aq (aj rfl) rfl rfl ?_
 refine aq (y_b2s Tryz.underlying75 Tryz.underlying9 Tryz.underlying5 rfl (cZ 0 rfl)) rfl rfl ?_
 refine aq (ai rfl) rfl rfl ?_
 refine ae ?_
 refine ak ?_
 refine aJ ?_
 refine aN (ts := [2]) rfl rfl rfl (fun w hw => ?_)
 obtain rfl : k = l.length := by omega
 exact ⟨by simp [dC, dD], hw.base⟩

theorem fJ (n : aU) (k : Nat) : bt (n.drop k) 0 = bt n k := by
  unfold bt; simp [List.getD_eq_getElem?_getD]
theorem drop_ne {n : aU} {k : Nat} (h : k < n.length) : n.drop k ≠ [] := by
  intro e; have := congrArg List.length e; simp at this; omega
theorem hY {n : aU} {k : Nat} (h : k < n.length) (h1 : 1 ≤ bt n k) (h2 : bt n k ≤ 63) (h3 : k + 1 + bt n k ≤ n.length) : cJ (n.drop k) = true ∧ rst (n.drop k) = n.drop (k + 1 + bt n k) ∧ lab (n.drop k) = (n.take (k + 1 + bt n k)).drop (k + 1) := by
  refine ⟨cutOk_iff.2 ⟨drop_ne h, by rw [fJ]; exact h1, by rw [fJ]; exact h2, by rw [fJ, List.length_drop]; omega⟩, ?_, ?_⟩
  · rw [rst, fJ, List.drop_drop, Nat.add_assoc]
  · rw [lab, fJ, List.take_drop, List.drop_drop, Nat.add_assoc]
theorem e6 {n : aU} {k : Nat} (h : bt n k < 1 ∨ 63 < bt n k ∨ n.length < k + 1 + bt n k) (hk : k < n.length) : cJ (n.drop k) = false :=
  cut_no (by rw [fJ, List.length_drop]; omega)

theorem ff (n : aU) : Pure Tryz.prog 111 #[.string (ba n)] (.int .i64 (bv n)) := by
 intro w0
 refine bb (ok0 := no) (S := []) (args := [.string (ba n)]) 35 Tryz.func111 rfl rfl rfl (by simp) (by simp) ?_
 refine ap ?_
 refine ab ?_
 refine aq (ai rfl) rfl rfl ?_
 refine ae ?_
 refine ak ?_
 refine ap ?_
 refine ap ?_
 refine ab ?_
 refine aq (aj rfl) rfl rfl ?_
 refine aq (dJ Tryz.underlying26 rfl) rfl rfl ?_
 refine aq (dO rfl rfl) rfl rfl ?_
 refine aG (t := 7) rfl (fun h1_2 => ?_) (fun h1_2 => ?_)
 refine ae ?_
 refine ak ?_
 refine aA rfl ?_
 refine ap ?_
 refine ab ?_
 refine aq (ai rfl) rfl rfl ?_
 refine ae ?_
 refine ak ?_
 refine aJ ?_
 refine aC ?_
 refine aN (ts := [2]) rfl rfl rfl (fun w hw => ?_)
 exact ⟨by simp [dC, bv, show 254 < n.length by omega], hw.base⟩
 refine ae ?_
 refine ak ?_
 refine ay rfl ?_
 refine aH ?_
 refine ak ?_
 refine ap ?_
 refine ap ?_
 refine ab ?_
 refine aq (ai rfl) rfl rfl ?_
 refine ae ?_
 refine ak ?_
 refine aR ?_
 refine bY (σ := Nat) [2, 3, 4, 8, 9, 10, 11, 12, 13, 14, 15, 16, 17, 18, 19, 20, 21, 22, 23, 24, 25, 26, 27, 28, 29, 30, 31, 32, 33, 34] (fun k => k ≤ n.length ∧ hU n = hU (n.drop k)) (fun k => n.length - k) (fun k => [(3, .int .i64 k)]) (0) ?_ ⟨rfl, trivial⟩ (fun k hI => ?_)
 exact ⟨Nat.zero_le _, rfl⟩
 have hb := bt_lt n k
 refine ap ?_
 refine ap ?_
 refine ab ?_
 refine aq (aj rfl) rfl rfl ?_
 refine aq (aj rfl) rfl rfl ?_
 refine aq (dJ Tryz.underlying26 rfl) rfl rfl ?_
 refine aq (bP rfl rfl) rfl rfl ?_
 refine aG (t := 11) rfl (fun h4_3 => ?_) (fun h4_3 => ?_)
 refine ae ?_
 refine ak ?_
 refine aA rfl ?_
 refine aH ?_
 refine ak ?_
 refine aR ?_
 refine ap ?_
 refine ab ?_
 refine aq (aj rfl) rfl rfl ?_
 refine aq (aj rfl) rfl rfl ?_
 refine aq (ip  Tryz.underlying26 rfl rfl rfl (by omega)) rfl rfl ?_
 refine aq (dF Tryz.underlying5 Tryz.underlying3 rfl (ig (by omega) (by omega))) rfl rfl ?_
 refine aq (ai rfl) rfl rfl ?_
 refine ae ?_
 refine ak ?_
 refine ap ?_
 refine ap ?_
 refine ab ?_
 refine aq (aj rfl) rfl rfl ?_
 refine aq (bP rfl rfl) rfl rfl ?_
 refine aG (t := 17) rfl (fun h6_1 => ?_) (fun h6_1 => ?_)
 refine aq (aj rfl) rfl rfl ?_
 refine aK rfl rfl rfl rfl ?_
 refine aK rfl rfl rfl rfl ?_
 refine aq (aS rfl rfl) rfl rfl ?_
 refine aq (aj rfl) rfl rfl ?_
 refine aK rfl rfl rfl rfl ?_
 refine aK rfl rfl rfl rfl ?_
 refine aK rfl rfl rfl rfl ?_
 refine aK rfl rfl rfl rfl ?_
 refine aK rfl rfl rfl rfl ?_
 refine aK rfl rfl rfl rfl ?_
 refine aK rfl rfl rfl rfl ?_
 refine aq (aS rfl rfl) rfl rfl ?_
 refine ae ?_
 refine ak ?_
 refine aA rfl ?_
 refine ap ?_
 refine ab ?_
 refine aq (ai rfl) rfl rfl ?_
 refine ae ?_
 refine ak ?_
 refine aJ ?_
 refine aC ?_
 refine aT ?_
 refine bw ?_
 refine aT ?_
 refine aC ?_
 refine aN (ts := [2]) rfl rfl rfl (fun w hw => ?_)
 focus first
   | (have hc := e6 (n := n) (k := k) (by omega) (by omega)
      have ho : hU n = false := by rw [hI.2, fe, hc]; simp; omega
      exact ⟨by simp [dC, bv, show ¬ 254 < n.length by omega, ho], hw.base⟩)
   | (have ho : hU n = true := by rw [hI.2, List.drop_of_length_le (by omega)]; rfl
      exact ⟨by simp [dC, bv, show ¬ 254 < n.length by omega, ho], hw.base⟩)
 refine aq (aj rfl) rfl rfl ?_
 refine aw rfl rfl ?_
 refine aq (aj rfl) rfl rfl ?_
 refine aw rfl rfl ?_
 refine aq (dO rfl rfl) rfl rfl ?_
 refine aG (t := 20) rfl (fun h6_4 => ?_) (fun h6_4 => ?_)
 refine aq (aL rfl rfl) rfl rfl ?_
 refine aq (aj rfl) rfl rfl ?_
 refine aK rfl rfl rfl rfl ?_
 refine aK rfl rfl rfl rfl ?_
 refine aK rfl rfl rfl rfl ?_
 refine aK rfl rfl rfl rfl ?_
 refine aK rfl rfl rfl rfl ?_
 refine aK rfl rfl rfl rfl ?_
 refine aK rfl rfl rfl rfl ?_
 refine aq (aS rfl rfl) rfl rfl ?_
 refine ae ?_
 refine ak ?_
 refine aA rfl ?_
 refine ap ?_
 refine ab ?_
 refine aq (ai rfl) rfl rfl ?_
 refine ae ?_
 refine ak ?_
 refine aJ ?_
 refine aC ?_
 refine aT ?_
 refine bw ?_
 refine aT ?_
 refine aC ?_
 refine aN (ts := [2]) rfl rfl rfl (fun w hw => ?_)
 focus first
   | (have hc := e6 (n := n) (k := k) (by omega) (by omega)
      have ho : hU n = false := by rw [hI.2, fe, hc]; simp; omega
      exact ⟨by simp [dC, bv, show ¬ 254 < n.length by omega, ho], hw.base⟩)
   | (have ho : hU n = true := by rw [hI.2, List.drop_of_length_le (by omega)]; rfl
      exact ⟨by simp [dC, bv, show ¬ 254 < n.length by omega, ho], hw.base⟩)
 refine aq (aL rfl rfl) rfl rfl ?_
 refine aq (aj rfl) rfl rfl ?_
 refine aw rfl rfl ?_
 refine aq (aj rfl) rfl rfl ?_
 refine aw rfl rfl ?_
 refine aq (bd rfl rfl (by omega) (by omega)) rfl rfl ?_
 refine aw rfl rfl ?_
 refine aq (aj rfl) rfl rfl ?_
 refine aw rfl rfl ?_
 refine aq (bd rfl rfl (by omega) (by omega)) rfl rfl ?_
 refine aw rfl rfl ?_
 refine aq (aj rfl) rfl rfl ?_
 refine aw rfl rfl ?_
 refine aq (dJ Tryz.underlying26 rfl) rfl rfl ?_
 refine aw rfl rfl ?_
 refine aq (dO rfl rfl) rfl rfl ?_
 refine aG (t := 29) rfl (fun h6_13 => ?_) (fun h6_13 => ?_)
 refine aq (aL rfl rfl) rfl rfl ?_
 refine ae ?_
 refine ak ?_
 refine aA rfl ?_
 refine ap ?_
 refine ab ?_
 refine aq (ai rfl) rfl rfl ?_
 refine ae ?_
 refine ak ?_
 refine aJ ?_
 refine aC ?_
 refine aT ?_
 refine bw ?_
 refine aT ?_
 refine aC ?_
 refine aN (ts := [2]) rfl rfl rfl (fun w hw => ?_)
 focus first
   | (have hc := e6 (n := n) (k := k) (by omega) (by omega)
      have ho : hU n = false := by rw [hI.2, fe, hc]; simp; omega
      exact ⟨by simp [dC, bv, show ¬ 254 < n.length by omega, ho], hw.base⟩)
   | (have ho : hU n = true := by rw [hI.2, List.drop_of_length_le (by omega)]; rfl
      exact ⟨by simp [dC, bv, show ¬ 254 < n.length by omega, ho], hw.base⟩)
 refine aq (aL rfl rfl) rfl rfl ?_
 refine ae ?_
 refine ak ?_
 refine ay rfl ?_
 refine aH ?_
 refine ak ?_
 refine ab ?_
 refine aq (aj rfl) rfl rfl ?_
 refine aq (bd rfl rfl (by omega) (by omega)) rfl rfl ?_
 refine aq (aj rfl) rfl rfl ?_
 refine aq (bd rfl rfl (by omega) (by omega)) rfl rfl ?_
 refine aq (ai rfl) rfl rfl ?_
 refine ae ?_
 refine bo ?_
 obtain ⟨hc1, hc2, hc3⟩ := hY (n := n) (k := k) (by omega) (by omega) (by omega) (by omega)
 refine bj (k + 1 + bt n k) ?_ ?_ ⟨rfl, trivial⟩ (by repeat (first | exact trivial | refine ⟨rfl, ?_⟩)) av
 exact ⟨by omega, by rw [hI.2, fe (n.drop k), hc1, hc2]; simp; omega⟩
 omega
 refine ae ?_
 refine ak ?_
 refine ay rfl ?_
 refine bE ?_
 refine aZ ?_
 refine aY ?_
 refine a7 ?_
 refine ak ?_
 refine ap ?_
 refine ab ?_
 refine aq (ai rfl) rfl rfl ?_
 refine ae ?_
 refine ak ?_
 refine aJ ?_
 refine aN (ts := [2]) rfl rfl rfl (fun w hw => ?_)
 focus first
   | (have hc := e6 (n := n) (k := k) (by omega) (by omega)
      have ho : hU n = false := by rw [hI.2, fe, hc]; simp; omega
      exact ⟨by simp [dC, bv, show ¬ 254 < n.length by omega, ho], hw.base⟩)
   | (have ho : hU n = true := by rw [hI.2, List.drop_of_length_le (by omega)]; rfl
      exact ⟨by simp [dC, bv, show ¬ 254 < n.length by omega, ho], hw.base⟩)

theorem c_ref02_Labels (n : aU) : RC Tryz.prog 83 #[.string (ba n)] [] (α := Option Addr × Nat) (fun p => .slice p.1 (bR n).length p.2) (fun p => [Ch.ls p.1 p.2 9 1 dV (bR n)]) := by
 refine bp (args := [.string (ba n)]) 33 Tryz.func83 rfl rfl rfl (fun w0 => ?_)
 refine ap ?_
 refine ab ?_
 refine aq (ai rfl) rfl rfl ?_
 refine ae ?_
 refine ak ?_
 refine ap ?_
 refine ap ?_
 refine ab ?_
 refine aq (aj rfl) rfl rfl ?_
 refine aV rfl ent_111 (ff _) rfl ?_
 refine aq (ct rfl rfl) rfl rfl ?_
 refine aG (t := 8) rfl (fun h1_2 => ?_) (fun h1_2 => ?_)
 refine ae ?_
 refine ak ?_
 refine aA rfl ?_
 refine ap ?_
 refine ab ?_
 refine aq (ai rfl) rfl rfl ?_
 refine ae ?_
 refine ak ?_
 refine aJ ?_
 refine aC ?_
 refine aN (ts := [2]) rfl rfl rfl (fun w hw => ?_)
 have hl : bR n = [] := if_neg (by omega)
 rw [hl]
 exact ⟨(none, 0), rfl, hw.base, (hw.nilsl 9 1).toNews⟩
 refine ae ?_
 refine ak ?_
 refine ay rfl ?_
 refine aH ?_
 refine ak ?_
 refine ap ?_
 have hck : bv n = 0 := by omega
 have hnl := nameCk_zero.1 hck
 refine ab ?_
 refine aq (ai rfl) rfl rfl ?_
 refine ae ?_
 refine ak ?_
 refine ap ?_
 refine ap ?_
 refine ab ?_
 refine aq (ai rfl) rfl rfl ?_
 refine ae ?_
 refine ak ?_
 refine aR ?_
 refine dp (fun w h => h.nilsl 9 1) ?_
 refine d5 (σ := Nat × List aU × Option Addr × Nat) [3, 4, 5, 9, 10, 11, 12, 13, 14, 15, 16, 17, 18, 19, 20, 21, 22, 23, 24, 25, 26, 27, 28, 29, 30, 31] (fun q => q.1 ≤ n.length ∧ eh n = q.2.1 ++ eh (n.drop q.1) ∧ hU (n.drop q.1) = true ∧ q.2.1.length ≤ q.1) (fun q => n.length - q.1) (fun q => [(4, .int .i64 q.1), (3, .slice q.2.2.1 q.2.1.length q.2.2.2)]) (fun q => Ch.ls q.2.2.1 q.2.2.2 9 1 dV q.2.1) ((0, [], none, 0)) ?_ ⟨rfl, rfl, trivial⟩ rfl (fun q hI => ?_)
 exact ⟨Nat.zero_le _, rfl, hnl.2, Nat.le_refl _⟩
 obtain ⟨k, pre, A, c⟩ := q
 obtain ⟨hk, hI, hok, hpl⟩ := hI
 dsimp only at hk hI hok hpl ⊢
 have hb := bt_lt n k
 refine ap ?_
 refine ap ?_
 refine ab ?_
 refine aq (aj rfl) rfl rfl ?_
 refine aq (aj rfl) rfl rfl ?_
 refine aq (dJ Tryz.underlying26 rfl) rfl rfl ?_
 refine aq (bP rfl rfl) rfl rfl ?_
 refine aG (t := 12) rfl (fun h5_3 => ?_) (fun h5_3 => ?_)
 have hkl : k < n.length := by omega
 rw [fe] at hok
 have hcu : cJ (n.drop k) = true ∧ hU (rst (n.drop k)) = true := by
   have := drop_ne hkl
   simpa [this] using hok
 have hcc := cutOk_iff.1 hcu.1
 rw [fJ, List.length_drop] at hcc
 obtain ⟨hc1, hc2, hc3⟩ := hY (n := n) (k := k) hkl (by omega) (by omega) (by omega)
 have ho2 := hcu.2
 refine ae ?_
 refine ak ?_
 refine aA rfl ?_
 refine aH ?_
 refine ak ?_
 refine aR ?_
 refine ap ?_
 refine ab ?_
 refine aq (aj rfl) rfl rfl ?_
 refine aq (aj rfl) rfl rfl ?_
 refine aq (ip  Tryz.underlying26 rfl rfl rfl (by omega)) rfl rfl ?_
 refine aq (dF Tryz.underlying5 Tryz.underlying3 rfl (ig (by omega) (by omega))) rfl rfl ?_
 refine aq (ai rfl) rfl rfl ?_
 refine ae ?_
 refine ak ?_
 refine ap ?_
 refine ab ?_
 refine aq (aj rfl) rfl rfl ?_
 refine aq (aj rfl) rfl rfl ?_
 refine aq (aj rfl) rfl rfl ?_
 refine aq (bd rfl rfl (by omega) (by omega)) rfl rfl ?_
 refine aq (aj rfl) rfl rfl ?_
 refine aq (bd rfl rfl (by omega) (by omega)) rfl rfl ?_
 refine aq (aj rfl) rfl rfl ?_
 refine aq (bd rfl rfl (by omega) (by omega)) rfl rfl ?_
 refine aq (y_slices (m := k + 1) (n := k + 1 + bt n k) Tryz.underlying26 rfl rfl rfl (by omega) (by omega) (by omega) (by omega)) rfl rfl ?_
 refine gb (vs := [_]) ([_] : List (aU)) cO Tryz.underlying135 eP rfl rfl rfl rfl rfl rfl (fun As1 => ?_)
 refine fR (enc := dV) (sz := 1) _ Tryz.underlying135 eP rfl rfl rfl (fun A c => (.s (.z))) (src_L 0 Tryz.underlying135 rfl) (by simp only [List.length_cons, List.length_nil, Nat.zero_add]; omega) (by simp only [List.length_cons, List.length_nil, Nat.zero_add]; omega) rfl (fun A1 c1 => ?_)
 refine aq (ai rfl) rfl rfl ?_
 refine ae ?_
 refine ak ?_
 refine ab ?_
 refine aq (aj rfl) rfl rfl ?_
 refine aq (bd rfl rfl (by omega) (by omega)) rfl rfl ?_
 refine aq (aj rfl) rfl rfl ?_
 refine aq (bd rfl rfl (by omega) (by omega)) rfl rfl ?_
 refine aq (ai rfl) rfl rfl ?_
 refine ae ?_
 refine bo ?_
 refine bj ((k + 1 + bt n k, pre ++ [(n.take (k + 1 + bt n k)).drop (k + 1)], A1, c1)) ?_ ?_ ⟨rfl, rfl, trivial⟩ (by repeat (first | exact trivial | refine ⟨rfl, ?_⟩)) (cr 1)
 refine ⟨?_, ?_, ?_, ?_⟩
 · show k + 1 + bt n k ≤ _; omega
 · show eh n = (pre ++ [_]) ++ eh (n.drop (k + 1 + bt n k)); rw [hI, fT (n.drop k), if_pos hc1, hc2, hc3]; simp
 · show hU (n.drop (k + 1 + bt n k)) = true; rw [← hc2]; exact ho2
 · show (pre ++ [_]).length ≤ k + 1 + bt n k; simp; omega
 show n.length - (k + 1 + bt n k) < n.length - k
 omega
 refine ae ?_
 refine ak ?_
 refine ay rfl ?_
 refine bE ?_
 refine aZ ?_
 refine aY ?_
 refine a7 ?_
 refine ak ?_
 refine ap ?_
 refine ab ?_
 refine aq (aj rfl) rfl rfl ?_
 refine aq (ai rfl) rfl rfl ?_
 refine ae ?_
 refine ak ?_
 refine aJ ?_
 refine aN (ts := [2]) rfl rfl rfl (fun w hw => ?_)
 have hl : bR n = pre := by rw [bR, if_pos hck, hI, List.drop_of_length_le (by omega)]; simp [eh, labsF]
 rw [hl]
 exact ⟨(A, c), rfl, hw.base, hw.toNews⟩

theorem make_long {ls : List aU} {k : Nat} (h0 : cA ls = 0) (h : 254 < (c9 (ls.take k)).length) : eV ls = ([], 3) := by
  have := fK ls k
  rw [eV, if_neg (by omega), if_pos (by omega)]
theorem make_done {ls : List aU} (h0 : cA ls = 0) (h : (c9 ls).length ≤ 254) : eV ls = (c9 ls, 0) := by
  rw [eV, if_neg (by omega), if_neg (by omega)]

set_option maxRecDepth 100000 in
theorem c_ref02_Make (ls : List aU) (A : Option Addr) (ca : Nat) (hl : ls.length ≤ 1000000000000) : RC Tryz.prog 143 #[.slice A ls.length ca] [Ch.rd A 1 dV ls] (α := Unit) (fun _ => .tuple #[.string (ba (eV ls).1), .int .i64 (eV ls).2]) (fun _ => []) := by
 refine bp (args := [.slice A ls.length ca]) 47 Tryz.func143 rfl rfl rfl (fun w0 => ?_)
 refine ap ?_
 refine ab ?_
 refine aq (ai rfl) rfl rfl ?_
 refine aq (ai rfl) rfl rfl ?_
 refine ae ?_
 refine ak ?_
 refine ap ?_
 refine ab ?_
 refine aq (ai rfl) rfl rfl ?_
 refine ae ?_
 refine ak ?_
 refine ap ?_
 refine ap ?_
 refine ab ?_
 refine aq (ai rfl) rfl rfl ?_
 refine ae ?_
 refine ak ?_
 refine aR ?_
 refine bY (σ := Nat) [2, 3, 5, 6, 8, 9, 10, 11, 12, 13, 14, 15, 16, 17, 18, 19, 20, 21] (fun k => k ≤ ls.length ∧ cA ls = cA (ls.drop k)) (fun k => ls.length - k) (fun k => [(5, .int .i64 k)]) (0) ?_ ⟨rfl, trivial⟩ (fun k hI => ?_)
 exact ⟨Nat.zero_le _, rfl⟩
 refine ap ?_
 refine ap ?_
 refine ab ?_
 refine aq (aj rfl) rfl rfl ?_
 refine aq (aj rfl) rfl rfl ?_
 refine aq (bK Tryz.underlying135 rfl) rfl rfl ?_
 refine aq (bP rfl rfl) rfl rfl ?_
 refine aG (t := 11) rfl (fun h3_3 => ?_) (fun h3_3 => ?_)
 refine ae ?_
 refine ak ?_
 refine aA rfl ?_
 refine aH ?_
 refine ak ?_
 refine ap ?_
 refine aR ?_
 refine ap ?_
 refine ab ?_
 refine aq (aj rfl) rfl rfl ?_
 refine aq (aj rfl) rfl rfl ?_
 refine aq (bq  Tryz.underlying135 eP rfl rfl (bH 0 rfl) rfl (by omega)) rfl rfl ?_
 refine aq (bu cO ([] : aU) eP rfl (bH 0 rfl) (by omega) rfl rfl) rfl rfl ?_
 refine aV rfl ent_194 (c_ref01_Check _) rfl ?_
 refine aq (ai rfl) rfl rfl ?_
 refine ae ?_
 refine ak ?_
 refine ap ?_
 refine ab ?_
 refine aq (aj rfl) rfl rfl ?_
 refine aq (ct rfl rfl) rfl rfl ?_
 refine aG (t := 20) rfl (fun h6_1 => ?_) (fun h6_1 => ?_)
 refine ae ?_
 refine ak ?_
 refine aA rfl ?_
 refine ap ?_
 refine ab ?_
 refine aq (aj rfl) rfl rfl ?_
 refine aq (ai rfl) rfl rfl ?_
 refine aq (ai rfl) rfl rfl ?_
 refine ae ?_
 refine ak ?_
 refine aJ ?_
 refine aT ?_
 refine aC ?_
 refine bw ?_
 refine aT ?_
 refine aC ?_
 refine aN (ts := [2, 3]) rfl rfl rfl (fun w hw => ?_)
 have hk : k < ls.length := by omega
 have hdk := ec ls [] k hk
 have hf : cA ls = fb (ls.getD k []) := by rw [hI.2, hdk, cA, if_neg (by omega)]
 exact ⟨(), by rw [eV, if_pos (by omega), hf]; rfl, hw.base, hw.toNews⟩
 refine ae ?_
 refine ak ?_
 refine ay rfl ?_
 refine aH ?_
 refine bo ?_
 refine ak ?_
 refine ab ?_
 refine aq (aj rfl) rfl rfl ?_
 refine aq (bd rfl rfl (by omega) (by omega)) rfl rfl ?_
 refine aq (ai rfl) rfl rfl ?_
 refine ae ?_
 have hk : k < ls.length := by omega
 have hdk := ec ls [] k hk
 refine bj (k + 1) ?_ ?_ ⟨rfl, trivial⟩ (by repeat (first | exact trivial | refine ⟨rfl, ?_⟩)) av
 exact ⟨by omega, by rw [hI.2, hdk, cA, if_pos (by omega)]⟩
 omega
 refine ae ?_
 refine ak ?_
 refine ay rfl ?_
 refine bE ?_
 refine aZ ?_
 refine aY ?_
 refine a7 ?_
 refine ak ?_
 refine ap ?_
 refine ap ?_
 have hz : cA ls = 0 := by rw [hI.2, List.drop_of_length_le (by omega)]; rfl
 refine ab ?_
 refine aq (ai rfl) rfl rfl ?_
 refine ae ?_
 refine ak ?_
 refine aR ?_
 refine bY (σ := Nat) [2, 3, 4, 7, 22, 23, 24, 25, 26, 27, 28, 29, 30, 31, 32, 33, 34, 35, 36, 37, 38, 39, 40, 41, 42, 43, 44, 45] (fun k => k ≤ ls.length ∧ (c9 (ls.take k)).length ≤ 254) (fun k => ls.length - k) (fun k => [(7, .int .i64 k), (4, .string (ba (c9 (ls.take k))))]) (0) ?_ ⟨rfl, rfl, trivial⟩ (fun k hI => ?_)
 exact ⟨Nat.zero_le _, by simp [c9]⟩
 refine ap ?_
 refine ap ?_
 refine ab ?_
 refine aq (aj rfl) rfl rfl ?_
 refine aq (aj rfl) rfl rfl ?_
 refine aq (bK Tryz.underlying135 rfl) rfl rfl ?_
 refine aq (bP rfl rfl) rfl rfl ?_
 refine aG (t := 25) rfl (fun h9_3 => ?_) (fun h9_3 => ?_)
 have hk : k < ls.length := by omega
 have hlk : 1 ≤ (ls.getD k []).length ∧ (ls.getD k []).length ≤ 63 := firstCk_zero.1 hz (ls.getD k []) (by rw [List.getD_eq_getElem?_getD, List.getElem?_eq_getElem hk]; exact List.getElem_mem hk)
 have htk := bV ls [] k hk
 have htk2 : c9 (ls.take (k + 1)) = c9 (ls.take k) ++ ([UInt8.ofNat (ls.getD k []).length] ++ ls.getD k []) := by rw [htk, eo, encn_one]; rfl
 refine ae ?_
 refine ak ?_
 refine aA rfl ?_
 refine aH ?_
 refine ak ?_
 refine ap ?_
 refine aR ?_
 refine ap ?_
 refine d3 16 rfl mixed ?_
 refine aD (i := 0) rfl ah (aj rfl) av av rfl (aa (ao (aa (au (ao (aa ar)))))) (by kernel_rfl) rfl ?_
 refine aD (i := 1) rfl ah (aj rfl) av av rfl (aa (ao (aa (au (ao (aa ar)))))) (by kernel_rfl) rfl ?_
 refine aD (i := 2) rfl ah (aj rfl) av av rfl (aa (ao (aa (au (ao (aa ar)))))) (by kernel_rfl) rfl ?_
 refine aD (i := 3) rfl ah (bq  Tryz.underlying135 eP rfl rfl (bH 0 rfl) rfl (by omega)) av av rfl (aa (ao (aa (au (ao (aa ar)))))) (by kernel_rfl) rfl ?_
 refine aD (i := 4) rfl ah (bu cO ([] : aU) eP rfl (bH 0 rfl) (by omega) rfl rfl) av av rfl (aa (ao (aa (au (ao (aa ar)))))) (by kernel_rfl) rfl ?_
 refine aD (i := 5) rfl ah (dJ Tryz.underlying9 rfl) av av rfl (aa (ao (aa (au (ao (aa ar)))))) (by kernel_rfl) rfl ?_
 refine aD (i := 6) rfl ah (gj Tryz.underlying3 Tryz.underlying5 rfl) av av rfl (aa (ao (aa (au (ao (aa ar)))))) (by kernel_rfl) rfl ?_
 refine wa_as (t := 34) (.int .u8 ((UInt8.ofNat (ls.getD k []).length).toNat : Int)) rfl (congrArg _ (by rw [fL (by omega) (by omega), u8len hlk.2])) ?_
 refine aD (i := 10) rfl ah (aj rfl) av av rfl (aa (ao (aa (au (ao (aa ar)))))) (by kernel_rfl) rfl ?_
 refine aD (i := 11) rfl ah (aj rfl) av av rfl (aa (ao (aa (au (ao (aa ar)))))) (by kernel_rfl) rfl ?_
 refine aD (i := 12) rfl ah (bq  Tryz.underlying135 eP rfl rfl (bH 0 rfl) rfl (by omega)) av av rfl (aa (ao (aa (au (ao (aa ar)))))) (by kernel_rfl) rfl ?_
 refine aD (i := 13) rfl ah (bu cO ([] : aU) eP rfl (bH 0 rfl) (by omega) rfl rfl) av av rfl (aa (ao (aa (au (ao (aa ar)))))) (by kernel_rfl) rfl ?_
 refine cS (i := 7) rfl rfl rfl (fun _ _ _ => bx (by kernel_rfl)) (by kernel_rfl) rfl ?_
 refine gb (vs := [_]) ([_] : List (UInt8)) enc_b Tryz.underlying75 gH rfl rfl rfl rfl rfl rfl (fun As1 => ?_)
 refine ae ?_
 refine c7 (cr 1) ?_
 refine cS (i := 8) rfl rfl rfl (fun _ _ _ => bx (by kernel_rfl)) (by kernel_rfl) rfl ?_
 refine aq (y_b2s Tryz.underlying75 Tryz.underlying9 Tryz.underlying5 rfl (cZ 0 rfl)) rfl rfl ?_
 refine ae ?_
 refine c7 (cr 1) ?_
 refine aD (i := 9) rfl ah (y_adds rfl rfl (by first | omega | (simp only [List.length_nil, List.length_cons, List.length_take, List.length_drop, List.length_append]; omega))) (cr 1) av rfl (aa (ao (aa (au (ao (aa ar)))))) (by kernel_rfl) rfl ?_
 refine aD (i := 14) rfl ah (y_adds rfl rfl (by first | omega | (simp only [List.length_nil, List.length_cons, List.length_take, List.length_drop, List.length_append]; omega))) (cr 1) av rfl (aa (ao (aa (au (ao (aa ar)))))) (by kernel_rfl) rfl ?_
 refine aD (i := 15) rfl ah (ai rfl) (cr 1) av rfl (aa (ao (aa (au (ao (aa ar)))))) (by kernel_rfl) rfl ?_
 refine cw (by kernel_rfl) ?_
 refine ak ?_
 refine ap ?_
 refine ab ?_
 refine aq (aj rfl) rfl rfl ?_
 refine aq (dJ Tryz.underlying9 rfl) rfl rfl ?_
 refine aq (dO rfl rfl) rfl rfl ?_
 refine aG (t := 45) rfl (fun h12_2 => ?_) (fun h12_2 => ?_)
 refine ae ?_
 refine ak ?_
 refine aA rfl ?_
 refine ap ?_
 refine ab ?_
 refine aq (ai rfl) rfl rfl ?_
 refine aq (ai rfl) rfl rfl ?_
 refine ae ?_
 refine ak ?_
 refine aJ ?_
 refine aT ?_
 refine aC ?_
 refine bw ?_
 refine aT ?_
 refine aC ?_
 refine aN (ts := [2, 3]) rfl rfl rfl (fun w hw => ?_)
 focus first
   | (have hlong : 254 < (c9 (ls.take (k + 1))).length := by rw [htk2, ← List.append_assoc]; omega
      exact ⟨(), by rw [make_long hz hlong]; rfl, hw.base, (hw.weak (List.nil_sublist _) (fun s hs => hs)).toNews⟩)
   | (have hk : k = ls.length := by omega
      rw [hk, List.take_length] at hI ⊢
      exact ⟨(), by rw [make_done hz hI.2]; rfl, hw.base, (hw.weak (List.nil_sublist _) (fun s hs => hs)).toNews⟩)
   | (trace_state; fail)
 refine ae ?_
 refine ak ?_
 refine ay rfl ?_
 refine aH ?_
 refine bo ?_
 refine ak ?_
 refine ab ?_
 refine aq (aj rfl) rfl rfl ?_
 refine aq (bd rfl rfl (by omega) (by omega)) rfl rfl ?_
 refine aq (ai rfl) rfl rfl ?_
 refine ae ?_
 refine bj (k + 1) ?_ ?_ ⟨rfl, lk rfl (by rw [htk2, List.append_assoc]), trivial⟩ (by repeat (first | exact trivial | refine ⟨rfl, ?_⟩)) (cr 1)
 exact ⟨by omega, by rw [htk2, ← List.append_assoc]; omega⟩
 omega
 refine ae ?_
 refine ak ?_
 refine ay rfl ?_
 refine bE ?_
 refine aZ ?_
 refine aY ?_
 refine a7 ?_
 refine ak ?_
 refine ap ?_
 refine ab ?_
 refine aq (aj rfl) rfl rfl ?_
 refine aq (ai rfl) rfl rfl ?_
 refine aq (ai rfl) rfl rfl ?_
 refine ae ?_
 refine ak ?_
 refine aJ ?_
 refine aN (ts := [2, 3]) rfl rfl rfl (fun w hw => ?_)
 focus first
   | (have hlong : 254 < (c9 (ls.take (k + 1))).length := by rw [htk2, ← List.append_assoc]; omega
      exact ⟨(), by rw [make_long hz hlong]; rfl, hw.base, (hw.weak (List.nil_sublist _) (fun s hs => hs)).toNews⟩)
   | (have hk : k = ls.length := by omega
      rw [hk, List.take_length] at hI ⊢
      exact ⟨(), by rw [make_done hz hI.2]; rfl, hw.base, (hw.weak (List.nil_sublist _) (fun s hs => hs)).toNews⟩)
   | (trace_state; fail)

theorem c_ref02_Fold (n : aU) (hn : n.length ≤ 1000000000) : RC Tryz.prog 112 #[.string (ba n)] [] (α := Unit) (fun _ => .string (ba (aX n))) (fun _ => []) := by
 refine bp (args := [.string (ba n)]) 29 Tryz.func112 rfl rfl rfl (fun w0 => ?_)
 refine ap ?_
 refine ab ?_
 refine aq (ai rfl) rfl rfl ?_
 refine ae ?_
 refine ak ?_
 refine ap ?_
 refine ab ?_
 refine aq (aj rfl) rfl rfl ?_
 refine cv rfl ent_83 rfl (c_ref02_Labels _) (fun w hw => a8) (fun ⟨A0, c0⟩ => ?_)
 have hlb := labsN_le n hn
 refine aq (ai rfl) rfl rfl ?_
 refine ae ?_
 refine ak ?_
 refine ap ?_
 refine ap ?_
 refine ab ?_
 refine aq (ai rfl) rfl rfl ?_
 refine ae ?_
 refine ak ?_
 refine aR ?_
 refine d5 (σ := Nat) [3, 4, 9, 10, 11, 12, 13, 14, 15, 16, 17, 18, 19, 20, 21, 22] (fun k => k ≤ (bR n).length) (fun k => (bR n).length - k) (fun k => [(4, .int .i64 k), (3, .slice A0 (((bR n).take k).map dD ++ (bR n).drop k).length c0)]) (fun k => Ch.ls A0 c0 9 1 dV (((bR n).take k).map dD ++ (bR n).drop k)) (0) ?_ ⟨rfl, rfl, trivial⟩ rfl (fun k hI => ?_)
 exact Nat.zero_le _
 have hml := cD dD (bR n) k
 refine ap ?_
 refine ap ?_
 refine ab ?_
 refine aq (aj rfl) rfl rfl ?_
 refine aq (aj rfl) rfl rfl ?_
 refine aq (bK Tryz.underlying135 rfl) rfl rfl ?_
 refine aq (bP rfl rfl) rfl rfl ?_
 refine aG (t := 12) rfl (fun h3_3 => ?_) (fun h3_3 => ?_)
 refine ae ?_
 refine ak ?_
 refine aA rfl ?_
 refine aH ?_
 refine ak ?_
 refine ap ?_
 refine aR ?_
 refine ab ?_
 refine aq (aj rfl) rfl rfl ?_
 refine aq (aj rfl) rfl rfl ?_
 refine aq (aj rfl) rfl rfl ?_
 refine aq (aj rfl) rfl rfl ?_
 refine aq (bq  Tryz.underlying135 eP rfl rfl (cZ 0 rfl) rfl (by rw [cD]; omega)) rfl rfl ?_
 refine aq (bu cO ([] : aU) eP rfl (cZ 0 rfl) (by rw [cD]; omega) rfl rfl) rfl rfl ?_
 refine aV rfl ent_180 (c_ref01_Fold _ (fold_b (by omega) hlb.2.1)) rfl ?_
 refine aq (bq  Tryz.underlying135 eP rfl rfl (cZ 0 rfl) rfl (by rw [cD]; omega)) rfl rfl ?_
 refine o_stm0 cO ([] : aU) _ eP rfl rfl rfl .z rfl (by rw [cD]; omega) rfl rfl rfl ?_
 refine ae ?_
 refine bo ?_
 refine ak ?_
 refine ab ?_
 refine aq (aj rfl) rfl rfl ?_
 refine aq (bd rfl rfl (by omega) (by omega)) rfl rfl ?_
 refine aq (ai rfl) rfl rfl ?_
 refine ae ?_
 have hk : k < (bR n).length := by omega
 refine bj (k + 1) ?_ ?_ ⟨rfl, lk rfl (by rw [cD, cD]), trivial⟩ (by repeat (first | exact trivial | refine ⟨rfl, ?_⟩)) (fun w h => by rw [mapS_at dD (bR n) k hk, mapS_step dD (bR n) k hk] at h; exact h)
 omega
 omega
 refine ae ?_
 refine ak ?_
 refine ay rfl ?_
 refine bE ?_
 refine aZ ?_
 refine aY ?_
 refine a7 ?_
 refine ak ?_
 refine ap ?_
 refine ab ?_
 obtain rfl : k = (bR n).length := by omega
 refine aq (aj rfl) rfl rfl ?_
 refine bh rfl ent_143 rfl (c_ref02_Make _ _ _ (by simp; omega)) (fun w hw => (aP (d9 0 rfl hw) a8)) ?_
 refine aq (aj rfl) rfl rfl ?_
 refine aq (aI rfl rfl) rfl rfl ?_
 refine aq (aI rfl rfl) rfl rfl ?_
 refine aq (ai rfl) rfl rfl ?_
 refine aq (ai rfl) rfl rfl ?_
 refine ae ?_
 refine ak ?_
 refine ap ?_
 refine ab ?_
 refine aq (aj rfl) rfl rfl ?_
 refine aq (ai rfl) rfl rfl ?_
 refine ae ?_
 refine ak ?_
 refine aJ ?_
 refine aN (ts := [2]) rfl rfl rfl (fun w hw => ?_)
 exact ⟨(), by rw [← make_fold]; simp [dC], hw.base, (hw.weak (List.nil_sublist _) (fun s hs => hs)).toNews⟩

theorem ic (n : aU) (hn : n.length ≤ 1000000000) : Pure Tryz.prog 112 #[.string (ba n)] (.string (ba (aX n))) := rc_pure (c_ref02_Fold n hn)

theorem take_eq_succ {α : Type} {a b : List α} (d : α) {k : Nat} (ha : k < a.length) (hb : k < b.length) (h : a.take k = b.take k) (he : a.getD k d = b.getD k d) : a.take (k + 1) = b.take (k + 1) := by
  rw [bV a d k ha, bV b d k hb, h, he]
theorem ne_of_getD {α : Type} {a b : List α} (d : α) {k : Nat} (he : a.getD k d ≠ b.getD k d) : a ≠ b := fun e => he (by rw [e])

end Go.Proofs.YtnpdgmoeoidppaaGreat

/- Octets compared, slices that are made: plain laws. -/
namespace Go.Proofs.YtnpdgmoeoidppaaGreat
open Go.RowKit Go.Shelf
set_option linter.unusedVariables false
set_option linter.unusedSimpArgs false

/-- Octets compared, one behind the other. -/
def cmpS : aU → aU → Int
  | [], [] => 0
  | [], _ :: _ => -1
  | _ :: _, [] => 1
  | a :: r, b :: t => if a < b then -1 else if b < a then 1 else cmpS r t
/-! Slices that are made. -/
section
variable {x : Cx} {l : Fr} {L S : List Ch} {Q : Exit → Act → World → Prop} {ops : Array Oper} {rest : List Oper} {d : Nat} {ty : TypeId} {pos : String} {af : Array Edge} {gd : Option (Nat × Bool)}
end
end Go.Proofs.YtnpdgmoeoidppaaGreat

/- names that are the same; the laws of sums -/
namespace Go.Proofs.YtnpdgmoeoidppaaGreat
open Go.RowKit Go.Shelf
set_option linter.unusedVariables false
set_option linter.unusedSimpArgs false

theorem bc {α : Type} {l : List α} {d : α} {k : Nat} (h : k < l.length) : l.getD k d ∈ l := by
  rw [List.getD_eq_getElem?_getD, List.getElem?_eq_getElem h]; exact List.getElem_mem h
theorem okN_low {n : aU} (h : hU n = true) : hU (dD n) = true := by
  have e := io (eh n) (eB n)
  rw [fB n h] at e
  rw [← e]
  refine (gp _ ?_).1
  intro s hs
  obtain ⟨t, ht, rfl⟩ := List.mem_map.1 hs
  rw [cY]; exact eB n t ht
theorem nameCk_low {n : aU} (h : bv n = 0) : bv (dD n) = 0 := by
  obtain ⟨h1, h2⟩ := nameCk_zero.1 h
  exact nameCk_zero.2 ⟨by rw [cY]; exact h1, okN_low h2⟩
end Go.Proofs.YtnpdgmoeoidppaaGreat

/- Structs and arrays compared. -/
namespace Go.Proofs.YtnpdgmoeoidppaaGreat
open Go.RowKit Go.Shelf
set_option linter.unusedVariables false
set_option linter.unusedSimpArgs false

/-- An equality that the model settles so from some depth on. -/
def EqD (P : Program) (n : Nat) (t : TypeId) (v u : Value) (b : Bool) : Prop := ∀ d w, (Op.equalIn (d + n) t v u).run P w = .ok b w
def EqF (P : Program) (n : Nat) (xs ys : Array Value) (fs : List Field) (b : Bool) : Prop := ∀ d w, (Op.eqFields (d + n) xs ys fs).run P w = .ok b w
section
variable {P : Program} {n m : Nat} {t : TypeId} {xs ys : Array Value} {f : Field} {fs : List Field} {v u : Value} {r s : Bool}
theorem EqD.up (h : EqD P m t v u r) (hm : m ≤ n) : EqD P n t v u r := fun d w => by
  obtain ⟨k, rfl⟩ : ∃ k, n = k + m := ⟨n - m, by omega⟩
  rw [← Nat.add_assoc]; exact h _ w
theorem eqd_int {k k' : IntKind} {a b : Int} (h : P.underlying t = some (.int k')) : EqD P 1 t (.int k a) (.int k b) (a == b) := fun d w => run_equalIn_int w d t k k' a b h
theorem eqd_bool {a b : Bool} (h : P.underlying t = some .bool) : EqD P 1 t (.bool a) (.bool b) (a == b) := fun d w => run_equalIn_bool' w d t a b h
theorem eqd_str {a b : aU} (h : P.underlying t = some .string) : EqD P 1 t (.string (ba a)) (.string (ba b)) (a == b) := fun d w => by
  rw [run_equalIn_string w d t _ _ h, dP, dP]
theorem eqf_nil : EqF P n xs ys [] true := fun d w => by simp [Op.eqFields]
theorem gt (hn : (f.name == "_") = false) (ha : ∀ w, (part f.type xs f.offset).run P w = .ok v w) (hb : ∀ w, (part f.type ys f.offset).run P w = .ok u w) (he : EqD P m f.type v u r) (hm : Nat.ble m n = true) (hr : EqF P n xs ys fs s) : EqF P n xs ys (f :: fs) (r && s) := fun d w => by
  have hn' : f.name ≠ "_" := by simpa using hn
  rw [Op.eqFields]
  simp only [if_pos hn', Sem.run_bind, ha, hb, (he.up (Nat.le_of_ble_eq_true hm)) d w, Result.andThen_ok]
  cases r
  · simp
  · simpa using hr d w
theorem eqd_struct {fa : Array Field} (hu : P.underlying t = some (.struct fa)) (hp : P.stoodInHeld t = false) (h : EqF P n xs ys fa.toList r) : EqD P (n + 1) t (.agg xs) (.agg ys) r := fun d w => by
  have hf : P.fieldsOf t = fa := by simp [Program.fieldsOf, hu]
  rw [← Nat.add_assoc, run_equalIn_struct (P := P) w (d + n) t xs ys (by rw [hf]; exact hu) hp, hf]
  exact h d w
end
section
variable {x : Cx} {l : Fr} {L S : List Ch} {d : Nat} {ty : TypeId} {pos : String} {af : Array Edge} {gd : Option (Nat × Bool)}
theorem y_eqst {y z : Operand} {xs ys : Array Value} {b : Bool} {yt zt : TypeId} {n : Nat} (hm : x.P.eqGuardType x.P.depth yt = false) (hy : ev l y = some (.agg xs)) (hz : ev l z = some (.agg ys)) (h : EqD x.P n yt (.agg xs) (.agg ys) b) (hn : Nat.ble n 10000 = true) :
    Yv x l L S ⟨some d, .binOp .eql yt y z zt, ty, pos, af, gd⟩ (.bool b) := fun a w ha hw => by
  have he : (Op.equalIn 10000 yt (.agg xs) (.agg ys)).run x.P w = .ok b w := by
    obtain ⟨k, hk⟩ : ∃ k, 10000 = k + n := ⟨10000 - n, by have := Nat.le_of_ble_eq_true hn; omega⟩
    rw [hk]; exact h k w
  simp only [execOp, ha.ev hy, ha.ev hz]
  simp [run_eqGuard_agg w .eql yt y z xs ys hm, run_eql_struct, he]
theorem y_nest {y z : Operand} {xs ys : Array Value} {b : Bool} {yt zt : TypeId} {n : Nat} (hm : x.P.eqGuardType x.P.depth yt = false) (hy : ev l y = some (.agg xs)) (hz : ev l z = some (.agg ys)) (h : EqD x.P n yt (.agg xs) (.agg ys) b) (hn : Nat.ble n 10000 = true) :
    Yv x l L S ⟨some d, .binOp .neq yt y z zt, ty, pos, af, gd⟩ (.bool (!b)) := fun a w ha hw => by
  have he : (Op.equalIn 10000 yt (.agg xs) (.agg ys)).run x.P w = .ok b w := by
    obtain ⟨k, hk⟩ : ∃ k, 10000 = k + n := ⟨10000 - n, by have := Nat.le_of_ble_eq_true hn; omega⟩
    rw [hk]; exact h k w
  simp only [execOp, ha.ev hy, ha.ev hz]
  simp [run_eqGuard_agg w .neq yt y z xs ys hm, run_neq_struct, he]
theorem gw {y z : Operand} {xs ys : Array Value} {p : Prop} [Decidable p] {yt zt : TypeId} {n : Nat} (hm : x.P.eqGuardType x.P.depth yt = false) (hy : ev l y = some (.agg xs)) (hz : ev l z = some (.agg ys)) (h : EqD x.P n yt (.agg xs) (.agg ys) (decide p)) (hn : Nat.ble n 10000 = true) :
    Yv x l L S ⟨some d, .binOp .neq yt y z zt, ty, pos, af, gd⟩ (.bool (decide (¬ p))) := (y_nest hm hy hz h hn).eq (by rw [decide_not])
end
end Go.Proofs.YtnpdgmoeoidppaaGreat
