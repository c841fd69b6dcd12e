import Derived.Test.YtnpdgmoeoidppaaCcQb
import Derived.Test.YtnpdgmoeoidppaaPaQb
import Derived.Lib.Bytealg
import GoSem.Extern.BytealgCompare
import Derived.Laws.StructEq
import Derived.ChangeKeysEq
/- the references of labels, names, sums; the kit -/
namespace Go.Proofs.Ytnpdgmoeoidppaa
open Go.RowKit Go.Shelf
set_option linter.unusedVariables false
set_option linter.unusedSimpArgs false

theorem ent_57 : Enters Try.prog 57 := enters_of Try.func57 (by kernel_rfl) rfl
theorem ent_59 : Enters Try.prog 59 := enters_of Try.func59 (by kernel_rfl) rfl
theorem ent_96 : Enters Try.prog 96 := enters_of Try.func96 (by kernel_rfl) rfl
theorem ent_97 : Enters Try.prog 97 := enters_of Try.func97 (by kernel_rfl) rfl
theorem ent_98 : Enters Try.prog 98 := enters_of Try.func98 (by kernel_rfl) rfl

theorem c_ref01_Check (l : bg) : em Try.prog 98 #[.string (ba l)] (.int .i64 (fg l)) := by
 intro w0
 refine ce (ok0 := no) (S := []) (args := [.string (ba l)]) 10 Try.func98 rfl rfl rfl (by simp) (by simp) ?_
 refine ar ?_
 refine ah ?_
 refine ap (ai rfl) rfl rfl ?_
 refine ae ?_
 refine ao ?_
 refine ar ?_
 refine bn ?_
 refine ar ?_
 refine ah ?_
 refine ap (am rfl) rfl rfl ?_
 refine ap (eT rfl rfl) rfl rfl ?_
 refine aC (t := 5) rfl (fun h1_1 => ?_) (fun h1_1 => ?_)
 refine ap (ai rfl) rfl rfl ?_
 refine ae ?_
 refine ao ?_
 refine aI rfl ?_
 refine ar ?_
 refine ah ?_
 refine ap (ai rfl) rfl rfl ?_
 refine ae ?_
 refine ao ?_
 refine aV ?_
 refine aT ?_
 refine aB ?_
 refine aY (ts := [2]) rfl rfl rfl (fun w hw => ?_)
 subst h1_1
 exact ⟨rfl, hw.base⟩
 refine ap (ai rfl) rfl rfl ?_
 refine ae ?_
 refine ao ?_
 refine aN rfl ?_
 refine ar ?_
 refine ah ?_
 refine ap (am rfl) rfl rfl ?_
 refine ap (dS Try.underlying9 rfl) rfl rfl ?_
 refine ap (eo rfl rfl) rfl rfl ?_
 refine aC (t := 9) rfl (fun h3_2 => ?_) (fun h3_2 => ?_)
 refine ap (ai rfl) rfl rfl ?_
 refine ae ?_
 refine ao ?_
 refine aI rfl ?_
 refine ar ?_
 refine ah ?_
 refine ap (ai rfl) rfl rfl ?_
 refine ae ?_
 refine ao ?_
 refine aV ?_
 refine aT ?_
 refine aB ?_
 refine aY (ts := [2]) rfl rfl rfl (fun w hw => ?_)
 have := len_pos h1_1
 exact ⟨by unfold fg; rw [if_neg (by omega)]; first | rw [if_pos (by omega)]; rfl | rw [if_neg (by omega)]; rfl, hw.base⟩
 refine ap (ai rfl) rfl rfl ?_
 refine ae ?_
 refine ao ?_
 refine aN rfl ?_
 refine bd ?_
 refine bV ?_
 refine ao ?_
 refine ar ?_
 refine ah ?_
 refine ap (ai rfl) rfl rfl ?_
 refine ae ?_
 refine ao ?_
 refine aV ?_
 refine aY (ts := [2]) rfl rfl rfl (fun w hw => ?_)
 have := len_pos h1_1
 exact ⟨by unfold fg; rw [if_neg (by omega)]; first | rw [if_pos (by omega)]; rfl | rw [if_neg (by omega)]; rfl, hw.base⟩

theorem lowB_up {c : UInt8} (h1 : 65 ≤ c.toNat) (h2 : c.toNat ≤ 90) : (c.toNat : Int) + 32 = ((eB c).toNat : Int) := by
  unfold eB; rw [if_pos ⟨h1, h2⟩]; simp; omega
theorem lowB_no {c : UInt8} (h : ¬ (65 ≤ c.toNat ∧ c.toNat ≤ 90)) : eB c = c := by unfold eB; rw [if_neg h]
theorem set_same {α : Type} (l : List α) (d : α) (k : Nat) (h : k < l.length) : l.set k (l.getD k d) = l := by
  rw [List.getD_eq_getElem?_getD, List.getElem?_eq_getElem h, Option.getD_some, List.set_getElem_self]

theorem c_ref01_Fold (l : bg) (hl : l.length ≤ 1000000000000) : em Try.prog 97 #[.string (ba l)] (.string (ba (cN l))) := by
 intro w0
 refine ce (ok0 := no) (S := []) (args := [.string (ba l)]) 35 Try.func97 rfl rfl rfl (by simp) (by simp) ?_
 refine ar ?_
 refine ah ?_
 refine ap (ai rfl) rfl rfl ?_
 refine ae ?_
 refine ao ?_
 refine ar ?_
 refine ah ?_
 refine ap (am rfl) rfl rfl ?_
 refine o_s2b Try.underlying9 Try.underlying54 Try.underlying5 (by omega) rfl rfl (fun As1 cs1 => ?_)
 refine ap (ai rfl) rfl rfl ?_
 refine ae ?_
 refine ao ?_
 refine ar ?_
 refine ar ?_
 refine ah ?_
 refine ap (ai rfl) rfl rfl ?_
 refine ae ?_
 refine ao ?_
 refine bn ?_
 refine eF (σ := Nat) [3, 4, 7, 8, 9, 10, 11, 12, 13, 14, 15, 16, 17, 18, 19, 20, 21, 22, 23, 24, 25, 26, 27, 28, 29, 30, 31, 32] (fun k => k ≤ l.length) (fun k => l.length - k) (fun k => [(4, .int .i64 k), (3, .slice As1 ((l.take k).map eB ++ l.drop k).length cs1)]) (fun k => Ch.ls As1 cs1 5 1 encb ((l.take k).map eB ++ l.drop k)) (0) ?_ ⟨rfl, rfl, trivial⟩ rfl (fun k hI => ?_)
 exact Nat.zero_le _
 have hml := cO eB l k
 refine ar ?_
 refine ar ?_
 refine ah ?_
 refine ap (am rfl) rfl rfl ?_
 refine ap (am rfl) rfl rfl ?_
 refine ap (bI Try.underlying54 rfl) rfl rfl ?_
 refine ap (cV rfl rfl) rfl rfl ?_
 refine aC (t := 10) rfl (fun h3_3 => ?_) (fun h3_3 => ?_)
 refine ae ?_
 refine ao ?_
 refine aI rfl ?_
 refine bd ?_
 refine ao ?_
 refine ar ?_
 refine bn ?_
 refine ar ?_
 refine ah ?_
 have hk : k < l.length := by omega
 have hat := map_at eB l k hk
 have hat2 : ((List.map eB (List.take k l) ++ List.drop k l).getD k 0).toNat = (l.getD k 0).toNat := by rw [hat]
 refine ap (am rfl) rfl rfl ?_
 refine ap (am rfl) rfl rfl ?_
 refine ap (cj  Try.underlying54 ia rfl rfl (dU 0 rfl) rfl (by rw [cO]; omega)) rfl rfl ?_
 refine ap (cR enc_b (0 : UInt8) ia rfl (dU 0 rfl) (by rw [cO]; omega) rfl rfl) rfl rfl ?_
 refine ap (gR rfl rfl) rfl rfl ?_
 refine aC (t := 17) rfl (fun h5_4 => ?_) (fun h5_4 => ?_)
 refine ap (am rfl) rfl rfl ?_
 refine aw rfl rfl ?_
 refine ap (am rfl) rfl rfl ?_
 refine aw rfl rfl ?_
 refine ap (am rfl) rfl rfl ?_
 refine aw rfl rfl ?_
 refine ap (cj  Try.underlying54 ia rfl rfl (dU 0 rfl) rfl (by rw [cO]; omega)) rfl rfl ?_
 refine aw rfl rfl ?_
 refine ap (cR enc_b (0 : UInt8) ia rfl (dU 0 rfl) (by rw [cO]; omega) rfl rfl) rfl rfl ?_
 refine aw rfl rfl ?_
 refine ap (eP rfl rfl) rfl rfl ?_
 refine aC (t := 23) rfl (fun h5_10 => ?_) (fun h5_10 => ?_)
 refine ap (aM rfl rfl) rfl rfl ?_
 refine ae ?_
 refine ao ?_
 refine aI rfl ?_
 refine ah ?_
 refine ap (am rfl) rfl rfl ?_
 refine ap (am rfl) rfl rfl ?_
 refine ap (am rfl) rfl rfl ?_
 refine ap (am rfl) rfl rfl ?_
 refine ap (cj  Try.underlying54 ia rfl rfl (dU 0 rfl) rfl (by rw [cO]; omega)) rfl rfl ?_
 refine ap (cR enc_b (0 : UInt8) ia rfl (dU 0 rfl) (by rw [cO]; omega) rfl rfl) rfl rfl ?_
 refine ap (y_add rfl rfl) rfl rfl ?_
 refine dx (t := 31) (.int .u8 ((eB (l.getD k 0)).toNat : Int)) rfl (congrArg (Value.int .u8) (by rw [gu (by omega) (by omega), hat2]; exact lowB_up (by omega) (by omega))) ?_
 refine ap (cj  Try.underlying54 ia rfl rfl (dU 0 rfl) rfl (by rw [cO]; omega)) rfl rfl ?_
 refine eH enc_b (0 : UInt8) _ ia rfl rfl rfl .z rfl (by rw [cO]; omega) rfl rfl rfl ?_
 refine ae ?_
 refine bV ?_
 refine ao ?_
 refine ah ?_
 refine ap (am rfl) rfl rfl ?_
 refine ap (bY rfl rfl (by omega) (by omega)) rfl rfl ?_
 refine ap (ai rfl) rfl rfl ?_
 refine ae ?_
 have hcc := UInt8.toNat_lt (l.getD k 0)
 refine cr (k + 1) ?_ ?_ ⟨rfl, lk rfl (by rw [cO, cO]), trivial⟩ (by repeat (first | exact trivial | refine ⟨rfl, ?_⟩)) (fun w h => by first | (rw [fC eB l k hk] at h; exact h) | (rw [← fC eB l k hk, lowB_no (by omega), ← map_at eB l k hk, set_same _ _ _ (by rw [cO]; exact hk)]; exact h))
 omega
 omega
 refine ap (aM rfl rfl) rfl rfl ?_
 refine ae ?_
 refine ao ?_
 refine aN rfl ?_
 refine bd ?_
 refine bV ?_
 refine ao ?_
 refine ah ?_
 refine ap (am rfl) rfl rfl ?_
 refine ap (bY rfl rfl (by omega) (by omega)) rfl rfl ?_
 refine ap (ai rfl) rfl rfl ?_
 refine ae ?_
 have hcc := UInt8.toNat_lt (l.getD k 0)
 refine cr (k + 1) ?_ ?_ ⟨rfl, lk rfl (by rw [cO, cO]), trivial⟩ (by repeat (first | exact trivial | refine ⟨rfl, ?_⟩)) (fun w h => by first | (rw [fC eB l k hk] at h; exact h) | (rw [← fC eB l k hk, lowB_no (by omega), ← map_at eB l k hk, set_same _ _ _ (by rw [cO]; exact hk)]; exact h))
 omega
 omega
 refine ap (am rfl) rfl rfl ?_
 refine aq rfl rfl rfl rfl ?_
 refine aq rfl rfl rfl rfl ?_
 refine aq rfl rfl rfl rfl ?_
 refine aq rfl rfl rfl rfl ?_
 refine aq rfl rfl rfl rfl ?_
 refine ap (aQ rfl rfl) rfl rfl ?_
 refine ae ?_
 refine ao ?_
 refine aN rfl ?_
 refine bd ?_
 refine bV ?_
 refine ao ?_
 refine ah ?_
 refine ap (am rfl) rfl rfl ?_
 refine ap (bY rfl rfl (by omega) (by omega)) rfl rfl ?_
 refine ap (ai rfl) rfl rfl ?_
 refine ae ?_
 have hcc := UInt8.toNat_lt (l.getD k 0)
 refine cr (k + 1) ?_ ?_ ⟨rfl, lk rfl (by rw [cO, cO]), trivial⟩ (by repeat (first | exact trivial | refine ⟨rfl, ?_⟩)) (fun w h => by first | (rw [fC eB l k hk] at h; exact h) | (rw [← fC eB l k hk, lowB_no (by omega), ← map_at eB l k hk, set_same _ _ _ (by rw [cO]; exact hk)]; exact h))
 omega
 omega
 refine ae ?_
 refine ao ?_
 refine aN rfl ?_
 refine cz ?_
 refine br ?_
 refine bC ?_
 refine bK ?_
 refine ao ?_
 refine ar ?_
 refine ah ?_
 refine ap (am rfl) rfl rfl ?_
 refine ap (y_b2s Try.underlying54 Try.underlying9 Try.underlying5 rfl (dU 0 rfl)) rfl rfl ?_
 refine ap (ai rfl) rfl rfl ?_
 refine ae ?_
 refine ao ?_
 refine aV ?_
 refine aY (ts := [2]) rfl rfl rfl (fun w hw => ?_)
 obtain rfl : k = l.length := by omega
 exact ⟨by simp [eC, cN], hw.base⟩

theorem gt (n : bg) (k : Nat) : bt (n.drop k) 0 = bt n k := by
  unfold bt; simp [List.getD_eq_getElem?_getD]
theorem drop_ne {n : bg} {k : Nat} (h : k < n.length) : n.drop k ≠ [] := by
  intro e; have := congrArg List.length e; simp at this; omega
theorem i8 {n : bg} {k : Nat} (h : k < n.length) (h1 : 1 ≤ bt n k) (h2 : bt n k ≤ 63) (h3 : k + 1 + bt n k ≤ n.length) : dG (n.drop k) = true ∧ rst (n.drop k) = n.drop (k + 1 + bt n k) ∧ lab (n.drop k) = (n.take (k + 1 + bt n k)).drop (k + 1) := by
  refine ⟨cutOk_iff.2 ⟨drop_ne h, by rw [gt]; exact h1, by rw [gt]; exact h2, by rw [gt, List.length_drop]; omega⟩, ?_, ?_⟩
  · rw [rst, gt, List.drop_drop, Nat.add_assoc]
  · rw [lab, gt, List.take_drop, List.drop_drop, Nat.add_assoc]
theorem fQ {n : bg} {k : Nat} (h : bt n k < 1 ∨ 63 < bt n k ∨ n.length < k + 1 + bt n k) (hk : k < n.length) : dG (n.drop k) = false :=
  cut_no (by rw [gt, List.length_drop]; omega)

theorem fU (n : bg) : em Try.prog 57 #[.string (ba n)] (.int .i64 (bj n)) := by
 intro w0
 refine ce (ok0 := no) (S := []) (args := [.string (ba n)]) 35 Try.func57 rfl rfl rfl (by simp) (by simp) ?_
 refine ar ?_
 refine ah ?_
 refine ap (ai rfl) rfl rfl ?_
 refine ae ?_
 refine ao ?_
 refine ar ?_
 refine ar ?_
 refine ah ?_
 refine ap (am rfl) rfl rfl ?_
 refine ap (dS Try.underlying37 rfl) rfl rfl ?_
 refine ap (eo rfl rfl) rfl rfl ?_
 refine aC (t := 7) rfl (fun h1_2 => ?_) (fun h1_2 => ?_)
 refine ae ?_
 refine ao ?_
 refine aI rfl ?_
 refine ar ?_
 refine ah ?_
 refine ap (ai rfl) rfl rfl ?_
 refine ae ?_
 refine ao ?_
 refine aV ?_
 refine aB ?_
 refine aY (ts := [2]) rfl rfl rfl (fun w hw => ?_)
 exact ⟨by simp [eC, bj, show 254 < n.length by omega], hw.base⟩
 refine ae ?_
 refine ao ?_
 refine aN rfl ?_
 refine bd ?_
 refine ao ?_
 refine ar ?_
 refine ar ?_
 refine ah ?_
 refine ap (ai rfl) rfl rfl ?_
 refine ae ?_
 refine ao ?_
 refine bn ?_
 refine dd (σ := Nat) [2, 3, 4, 8, 9, 10, 11, 12, 13, 14, 15, 16, 17, 18, 19, 20, 21, 22, 23, 24, 25, 26, 27, 28, 29, 30, 31, 32, 33, 34] (fun k => k ≤ n.length ∧ iF n = iF (n.drop k)) (fun k => n.length - k) (fun k => [(3, .int .i64 k)]) (0) ?_ ⟨rfl, trivial⟩ (fun k hI => ?_)
 exact ⟨Nat.zero_le _, rfl⟩
 have hb := bt_lt n k
 refine ar ?_
 refine ar ?_
 refine ah ?_
 refine ap (am rfl) rfl rfl ?_
 refine ap (am rfl) rfl rfl ?_
 refine ap (dS Try.underlying37 rfl) rfl rfl ?_
 refine ap (cV rfl rfl) rfl rfl ?_
 refine aC (t := 11) rfl (fun h4_3 => ?_) (fun h4_3 => ?_)
 refine ae ?_
 refine ao ?_
 refine aI rfl ?_
 refine bd ?_
 refine ao ?_
 refine bn ?_
 refine ar ?_
 refine ah ?_
 refine ap (am rfl) rfl rfl ?_
 refine ap (am rfl) rfl rfl ?_
 refine ap (y_indexs  Try.underlying37 rfl rfl rfl (by omega)) rfl rfl ?_
 refine ap (i6 Try.underlying5 Try.underlying3 rfl (iP (by omega) (by omega))) rfl rfl ?_
 refine ap (ai rfl) rfl rfl ?_
 refine ae ?_
 refine ao ?_
 refine ar ?_
 refine ar ?_
 refine ah ?_
 refine ap (am rfl) rfl rfl ?_
 refine ap (cV rfl rfl) rfl rfl ?_
 refine aC (t := 17) rfl (fun h6_1 => ?_) (fun h6_1 => ?_)
 refine ap (am rfl) rfl rfl ?_
 refine aq rfl rfl rfl rfl ?_
 refine aq rfl rfl rfl rfl ?_
 refine ap (aM rfl rfl) rfl rfl ?_
 refine ap (am rfl) rfl rfl ?_
 refine aq rfl rfl rfl rfl ?_
 refine aq rfl rfl rfl rfl ?_
 refine aq rfl rfl rfl rfl ?_
 refine aq rfl rfl rfl rfl ?_
 refine aq rfl rfl rfl rfl ?_
 refine aq rfl rfl rfl rfl ?_
 refine aq rfl rfl rfl rfl ?_
 refine ap (aM rfl rfl) rfl rfl ?_
 refine ae ?_
 refine ao ?_
 refine aI rfl ?_
 refine ar ?_
 refine ah ?_
 refine ap (ai rfl) rfl rfl ?_
 refine ae ?_
 refine ao ?_
 refine aV ?_
 refine aB ?_
 refine aT ?_
 refine bL ?_
 refine aT ?_
 refine aB ?_
 refine aY (ts := [2]) rfl rfl rfl (fun w hw => ?_)
 focus first
   | (have hc := fQ (n := n) (k := k) (by omega) (by omega)
      have ho : iF n = false := by rw [hI.2, fX, hc]; simp; omega
      exact ⟨by simp [eC, bj, show ¬ 254 < n.length by omega, ho], hw.base⟩)
   | (have ho : iF n = true := by rw [hI.2, List.drop_of_length_le (by omega)]; rfl
      exact ⟨by simp [eC, bj, show ¬ 254 < n.length by omega, ho], hw.base⟩)
 refine ap (am rfl) rfl rfl ?_
 refine aw rfl rfl ?_
 refine ap (am rfl) rfl rfl ?_
 refine aw rfl rfl ?_
 refine ap (eo rfl rfl) rfl rfl ?_
 refine aC (t := 20) rfl (fun h6_4 => ?_) (fun h6_4 => ?_)
 refine ap (aQ rfl rfl) rfl rfl ?_
 refine ap (am rfl) rfl rfl ?_
 refine aq rfl rfl rfl rfl ?_
 refine aq rfl rfl rfl rfl ?_
 refine aq rfl rfl rfl rfl ?_
 refine aq rfl rfl rfl rfl ?_
 refine aq rfl rfl rfl rfl ?_
 refine aq rfl rfl rfl rfl ?_
 refine aq rfl rfl rfl rfl ?_
 refine ap (aM rfl rfl) rfl rfl ?_
 refine ae ?_
 refine ao ?_
 refine aI rfl ?_
 refine ar ?_
 refine ah ?_
 refine ap (ai rfl) rfl rfl ?_
 refine ae ?_
 refine ao ?_
 refine aV ?_
 refine aB ?_
 refine aT ?_
 refine bL ?_
 refine aT ?_
 refine aB ?_
 refine aY (ts := [2]) rfl rfl rfl (fun w hw => ?_)
 focus first
   | (have hc := fQ (n := n) (k := k) (by omega) (by omega)
      have ho : iF n = false := by rw [hI.2, fX, hc]; simp; omega
      exact ⟨by simp [eC, bj, show ¬ 254 < n.length by omega, ho], hw.base⟩)
   | (have ho : iF n = true := by rw [hI.2, List.drop_of_length_le (by omega)]; rfl
      exact ⟨by simp [eC, bj, show ¬ 254 < n.length by omega, ho], hw.base⟩)
 refine ap (aQ rfl rfl) rfl rfl ?_
 refine ap (am rfl) rfl rfl ?_
 refine aw rfl rfl ?_
 refine ap (am rfl) rfl rfl ?_
 refine aw rfl rfl ?_
 refine ap (bY rfl rfl (by omega) (by omega)) rfl rfl ?_
 refine aw rfl rfl ?_
 refine ap (am rfl) rfl rfl ?_
 refine aw rfl rfl ?_
 refine ap (bY rfl rfl (by omega) (by omega)) rfl rfl ?_
 refine aw rfl rfl ?_
 refine ap (am rfl) rfl rfl ?_
 refine aw rfl rfl ?_
 refine ap (dS Try.underlying37 rfl) rfl rfl ?_
 refine aw rfl rfl ?_
 refine ap (eo rfl rfl) rfl rfl ?_
 refine aC (t := 29) rfl (fun h6_13 => ?_) (fun h6_13 => ?_)
 refine ap (aQ rfl rfl) rfl rfl ?_
 refine ae ?_
 refine ao ?_
 refine aI rfl ?_
 refine ar ?_
 refine ah ?_
 refine ap (ai rfl) rfl rfl ?_
 refine ae ?_
 refine ao ?_
 refine aV ?_
 refine aB ?_
 refine aT ?_
 refine bL ?_
 refine aT ?_
 refine aB ?_
 refine aY (ts := [2]) rfl rfl rfl (fun w hw => ?_)
 focus first
   | (have hc := fQ (n := n) (k := k) (by omega) (by omega)
      have ho : iF n = false := by rw [hI.2, fX, hc]; simp; omega
      exact ⟨by simp [eC, bj, show ¬ 254 < n.length by omega, ho], hw.base⟩)
   | (have ho : iF n = true := by rw [hI.2, List.drop_of_length_le (by omega)]; rfl
      exact ⟨by simp [eC, bj, show ¬ 254 < n.length by omega, ho], hw.base⟩)
 refine ap (aQ rfl rfl) rfl rfl ?_
 refine ae ?_
 refine ao ?_
 refine aN rfl ?_
 refine bd ?_
 refine ao ?_
 refine ah ?_
 refine ap (am rfl) rfl rfl ?_
 refine ap (bY rfl rfl (by omega) (by omega)) rfl rfl ?_
 refine ap (am rfl) rfl rfl ?_
 refine ap (bY rfl rfl (by omega) (by omega)) rfl rfl ?_
 refine ap (ai rfl) rfl rfl ?_
 refine ae ?_
 refine bV ?_
 obtain ⟨hc1, hc2, hc3⟩ := i8 (n := n) (k := k) (by omega) (by omega) (by omega) (by omega)
 refine cr (k + 1 + bt n k) ?_ ?_ ⟨rfl, trivial⟩ (by repeat (first | exact trivial | refine ⟨rfl, ?_⟩)) aD
 exact ⟨by omega, by rw [hI.2, fX (n.drop k), hc1, hc2]; simp; omega⟩
 omega
 refine ae ?_
 refine ao ?_
 refine aN rfl ?_
 refine cz ?_
 refine br ?_
 refine bC ?_
 refine bK ?_
 refine ao ?_
 refine ar ?_
 refine ah ?_
 refine ap (ai rfl) rfl rfl ?_
 refine ae ?_
 refine ao ?_
 refine aV ?_
 refine aY (ts := [2]) rfl rfl rfl (fun w hw => ?_)
 focus first
   | (have hc := fQ (n := n) (k := k) (by omega) (by omega)
      have ho : iF n = false := by rw [hI.2, fX, hc]; simp; omega
      exact ⟨by simp [eC, bj, show ¬ 254 < n.length by omega, ho], hw.base⟩)
   | (have ho : iF n = true := by rw [hI.2, List.drop_of_length_le (by omega)]; rfl
      exact ⟨by simp [eC, bj, show ¬ 254 < n.length by omega, ho], hw.base⟩)

theorem c_ref02_Labels (n : bg) : RC Try.prog 96 #[.string (ba n)] [] (α := Option Addr × Nat) (fun p => .slice p.1 (bP n).length p.2) (fun p => [Ch.ls p.1 p.2 9 1 ed (bP n)]) := by
 refine bZ (args := [.string (ba n)]) 33 Try.func96 rfl rfl rfl (fun w0 => ?_)
 refine ar ?_
 refine ah ?_
 refine ap (ai rfl) rfl rfl ?_
 refine ae ?_
 refine ao ?_
 refine ar ?_
 refine ar ?_
 refine ah ?_
 refine ap (am rfl) rfl rfl ?_
 refine bR rfl ent_57 (fU _) rfl ?_
 refine ap (db rfl rfl) rfl rfl ?_
 refine aC (t := 8) rfl (fun h1_2 => ?_) (fun h1_2 => ?_)
 refine ae ?_
 refine ao ?_
 refine aI rfl ?_
 refine ar ?_
 refine ah ?_
 refine ap (ai rfl) rfl rfl ?_
 refine ae ?_
 refine ao ?_
 refine aV ?_
 refine aB ?_
 refine aY (ts := [2]) rfl rfl rfl (fun w hw => ?_)
 have hl : bP n = [] := if_neg (by omega)
 rw [hl]
 exact ⟨(none, 0), rfl, hw.base, (hw.nilsl 9 1).toNews⟩
 refine ae ?_
 refine ao ?_
 refine aN rfl ?_
 refine bd ?_
 refine ao ?_
 refine ar ?_
 have hck : bj n = 0 := by omega
 have hnl := nameCk_zero.1 hck
 refine ah ?_
 refine ap (ai rfl) rfl rfl ?_
 refine ae ?_
 refine ao ?_
 refine ar ?_
 refine ar ?_
 refine ah ?_
 refine ap (ai rfl) rfl rfl ?_
 refine ae ?_
 refine ao ?_
 refine bn ?_
 refine bD (fun w h => h.nilsl 9 1) ?_
 refine eF (σ := Nat × List bg × Option Addr × Nat) [3, 4, 5, 9, 10, 11, 12, 13, 14, 15, 16, 17, 18, 19, 20, 21, 22, 23, 24, 25, 26, 27, 28, 29, 30, 31] (fun q => q.1 ≤ n.length ∧ eK n = q.2.1 ++ eK (n.drop q.1) ∧ iF (n.drop q.1) = true ∧ q.2.1.length ≤ q.1) (fun q => n.length - q.1) (fun q => [(4, .int .i64 q.1), (3, .slice q.2.2.1 q.2.1.length q.2.2.2)]) (fun q => Ch.ls q.2.2.1 q.2.2.2 9 1 ed q.2.1) ((0, [], none, 0)) ?_ ⟨rfl, rfl, trivial⟩ rfl (fun q hI => ?_)
 exact ⟨Nat.zero_le _, rfl, hnl.2, Nat.le_refl _⟩
 obtain ⟨k, pre, A, c⟩ := q
 obtain ⟨hk, hI, hok, hpl⟩ := hI
 dsimp only at hk hI hok hpl ⊢
 have hb := bt_lt n k
 refine ar ?_
 refine ar ?_
 refine ah ?_
 refine ap (am rfl) rfl rfl ?_
 refine ap (am rfl) rfl rfl ?_
 refine ap (dS Try.underlying37 rfl) rfl rfl ?_
 refine ap (cV rfl rfl) rfl rfl ?_
 refine aC (t := 12) rfl (fun h5_3 => ?_) (fun h5_3 => ?_)
 have hkl : k < n.length := by omega
 rw [fX] at hok
 have hcu : dG (n.drop k) = true ∧ iF (rst (n.drop k)) = true := by
   have := drop_ne hkl
   simpa [this] using hok
 have hcc := cutOk_iff.1 hcu.1
 rw [gt, List.length_drop] at hcc
 obtain ⟨hc1, hc2, hc3⟩ := i8 (n := n) (k := k) hkl (by omega) (by omega) (by omega)
 have ho2 := hcu.2
 refine ae ?_
 refine ao ?_
 refine aI rfl ?_
 refine bd ?_
 refine ao ?_
 refine bn ?_
 refine ar ?_
 refine ah ?_
 refine ap (am rfl) rfl rfl ?_
 refine ap (am rfl) rfl rfl ?_
 refine ap (y_indexs  Try.underlying37 rfl rfl rfl (by omega)) rfl rfl ?_
 refine ap (i6 Try.underlying5 Try.underlying3 rfl (iP (by omega) (by omega))) rfl rfl ?_
 refine ap (ai rfl) rfl rfl ?_
 refine ae ?_
 refine ao ?_
 refine ar ?_
 refine ah ?_
 refine ap (am rfl) rfl rfl ?_
 refine ap (am rfl) rfl rfl ?_
 refine ap (am rfl) rfl rfl ?_
 refine ap (bY rfl rfl (by omega) (by omega)) rfl rfl ?_
 refine ap (am rfl) rfl rfl ?_
 refine ap (bY rfl rfl (by omega) (by omega)) rfl rfl ?_
 refine ap (am rfl) rfl rfl ?_
 refine ap (bY rfl rfl (by omega) (by omega)) rfl rfl ?_
 refine ap (y_slices (m := k + 1) (n := k + 1 + bt n k) Try.underlying37 rfl rfl rfl (by omega) (by omega) (by omega) (by omega)) rfl rfl ?_
 refine bf (vs := [_]) ([_] : List (bg)) bB Try.underlying105 cF rfl rfl rfl rfl rfl rfl (fun As1 => ?_)
 refine dh (enc := ed) (sz := 1) _ Try.underlying105 cF rfl rfl rfl (fun A c => (.s (.z))) (fj 0 Try.underlying105 rfl) (by simp only [List.length_cons, List.length_nil, Nat.zero_add]; omega) (by simp only [List.length_cons, List.length_nil, Nat.zero_add]; omega) rfl (fun A1 c1 => ?_)
 refine ap (ai rfl) rfl rfl ?_
 refine ae ?_
 refine ao ?_
 refine ah ?_
 refine ap (am rfl) rfl rfl ?_
 refine ap (bY rfl rfl (by omega) (by omega)) rfl rfl ?_
 refine ap (am rfl) rfl rfl ?_
 refine ap (bY rfl rfl (by omega) (by omega)) rfl rfl ?_
 refine ap (ai rfl) rfl rfl ?_
 refine ae ?_
 refine bV ?_
 refine cr ((k + 1 + bt n k, pre ++ [(n.take (k + 1 + bt n k)).drop (k + 1)], A1, c1)) ?_ ?_ ⟨rfl, rfl, trivial⟩ (by repeat (first | exact trivial | refine ⟨rfl, ?_⟩)) (aL 1)
 refine ⟨?_, ?_, ?_, ?_⟩
 · show k + 1 + bt n k ≤ _; omega
 · show eK n = (pre ++ [_]) ++ eK (n.drop (k + 1 + bt n k)); rw [hI, gl (n.drop k), if_pos hc1, hc2, hc3]; simp
 · show iF (n.drop (k + 1 + bt n k)) = true; rw [← hc2]; exact ho2
 · show (pre ++ [_]).length ≤ k + 1 + bt n k; simp; omega
 show n.length - (k + 1 + bt n k) < n.length - k
 omega
 refine ae ?_
 refine ao ?_
 refine aN rfl ?_
 refine cz ?_
 refine br ?_
 refine bC ?_
 refine bK ?_
 refine ao ?_
 refine ar ?_
 refine ah ?_
 refine ap (am rfl) rfl rfl ?_
 refine ap (ai rfl) rfl rfl ?_
 refine ae ?_
 refine ao ?_
 refine aV ?_
 refine aY (ts := [2]) rfl rfl rfl (fun w hw => ?_)
 have hl : bP n = pre := by rw [bP, if_pos hck, hI, List.drop_of_length_le (by omega)]; simp [eK, labsF]
 rw [hl]
 exact ⟨(A, c), rfl, hw.base, hw.toNews⟩

theorem make_long {ls : List bg} {k : Nat} (h0 : dw ls = 0) (h : 254 < (dY (ls.take k)).length) : e5 ls = ([], 3) := by
  have := gw ls k
  rw [e5, if_neg (by omega), if_pos (by omega)]
theorem make_done {ls : List bg} (h0 : dw ls = 0) (h : (dY ls).length ≤ 254) : e5 ls = (dY ls, 0) := by
  rw [e5, if_neg (by omega), if_neg (by omega)]

set_option maxRecDepth 100000 in
theorem iJ (ls : List bg) (A : Option Addr) (ca : Nat) (hl : ls.length ≤ 1000000000000) : RC Try.prog 59 #[.slice A ls.length ca] [Ch.rd A 1 ed ls] (α := Unit) (fun _ => .tuple #[.string (ba (e5 ls).1), .int .i64 (e5 ls).2]) (fun _ => []) := by
 refine bZ (args := [.slice A ls.length ca]) 47 Try.func59 rfl rfl rfl (fun w0 => ?_)
 refine ar ?_
 refine ah ?_
 refine ap (ai rfl) rfl rfl ?_
 refine ap (ai rfl) rfl rfl ?_
 refine ae ?_
 refine ao ?_
 refine ar ?_
 refine ah ?_
 refine ap (ai rfl) rfl rfl ?_
 refine ae ?_
 refine ao ?_
 refine ar ?_
 refine ar ?_
 refine ah ?_
 refine ap (ai rfl) rfl rfl ?_
 refine ae ?_
 refine ao ?_
 refine bn ?_
 refine dd (σ := Nat) [2, 3, 5, 6, 8, 9, 10, 11, 12, 13, 14, 15, 16, 17, 18, 19, 20, 21] (fun k => k ≤ ls.length ∧ dw ls = dw (ls.drop k)) (fun k => ls.length - k) (fun k => [(5, .int .i64 k)]) (0) ?_ ⟨rfl, trivial⟩ (fun k hI => ?_)
 exact ⟨Nat.zero_le _, rfl⟩
 refine ar ?_
 refine ar ?_
 refine ah ?_
 refine ap (am rfl) rfl rfl ?_
 refine ap (am rfl) rfl rfl ?_
 refine ap (bI Try.underlying105 rfl) rfl rfl ?_
 refine ap (cV rfl rfl) rfl rfl ?_
 refine aC (t := 11) rfl (fun h3_3 => ?_) (fun h3_3 => ?_)
 refine ae ?_
 refine ao ?_
 refine aI rfl ?_
 refine bd ?_
 refine ao ?_
 refine ar ?_
 refine bn ?_
 refine ar ?_
 refine ah ?_
 refine ap (am rfl) rfl rfl ?_
 refine ap (am rfl) rfl rfl ?_
 refine ap (cj  Try.underlying105 cF rfl rfl (cD 0 rfl) rfl (by omega)) rfl rfl ?_
 refine ap (cR bB ([] : bg) cF rfl (cD 0 rfl) (by omega) rfl rfl) rfl rfl ?_
 refine bR rfl ent_98 (c_ref01_Check _) rfl ?_
 refine ap (ai rfl) rfl rfl ?_
 refine ae ?_
 refine ao ?_
 refine ar ?_
 refine ah ?_
 refine ap (am rfl) rfl rfl ?_
 refine ap (db rfl rfl) rfl rfl ?_
 refine aC (t := 20) rfl (fun h6_1 => ?_) (fun h6_1 => ?_)
 refine ae ?_
 refine ao ?_
 refine aI rfl ?_
 refine ar ?_
 refine ah ?_
 refine ap (am rfl) rfl rfl ?_
 refine ap (ai rfl) rfl rfl ?_
 refine ap (ai rfl) rfl rfl ?_
 refine ae ?_
 refine ao ?_
 refine aV ?_
 refine aT ?_
 refine aB ?_
 refine bL ?_
 refine aT ?_
 refine aB ?_
 refine aY (ts := [2, 3]) rfl rfl rfl (fun w hw => ?_)
 have hk : k < ls.length := by omega
 have hdk := cE ls [] k hk
 have hf : dw ls = fg (ls.getD k []) := by rw [hI.2, hdk, dw, if_neg (by omega)]
 exact ⟨(), by rw [e5, if_pos (by omega), hf]; rfl, hw.base, hw.toNews⟩
 refine ae ?_
 refine ao ?_
 refine aN rfl ?_
 refine bd ?_
 refine bV ?_
 refine ao ?_
 refine ah ?_
 refine ap (am rfl) rfl rfl ?_
 refine ap (bY rfl rfl (by omega) (by omega)) rfl rfl ?_
 refine ap (ai rfl) rfl rfl ?_
 refine ae ?_
 have hk : k < ls.length := by omega
 have hdk := cE ls [] k hk
 refine cr (k + 1) ?_ ?_ ⟨rfl, trivial⟩ (by repeat (first | exact trivial | refine ⟨rfl, ?_⟩)) aD
 exact ⟨by omega, by rw [hI.2, hdk, dw, if_pos (by omega)]⟩
 omega
 refine ae ?_
 refine ao ?_
 refine aN rfl ?_
 refine cz ?_
 refine br ?_
 refine bC ?_
 refine bK ?_
 refine ao ?_
 refine ar ?_
 refine ar ?_
 have hz : dw ls = 0 := by rw [hI.2, List.drop_of_length_le (by omega)]; rfl
 refine ah ?_
 refine ap (ai rfl) rfl rfl ?_
 refine ae ?_
 refine ao ?_
 refine bn ?_
 refine dd (σ := Nat) [2, 3, 4, 7, 22, 23, 24, 25, 26, 27, 28, 29, 30, 31, 32, 33, 34, 35, 36, 37, 38, 39, 40, 41, 42, 43, 44, 45] (fun k => k ≤ ls.length ∧ (dY (ls.take k)).length ≤ 254) (fun k => ls.length - k) (fun k => [(7, .int .i64 k), (4, .string (ba (dY (ls.take k))))]) (0) ?_ ⟨rfl, rfl, trivial⟩ (fun k hI => ?_)
 exact ⟨Nat.zero_le _, by simp [dY]⟩
 refine ar ?_
 refine ar ?_
 refine ah ?_
 refine ap (am rfl) rfl rfl ?_
 refine ap (am rfl) rfl rfl ?_
 refine ap (bI Try.underlying105 rfl) rfl rfl ?_
 refine ap (cV rfl rfl) rfl rfl ?_
 refine aC (t := 25) rfl (fun h9_3 => ?_) (fun h9_3 => ?_)
 have hk : k < ls.length := by omega
 have hlk : 1 ≤ (ls.getD k []).length ∧ (ls.getD k []).length ≤ 63 := firstCk_zero.1 hz (ls.getD k []) (by rw [List.getD_eq_getElem?_getD, List.getElem?_eq_getElem hk]; exact List.getElem_mem hk)
 have htk := eh ls [] k hk
 have htk2 : dY (ls.take (k + 1)) = dY (ls.take k) ++ ([UInt8.ofNat (ls.getD k []).length] ++ ls.getD k []) := by rw [htk, fe, encn_one]; rfl
 refine ae ?_
 refine ao ?_
 refine aI rfl ?_
 refine bd ?_
 refine ao ?_
 refine ar ?_
 refine bn ?_
 refine ar ?_
 refine dX 16 rfl mixed ?_
 refine aX (i := 0) rfl aa (am rfl) aD aD rfl (aj (aA (aj (aW (aA (aj av)))))) (by kernel_rfl) rfl ?_
 refine aX (i := 1) rfl aa (am rfl) aD aD rfl (aj (aA (aj (aW (aA (aj av)))))) (by kernel_rfl) rfl ?_
 refine aX (i := 2) rfl aa (am rfl) aD aD rfl (aj (aA (aj (aW (aA (aj av)))))) (by kernel_rfl) rfl ?_
 refine aX (i := 3) rfl aa (cj  Try.underlying105 cF rfl rfl (cD 0 rfl) rfl (by omega)) aD aD rfl (aj (aA (aj (aW (aA (aj av)))))) (by kernel_rfl) rfl ?_
 refine aX (i := 4) rfl aa (cR bB ([] : bg) cF rfl (cD 0 rfl) (by omega) rfl rfl) aD aD rfl (aj (aA (aj (aW (aA (aj av)))))) (by kernel_rfl) rfl ?_
 refine aX (i := 5) rfl aa (dS Try.underlying9 rfl) aD aD rfl (aj (aA (aj (aW (aA (aj av)))))) (by kernel_rfl) rfl ?_
 refine aX (i := 6) rfl aa (y_convii Try.underlying3 Try.underlying5 rfl) aD aD rfl (aj (aA (aj (aW (aA (aj av)))))) (by kernel_rfl) rfl ?_
 refine f0 (t := 34) (.int .u8 ((UInt8.ofNat (ls.getD k []).length).toNat : Int)) rfl (congrArg _ (by rw [gu (by omega) (by omega), u8len hlk.2])) ?_
 refine aX (i := 10) rfl aa (am rfl) aD aD rfl (aj (aA (aj (aW (aA (aj av)))))) (by kernel_rfl) rfl ?_
 refine aX (i := 11) rfl aa (am rfl) aD aD rfl (aj (aA (aj (aW (aA (aj av)))))) (by kernel_rfl) rfl ?_
 refine aX (i := 12) rfl aa (cj  Try.underlying105 cF rfl rfl (cD 0 rfl) rfl (by omega)) aD aD rfl (aj (aA (aj (aW (aA (aj av)))))) (by kernel_rfl) rfl ?_
 refine aX (i := 13) rfl aa (cR bB ([] : bg) cF rfl (cD 0 rfl) (by omega) rfl rfl) aD aD rfl (aj (aA (aj (aW (aA (aj av)))))) (by kernel_rfl) rfl ?_
 refine dl (i := 7) rfl rfl rfl (fun _ _ _ => ax (by kernel_rfl)) (by kernel_rfl) rfl ?_
 refine bf (vs := [_]) ([_] : List (UInt8)) enc_b Try.underlying54 ia rfl rfl rfl rfl rfl rfl (fun As1 => ?_)
 refine ae ?_
 refine d8 (aL 1) ?_
 refine dl (i := 8) rfl rfl rfl (fun _ _ _ => ax (by kernel_rfl)) (by kernel_rfl) rfl ?_
 refine ap (y_b2s Try.underlying54 Try.underlying9 Try.underlying5 rfl (dU 0 rfl)) rfl rfl ?_
 refine ae ?_
 refine d8 (aL 1) ?_
 refine aX (i := 9) rfl aa (y_adds rfl rfl (by first | omega | (simp only [List.length_nil, List.length_cons, List.length_take, List.length_drop, List.length_append]; omega))) (aL 1) aD rfl (aj (aA (aj (aW (aA (aj av)))))) (by kernel_rfl) rfl ?_
 refine aX (i := 14) rfl aa (y_adds rfl rfl (by first | omega | (simp only [List.length_nil, List.length_cons, List.length_take, List.length_drop, List.length_append]; omega))) (aL 1) aD rfl (aj (aA (aj (aW (aA (aj av)))))) (by kernel_rfl) rfl ?_
 refine aX (i := 15) rfl aa (ai rfl) (aL 1) aD rfl (aj (aA (aj (aW (aA (aj av)))))) (by kernel_rfl) rfl ?_
 refine dm (by kernel_rfl) ?_
 refine ao ?_
 refine ar ?_
 refine ah ?_
 refine ap (am rfl) rfl rfl ?_
 refine ap (dS Try.underlying9 rfl) rfl rfl ?_
 refine ap (eo rfl rfl) rfl rfl ?_
 refine aC (t := 45) rfl (fun h12_2 => ?_) (fun h12_2 => ?_)
 refine ae ?_
 refine ao ?_
 refine aI rfl ?_
 refine ar ?_
 refine ah ?_
 refine ap (ai rfl) rfl rfl ?_
 refine ap (ai rfl) rfl rfl ?_
 refine ae ?_
 refine ao ?_
 refine aV ?_
 refine aT ?_
 refine aB ?_
 refine bL ?_
 refine aT ?_
 refine aB ?_
 refine aY (ts := [2, 3]) rfl rfl rfl (fun w hw => ?_)
 focus first
   | (have hlong : 254 < (dY (ls.take (k + 1))).length := by rw [htk2, ← List.append_assoc]; omega
      exact ⟨(), by rw [make_long hz hlong]; rfl, hw.base, (hw.weak (List.nil_sublist _) (fun s hs => hs)).toNews⟩)
   | (have hk : k = ls.length := by omega
      rw [hk, List.take_length] at hI ⊢
      exact ⟨(), by rw [make_done hz hI.2]; rfl, hw.base, (hw.weak (List.nil_sublist _) (fun s hs => hs)).toNews⟩)
   | (trace_state; fail)
 refine ae ?_
 refine ao ?_
 refine aN rfl ?_
 refine bd ?_
 refine bV ?_
 refine ao ?_
 refine ah ?_
 refine ap (am rfl) rfl rfl ?_
 refine ap (bY rfl rfl (by omega) (by omega)) rfl rfl ?_
 refine ap (ai rfl) rfl rfl ?_
 refine ae ?_
 refine cr (k + 1) ?_ ?_ ⟨rfl, lk rfl (by rw [htk2, List.append_assoc]), trivial⟩ (by repeat (first | exact trivial | refine ⟨rfl, ?_⟩)) (aL 1)
 exact ⟨by omega, by rw [htk2, ← List.append_assoc]; omega⟩
 omega
 refine ae ?_
 refine ao ?_
 refine aN rfl ?_
 refine cz ?_
 refine br ?_
 refine bC ?_
 refine bK ?_
 refine ao ?_
 refine ar ?_
 refine ah ?_
 refine ap (am rfl) rfl rfl ?_
 refine ap (ai rfl) rfl rfl ?_
 refine ap (ai rfl) rfl rfl ?_
 refine ae ?_
 refine ao ?_
 refine aV ?_
 refine aY (ts := [2, 3]) rfl rfl rfl (fun w hw => ?_)
 focus first
   | (have hlong : 254 < (dY (ls.take (k + 1))).length := by rw [htk2, ← List.append_assoc]; omega
      exact ⟨(), by rw [make_long hz hlong]; rfl, hw.base, (hw.weak (List.nil_sublist _) (fun s hs => hs)).toNews⟩)
   | (have hk : k = ls.length := by omega
      rw [hk, List.take_length] at hI ⊢
      exact ⟨(), by rw [make_done hz hI.2]; rfl, hw.base, (hw.weak (List.nil_sublist _) (fun s hs => hs)).toNews⟩)
   | (trace_state; fail)

theorem c_ref02_Fold (n : bg) (hn : n.length ≤ 1000000000) : RC Try.prog 58 #[.string (ba n)] [] (α := Unit) (fun _ => .string (ba (bh n))) (fun _ => []) := by
 refine bZ (args := [.string (ba n)]) 29 Try.func58 rfl rfl rfl (fun w0 => ?_)
 refine ar ?_
 refine ah ?_
 refine ap (ai rfl) rfl rfl ?_
 refine ae ?_
 refine ao ?_
 refine ar ?_
 refine ah ?_
 refine ap (am rfl) rfl rfl ?_
 refine d9 rfl ent_96 rfl (c_ref02_Labels _) (fun w hw => aO) (fun ⟨A0, c0⟩ => ?_)
 have hlb := iT n hn
 refine ap (ai rfl) rfl rfl ?_
 refine ae ?_
 refine ao ?_
 refine ar ?_
 refine ar ?_
 refine ah ?_
 refine ap (ai rfl) rfl rfl ?_
 refine ae ?_
 refine ao ?_
 refine bn ?_
 refine eF (σ := Nat) [3, 4, 9, 10, 11, 12, 13, 14, 15, 16, 17, 18, 19, 20, 21, 22] (fun k => k ≤ (bP n).length) (fun k => (bP n).length - k) (fun k => [(4, .int .i64 k), (3, .slice A0 (((bP n).take k).map cN ++ (bP n).drop k).length c0)]) (fun k => Ch.ls A0 c0 9 1 ed (((bP n).take k).map cN ++ (bP n).drop k)) (0) ?_ ⟨rfl, rfl, trivial⟩ rfl (fun k hI => ?_)
 exact Nat.zero_le _
 have hml := dy cN (bP n) k
 refine ar ?_
 refine ar ?_
 refine ah ?_
 refine ap (am rfl) rfl rfl ?_
 refine ap (am rfl) rfl rfl ?_
 refine ap (bI Try.underlying105 rfl) rfl rfl ?_
 refine ap (cV rfl rfl) rfl rfl ?_
 refine aC (t := 12) rfl (fun h3_3 => ?_) (fun h3_3 => ?_)
 refine ae ?_
 refine ao ?_
 refine aI rfl ?_
 refine bd ?_
 refine ao ?_
 refine ar ?_
 refine bn ?_
 refine ah ?_
 refine ap (am rfl) rfl rfl ?_
 refine ap (am rfl) rfl rfl ?_
 refine ap (am rfl) rfl rfl ?_
 refine ap (am rfl) rfl rfl ?_
 refine ap (cj  Try.underlying105 cF rfl rfl (dU 0 rfl) rfl (by rw [dy]; omega)) rfl rfl ?_
 refine ap (cR bB ([] : bg) cF rfl (dU 0 rfl) (by rw [dy]; omega) rfl rfl) rfl rfl ?_
 refine bR rfl ent_97 (c_ref01_Fold _ (fold_b (by omega) hlb.2.1)) rfl ?_
 refine ap (cj  Try.underlying105 cF rfl rfl (dU 0 rfl) rfl (by rw [dy]; omega)) rfl rfl ?_
 refine eH bB ([] : bg) _ cF rfl rfl rfl .z rfl (by rw [dy]; omega) rfl rfl rfl ?_
 refine ae ?_
 refine bV ?_
 refine ao ?_
 refine ah ?_
 refine ap (am rfl) rfl rfl ?_
 refine ap (bY rfl rfl (by omega) (by omega)) rfl rfl ?_
 refine ap (ai rfl) rfl rfl ?_
 refine ae ?_
 have hk : k < (bP n).length := by omega
 refine cr (k + 1) ?_ ?_ ⟨rfl, lk rfl (by rw [dy, dy]), trivial⟩ (by repeat (first | exact trivial | refine ⟨rfl, ?_⟩)) (fun w h => by rw [mapS_at cN (bP n) k hk, mapS_step cN (bP n) k hk] at h; exact h)
 omega
 omega
 refine ae ?_
 refine ao ?_
 refine aN rfl ?_
 refine cz ?_
 refine br ?_
 refine bC ?_
 refine bK ?_
 refine ao ?_
 refine ar ?_
 refine ah ?_
 obtain rfl : k = (bP n).length := by omega
 refine ap (am rfl) rfl rfl ?_
 refine bi rfl ent_59 rfl (iJ _ _ _ (by simp; omega)) (fun w hw => (ak (aK 0 rfl hw) aO)) ?_
 refine ap (am rfl) rfl rfl ?_
 refine ap (az rfl rfl) rfl rfl ?_
 refine ap (az rfl rfl) rfl rfl ?_
 refine ap (ai rfl) rfl rfl ?_
 refine ap (ai rfl) rfl rfl ?_
 refine ae ?_
 refine ao ?_
 refine ar ?_
 refine ah ?_
 refine ap (am rfl) rfl rfl ?_
 refine ap (ai rfl) rfl rfl ?_
 refine ae ?_
 refine ao ?_
 refine aV ?_
 refine aY (ts := [2]) rfl rfl rfl (fun w hw => ?_)
 exact ⟨(), by rw [← g3]; simp [eC], hw.base, (hw.weak (List.nil_sublist _) (fun s hs => hs)).toNews⟩

theorem i5 (n : bg) (hn : n.length ≤ 1000000000) : em Try.prog 58 #[.string (ba n)] (.string (ba (bh n))) := rc_pure (c_ref02_Fold n hn)

theorem fv {α : Type} {a b : List α} (d : α) {k : Nat} (ha : k < a.length) (hb : k < b.length) (h : a.take k = b.take k) (he : a.getD k d = b.getD k d) : a.take (k + 1) = b.take (k + 1) := by
  rw [eh a d k ha, eh b d k hb, h, he]
theorem gz {α : Type} {a b : List α} (d : α) {k : Nat} (he : a.getD k d ≠ b.getD k d) : a ≠ b := fun e => he (by rw [e])

def pickI (n m : Int) : Int := if m < 1 then 0 else n % m
theorem tmod_pos {n m : Int} (hm : 0 < m) : (0 ≤ n.tmod m ∧ n.tmod m = n % m) ∨ (n.tmod m < 0 ∧ n.tmod m + m = n % m) := by
  have h0 := Int.emod_nonneg n (show m ≠ 0 by omega)
  have h1 := Int.emod_lt_of_pos n hm
  by_cases hn : 0 ≤ n
  · left; rw [Int.tmod_eq_emod_of_nonneg hn]; exact ⟨h0, rfl⟩
  · have e := Int.tmod_eq_emod (a := n) (b := m)
    by_cases hd : m ∣ n
    · have hz : n % m = 0 := Int.emod_eq_zero_of_dvd hd
      left; rw [if_pos (.inr hd)] at e; omega
    · have hz : n % m ≠ 0 := fun h => hd (Int.dvd_of_emod_eq_zero h)
      right; rw [if_neg (by omega)] at e
      have : (m.natAbs : Int) = m := by omega
      omega

theorem c_kit_Pick (n m : Int) (h1 : -9223372036854775808 ≤ m) (h2 : m ≤ 9223372036854775807) : em Try.prog 13 #[.int .i64 n, .int .i64 m] (.int .i64 (pickI n m)) := by
 intro w0
 refine ce (ok0 := no) (S := []) (args := [.int .i64 n, .int .i64 m]) 17 Try.func13 rfl rfl rfl (by simp) (by simp) ?_
 refine ar ?_
 refine ah ?_
 refine ap (ai rfl) rfl rfl ?_
 refine ae ?_
 refine ao ?_
 refine ar ?_
 refine ar ?_
 refine ah ?_
 refine ap (am rfl) rfl rfl ?_
 refine ap (cV rfl rfl) rfl rfl ?_
 refine aC (t := 7) rfl (fun h1_1 => ?_) (fun h1_1 => ?_)
 refine ae ?_
 refine ao ?_
 refine aI rfl ?_
 refine ar ?_
 refine ah ?_
 refine ap (ai rfl) rfl rfl ?_
 refine ae ?_
 refine ao ?_
 refine aV ?_
 refine aB ?_
 refine aY (ts := [4]) rfl rfl rfl (fun w hw => ?_)
 exact ⟨by rw [pickI, if_pos h1_1]; rfl, hw.base⟩
 refine ae ?_
 refine ao ?_
 refine aN rfl ?_
 refine bd ?_
 refine ao ?_
 refine ar ?_
 have htm := tmod_pos (n := n) (m := m) (by omega)
 have he0 := Int.emod_nonneg n (show m ≠ 0 by omega)
 have he1 := Int.emod_lt_of_pos n (show 0 < m by omega)
 refine ah ?_
 refine ap (am rfl) rfl rfl ?_
 refine ap (am rfl) rfl rfl ?_
 refine ap (y_rem rfl rfl (by omega)) rfl rfl ?_
 refine ap (ai rfl) rfl rfl ?_
 refine ae ?_
 refine ao ?_
 refine ar ?_
 refine ar ?_
 refine ah ?_
 refine ap (am rfl) rfl rfl ?_
 refine ap (cV rfl rfl) rfl rfl ?_
 refine aC (t := 12) rfl (fun h4_1 => ?_) (fun h4_1 => ?_)
 refine ae ?_
 refine ao ?_
 refine aI rfl ?_
 refine ah ?_
 refine ap (am rfl) rfl rfl ?_
 refine ap (am rfl) rfl rfl ?_
 refine ap (bY rfl rfl (by omega) (by omega)) rfl rfl ?_
 refine ap (ai rfl) rfl rfl ?_
 refine ae ?_
 refine ao ?_
 refine ar ?_
 refine ah ?_
 refine ap (am rfl) rfl rfl ?_
 refine ap (ai rfl) rfl rfl ?_
 refine ae ?_
 refine ao ?_
 refine aV ?_
 refine aY (ts := [4]) rfl rfl rfl (fun w hw => ?_)
 exact ⟨by rw [pickI, if_neg h1_1]; show Ending.returned (.int _ _) = _; congr 2; omega, hw.base⟩
 refine ae ?_
 refine ao ?_
 refine aN rfl ?_
 refine bd ?_
 refine ao ?_
 refine ar ?_
 refine ah ?_
 refine ap (am rfl) rfl rfl ?_
 refine ap (ai rfl) rfl rfl ?_
 refine ae ?_
 refine ao ?_
 refine aV ?_
 refine aY (ts := [4]) rfl rfl rfl (fun w hw => ?_)
 exact ⟨by rw [pickI, if_neg h1_1]; show Ending.returned (.int _ _) = _; congr 2; omega, hw.base⟩
end Go.Proofs.Ytnpdgmoeoidppaa

/- Octets compared, slices that are made: plain laws. -/
namespace Go.Proofs.Ytnpdgmoeoidppaa
open Go.RowKit Go.Shelf
set_option linter.unusedVariables false
set_option linter.unusedSimpArgs false

/-- Octets compared, one behind the other. -/
def d3 : bg → bg → Int
  | [], [] => 0
  | [], _ :: _ => -1
  | _ :: _, [] => 1
  | a :: r, b :: t => if a < b then -1 else if b < a then 1 else d3 r t
theorem cmpS_zero : ∀ {s t : bg}, d3 s t = 0 ↔ s = t
  | [], [] => by simp [d3]
  | [], _ :: _ => by simp [d3]
  | _ :: _, [] => by simp [d3]
  | a :: r, b :: t => by
    have ih := cmpS_zero (s := r) (t := t)
    simp only [d3]
    split
    · rename_i h; simp; intro e; subst e; exact absurd h (UInt8.lt_irrefl _)
    · split
      · rename_i h; simp; intro e; subst e; exact absurd h (UInt8.lt_irrefl _)
      · rename_i h1 h2
        have : a = b := UInt8.le_antisymm (UInt8.not_lt.1 h2) (UInt8.not_lt.1 h1)
        simp [this, ih]
theorem ba_get (s : bg) (i : Nat) : (ba s)[i]! = s.getD i 0 := by
  by_cases h : i < s.length
  · have h' : i < (ba s).size := h
    simp [getElem!_pos, h', List.getD_eq_getElem?_getD, h]
    rfl
  · have h' : ¬ i < (ba s).size := h
    simp [getElem!_neg, h', List.getD_eq_getElem?_getD, h]
    rfl
theorem cmp_eq : ∀ s t : bg, Extern.BytealgCompare.cmp (ba s) (ba t) = d3 s t
  | [], [] => rfl
  | [], b :: t => by
    simp [Extern.BytealgCompare.cmp, d3]
    have e1 : (ba ([] : bg)).size = 0 := rfl
    have e2 : (ba (b :: t)).size = t.length + 1 := rfl
    simp [e1, e2]
  | a :: r, [] => by
    simp [Extern.BytealgCompare.cmp, d3]
    have e1 : (ba ([] : bg)).size = 0 := rfl
    have e2 : (ba (a :: r)).size = r.length + 1 := rfl
    simp [e1, e2]
  | a :: r, b :: t => by
    have ih := cmp_eq r t
    have e1 : (ba (a :: r)).size = r.length + 1 := rfl
    have e2 : (ba (b :: t)).size = t.length + 1 := rfl
    have e3 : (ba r).size = r.length := rfl
    have e4 : (ba t).size = t.length := rfl
    simp only [Extern.BytealgCompare.cmp, e1, e2, e3, e4, Nat.add_min_add_right] at ih ⊢
    rw [Lib.find_range_succ]
    simp only [ba_get, List.getD_cons_zero, List.getD_cons_succ] at ih ⊢
    by_cases hab : a = b
    · subst hab
      simp only [bne_self_eq_false, d3, UInt8.lt_irrefl, if_false]
      simp only [Bool.false_eq_true, if_false]
      rw [← ih]
      cases hf : (List.range (min r.length t.length)).find? (fun i => r.getD i 0 != t.getD i 0) with
      | none => simp [hf]
      | some i => simp [hf]
    · have hne : (a != b) = true := by simpa using hab
      simp only [hne, if_true, d3]
      by_cases hlt : a < b
      · simp [hlt]
      · have : b < a := by
          rcases Nat.lt_or_gt_of_ne (fun h => hab (UInt8.toNat_inj.1 h)) with h | h
          · exact absurd (UInt8.lt_iff_toNat_lt.2 h) hlt
          · exact UInt8.lt_iff_toNat_lt.2 h
        simp [hlt, this]
theorem run_cmp {P : Program} (s t : bg) (w : World) : (Extern.BytealgCompare.compare #[.string (ba s), .string (ba t)]).run P w = .ok (.int .i64 (d3 s t)) w := by
  rw [← cmp_eq]; rfl
/-! Slices that are made. -/
section
variable {x : Cx} {l : Fr} {L S : List Ch} {Q : Exit → Act → World → Prop} {ops : Array Oper} {rest : List Oper} {d : Nat} {ty : TypeId} {pos : String} {af : Array Edge} {gd : Option (Nat × Bool)}
end
end Go.Proofs.Ytnpdgmoeoidppaa

/- names that are the same; the laws of sums -/
namespace Go.Proofs.Ytnpdgmoeoidppaa
open Go.RowKit Go.Shelf
set_option linter.unusedVariables false
set_option linter.unusedSimpArgs false

theorem ent_134 : Enters Try.prog 134 := enters_of Try.func134 (by kernel_rfl) rfl
theorem ent_160 : Enters Try.prog 160 := enters_of Try.func160 (by kernel_rfl) rfl

theorem c_CompareString (s t : bg) : em Try.prog 160 #[.string (ba s), .string (ba t)] (.int .i64 (d3 s t)) := by
 intro w0
 refine ce (ok0 := no) (S := []) (args := [.string (ba s), .string (ba t)]) 8 Try.func160 rfl rfl rfl (by simp) (by simp) ?_
 refine ar ?_
 refine ah ?_
 refine ap (ai rfl) rfl rfl ?_
 refine ae ?_
 refine ao ?_
 refine ar ?_
 refine ah ?_
 refine ap (am rfl) rfl rfl ?_
 refine ap (am rfl) rfl rfl ?_
 refine o_ext rfl (fun w => by rw [run_callFunc_extern Try.func173 (by kernel_rfl) (by kernel_rfl) (by kernel_rfl) (e := Extern.BytealgCompare.compare) (by kernel_rfl), run_cmp]; rfl) rfl ?_
 refine ap (ai rfl) rfl rfl ?_
 refine ae ?_
 refine ao ?_
 refine aV ?_
 refine aY (ts := [4]) rfl rfl rfl (fun w hw => ?_)
 exact ⟨rfl, hw.base⟩

theorem iK (s t : bg) : em Try.prog 134 #[.string (ba s), .string (ba t)] (.int .i64 (d3 s t)) := by
 intro w0
 refine ce (ok0 := no) (S := []) (args := [.string (ba s), .string (ba t)]) 8 Try.func134 rfl rfl rfl (by simp) (by simp) ?_
 refine ar ?_
 refine ah ?_
 refine ap (ai rfl) rfl rfl ?_
 refine ae ?_
 refine ao ?_
 refine ar ?_
 refine ah ?_
 refine ap (am rfl) rfl rfl ?_
 refine ap (am rfl) rfl rfl ?_
 refine bR rfl ent_160 (c_CompareString _ _) rfl ?_
 refine ap (ai rfl) rfl rfl ?_
 refine ae ?_
 refine ao ?_
 refine aV ?_
 refine aY (ts := [4]) rfl rfl rfl (fun w hw => ?_)
 exact ⟨rfl, hw.base⟩

theorem c_label_Compare (s t : bg) (hs : s.length ≤ 1000000000000) (ht : t.length ≤ 1000000000000) : em Try.prog 86 #[.string (ba s), .string (ba t)] (.int .i64 (d3 (cN s) (cN t))) := by
 intro w0
 refine ce (ok0 := no) (S := []) (args := [.string (ba s), .string (ba t)]) 10 Try.func86 rfl rfl rfl (by simp) (by simp) ?_
 refine ar ?_
 refine ah ?_
 refine ap (ai rfl) rfl rfl ?_
 refine ae ?_
 refine ao ?_
 refine ar ?_
 refine ah ?_
 refine ap (am rfl) rfl rfl ?_
 refine bR rfl ent_103 (gn _ (by omega)) rfl ?_
 refine ap (am rfl) rfl rfl ?_
 refine bR rfl ent_103 (gn _ (by omega)) rfl ?_
 refine bR rfl ent_134 (iK _ _) rfl ?_
 refine ap (ai rfl) rfl rfl ?_
 refine ae ?_
 refine ao ?_
 refine aV ?_
 refine aY (ts := [4]) rfl rfl rfl (fun w hw => ?_)
 exact ⟨rfl, hw.base⟩

theorem bE {α : Type} {l : List α} {d : α} {k : Nat} (h : k < l.length) : l.getD k d ∈ l := by
  rw [List.getD_eq_getElem?_getD, List.getElem?_eq_getElem h]; exact List.getElem_mem h
theorem okN_low {n : bg} (h : iF n = true) : iF (cN n) = true := by
  have e := gT (eK n) (eR n)
  rw [fH n h] at e
  rw [← e]
  refine (fM _ ?_).1
  intro s hs
  obtain ⟨t, ht, rfl⟩ := List.mem_map.1 hs
  rw [dV]; exact eR n t ht
theorem nameCk_low {n : bg} (h : bj n = 0) : bj (cN n) = 0 := by
  obtain ⟨h1, h2⟩ := nameCk_zero.1 h
  exact nameCk_zero.2 ⟨by rw [dV]; exact h1, okN_low h2⟩
end Go.Proofs.Ytnpdgmoeoidppaa

/- Structs and arrays compared. -/
namespace Go.Proofs.Ytnpdgmoeoidppaa
open Go.RowKit Go.Shelf
set_option linter.unusedVariables false
set_option linter.unusedSimpArgs false

/-- An equality that the model settles so from some depth on. -/
def EqD (P : Program) (n : Nat) (t : TypeId) (v u : Value) (b : Bool) : Prop := ∀ d w, (Op.equalIn (d + n) t v u).run P w = .ok b w
def EqF (P : Program) (n : Nat) (xs ys : Array Value) (fs : List Field) (b : Bool) : Prop := ∀ d w, (Op.eqFields (d + n) xs ys fs).run P w = .ok b w
section
variable {P : Program} {n m : Nat} {t : TypeId} {xs ys : Array Value} {f : Field} {fs : List Field} {v u : Value} {r s : Bool}
theorem EqD.up (h : EqD P m t v u r) (hm : m ≤ n) : EqD P n t v u r := fun d w => by
  obtain ⟨k, rfl⟩ : ∃ k, n = k + m := ⟨n - m, by omega⟩
  rw [← Nat.add_assoc]; exact h _ w
theorem eqd_int {k k' : IntKind} {a b : Int} (h : P.underlying t = some (.int k')) : EqD P 1 t (.int k a) (.int k b) (a == b) := fun d w => run_equalIn_int w d t k k' a b h
theorem eqd_bool {a b : Bool} (h : P.underlying t = some .bool) : EqD P 1 t (.bool a) (.bool b) (a == b) := fun d w => run_equalIn_bool' w d t a b h
theorem eqf_nil : EqF P n xs ys [] true := fun d w => by simp [Op.eqFields]
theorem eqf_cons (hn : (f.name == "_") = false) (ha : ∀ w, (part f.type xs f.offset).run P w = .ok v w) (hb : ∀ w, (part f.type ys f.offset).run P w = .ok u w) (he : EqD P m f.type v u r) (hm : Nat.ble m n = true) (hr : EqF P n xs ys fs s) : EqF P n xs ys (f :: fs) (r && s) := fun d w => by
  have hn' : f.name ≠ "_" := by simpa using hn
  rw [Op.eqFields]
  simp only [if_pos hn', Sem.run_bind, ha, hb, (he.up (Nat.le_of_ble_eq_true hm)) d w, Result.andThen_ok]
  cases r
  · simp
  · simpa using hr d w
theorem eqd_struct {fa : Array Field} (hu : P.underlying t = some (.struct fa)) (hp : P.stoodInHeld t = false) (h : EqF P n xs ys fa.toList r) : EqD P (n + 1) t (.agg xs) (.agg ys) r := fun d w => by
  have hf : P.fieldsOf t = fa := by simp [Program.fieldsOf, hu]
  rw [← Nat.add_assoc, run_equalIn_struct (P := P) w (d + n) t xs ys (by rw [hf]; exact hu) hp, hf]
  exact h d w
end
section
variable {x : Cx} {l : Fr} {L S : List Ch} {d : Nat} {ty : TypeId} {pos : String} {af : Array Edge} {gd : Option (Nat × Bool)}
theorem y_nest {y z : Operand} {xs ys : Array Value} {b : Bool} {yt zt : TypeId} {n : Nat} (hm : x.P.eqGuardType x.P.depth yt = false) (hy : ev l y = some (.agg xs)) (hz : ev l z = some (.agg ys)) (h : EqD x.P n yt (.agg xs) (.agg ys) b) (hn : Nat.ble n 10000 = true) :
    Yv x l L S ⟨some d, .binOp .neq yt y z zt, ty, pos, af, gd⟩ (.bool (!b)) := fun a w ha hw => by
  have he : (Op.equalIn 10000 yt (.agg xs) (.agg ys)).run x.P w = .ok b w := by
    obtain ⟨k, hk⟩ : ∃ k, 10000 = k + n := ⟨10000 - n, by have := Nat.le_of_ble_eq_true hn; omega⟩
    rw [hk]; exact h k w
  simp only [execOp, ha.ev hy, ha.ev hz]
  simp [run_eqGuard_agg w .neq yt y z xs ys hm, run_neq_struct, he]
theorem y_nestd {y z : Operand} {xs ys : Array Value} {p : Prop} [Decidable p] {yt zt : TypeId} {n : Nat} (hm : x.P.eqGuardType x.P.depth yt = false) (hy : ev l y = some (.agg xs)) (hz : ev l z = some (.agg ys)) (h : EqD x.P n yt (.agg xs) (.agg ys) (decide p)) (hn : Nat.ble n 10000 = true) :
    Yv x l L S ⟨some d, .binOp .neq yt y z zt, ty, pos, af, gd⟩ (.bool (decide (¬ p))) := (y_nest hm hy hz h hn).eq (by rw [decide_not])
end
end Go.Proofs.Ytnpdgmoeoidppaa
