import Derived.Test.YtnpdgmoeoidppaaCcQc
import Derived.Test.YtnpdgmoeoidppaaPaQc
import Derived.Lib.Bytealg
import GoSem.Extern.BytealgCompare
import Derived.Laws.StructEq
import Derived.ChangeKeysEq
/- the references of labels, names, sums; the kit -/
namespace Go.Proofs.Ytnpdgmoeoidppaa
open Go.RowKit Go.Shelf
set_option linter.unusedVariables false
set_option linter.unusedSimpArgs false

theorem ent_59 : Enters Try.prog 59 := enters_of Try.func59 (by kernel_rfl) rfl
theorem ent_98 : Enters Try.prog 98 := enters_of Try.func98 (by kernel_rfl) rfl

theorem c_ref01_Check (l : aW) : d4 Try.prog 98 #[.string (ba l)] (.int .i64 (eC l)) := by
 intro w0
 refine bR (ok0 := no) (S := []) (args := [.string (ba l)]) 10 Try.func98 rfl rfl rfl (by simp) (by simp) ?_
 refine ap ?_
 refine ah ?_
 refine au (aj rfl) rfl rfl ?_
 refine aa ?_
 refine am ?_
 refine ap ?_
 refine bk ?_
 refine ap ?_
 refine ah ?_
 refine au (ak rfl) rfl rfl ?_
 refine au (d8 rfl rfl) rfl rfl ?_
 refine aG (t := 5) rfl (fun h1_1 => ?_) (fun h1_1 => ?_)
 refine au (aj rfl) rfl rfl ?_
 refine aa ?_
 refine am ?_
 refine aI rfl ?_
 refine ap ?_
 refine ah ?_
 refine au (aj rfl) rfl rfl ?_
 refine aa ?_
 refine am ?_
 refine aU ?_
 refine aO ?_
 refine aA ?_
 refine aX (ts := [2]) rfl rfl rfl (fun w hw => ?_)
 subst h1_1
 exact ⟨rfl, hw.base⟩
 refine au (aj rfl) rfl rfl ?_
 refine aa ?_
 refine am ?_
 refine aK rfl ?_
 refine ap ?_
 refine ah ?_
 refine au (ak rfl) rfl rfl ?_
 refine au (eQ Try.underlying9 rfl) rfl rfl ?_
 refine au (em rfl rfl) rfl rfl ?_
 refine aG (t := 9) rfl (fun h3_2 => ?_) (fun h3_2 => ?_)
 refine au (aj rfl) rfl rfl ?_
 refine aa ?_
 refine am ?_
 refine aI rfl ?_
 refine ap ?_
 refine ah ?_
 refine au (aj rfl) rfl rfl ?_
 refine aa ?_
 refine am ?_
 refine aU ?_
 refine aO ?_
 refine aA ?_
 refine aX (ts := [2]) rfl rfl rfl (fun w hw => ?_)
 have := len_pos h1_1
 exact ⟨by unfold eC; rw [if_neg (by omega)]; first | rw [if_pos (by omega)]; rfl | rw [if_neg (by omega)]; rfl, hw.base⟩
 refine au (aj rfl) rfl rfl ?_
 refine aa ?_
 refine am ?_
 refine aK rfl ?_
 refine aZ ?_
 refine bV ?_
 refine am ?_
 refine ap ?_
 refine ah ?_
 refine au (aj rfl) rfl rfl ?_
 refine aa ?_
 refine am ?_
 refine aU ?_
 refine aX (ts := [2]) rfl rfl rfl (fun w hw => ?_)
 have := len_pos h1_1
 exact ⟨by unfold eC; rw [if_neg (by omega)]; first | rw [if_pos (by omega)]; rfl | rw [if_neg (by omega)]; rfl, hw.base⟩

theorem make_long {ls : List aW} {k : Nat} (h0 : cO ls = 0) (h : 254 < (dw (ls.take k)).length) : eo ls = ([], 3) := by
  have := fB ls k
  rw [eo, if_neg (by omega), if_pos (by omega)]
theorem make_done {ls : List aW} (h0 : cO ls = 0) (h : (dw ls).length ≤ 254) : eo ls = (dw ls, 0) := by
  rw [eo, if_neg (by omega), if_neg (by omega)]

set_option maxRecDepth 100000 in
theorem c_ref02_Make (ls : List aW) (A : Option Addr) (ca : Nat) (hl : ls.length ≤ 1000000000000) : RC Try.prog 59 #[.slice A ls.length ca] [Ch.rd A 1 er ls] (α := Unit) (fun _ => .tuple #[.string (ba (eo ls).1), .int .i64 (eo ls).2]) (fun _ => []) := by
 refine bZ (args := [.slice A ls.length ca]) 47 Try.func59 rfl rfl rfl (fun w0 => ?_)
 refine ap ?_
 refine ah ?_
 refine au (aj rfl) rfl rfl ?_
 refine au (aj rfl) rfl rfl ?_
 refine aa ?_
 refine am ?_
 refine ap ?_
 refine ah ?_
 refine au (aj rfl) rfl rfl ?_
 refine aa ?_
 refine am ?_
 refine ap ?_
 refine ap ?_
 refine ah ?_
 refine au (aj rfl) rfl rfl ?_
 refine aa ?_
 refine am ?_
 refine bk ?_
 refine dd (σ := Nat) [2, 3, 5, 6, 8, 9, 10, 11, 12, 13, 14, 15, 16, 17, 18, 19, 20, 21] (fun k => k ≤ ls.length ∧ cO ls = cO (ls.drop k)) (fun k => ls.length - k) (fun k => [(5, .int .i64 k)]) (0) ?_ ⟨rfl, trivial⟩ (fun k hI => ?_)
 exact ⟨Nat.zero_le _, rfl⟩
 refine ap ?_
 refine ap ?_
 refine ah ?_
 refine au (ak rfl) rfl rfl ?_
 refine au (ak rfl) rfl rfl ?_
 refine au (bu Try.underlying105 rfl) rfl rfl ?_
 refine au (cX rfl rfl) rfl rfl ?_
 refine aG (t := 11) rfl (fun h3_3 => ?_) (fun h3_3 => ?_)
 refine aa ?_
 refine am ?_
 refine aI rfl ?_
 refine aZ ?_
 refine am ?_
 refine ap ?_
 refine bk ?_
 refine ap ?_
 refine ah ?_
 refine au (ak rfl) rfl rfl ?_
 refine au (ak rfl) rfl rfl ?_
 refine au (co  Try.underlying105 bK rfl rfl (cI 0 rfl) rfl (by omega)) rfl rfl ?_
 refine au (cP bm ([] : aW) bK rfl (cI 0 rfl) (by omega) rfl rfl) rfl rfl ?_
 refine bL rfl ent_98 (c_ref01_Check _) rfl ?_
 refine au (aj rfl) rfl rfl ?_
 refine aa ?_
 refine am ?_
 refine ap ?_
 refine ah ?_
 refine au (ak rfl) rfl rfl ?_
 refine au (dA rfl rfl) rfl rfl ?_
 refine aG (t := 20) rfl (fun h6_1 => ?_) (fun h6_1 => ?_)
 refine aa ?_
 refine am ?_
 refine aI rfl ?_
 refine ap ?_
 refine ah ?_
 refine au (ak rfl) rfl rfl ?_
 refine au (aj rfl) rfl rfl ?_
 refine au (aj rfl) rfl rfl ?_
 refine aa ?_
 refine am ?_
 refine aU ?_
 refine aO ?_
 refine aA ?_
 refine bG ?_
 refine aO ?_
 refine aA ?_
 refine aX (ts := [2, 3]) rfl rfl rfl (fun w hw => ?_)
 have hk : k < ls.length := by omega
 have hdk := b4 ls [] k hk
 have hf : cO ls = eC (ls.getD k []) := by rw [hI.2, hdk, cO, if_neg (by omega)]
 exact ⟨(), by rw [eo, if_pos (by omega), hf]; rfl, hw.base, hw.toNews⟩
 refine aa ?_
 refine am ?_
 refine aK rfl ?_
 refine aZ ?_
 refine bV ?_
 refine am ?_
 refine ah ?_
 refine au (ak rfl) rfl rfl ?_
 refine au (cr rfl rfl (by omega) (by omega)) rfl rfl ?_
 refine au (aj rfl) rfl rfl ?_
 refine aa ?_
 have hk : k < ls.length := by omega
 have hdk := b4 ls [] k hk
 refine cn (k + 1) ?_ ?_ ⟨rfl, trivial⟩ (by repeat (first | exact trivial | refine ⟨rfl, ?_⟩)) aD
 exact ⟨by omega, by rw [hI.2, hdk, cO, if_pos (by omega)]⟩
 omega
 refine aa ?_
 refine am ?_
 refine aK rfl ?_
 refine cB ?_
 refine bl ?_
 refine bq ?_
 refine bA ?_
 refine am ?_
 refine ap ?_
 refine ap ?_
 have hz : cO ls = 0 := by rw [hI.2, List.drop_of_length_le (by omega)]; rfl
 refine ah ?_
 refine au (aj rfl) rfl rfl ?_
 refine aa ?_
 refine am ?_
 refine bk ?_
 refine dd (σ := Nat) [2, 3, 4, 7, 22, 23, 24, 25, 26, 27, 28, 29, 30, 31, 32, 33, 34, 35, 36, 37, 38, 39, 40, 41, 42, 43, 44, 45] (fun k => k ≤ ls.length ∧ (dw (ls.take k)).length ≤ 254) (fun k => ls.length - k) (fun k => [(7, .int .i64 k), (4, .string (ba (dw (ls.take k))))]) (0) ?_ ⟨rfl, rfl, trivial⟩ (fun k hI => ?_)
 exact ⟨Nat.zero_le _, by simp [dw]⟩
 refine ap ?_
 refine ap ?_
 refine ah ?_
 refine au (ak rfl) rfl rfl ?_
 refine au (ak rfl) rfl rfl ?_
 refine au (bu Try.underlying105 rfl) rfl rfl ?_
 refine au (cX rfl rfl) rfl rfl ?_
 refine aG (t := 25) rfl (fun h9_3 => ?_) (fun h9_3 => ?_)
 have hk : k < ls.length := by omega
 have hlk : 1 ≤ (ls.getD k []).length ∧ (ls.getD k []).length ≤ 63 := firstCk_zero.1 hz (ls.getD k []) (by rw [List.getD_eq_getElem?_getD, List.getElem?_eq_getElem hk]; exact List.getElem_mem hk)
 have htk := dE ls [] k hk
 have htk2 : dw (ls.take (k + 1)) = dw (ls.take k) ++ ([UInt8.ofNat (ls.getD k []).length] ++ ls.getD k []) := by rw [htk, ew, encn_one]; rfl
 refine aa ?_
 refine am ?_
 refine aI rfl ?_
 refine aZ ?_
 refine am ?_
 refine ap ?_
 refine bk ?_
 refine ap ?_
 refine dX 16 rfl mixed ?_
 refine aY (i := 0) rfl ae (ak rfl) aD aD rfl (ai (aC (ai (aV (aC (ai ar)))))) (by kernel_rfl) rfl ?_
 refine aY (i := 1) rfl ae (ak rfl) aD aD rfl (ai (aC (ai (aV (aC (ai ar)))))) (by kernel_rfl) rfl ?_
 refine aY (i := 2) rfl ae (ak rfl) aD aD rfl (ai (aC (ai (aV (aC (ai ar)))))) (by kernel_rfl) rfl ?_
 refine aY (i := 3) rfl ae (co  Try.underlying105 bK rfl rfl (cI 0 rfl) rfl (by omega)) aD aD rfl (ai (aC (ai (aV (aC (ai ar)))))) (by kernel_rfl) rfl ?_
 refine aY (i := 4) rfl ae (cP bm ([] : aW) bK rfl (cI 0 rfl) (by omega) rfl rfl) aD aD rfl (ai (aC (ai (aV (aC (ai ar)))))) (by kernel_rfl) rfl ?_
 refine aY (i := 5) rfl ae (eQ Try.underlying9 rfl) aD aD rfl (ai (aC (ai (aV (aC (ai ar)))))) (by kernel_rfl) rfl ?_
 refine aY (i := 6) rfl ae (fU Try.underlying3 Try.underlying5 rfl) aD aD rfl (ai (aC (ai (aV (aC (ai ar)))))) (by kernel_rfl) rfl ?_
 refine g2 (t := 34) (.int .u8 ((UInt8.ofNat (ls.getD k []).length).toNat : Int)) rfl (congrArg _ (by rw [eX (by omega) (by omega), u8len hlk.2])) ?_
 refine aY (i := 10) rfl ae (ak rfl) aD aD rfl (ai (aC (ai (aV (aC (ai ar)))))) (by kernel_rfl) rfl ?_
 refine aY (i := 11) rfl ae (ak rfl) aD aD rfl (ai (aC (ai (aV (aC (ai ar)))))) (by kernel_rfl) rfl ?_
 refine aY (i := 12) rfl ae (co  Try.underlying105 bK rfl rfl (cI 0 rfl) rfl (by omega)) aD aD rfl (ai (aC (ai (aV (aC (ai ar)))))) (by kernel_rfl) rfl ?_
 refine aY (i := 13) rfl ae (cP bm ([] : aW) bK rfl (cI 0 rfl) (by omega) rfl rfl) aD aD rfl (ai (aC (ai (aV (aC (ai ar)))))) (by kernel_rfl) rfl ?_
 refine eB (i := 7) rfl rfl rfl (fun _ _ _ => az (by kernel_rfl)) (by kernel_rfl) rfl ?_
 refine bh (vs := [_]) ([_] : List (UInt8)) enc_b Try.underlying54 ty_5 rfl rfl rfl rfl rfl rfl (fun As1 => ?_)
 refine aa ?_
 refine e_one (aJ 1) ?_
 refine eB (i := 8) rfl rfl rfl (fun _ _ _ => az (by kernel_rfl)) (by kernel_rfl) rfl ?_
 refine au (y_b2s Try.underlying54 Try.underlying9 Try.underlying5 rfl (dS 0 rfl)) rfl rfl ?_
 refine aa ?_
 refine e_one (aJ 1) ?_
 refine aY (i := 9) rfl ae (y_adds rfl rfl (by first | omega | (simp only [List.length_nil, List.length_cons, List.length_take, List.length_drop, List.length_append]; omega))) (aJ 1) aD rfl (ai (aC (ai (aV (aC (ai ar)))))) (by kernel_rfl) rfl ?_
 refine aY (i := 14) rfl ae (y_adds rfl rfl (by first | omega | (simp only [List.length_nil, List.length_cons, List.length_take, List.length_drop, List.length_append]; omega))) (aJ 1) aD rfl (ai (aC (ai (aV (aC (ai ar)))))) (by kernel_rfl) rfl ?_
 refine aY (i := 15) rfl ae (aj rfl) (aJ 1) aD rfl (ai (aC (ai (aV (aC (ai ar)))))) (by kernel_rfl) rfl ?_
 refine dz (by kernel_rfl) ?_
 refine am ?_
 refine ap ?_
 refine ah ?_
 refine au (ak rfl) rfl rfl ?_
 refine au (eQ Try.underlying9 rfl) rfl rfl ?_
 refine au (em rfl rfl) rfl rfl ?_
 refine aG (t := 45) rfl (fun h12_2 => ?_) (fun h12_2 => ?_)
 refine aa ?_
 refine am ?_
 refine aI rfl ?_
 refine ap ?_
 refine ah ?_
 refine au (aj rfl) rfl rfl ?_
 refine au (aj rfl) rfl rfl ?_
 refine aa ?_
 refine am ?_
 refine aU ?_
 refine aO ?_
 refine aA ?_
 refine bG ?_
 refine aO ?_
 refine aA ?_
 refine aX (ts := [2, 3]) rfl rfl rfl (fun w hw => ?_)
 focus first
   | (have hlong : 254 < (dw (ls.take (k + 1))).length := by rw [htk2, ← List.append_assoc]; omega
      exact ⟨(), by rw [make_long hz hlong]; rfl, hw.base, (hw.weak (List.nil_sublist _) (fun s hs => hs)).toNews⟩)
   | (have hk : k = ls.length := by omega
      rw [hk, List.take_length] at hI ⊢
      exact ⟨(), by rw [make_done hz hI.2]; rfl, hw.base, (hw.weak (List.nil_sublist _) (fun s hs => hs)).toNews⟩)
   | (trace_state; fail)
 refine aa ?_
 refine am ?_
 refine aK rfl ?_
 refine aZ ?_
 refine bV ?_
 refine am ?_
 refine ah ?_
 refine au (ak rfl) rfl rfl ?_
 refine au (cr rfl rfl (by omega) (by omega)) rfl rfl ?_
 refine au (aj rfl) rfl rfl ?_
 refine aa ?_
 refine cn (k + 1) ?_ ?_ ⟨rfl, lk rfl (by rw [htk2, List.append_assoc]), trivial⟩ (by repeat (first | exact trivial | refine ⟨rfl, ?_⟩)) (aJ 1)
 exact ⟨by omega, by rw [htk2, ← List.append_assoc]; omega⟩
 omega
 refine aa ?_
 refine am ?_
 refine aK rfl ?_
 refine cB ?_
 refine bl ?_
 refine bq ?_
 refine bA ?_
 refine am ?_
 refine ap ?_
 refine ah ?_
 refine au (ak rfl) rfl rfl ?_
 refine au (aj rfl) rfl rfl ?_
 refine au (aj rfl) rfl rfl ?_
 refine aa ?_
 refine am ?_
 refine aU ?_
 refine aX (ts := [2, 3]) rfl rfl rfl (fun w hw => ?_)
 focus first
   | (have hlong : 254 < (dw (ls.take (k + 1))).length := by rw [htk2, ← List.append_assoc]; omega
      exact ⟨(), by rw [make_long hz hlong]; rfl, hw.base, (hw.weak (List.nil_sublist _) (fun s hs => hs)).toNews⟩)
   | (have hk : k = ls.length := by omega
      rw [hk, List.take_length] at hI ⊢
      exact ⟨(), by rw [make_done hz hI.2]; rfl, hw.base, (hw.weak (List.nil_sublist _) (fun s hs => hs)).toNews⟩)
   | (trace_state; fail)

theorem fK {α : Type} {a b : List α} (d : α) {k : Nat} (ha : k < a.length) (hb : k < b.length) (h : a.take k = b.take k) (he : a.getD k d = b.getD k d) : a.take (k + 1) = b.take (k + 1) := by
  rw [dE a d k ha, dE b d k hb, h, he]
theorem ea {α : Type} {a b : List α} (d : α) {k : Nat} (he : a.getD k d ≠ b.getD k d) : a ≠ b := fun e => he (by rw [e])

end Go.Proofs.Ytnpdgmoeoidppaa

/- Octets compared, slices that are made: plain laws. -/
namespace Go.Proofs.Ytnpdgmoeoidppaa
open Go.RowKit Go.Shelf
set_option linter.unusedVariables false
set_option linter.unusedSimpArgs false

/-- Octets compared, one behind the other. -/
def dx : aW → aW → Int
  | [], [] => 0
  | [], _ :: _ => -1
  | _ :: _, [] => 1
  | a :: r, b :: t => if a < b then -1 else if b < a then 1 else dx r t
theorem cmpS_zero : ∀ {s t : aW}, dx s t = 0 ↔ s = t
  | [], [] => by simp [dx]
  | [], _ :: _ => by simp [dx]
  | _ :: _, [] => by simp [dx]
  | a :: r, b :: t => by
    have ih := cmpS_zero (s := r) (t := t)
    simp only [dx]
    split
    · rename_i h; simp; intro e; subst e; exact absurd h (UInt8.lt_irrefl _)
    · split
      · rename_i h; simp; intro e; subst e; exact absurd h (UInt8.lt_irrefl _)
      · rename_i h1 h2
        have : a = b := UInt8.le_antisymm (UInt8.not_lt.1 h2) (UInt8.not_lt.1 h1)
        simp [this, ih]
theorem ba_get (s : aW) (i : Nat) : (ba s)[i]! = s.getD i 0 := by
  by_cases h : i < s.length
  · have h' : i < (ba s).size := h
    simp [getElem!_pos, h', List.getD_eq_getElem?_getD, h]
    rfl
  · have h' : ¬ i < (ba s).size := h
    simp [getElem!_neg, h', List.getD_eq_getElem?_getD, h]
    rfl
theorem cmp_eq : ∀ s t : aW, Extern.BytealgCompare.cmp (ba s) (ba t) = dx s t
  | [], [] => rfl
  | [], b :: t => by
    simp [Extern.BytealgCompare.cmp, dx]
    have e1 : (ba ([] : aW)).size = 0 := rfl
    have e2 : (ba (b :: t)).size = t.length + 1 := rfl
    simp [e1, e2]
  | a :: r, [] => by
    simp [Extern.BytealgCompare.cmp, dx]
    have e1 : (ba ([] : aW)).size = 0 := rfl
    have e2 : (ba (a :: r)).size = r.length + 1 := rfl
    simp [e1, e2]
  | a :: r, b :: t => by
    have ih := cmp_eq r t
    have e1 : (ba (a :: r)).size = r.length + 1 := rfl
    have e2 : (ba (b :: t)).size = t.length + 1 := rfl
    have e3 : (ba r).size = r.length := rfl
    have e4 : (ba t).size = t.length := rfl
    simp only [Extern.BytealgCompare.cmp, e1, e2, e3, e4, Nat.add_min_add_right] at ih ⊢
    rw [Lib.find_range_succ]
    simp only [ba_get, List.getD_cons_zero, List.getD_cons_succ] at ih ⊢
    by_cases hab : a = b
    · subst hab
      simp only [bne_self_eq_false, dx, UInt8.lt_irrefl, if_false]
      simp only [Bool.false_eq_true, if_false]
      rw [← ih]
      cases hf : (List.range (min r.length t.length)).find? (fun i => r.getD i 0 != t.getD i 0) with
      | none => simp [hf]
      | some i => simp [hf]
    · have hne : (a != b) = true := by simpa using hab
      simp only [hne, if_true, dx]
      by_cases hlt : a < b
      · simp [hlt]
      · have : b < a := by
          rcases Nat.lt_or_gt_of_ne (fun h => hab (UInt8.toNat_inj.1 h)) with h | h
          · exact absurd (UInt8.lt_iff_toNat_lt.2 h) hlt
          · exact UInt8.lt_iff_toNat_lt.2 h
        simp [hlt, this]
theorem run_cmp {P : Program} (s t : aW) (w : World) : (Extern.BytealgCompare.compare #[.string (ba s), .string (ba t)]).run P w = .ok (.int .i64 (dx s t)) w := by
  rw [← cmp_eq]; rfl
/-! Slices that are made. -/
section
variable {x : Cx} {l : Fr} {L S : List Ch} {Q : Exit → Act → World → Prop} {ops : Array Oper} {rest : List Oper} {d : Nat} {ty : TypeId} {pos : String} {af : Array Edge} {gd : Option (Nat × Bool)}
end
end Go.Proofs.Ytnpdgmoeoidppaa

/- names that are the same; the laws of sums -/
namespace Go.Proofs.Ytnpdgmoeoidppaa
open Go.RowKit Go.Shelf
set_option linter.unusedVariables false
set_option linter.unusedSimpArgs false

theorem ent_134 : Enters Try.prog 134 := enters_of Try.func134 (by kernel_rfl) rfl
theorem ent_160 : Enters Try.prog 160 := enters_of Try.func160 (by kernel_rfl) rfl

theorem c_CompareString (s t : aW) : d4 Try.prog 160 #[.string (ba s), .string (ba t)] (.int .i64 (dx s t)) := by
 intro w0
 refine bR (ok0 := no) (S := []) (args := [.string (ba s), .string (ba t)]) 8 Try.func160 rfl rfl rfl (by simp) (by simp) ?_
 refine ap ?_
 refine ah ?_
 refine au (aj rfl) rfl rfl ?_
 refine aa ?_
 refine am ?_
 refine ap ?_
 refine ah ?_
 refine au (ak rfl) rfl rfl ?_
 refine au (ak rfl) rfl rfl ?_
 refine o_ext rfl (fun w => by rw [run_callFunc_extern Try.func173 (by kernel_rfl) (by kernel_rfl) (by kernel_rfl) (e := Extern.BytealgCompare.compare) (by kernel_rfl), run_cmp]; rfl) rfl ?_
 refine au (aj rfl) rfl rfl ?_
 refine aa ?_
 refine am ?_
 refine aU ?_
 refine aX (ts := [4]) rfl rfl rfl (fun w hw => ?_)
 exact ⟨rfl, hw.base⟩

theorem g8 (s t : aW) : d4 Try.prog 134 #[.string (ba s), .string (ba t)] (.int .i64 (dx s t)) := by
 intro w0
 refine bR (ok0 := no) (S := []) (args := [.string (ba s), .string (ba t)]) 8 Try.func134 rfl rfl rfl (by simp) (by simp) ?_
 refine ap ?_
 refine ah ?_
 refine au (aj rfl) rfl rfl ?_
 refine aa ?_
 refine am ?_
 refine ap ?_
 refine ah ?_
 refine au (ak rfl) rfl rfl ?_
 refine au (ak rfl) rfl rfl ?_
 refine bL rfl ent_160 (c_CompareString _ _) rfl ?_
 refine au (aj rfl) rfl rfl ?_
 refine aa ?_
 refine am ?_
 refine aU ?_
 refine aX (ts := [4]) rfl rfl rfl (fun w hw => ?_)
 exact ⟨rfl, hw.base⟩

theorem c_label_Compare (s t : aW) (hs : s.length ≤ 1000000000000) (ht : t.length ≤ 1000000000000) : d4 Try.prog 86 #[.string (ba s), .string (ba t)] (.int .i64 (dx (cG s) (cG t))) := by
 intro w0
 refine bR (ok0 := no) (S := []) (args := [.string (ba s), .string (ba t)]) 10 Try.func86 rfl rfl rfl (by simp) (by simp) ?_
 refine ap ?_
 refine ah ?_
 refine au (aj rfl) rfl rfl ?_
 refine aa ?_
 refine am ?_
 refine ap ?_
 refine ah ?_
 refine au (ak rfl) rfl rfl ?_
 refine bL rfl ent_103 (fx _ (by omega)) rfl ?_
 refine au (ak rfl) rfl rfl ?_
 refine bL rfl ent_103 (fx _ (by omega)) rfl ?_
 refine bL rfl ent_134 (g8 _ _) rfl ?_
 refine au (aj rfl) rfl rfl ?_
 refine aa ?_
 refine am ?_
 refine aU ?_
 refine aX (ts := [4]) rfl rfl rfl (fun w hw => ?_)
 exact ⟨rfl, hw.base⟩

theorem bD {α : Type} {l : List α} {d : α} {k : Nat} (h : k < l.length) : l.getD k d ∈ l := by
  rw [List.getD_eq_getElem?_getD, List.getElem?_eq_getElem h]; exact List.getElem_mem h
theorem okN_low {n : aW} (h : okN n = true) : okN (cG n) = true := by
  have e := fR (ey n) (dW n)
  rw [eM n h] at e
  rw [← e]
  refine (e7 _ ?_).1
  intro s hs
  obtain ⟨t, ht, rfl⟩ := List.mem_map.1 hs
  rw [dv]; exact dW n t ht
theorem nameCk_low {n : aW} (h : bi n = 0) : bi (cG n) = 0 := by
  obtain ⟨h1, h2⟩ := nameCk_zero.1 h
  exact nameCk_zero.2 ⟨by rw [dv]; exact h1, okN_low h2⟩
end Go.Proofs.Ytnpdgmoeoidppaa

/- Structs and arrays compared. -/
namespace Go.Proofs.Ytnpdgmoeoidppaa
open Go.RowKit Go.Shelf
set_option linter.unusedVariables false
set_option linter.unusedSimpArgs false

/-- An equality that the model settles so from some depth on. -/
def EqD (P : Program) (n : Nat) (t : TypeId) (v u : Value) (b : Bool) : Prop := ∀ d w, (Op.equalIn (d + n) t v u).run P w = .ok b w
def EqF (P : Program) (n : Nat) (xs ys : Array Value) (fs : List Field) (b : Bool) : Prop := ∀ d w, (Op.eqFields (d + n) xs ys fs).run P w = .ok b w
section
variable {P : Program} {n m : Nat} {t : TypeId} {xs ys : Array Value} {f : Field} {fs : List Field} {v u : Value} {r s : Bool}
theorem EqD.up (h : EqD P m t v u r) (hm : m ≤ n) : EqD P n t v u r := fun d w => by
  obtain ⟨k, rfl⟩ : ∃ k, n = k + m := ⟨n - m, by omega⟩
  rw [← Nat.add_assoc]; exact h _ w
theorem eqd_int {k k' : IntKind} {a b : Int} (h : P.underlying t = some (.int k')) : EqD P 1 t (.int k a) (.int k b) (a == b) := fun d w => run_equalIn_int w d t k k' a b h
theorem eqd_bool {a b : Bool} (h : P.underlying t = some .bool) : EqD P 1 t (.bool a) (.bool b) (a == b) := fun d w => run_equalIn_bool' w d t a b h
theorem eqf_nil : EqF P n xs ys [] true := fun d w => by simp [Op.eqFields]
theorem eqf_cons (hn : (f.name == "_") = false) (ha : ∀ w, (part f.type xs f.offset).run P w = .ok v w) (hb : ∀ w, (part f.type ys f.offset).run P w = .ok u w) (he : EqD P m f.type v u r) (hm : Nat.ble m n = true) (hr : EqF P n xs ys fs s) : EqF P n xs ys (f :: fs) (r && s) := fun d w => by
  have hn' : f.name ≠ "_" := by simpa using hn
  rw [Op.eqFields]
  simp only [if_pos hn', Sem.run_bind, ha, hb, (he.up (Nat.le_of_ble_eq_true hm)) d w, Result.andThen_ok]
  cases r
  · simp
  · simpa using hr d w
theorem eqd_struct {fa : Array Field} (hu : P.underlying t = some (.struct fa)) (hp : P.stoodInHeld t = false) (h : EqF P n xs ys fa.toList r) : EqD P (n + 1) t (.agg xs) (.agg ys) r := fun d w => by
  have hf : P.fieldsOf t = fa := by simp [Program.fieldsOf, hu]
  rw [← Nat.add_assoc, run_equalIn_struct (P := P) w (d + n) t xs ys (by rw [hf]; exact hu) hp, hf]
  exact h d w
end
section
variable {x : Cx} {l : Fr} {L S : List Ch} {d : Nat} {ty : TypeId} {pos : String} {af : Array Edge} {gd : Option (Nat × Bool)}
theorem y_nest {y z : Operand} {xs ys : Array Value} {b : Bool} {yt zt : TypeId} {n : Nat} (hm : x.P.eqGuardType x.P.depth yt = false) (hy : ev l y = some (.agg xs)) (hz : ev l z = some (.agg ys)) (h : EqD x.P n yt (.agg xs) (.agg ys) b) (hn : Nat.ble n 10000 = true) :
    Yv x l L S ⟨some d, .binOp .neq yt y z zt, ty, pos, af, gd⟩ (.bool (!b)) := fun a w ha hw => by
  have he : (Op.equalIn 10000 yt (.agg xs) (.agg ys)).run x.P w = .ok b w := by
    obtain ⟨k, hk⟩ : ∃ k, 10000 = k + n := ⟨10000 - n, by have := Nat.le_of_ble_eq_true hn; omega⟩
    rw [hk]; exact h k w
  simp only [execOp, ha.ev hy, ha.ev hz]
  simp [run_eqGuard_agg w .neq yt y z xs ys hm, run_neq_struct, he]
theorem y_nestd {y z : Operand} {xs ys : Array Value} {p : Prop} [Decidable p] {yt zt : TypeId} {n : Nat} (hm : x.P.eqGuardType x.P.depth yt = false) (hy : ev l y = some (.agg xs)) (hz : ev l z = some (.agg ys)) (h : EqD x.P n yt (.agg xs) (.agg ys) (decide p)) (hn : Nat.ble n 10000 = true) :
    Yv x l L S ⟨some d, .binOp .neq yt y z zt, ty, pos, af, gd⟩ (.bool (decide (¬ p))) := (y_nest hm hy hz h hn).eq (by rw [decide_not])
end
end Go.Proofs.Ytnpdgmoeoidppaa

/- Maps. -/
namespace Go.Proofs.Ytnpdgmoeoidppaa
open Go.RowKit Go.Shelf
set_option linter.unusedVariables false
set_option linter.unusedSimpArgs false
set_option linter.unusedSectionVars false

/-- The first entry of a key. -/
def fk {α : Type} [DecidableEq α] (a : α) : List α → List MapEntry → Nat → Option (Nat × Value)
  | b :: bs, e :: es, i => if a = b then some (i, e.val) else fk a bs es (i + 1)
  | _, _, _ => none
theorem beq_ba (a b : aW) : ((ba a) == (ba b)) = decide (a = b) := by
  rw [beq_toListBytes, eI, eI, Bool.eq_iff_iff]; simp
/-- How keys are compared. -/
structure KeyL {α : Type} [DecidableEq α] (P : Program) (kt : TypeId) (encK : α → Value) : Prop where
  chk : ∀ (e : Bool) (a : α) (w : World), (Instr.checkKey e 10000 kt (encK a)).run P w = .ok () w
  find : ∀ (a : α) (bs : List α) (es : List MapEntry) (w : World), es.map (·.key) = bs.map encK → (Instr.findKey kt (encK a) es).run P w = .ok (fk a bs es 0) w
  same : ∀ a : α, Instr.sameBits 10000 (encK a) (encK a) = true
theorem hJ {P : Program} {kt : TypeId} (h : P.underlying kt = some .string) : KeyL P kt (fun s : aW => .string (ba s)) where
  chk e a w := by
    have hk : ∀ n, (Instr.checkKey e (n + 1) kt (.string (ba a))).run P w = .ok () w := fun n => by simp [Instr.checkKey, run_underlying h]
    exact hk 9999
  find a bs es w he := by
    have key : ∀ (bs : List aW) (es : List MapEntry) (i : Nat), es.map (·.key) = bs.map (fun s : aW => Value.string (ba s)) → Instr.findNow .string (.string (ba a)) es i = some (fk a bs es i) := by
      intro bs
      induction bs with
      | nil => intro es i he; cases es <;> simp_all [Instr.findNow, fk]
      | cons b bs ih =>
        intro es i he
        cases es with
        | nil => simp at he
        | cons e es =>
          simp only [List.map_cons, List.cons.injEq] at he
          have hb : ((ba a) == (ba b)) = decide (a = b) := by
            rw [beq_ba]
          simp only [Instr.findNow, he.1, Instr.sameNow, hb, fk]
          by_cases hab : a = b
          · simp [hab]
          · simp [hab, ih es (i + 1) he.2]
    simp [Instr.findKey, run_underlying h, key bs es 0 he]
  same a := by
    have h1 : (ba a == ba a) = true := by rw [beq_ba]; simp
    simpa [Instr.sameBits] using h1
/-- A struct's key. -/
theorem keyl_agg {α : Type} [DecidableEq α] {P : Program} {kt : TypeId} {fs : Array Field} {cs : α → List Value} {n : Nat} (h : P.underlying kt = some (.struct fs)) (hc : ∀ (e : Bool) (a : α) (w : World), (Instr.checkKey e 10000 kt (.agg (cs a).toArray)).run P w = .ok () w)
    (he : ∀ a b : α, EqD P n kt (.agg (cs a).toArray) (.agg (cs b).toArray) (decide (a = b))) (hn : Nat.ble n 10000 = true) (hs : ∀ a, Instr.sameBits 10000 (.agg (cs a).toArray) (.agg (cs a).toArray) = true) : KeyL P kt (fun a : α => .agg (cs a).toArray) where
  chk := hc
  find a bs es w hk := by
    have key : ∀ (bs : List α) (es : List MapEntry) (i : Nat) (w : World), es.map (·.key) = bs.map (fun a : α => Value.agg (cs a).toArray) → (Instr.findAsking kt (.agg (cs a).toArray) es i).run P w = .ok (fk a bs es i) w := by
      intro bs
      induction bs with
      | nil => intro es i w he; cases es <;> simp_all [Instr.findAsking, fk]
      | cons b bs ih =>
        intro es i w hes
        cases es with
        | nil => simp at hes
        | cons e es =>
          simp only [List.map_cons, List.cons.injEq] at hes
          have hq : (Op.equal kt (.agg (cs a).toArray) (.agg (cs b).toArray)).run P w = .ok (decide (a = b)) w := by
            obtain ⟨k, hk⟩ : ∃ k, 10000 = k + n := ⟨10000 - n, by have := Nat.le_of_ble_eq_true hn; omega⟩
            show (Op.equalIn 10000 kt _ _).run P w = _
            rw [hk]; exact he a b k w
          simp only [Instr.findAsking, hes.1, Sem.run_bind, hq, Result.andThen_ok, fk]
          by_cases hab : a = b
          · simp [hab]
          · simp [hab, ih es (i + 1) w hes.2]
    cases bs with
    | nil =>
      have : es = [] := by cases es <;> simp_all
      subst this
      simp [Instr.findKey, run_underlying h, Instr.findNow, fk]
    | cons b bs =>
      cases es with
      | nil => simp at hk
      | cons e es =>
        have h1 : e.key = .agg (cs b).toArray := (List.cons.inj hk).1
        have hnow : Instr.findNow (.struct fs) (.agg (cs a).toArray) (e :: es) 0 = none := by simp [Instr.findNow, h1, Instr.sameNow]
        simp only [Instr.findKey, Sem.run_bind, run_underlying h, Result.andThen_ok, hnow]
        exact key (b :: bs) (e :: es) 0 w hk
  same := hs
/-- A map's pairs: another value for a key, or one more. -/
def upd {α β : Type} [DecidableEq α] : List (α × β) → α → β → List (α × β)
  | [], a, v => [(a, v)]
  | (b, u) :: r, a, v => if a = b then (b, v) :: r else (b, u) :: upd r a v
def lkp {α β : Type} [DecidableEq α] : List (α × β) → α → Option β
  | [], _ => none
  | (b, u) :: r, a => if a = b then some u else lkp r a
def rmv {α β : Type} [DecidableEq α] : List (α × β) → α → List (α × β)
  | [], _ => []
  | (b, u) :: r, a => if a = b then r else (b, u) :: rmv r a
structure MpP {α β : Type} (r : Nat) (encK : α → Value) (encV : β → Value) (m : List (α × β)) (w : World) : Prop where
  at_ : ∃ es clock, w.heap[r]? = some (.map es clock) ∧ es.toList.map (·.key) = m.map (fun p => encK p.1) ∧ es.toList.map (·.val) = m.map (fun p => encV p.2) ∧ (es.toList.map (·.born)).Nodup ∧ ∀ e ∈ es.toList, e.born < clock
def Ch.mp {α β : Type} (r : Nat) (encK : α → Value) (encV : β → Value) (m : List (α × β)) : Ch :=
  ⟨fun k => k = r, MpP r encK encV m, fun w w' ⟨es, c, h1, h2⟩ hk => ⟨es, c, (hk r rfl).trans h1, h2⟩⟩
section
variable {α β : Type} [DecidableEq α] {encK : α → Value} {encV : β → Value}
theorem fk_lkp (a : α) : ∀ (m : List (α × β)) (es : List MapEntry) (i : Nat), es.map (·.val) = m.map (fun p => encV p.2) → (fk a (m.map (·.1)) es i).map (·.2) = (lkp m a).map encV
  | [], es, i, h => by cases es <;> simp_all [fk, lkp]
  | (b, u) :: m, [], i, h => by simp at h
  | (b, u) :: m, e :: es, i, h => by
    simp only [List.map_cons, List.cons.injEq] at h
    simp only [List.map_cons, fk, lkp]
    by_cases hab : a = b
    · simp [hab, h.1]
    · simp [hab, fk_lkp a m es (i + 1) h.2]
theorem fk_none (a : α) : ∀ (m : List (α × β)) (es : List MapEntry) (i : Nat), es.length = m.length → fk a (m.map (·.1)) es i = none → ∀ v : β, upd m a v = m ++ [(a, v)]
  | [], es, i, _, h => fun v => rfl
  | (b, u) :: m, [], i, hl, h => by simp at hl
  | (b, u) :: m, e :: es, i, hl, h => fun v => by
    simp only [List.map_cons, fk] at h
    by_cases hab : a = b
    · rw [if_pos hab] at h; cases h
    · rw [if_neg hab] at h
      simp only [upd, if_neg hab, List.cons_append]
      rw [fk_none a m es (i + 1) (by simpa using hl) h v]
theorem fk_some (a : α) : ∀ (m : List (α × β)) (es : List MapEntry) (i j : Nat) (u : Value), es.length = m.length → fk a (m.map (·.1)) es i = some (j, u) → i ≤ j ∧ (∃ e, es[j - i]? = some e) ∧ ((m.map (·.1))[j - i]? = some a) ∧
    ∀ v : β, (upd m a v).map (·.1) = m.map (·.1) ∧ (upd m a v).map (fun p => encV p.2) = (m.map (fun p => encV p.2)).set (j - i) (encV v) ∧ (rmv m a) = m.eraseIdx (j - i)
  | [], es, i, j, u, _, h => by simp [fk] at h
  | (b, v0) :: m, [], i, j, u, hl, h => by simp at hl
  | (b, v0) :: m, e :: es, i, j, u, hl, h => by
    simp only [List.map_cons, fk] at h
    by_cases hab : a = b
    · rw [if_pos hab] at h
      cases h
      subst hab
      simp [upd, rmv]
    · rw [if_neg hab] at h
      obtain ⟨h1, h2, h3, h4⟩ := fk_some a m es (i + 1) j u (by simpa using hl) h
      have hj : j - i = (j - (i + 1)) + 1 := by omega
      refine ⟨by omega, by rw [hj]; simpa using h2, by rw [hj]; simpa using h3, fun v => ?_⟩
      obtain ⟨h5, h6, h7⟩ := h4 v
      rw [hj]
      simp [upd, rmv, hab, h5, h6, h7]
end
section
variable {x : Cx} {l : Fr} {L S : List Ch} {Q : Exit → Act → World → Prop} {ops : Array Oper} {rest : List Oper} {d : Nat} {ty : TypeId} {pos : String} {af : Array Edge} {gd : Option (Nat × Bool)}
variable {α β : Type} [DecidableEq α] {encK : α → Value} {encV : β → Value}
theorem o_makeMap (encK : α → Value) (encV : β → Value) {t : TypeId} (hN : Nat.blt d x.N = true) (k : ∀ r, WL x ((d, .map (some r)) :: l) (Ch.mp r encK encV ([] : List (α × β)) :: L) S ops rest Q) : WL x l L S ops (⟨some d, .makeMap t none, ty, pos, af, none⟩ :: rest) Q :=
  fF (fun r => .map (some r)) (fun r => Ch.mp r encK encV ([] : List (α × β)) :: L) (fun _ => S) rfl rfl (fun _ => nofun) hN
    (fun a w ha hw => ⟨w.heap.size, w.alloc (.map #[] 0), by simp [execOp, Instr.makeMap], hw.fresh (Upd.alloc w _) _ ⟨#[], 0, World.alloc_heap_new w _, rfl, rfl, by simp, by simp⟩ (fun b hb => Nat.le_of_eq hb.symm) (fun b hb => by rw [show b = w.heap.size from hb]; simp)⟩) k
theorem MpP.find {P : Program} {kt : TypeId} {r : Nat} {m : List (α × β)} {w : World} (h : MpP r encK encV m w) (hk : KeyL P kt encK) (a : α) : ∃ es clock, w.heap[r]? = some (.map es clock) ∧ (Instr.findKey kt (encK a) es.toList).run P w = .ok (fk a (m.map (·.1)) es.toList 0) w ∧ (fk a (m.map (·.1)) es.toList 0).map (·.2) = (lkp m a).map encV := by
  obtain ⟨es, c, h1, h2, h3, _⟩ := h.at_
  exact ⟨es, c, h1, hk.find a (m.map (·.1)) es.toList w (by rw [h2, List.map_map]; rfl), fk_lkp a m es.toList 0 h3⟩
theorem y_lookup {t kt et : TypeId} {y z : Operand} {r : Nat} {m : List (α × β)} {a : α} {agg : Bool} {sz bytes : Nat} {zv : Value} (ht : x.P.underlying t = some (.map kt et)) (hk : KeyL x.P kt encK) (he : TyI x.P et agg sz bytes zv) (hy : ev l y = some (.map (some r))) (hz : ev l z = some (encK a)) (hm : ∀ w, Hp x.ok0 x.w0 L S w → MpP r encK encV m w) :
    Yv x l L S ⟨some d, .lookup t y z false, ty, pos, af, gd⟩ (((lkp m a).map encV).getD zv) := fun ac w hac hw => by
  obtain ⟨es, c, h1, h2, h3⟩ := (hm w hw).find hk a
  simp only [execOp, hac.ev hy, hac.ev hz]
  cases hf : fk a (m.map (·.1)) es.toList 0 with
  | none =>
    rw [hf] at h2 h3
    have h4 : lkp m a = none := by simpa using h3.symm
    simp [Instr.lookup, run_underlying ht, getObj, Sem.run, h1, hk.chk, h2, he.zero, h4, Result.andThen]
  | some p =>
    obtain ⟨j, v⟩ := p
    rw [hf] at h2 h3
    have h4 : (lkp m a).map encV = some v := by simpa using h3.symm
    simp [Instr.lookup, run_underlying ht, getObj, Sem.run, h1, hk.chk, h2, h4, Result.andThen]
theorem upd_some {es : List MapEntry} {m : List (α × β)} {a : α} {j : Nat} {u : Value} {v : β} (h2 : es.map (·.key) = m.map (fun p => encK p.1)) (h3 : es.map (·.val) = m.map (fun p => encV p.2)) (hf : fk a (m.map (·.1)) es 0 = some (j, u)) :
    (∃ e, es[j]? = some e ∧ e.key = encK a) ∧ (es.modify j fun e => { e with key := encK a, val := encV v }).map (·.key) = (upd m a v).map (fun p => encK p.1) ∧ (es.modify j fun e => { e with key := encK a, val := encV v }).map (·.val) = (upd m a v).map (fun p => encV p.2) ∧
      (es.modify j fun e => { e with key := encK a, val := encV v }).map (·.born) = es.map (·.born) := by
  have hl : es.length = m.length := by have := congrArg List.length h2; simpa using this
  obtain ⟨_, ⟨e, he⟩, hm, hq⟩ := fk_some (encV := encV) a m es 0 j u hl hf
  obtain ⟨q1, q2, q3⟩ := hq v
  simp only [Nat.sub_zero] at he hm q1 q2 q3
  have hek : e.key = encK a := by
    have h5 := congrArg (fun l : List Value => l[j]?) h2
    simp only [List.getElem?_map, he] at h5
    rw [List.getElem?_map] at hm
    cases hmj : m[j]? with
    | none => rw [hmj] at hm; cases hm
    | some p => rw [hmj] at hm h5; simp at hm h5; rw [h5, hm]
  have hk1 : (upd m a v).map (fun p => encK p.1) = m.map (fun p => encK p.1) := by
    have := congrArg (List.map encK) q1
    rw [List.map_map, List.map_map] at this
    exact this
  refine ⟨⟨e, he, hek⟩, ?_, ?_, ?_⟩
  · rw [hk1, ← h2]
    apply List.ext_getElem?
    intro i
    simp only [List.getElem?_map, List.getElem?_modify]
    by_cases hij : j = i
    · subst hij; simp [he, hek]
    · simp [hij]
  · rw [q2, ← h3]
    apply List.ext_getElem?
    intro i
    simp only [List.getElem?_map, List.getElem?_modify, List.getElem?_set]
    by_cases hij : j = i
    · subst hij
      have := (List.getElem?_eq_some_iff.1 he).1
      simp [he, this]
    · simp [hij]
  · apply List.ext_getElem?
    intro i
    simp only [List.getElem?_map, List.getElem?_modify]
    by_cases hij : j = i
    · subst hij; simp [he]
    · simp [hij]
theorem o_mapUpd {t kt et : TypeId} {y z u : Operand} {r i : Nat} {m : List (α × β)} {a : α} {v : β} {L' : List Ch} (ht : x.P.underlying t = some (.map kt et)) (hk : KeyL x.P kt encK) (hy : ev l y = some (.map (some r))) (hz : ev l z = some (encK a)) (hu : ev l u = some (encV v)) (hi : SetAt L i (Ch.mp r encK encV m) (Ch.mp r encK encV (upd m a v)) L')
    (k : WL x l L' S ops rest Q) : WL x l L S ops (⟨none, .mapUpdate t y z u, ty, pos, af, none⟩ :: rest) Q :=
  wl_unit rfl rfl (fun _ => nofun) (fun ac w hac hw => by
    obtain ⟨es, c, h1, h2, h3, h4, h5⟩ := (show MpP r encK encV m w from hw.own _ hi.mem).at_
    have hfind := hk.find a (m.map (·.1)) es.toList w (by rw [h2, List.map_map]; rfl)
    have hlt : r < w.heap.size := (Array.getElem?_eq_some_iff.1 h1).1
    cases hf : fk a (m.map (·.1)) es.toList 0 with
    | none =>
      rw [hf] at hfind
      have hl : es.toList.length = m.length := by have := congrArg List.length h2; simpa using this
      have hupd := fk_none a m es.toList 0 hl hf v
      refine ⟨w.putObj r (.map (es.push { key := encK a, val := encV v, born := c }) (c + 1)), ?_, hw.upd hi ⟨rfl, rfl, rfl, by simp, fun k _ hn => World.putObj_heap_other (fun e => hn e), Nat.le_refl _⟩ ?_ (fun b hb => .inl hb)⟩
      · simp [execOp, hac.ev hy, hac.ev hz, hac.ev hu, Instr.mapUpdate, run_underlying ht, getObj, setObj, Sem.run, h1, hk.chk, hfind, Result.andThen, World.putObj]
      · refine ⟨_, _, World.putObj_heap_same hlt, ?_, ?_, ?_, ?_⟩
        · rw [hupd]; simp [h2]
        · rw [hupd]; simp [h3]
        · simp only [Array.toList_push, List.map_append, List.map_cons, List.map_nil]
          rw [List.nodup_append]
          refine ⟨h4, by simp, ?_⟩
          intro b hb c' hc'
          simp at hc'
          obtain ⟨e, he, rfl⟩ := List.mem_map.1 hb
          have := h5 e he
          omega
        · intro e he
          simp only [Array.toList_push, List.mem_append, List.mem_singleton] at he
          rcases he with he | rfl
          · have := h5 e he; omega
          · simp
    | some p =>
      obtain ⟨j, u0⟩ := p
      rw [hf] at hfind
      obtain ⟨⟨e, he, hek⟩, q1, q2, q3⟩ := upd_some (v := v) h2 h3 hf
      have he' : es[j]? = some e := by simpa using he
      have hstay : (Instr.keyThatStays e.key (encK a)).run x.P w = .ok (encK a) w := by
        rw [hek]; simp [Instr.keyThatStays, hk.same]
      refine ⟨w.putObj r (.map (es.modify j fun e => { e with key := encK a, val := encV v }) c), ?_, hw.upd hi ⟨rfl, rfl, rfl, by simp, fun k _ hn => World.putObj_heap_other (fun e => hn e), Nat.le_refl _⟩ ?_ (fun b hb => .inl hb)⟩
      · simp [execOp, hac.ev hy, hac.ev hz, hac.ev hu, Instr.mapUpdate, run_underlying ht, getObj, setObj, Sem.run, h1, hk.chk, hfind, he', hstay, Result.andThen, World.putObj]
      · refine ⟨_, _, World.putObj_heap_same hlt, by simpa using q1, by simpa using q2, by rw [Array.toList_modify, q3]; exact h4, ?_⟩
        intro e2 he2
        have hb : e2.born ∈ es.toList.map (·.born) := by
          rw [← q3, ← Array.toList_modify]; exact List.mem_map.2 ⟨e2, he2, rfl⟩
        obtain ⟨e3, h6, h7⟩ := List.mem_map.1 hb
        rw [← h7]; exact h5 e3 h6) k
end
end Go.Proofs.Ytnpdgmoeoidppaa

/- Addresses, records, entries: plain laws. -/
namespace Go.Proofs.Ytnpdgmoeoidppaa
open Go.RowKit Go.Shelf
set_option linter.unusedVariables false
set_option linter.unusedSimpArgs false

/-- An address. -/
structure Ad where
  six : Bool
  hi : Int
  lo : Int
  deriving DecidableEq
def gS (a : Ad) : List Value := [.bool a.six, .int .u64 a.hi, .int .u64 a.lo]
theorem enc_ad : Enc gS 3 := ⟨fun _ => rfl, fun _ => rfl⟩
def ad0 : Ad := ⟨false, 0, 0⟩
/-- A record's data (without texts). -/
structure Dt where
  ad : Ad
  name : aW
  mail : aW
  n0 : Int
  n1 : Int
  n2 : Int
  n3 : Int
  n4 : Int
  raw : aW
  deriving DecidableEq
/-- A record. -/
structure Rc where
  name : aW
  ty : Int
  cl : Int
  ttl : Int
  dt : Dt
  deriving DecidableEq
/-- An entry; where its slices lie stands beside. -/
structure En where
  host : aW
  kind : Int
  cluster : aW
  addrs : List Ad
  alias : aW
  ports : List Int
  ttl : Int
  deriving DecidableEq
def enC (e : En) (A B : Option Addr) (c d : Nat) : List Value := [.string (ba e.host), .int .i64 e.kind, .string (ba e.cluster), .slice A e.addrs.length c, .string (ba e.alias), .slice B e.ports.length d, .int .u32 e.ttl]

/-- addr.Check. -/
def fH (a : Ad) : Int := if a.six = false ∧ (a.hi ≠ 0 ∨ 4294967296 ≤ a.lo) then 2 else 0
theorem shr32 {n : Int} (h : 0 ≤ n) : (n.fdiv (2 ^ min (32 : Int).toNat IntKind.u64.bits) ≠ 0) ↔ 4294967296 ≤ n := by
  have e : (2 : Int) ^ min (32 : Int).toNat IntKind.u64.bits = 4294967296 := by decide
  rw [e, Int.fdiv_eq_ediv_of_nonneg _ (by decide)]
  omega
/-- name.Wild. -/
def wildN (n : aW) : Bool := decide (bi n = 0) && decide ([1, 42] <+: n)
/-- entry.ports. -/
def portOk (l : List Int) (i : Nat) : Prop := 1 ≤ l.getD i 0 ∧ l.getD i 0 ≤ 65535 ∧ (0 < i → l.getD (i - 1) 0 < l.getD i 0)
instance (l : List Int) (i : Nat) : Decidable (portOk l i) := by unfold portOk; infer_instance
def gk (l : List Int) : Bool := decide (∀ i, i < l.length → portOk l i) && decide (l.length ≤ 8)
/-- entry.addrs. -/
def adOk (l : List Ad) (i : Nat) : Prop := fH (l.getD i ad0) = 0 ∧ ∀ j, j < i → l.getD i ad0 ≠ l.getD j ad0
instance (l : List Ad) (i : Nat) : Decidable (adOk l i) := by unfold adOk; infer_instance
def adsOk (l : List Ad) : Bool := decide (∀ i, i < l.length → adOk l i) && decide (1 ≤ l.length) && decide (l.length ≤ 8)
/-- entry.may, entry.Check. -/
def a8 (e : En) : Bool :=
  if e.kind = 1 then adsOk e.addrs && decide (e.alias = []) && decide (eC e.cluster = 0)
  else if e.kind = 2 then decide (e.addrs.length = 0) && decide (e.alias = []) && decide (eC e.cluster = 0)
  else if e.kind = 3 then decide (e.addrs.length = 0) && decide (e.ports.length = 0) && decide (e.cluster = []) && decide (e.alias ≠ []) && decide (bi e.alias = 0) && !wildN e.alias
  else false
def cM (e : En) : Int := if bi e.host ≠ 0 then bi e.host else if e.host = [] ∨ 2147483647 < e.ttl ∨ gk e.ports = false ∨ a8 e = false then 2 else 0
def each {α : Type} (D : α → Dt) (B : α → Bool) (r : Rc) (l : List α) : List Rc := (l.filter B).map fun a => { r with dt := D a }
end Go.Proofs.Ytnpdgmoeoidppaa
