import Derived.Test.YtnpdgmoeoidppaaGreatLoQa
/- search: iY, checks, candidates -/
namespace Go.Proofs.YtnpdgmoeoidppaaGreat
open Go.RowKit Go.Shelf
set_option linter.unusedVariables false
set_option linter.unusedSimpArgs false

theorem ent_150 : Enters Tryz.prog 150 := enters_of Tryz.func150 (by kernel_rfl) rfl
theorem ty_40 : TyI Tryz.prog 40 false 1 8 (.int .i64 0) := TyI.mk' (by kernel_rfl) (fun _ => by kernel_rfl)

/-- The first that is not zero. -/
def orI : List Int → Int
  | [] => 0
  | a :: r => if a ≠ 0 then a else orI r

theorem c_Or (l : List Int) (A : Option Addr) (c : Nat) (hl : l.length ≤ 1000000000000) : RC Tryz.prog 150 #[.slice A l.length c] [Ch.rd A 1 eX l] (α := Unit) (fun _ => .int .i64 (orI l)) (fun _ => []) := by
 refine bx (args := [.slice A l.length c]) 18 Tryz.func150 rfl rfl rfl (fun w0 => ?_)
 refine ar ?_
 refine ai ?_
 refine au (ao rfl) rfl rfl ?_
 refine ah ?_
 refine aq ?_
 refine ar ?_
 refine ai ?_
 refine au (ao rfl) rfl rfl ?_
 refine ah ?_
 refine aq ?_
 refine ar ?_
 refine ar ?_
 refine ai ?_
 refine au (ap rfl) rfl rfl ?_
 refine au (bg Tryz.underlying180 rfl) rfl rfl ?_
 refine au (ap rfl) rfl rfl ?_
 refine ah ?_
 refine aq ?_
 refine aW ?_
 refine bV (σ := Nat) [2, 5, 8, 9, 10, 11, 12, 13, 14, 15, 16] (fun k => k ≤ l.length ∧ orI l = orI (l.drop k)) (fun k => l.length - k) (fun k => [(8, .int .i64 k)]) (0) ?_ ⟨rfl, trivial⟩ (fun k hI => ?_)
 exact ⟨Nat.zero_le _, rfl⟩
 refine ar ?_
 refine ai ?_
 refine au (bI rfl rfl) rfl rfl ?_
 refine aB (t := 9) rfl (fun h3_0 => ?_) (fun h3_0 => ?_)
 refine ah ?_
 refine aq ?_
 refine ar ?_
 refine aA rfl ?_
 refine aS ?_
 refine aq ?_
 refine ar ?_
 refine aW ?_
 refine ar ?_
 refine ai ?_
 refine au (bz  Tryz.underlying180 ty_40 rfl rfl (bE 0 rfl) rfl (by omega)) rfl rfl ?_
 refine au (cf ga (0 : Int) ty_40 rfl (bE 0 rfl) (by omega) rfl rfl) rfl rfl ?_
 refine au (ao rfl) rfl rfl ?_
 refine ah ?_
 refine aq ?_
 refine ar ?_
 refine ai ?_
 refine au (ap rfl) rfl rfl ?_
 refine au (ap rfl) rfl rfl ?_
 refine au (bX rfl rfl) rfl rfl ?_
 refine aB (t := 14) rfl (fun h5_2 => ?_) (fun h5_2 => ?_)
 refine ah ?_
 refine aq ?_
 refine aA rfl ?_
 refine ar ?_
 refine ai ?_
 refine au (ap rfl) rfl rfl ?_
 refine au (ao rfl) rfl rfl ?_
 refine ah ?_
 refine aq ?_
 refine aQ ?_
 refine aK ?_
 refine ay ?_
 refine a9 ?_
 refine aK ?_
 refine ay ?_
 refine aV (ts := [2]) rfl rfl rfl (fun w hw => ?_)
 have hk : k < l.length := by omega
 have hdk := cG l 0 k hk
 exact ⟨(), by rw [hI.2, hdk, orI, if_pos h5_2]; rfl, hw.base, (hw.weak (List.nil_sublist _) (fun s hs => hs)).toNews⟩
 refine ah ?_
 refine aq ?_
 refine aC rfl ?_
 refine aS ?_
 refine bo ?_
 refine aq ?_
 refine ai ?_
 refine au (bl rfl rfl (by omega) (by omega)) rfl rfl ?_
 refine au (ap rfl) rfl rfl ?_
 refine ah ?_
 have hk : k < l.length := by omega
 have hdk := cG l 0 k hk
 refine bq (k + 1) ?_ ?_ ⟨rfl, trivial⟩ (by repeat (first | exact trivial | refine ⟨rfl, ?_⟩)) aE
 exact ⟨by omega, by rw [hI.2, hdk, orI, if_neg h5_2]⟩
 omega
 refine ah ?_
 refine aq ?_
 refine ar ?_
 refine aC rfl ?_
 refine bw ?_
 refine aY ?_
 refine aZ ?_
 refine a7 ?_
 refine aq ?_
 refine ar ?_
 refine ai ?_
 refine au (ap rfl) rfl rfl ?_
 refine au (ao rfl) rfl rfl ?_
 refine ah ?_
 refine aq ?_
 refine aQ ?_
 refine aV (ts := [2]) rfl rfl rfl (fun w hw => ?_)
 exact ⟨(), by rw [hI.2, List.drop_of_length_le (by omega)]; rfl, hw.base, (hw.weak (List.nil_sublist _) (fun s hs => hs)).toNews⟩

theorem gO {a b : bf} (h : ei a b ≠ 0) : joinN a b = [] := if_neg h
theorem iS {a b : bf} (h : ei a b = 0) : joinN a b = a ++ b := if_pos h
theorem or2 (a b : bf) : orI [a8 a, a8 b] = if a8 a ≠ 0 then a8 a else a8 b := by
  simp only [orI]
  split
  · rfl
  · split
    · rfl
    · omega
theorem joinE_or {a b : bf} (h : orI [a8 a, a8 b] ≠ 0) : ei a b = orI [a8 a, a8 b] := by
  rw [or2] at h ⊢
  unfold ei
  split
  · rfl
  · rename_i h1
    rw [if_neg h1] at h
    rw [if_pos h]
theorem fX {a b : bf} (h : ¬ orI [a8 a, a8 b] ≠ 0) : ei a b = if 254 < a.length + b.length then 3 else 0 := by
  rw [or2] at h
  unfold ei
  by_cases h1 : a8 a ≠ 0
  · rw [if_pos h1] at h; omega
  · rw [if_neg h1] at h
    rw [if_neg h1, if_neg h]

theorem c_name_Join (a b : bf) (ha : a.length ≤ 1000000000000) (hb : b.length ≤ 1000000000000) : RC Tryz.prog 81 #[.string (ba a), .string (ba b)] [] (α := Unit) (fun _ => .tuple #[.string (ba (joinN a b)), .int .i64 (ei a b)]) (fun _ => []) := by
 refine bx (args := [.string (ba a), .string (ba b)]) 25 Tryz.func81 rfl rfl rfl (fun w0 => ?_)
 refine ar ?_
 refine ai ?_
 refine au (ao rfl) rfl rfl ?_
 refine au (ao rfl) rfl rfl ?_
 refine ah ?_
 refine aq ?_
 refine ar ?_
 refine ar ?_
 refine ai ?_
 refine au (ap rfl) rfl rfl ?_
 refine bb rfl fK (cX _) rfl ?_
 refine au (ap rfl) rfl rfl ?_
 refine bb rfl fK (cX _) rfl ?_
 refine cD (vs := [_, _]) ([a8 a, a8 b] : List (Int)) ga Tryz.underlying180 ty_40 rfl rfl rfl rfl rfl rfl (fun As1 => ?_)
 refine bp rfl ent_150 rfl (c_Or _ _ _ (by simp)) (fun w hw => (aO (dD 0 rfl hw) bd)) ?_
 refine au (ao rfl) rfl rfl ?_
 refine ah ?_
 refine aq ?_
 refine ar ?_
 refine ai ?_
 refine au (ap rfl) rfl rfl ?_
 refine au (bX rfl rfl) rfl rfl ?_
 refine aB (t := 14) rfl (fun h2_1 => ?_) (fun h2_1 => ?_)
 refine ah ?_
 refine aq ?_
 refine aA rfl ?_
 refine ar ?_
 refine ai ?_
 refine au (ap rfl) rfl rfl ?_
 refine au (ao rfl) rfl rfl ?_
 refine au (ao rfl) rfl rfl ?_
 refine ah ?_
 refine aq ?_
 refine aQ ?_
 refine ay ?_
 refine aV (ts := [4, 5]) rfl rfl rfl (fun w hw => ?_)
 focus first
   | (have hj := joinE_or (a := a) (b := b) h2_1
      have hn := gO (a := a) (b := b) (by rw [hj]; exact h2_1)
      exact ⟨(), by rw [hj, hn]; rfl, hw.base, (hw.weak (List.nil_sublist _) (fun s hs => hs)).toNews⟩)
   | (have hj : ei a b = 3 := by rw [fX h2_1, if_pos (by omega)]
      have hn := gO (a := a) (b := b) (by omega)
      exact ⟨(), by rw [hj, hn]; rfl, hw.base, (hw.weak (List.nil_sublist _) (fun s hs => hs)).toNews⟩)
   | (have hj : ei a b = 0 := by rw [fX h2_1, if_neg (by omega)]
      have hn := iS (a := a) (b := b) (by omega)
      exact ⟨(), by rw [hj, hn]; rfl, hw.base, (hw.weak (List.nil_sublist _) (fun s hs => hs)).toNews⟩)
   | (trace_state; fail)
 refine ah ?_
 refine aq ?_
 refine aC rfl ?_
 refine aS ?_
 refine aq ?_
 refine ar ?_
 refine ar ?_
 refine ai ?_
 refine au (ap rfl) rfl rfl ?_
 refine au (cL Tryz.underlying26 rfl) rfl rfl ?_
 refine au (ap rfl) rfl rfl ?_
 refine au (cL Tryz.underlying26 rfl) rfl rfl ?_
 refine au (bl rfl rfl (by omega) (by omega)) rfl rfl ?_
 refine au (c9 rfl rfl) rfl rfl ?_
 refine aB (t := 21) rfl (fun h4_5 => ?_) (fun h4_5 => ?_)
 refine ah ?_
 refine aq ?_
 refine aA rfl ?_
 refine ar ?_
 refine ai ?_
 refine au (ao rfl) rfl rfl ?_
 refine au (ao rfl) rfl rfl ?_
 refine ah ?_
 refine aq ?_
 refine aQ ?_
 refine ay ?_
 refine aV (ts := [4, 5]) rfl rfl rfl (fun w hw => ?_)
 focus first
   | (have hj := joinE_or (a := a) (b := b) h2_1
      have hn := gO (a := a) (b := b) (by rw [hj]; exact h2_1)
      exact ⟨(), by rw [hj, hn]; rfl, hw.base, (hw.weak (List.nil_sublist _) (fun s hs => hs)).toNews⟩)
   | (have hj : ei a b = 3 := by rw [fX h2_1, if_pos (by omega)]
      have hn := gO (a := a) (b := b) (by omega)
      exact ⟨(), by rw [hj, hn]; rfl, hw.base, (hw.weak (List.nil_sublist _) (fun s hs => hs)).toNews⟩)
   | (have hj : ei a b = 0 := by rw [fX h2_1, if_neg (by omega)]
      have hn := iS (a := a) (b := b) (by omega)
      exact ⟨(), by rw [hj, hn]; rfl, hw.base, (hw.weak (List.nil_sublist _) (fun s hs => hs)).toNews⟩)
   | (trace_state; fail)
 refine ah ?_
 refine aq ?_
 refine aC rfl ?_
 refine aS ?_
 refine aq ?_
 refine ar ?_
 refine ai ?_
 refine au (ap rfl) rfl rfl ?_
 refine au (ap rfl) rfl rfl ?_
 refine au (y_adds rfl rfl (by omega)) rfl rfl ?_
 refine au (ao rfl) rfl rfl ?_
 refine au (ao rfl) rfl rfl ?_
 refine ah ?_
 refine aq ?_
 refine aQ ?_
 refine aV (ts := [4, 5]) rfl rfl rfl (fun w hw => ?_)
 focus first
   | (have hj := joinE_or (a := a) (b := b) h2_1
      have hn := gO (a := a) (b := b) (by rw [hj]; exact h2_1)
      exact ⟨(), by rw [hj, hn]; rfl, hw.base, (hw.weak (List.nil_sublist _) (fun s hs => hs)).toNews⟩)
   | (have hj : ei a b = 3 := by rw [fX h2_1, if_pos (by omega)]
      have hn := gO (a := a) (b := b) (by omega)
      exact ⟨(), by rw [hj, hn]; rfl, hw.base, (hw.weak (List.nil_sublist _) (fun s hs => hs)).toNews⟩)
   | (have hj : ei a b = 0 := by rw [fX h2_1, if_neg (by omega)]
      have hn := iS (a := a) (b := b) (by omega)
      exact ⟨(), by rw [hj, hn]; rfl, hw.base, (hw.weak (List.nil_sublist _) (fun s hs => hs)).toNews⟩)
   | (trace_state; fail)

theorem p_name_Join (a b : bf) (ha : a.length ≤ 1000000000000) (hb : b.length ≤ 1000000000000) : dQ Tryz.prog 81 #[.string (ba a), .string (ba b)] (.tuple #[.string (ba (joinN a b)), .int .i64 (ei a b)]) := g4 (c_name_Join a b ha hb)

def dE (a b : bf) : Bool := decide (a8 a = 0) && decide (a8 b = 0) && decide (aX a = aX b)

theorem fU (a b : bf) (ha : a.length ≤ 1000000000) (hb : b.length ≤ 1000000000) : dQ Tryz.prog 46 #[.string (ba a), .string (ba b)] (.bool (dE a b)) := by
 intro w0
 refine bH (ok0 := no) (S := []) (args := [.string (ba a), .string (ba b)]) 20 Tryz.func46 rfl rfl rfl (by simp) (by simp) ?_
 refine ar ?_
 refine ai ?_
 refine au (ao rfl) rfl rfl ?_
 refine ah ?_
 refine aq ?_
 refine ar ?_
 refine ai ?_
 refine au (ap rfl) rfl rfl ?_
 refine bb rfl fB (da _) rfl ?_
 refine au (dk rfl rfl) rfl rfl ?_
 refine aB (t := 7) rfl (fun h1_2 => ?_) (fun h1_2 => ?_)
 refine au (ap rfl) rfl rfl ?_
 refine az rfl rfl ?_
 refine au (ap rfl) rfl rfl ?_
 refine az rfl rfl ?_
 refine bb rfl fB (da _) rfl ?_
 refine az rfl rfl ?_
 refine au (dk rfl rfl) rfl rfl ?_
 refine aB (t := 11) rfl (fun h1_6 => ?_) (fun h1_6 => ?_)
 refine au (aG rfl rfl) rfl rfl ?_
 refine au (ap rfl) rfl rfl ?_
 refine az rfl rfl ?_
 refine au (ap rfl) rfl rfl ?_
 refine az rfl rfl ?_
 refine bb rfl ent_112 (g8 _ (by omega)) rfl ?_
 refine az rfl rfl ?_
 refine au (ap rfl) rfl rfl ?_
 refine az rfl rfl ?_
 refine bb rfl ent_112 (g8 _ (by omega)) rfl ?_
 refine az rfl rfl ?_
 refine au (d8 rfl rfl) rfl rfl ?_
 refine au (aG rfl rfl) rfl rfl ?_
 refine au (ao rfl) rfl rfl ?_
 refine ah ?_
 refine aq ?_
 refine aQ ?_
 refine aV (ts := [4]) rfl rfl rfl (fun w hw => ?_)
 refine ⟨?_, hw.base⟩
 show Ending.returned (.bool _) = _
 congr 2
 simp [dE, *]
 refine au (aG rfl rfl) rfl rfl ?_
 refine au (ap rfl) rfl rfl ?_
 refine ax rfl rfl rfl rfl ?_
 refine ax rfl rfl rfl rfl ?_
 refine ax rfl rfl rfl rfl ?_
 refine ax rfl rfl rfl rfl ?_
 refine ax rfl rfl rfl rfl ?_
 refine au (aI rfl rfl) rfl rfl ?_
 refine au (ao rfl) rfl rfl ?_
 refine ah ?_
 refine aq ?_
 refine aQ ?_
 refine aV (ts := [4]) rfl rfl rfl (fun w hw => ?_)
 refine ⟨?_, hw.base⟩
 show Ending.returned (.bool _) = _
 congr 2
 simp [dE, *]
 refine au (ap rfl) rfl rfl ?_
 refine ax rfl rfl rfl rfl ?_
 refine ax rfl rfl rfl rfl ?_
 refine ax rfl rfl rfl rfl ?_
 refine au (aI rfl rfl) rfl rfl ?_
 refine au (ap rfl) rfl rfl ?_
 refine ax rfl rfl rfl rfl ?_
 refine ax rfl rfl rfl rfl ?_
 refine ax rfl rfl rfl rfl ?_
 refine ax rfl rfl rfl rfl ?_
 refine ax rfl rfl rfl rfl ?_
 refine au (aI rfl rfl) rfl rfl ?_
 refine au (ao rfl) rfl rfl ?_
 refine ah ?_
 refine aq ?_
 refine aQ ?_
 refine aV (ts := [4]) rfl rfl rfl (fun w hw => ?_)
 refine ⟨?_, hw.base⟩
 show Ending.returned (.bool _) = _
 congr 2
 simp [dE, *]

end Go.Proofs.YtnpdgmoeoidppaaGreat

/- Names compared; what lies above a name: plain laws. -/
namespace Go.Proofs.YtnpdgmoeoidppaaGreat
open Go.RowKit Go.Shelf
set_option linter.unusedVariables false
set_option linter.unusedSimpArgs false

theorem cmpS_anti : ∀ s t : bf, dw t s = - dw s t
  | [], [] => rfl
  | [], _ :: _ => rfl
  | _ :: _, [] => rfl
  | a :: r, b :: t => by
    have ih := cmpS_anti r t
    simp only [dw]
    by_cases h1 : a < b
    · have h2 : ¬ b < a := fun h => UInt8.lt_irrefl _ (UInt8.lt_trans h1 h)
      rw [if_pos h1, if_neg h2, if_pos h1]; rfl
    · by_cases h2 : b < a
      · rw [if_pos h2, if_neg h1, if_pos h2]
      · rw [if_neg h1, if_neg h2, if_neg h2, if_neg h1, ih]
theorem cmpS_trans : ∀ {s t u : bf}, dw s t < 0 → dw t u < 0 → dw s u < 0
  | [], [], _, h, _ => by simp [dw] at h
  | _ :: _, [], _, h, _ => by simp [dw] at h
  | _, _ :: _, [], _, h => by simp [dw] at h
  | [], _ :: _, _ :: _, _, _ => by simp [dw]
  | a :: r, b :: t, c :: u, h1, h2 => by
    simp only [dw] at h1 h2 ⊢
    by_cases ab : a < b
    · by_cases bc : b < c
      · rw [if_pos (UInt8.lt_trans ab bc)]; decide
      · rw [if_neg bc] at h2
        by_cases cb : c < b
        · rw [if_pos cb] at h2; omega
        · have e : b = c := UInt8.le_antisymm (UInt8.not_lt.1 cb) (UInt8.not_lt.1 bc)
          subst e
          rw [if_pos ab]; decide
    · rw [if_neg ab] at h1
      by_cases ba' : b < a
      · rw [if_pos ba'] at h1; omega
      · rw [if_neg ba'] at h1
        have e : a = b := UInt8.le_antisymm (UInt8.not_lt.1 ba') (UInt8.not_lt.1 ab)
        subst e
        by_cases bc : a < c
        · rw [if_pos bc]; decide
        · rw [if_neg bc] at h2 ⊢
          by_cases cb : c < a
          · rw [if_pos cb] at h2; omega
          · rw [if_neg cb] at h2 ⊢
            exact cmpS_trans h1 h2
/-- Rows of labels compared. -/
def d7 : List bf → List bf → Int
  | [], [] => 0
  | [], _ :: _ => -1
  | _ :: _, [] => 1
  | x :: xs, y :: ys => if dw (bB x) (bB y) ≠ 0 then dw (bB x) (bB y) else d7 xs ys
theorem cmpLs_anti : ∀ s t : List bf, d7 t s = - d7 s t
  | [], [] => rfl
  | [], _ :: _ => rfl
  | _ :: _, [] => rfl
  | a :: r, b :: t => by
    have ih := cmpLs_anti r t
    have h := cmpS_anti (bB a) (bB b)
    simp only [d7]
    by_cases h1 : dw (bB a) (bB b) = 0
    · rw [if_neg (by omega), if_neg (by omega), ih]
    · rw [if_pos (by omega), if_pos h1, h]
theorem cmpLs_zero : ∀ {s t : List bf}, d7 s t = 0 ↔ s.map bB = t.map bB
  | [], [] => by simp [d7]
  | [], _ :: _ => by simp [d7]
  | _ :: _, [] => by simp [d7]
  | a :: r, b :: t => by
    have ih := cmpLs_zero (s := r) (t := t)
    simp only [d7, List.map_cons, List.cons.injEq]
    by_cases h1 : dw (bB a) (bB b) = 0
    · rw [if_neg (by omega), ih]; simp [cmpS_zero.1 h1]
    · rw [if_pos h1]
      exact ⟨fun h => absurd h h1, fun h => absurd (cmpS_zero.2 h.1) h1⟩
theorem cmpLs_trans : ∀ {s t u : List bf}, d7 s t < 0 → d7 t u < 0 → d7 s u < 0
  | [], [], _, h, _ => by simp [d7] at h
  | _ :: _, [], _, h, _ => by simp [d7] at h
  | _, _ :: _, [], _, h => by simp [d7] at h
  | [], _ :: _, _ :: _, _, _ => by simp [d7]
  | a :: r, b :: t, c :: u, h1, h2 => by
    simp only [d7] at h1 h2 ⊢
    by_cases ab : dw (bB a) (bB b) = 0
    · rw [if_neg (by omega)] at h1
      rw [cmpS_zero.1 ab]
      by_cases bc : dw (bB b) (bB c) = 0
      · rw [if_neg (by omega)] at h2 ⊢
        exact cmpLs_trans h1 h2
      · rw [if_pos bc] at h2 ⊢; exact h2
    · rw [if_pos ab] at h1
      by_cases bc : dw (bB b) (bB c) = 0
      · rw [← cmpS_zero.1 bc, if_pos ab]; exact h1
      · rw [if_pos bc] at h2
        have := cmpS_trans h1 h2
        rw [if_pos (by omega)]; exact this
/-- name.Compare. -/
def du (a b : bf) : Int := d7 (a5 a).reverse (a5 b).reverse
theorem fv {n : bf} (h : a8 n = 0) : a5 (aX n) = (a5 n).map bB := by
  have hf := dU h
  have e1 : a5 n = dH n := if_pos h
  have e2 : a5 (aX n) = dH (aX n) := if_pos hf
  have h1 : ∀ s ∈ (dH n).map bB, 1 ≤ s.length ∧ s.length ≤ 63 := fun s hs => by
    obtain ⟨t, ht, rfl⟩ := List.mem_map.1 hs
    rw [dF]; exact ec n t ht
  have h2 := (fH _ h1).2
  rw [gQ _ (ec n), e8 n (nameCk_zero.1 h).2, ← fI h] at h2
  rw [e1, e2, h2]
theorem fold_labs {a b : bf} (ha : a8 a = 0) (hb : a8 b = 0) : aX a = aX b ↔ (a5 a).map bB = (a5 b).map bB := by
  constructor
  · intro h
    rw [← fv ha, ← fv hb, h]
  · intro h
    rw [← iI, ← iI, h]
theorem cmpN_zero {a b : bf} (ha : a8 a = 0) (hb : a8 b = 0) : du a b = 0 ↔ aX a = aX b := by
  rw [du, cmpLs_zero, List.map_reverse, List.map_reverse, List.reverse_inj, fold_labs ha hb]
theorem iU (a b : bf) : du b a = - du a b := cmpLs_anti _ _
theorem cmpN_trans {a b c : bf} (h1 : du a b < 0) (h2 : du b c < 0) : du a c < 0 := cmpLs_trans h1 h2
/-! Steps of the loops. -/
theorem cZ {s t : bf} {k : Nat} (hs : k < s.length) (ht : k < t.length) : dw (s.drop k) (t.drop k) = if bt s k < bt t k then -1 else if bt t k < bt s k then 1 else dw (s.drop (k + 1)) (t.drop (k + 1)) := by
  rw [cG s 0 k hs, cG t 0 k ht, dw]
  rfl
theorem fF {s t : bf} {k : Nat} (h : k ≤ s.length ∧ k ≤ t.length) (he : k = s.length ∨ k = t.length) : dw (s.drop k) (t.drop k) = if s.length < t.length then -1 else if t.length < s.length then 1 else 0 := by
  rcases Nat.lt_trichotomy s.length t.length with h1 | h1 | h1
  · rw [if_pos h1]
    have : k = s.length := by omega
    rw [this, List.drop_length, cG t 0 _ h1]; rfl
  · rw [if_neg (by omega), if_neg (by omega)]
    have : k = s.length := by omega
    rw [this, List.drop_length, h1, List.drop_length]; rfl
  · rw [if_neg (by omega), if_pos h1]
    have : k = t.length := by omega
    rw [this, List.drop_length, cG s 0 _ h1]; rfl
theorem dy {s t : List bf} {k : Nat} (hs : k < s.length) (ht : k < t.length) : d7 (s.drop k) (t.drop k) = if dw (bB (s.getD k [])) (bB (t.getD k [])) ≠ 0 then dw (bB (s.getD k [])) (bB (t.getD k [])) else d7 (s.drop (k + 1)) (t.drop (k + 1)) := by
  rw [cG s [] k hs, cG t [] k ht, d7]
theorem cmpLs_end {s t : List bf} {k : Nat} (h : k ≤ s.length ∧ k ≤ t.length) (he : k = s.length ∨ k = t.length) : d7 (s.drop k) (t.drop k) = if s.length < t.length then -1 else if t.length < s.length then 1 else 0 := by
  rcases Nat.lt_trichotomy s.length t.length with h1 | h1 | h1
  · rw [if_pos h1]
    have : k = s.length := by omega
    rw [this, List.drop_length, cG t [] _ h1]; rfl
  · rw [if_neg (by omega), if_neg (by omega)]
    have : k = s.length := by omega
    rw [this, List.drop_length, h1, List.drop_length]; rfl
  · rw [if_neg (by omega), if_pos h1]
    have : k = t.length := by omega
    rw [this, List.drop_length, cG s [] _ h1]; rfl
theorem rev_getD {l : List bf} {k : Nat} (h : k < l.length) : l.reverse.getD k [] = l.getD (l.length - 1 - k) [] := by
  rw [List.getD_eq_getElem?_getD, List.getD_eq_getElem?_getD, List.getElem?_reverse h]
/-- What lies above a name: without its first label, its first two .. -/
def parsF : Nat → bf → List bf
  | 0, _ => []
  | f + 1, n => if cO n then ef n :: parsF f (ef n) else []
def fm (n : bf) : List bf := parsF n.length n
theorem parsF_st : ∀ (f g : Nat) (n : bf), n.length ≤ f → n.length ≤ g → parsF f n = parsF g n
  | 0, g, n, h, _ => by
    have : n = [] := List.length_eq_zero_iff.1 (by omega)
    subst this
    cases g <;> rfl
  | f + 1, 0, n, _, h => by
    have : n = [] := List.length_eq_zero_iff.1 (by omega)
    subst this
    rfl
  | f + 1, g + 1, n, hf, hg => by
    simp only [parsF]
    cases hc : cO n with
    | false => rfl
    | true =>
      have := fb hc
      simp only [if_true]
      rw [parsF_st f g (ef n) (by omega) (by omega)]
theorem hB (n : bf) : fm n = if cO n then ef n :: fm (ef n) else [] := by
  unfold fm
  rw [parsF_st n.length (n.length + 1) n (Nat.le_refl _) (by omega)]
  simp only [parsF]
  cases hc : cO n with
  | false => rfl
  | true =>
    have := fb hc
    simp only [if_true]
    rw [parsF_st n.length (ef n).length (ef n) (by omega) (Nat.le_refl _)]
theorem g6 {n : bf} (h : a8 n = 0) (hc : cO n = true) : a8 (ef n) = 0 := by
  obtain ⟨h1, h2⟩ := nameCk_zero.1 h
  rw [fx] at h2
  have hn : n.isEmpty = false := by cases n with
    | nil => simp [cO] at hc
    | cons a r => rfl
  rw [hn, hc] at h2
  have := fb hc
  exact nameCk_zero.2 ⟨by omega, by simpa using h2⟩
theorem iq {n : bf} (h : a8 n = 0) (hn : n ≠ []) : cO n = true := by
  have h2 := (nameCk_zero.1 h).2
  rw [fx] at h2
  cases n with
  | nil => exact absurd rfl hn
  | cons a r =>
    simp only [List.isEmpty_cons, Bool.false_or, Bool.and_eq_true] at h2
    exact h2.1
theorem rst_len2 {n : bf} (hc : cO n = true) : (ef n).length + 2 ≤ n.length := by
  have := cutOk_iff.1 hc
  simp [ef]; omega
end Go.Proofs.YtnpdgmoeoidppaaGreat
