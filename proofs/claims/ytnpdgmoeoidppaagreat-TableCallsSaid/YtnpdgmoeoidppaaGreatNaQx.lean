import Derived.Test.YtnpdgmoeoidppaaGreatPfQx
/- names compared, above, matched -/
namespace Go.Proofs.YtnpdgmoeoidppaaGreat
open Go.RowKit Go.Shelf
set_option linter.unusedVariables false
set_option linter.unusedSimpArgs false

theorem ent_173 : Enters Tryz.prog 173 := enters_of Tryz.func173 (by kernel_rfl) rfl
theorem ent_191 : Enters Tryz.prog 191 := enters_of Tryz.func191 (by kernel_rfl) rfl
theorem ent_192 : Enters Tryz.prog 192 := enters_of Tryz.func192 (by kernel_rfl) rfl
theorem ent_200 : Enters Tryz.prog 200 := enters_of Tryz.func200 (by kernel_rfl) rfl
theorem ent_218 : Enters Tryz.prog 218 := enters_of Tryz.func218 (by kernel_rfl) rfl

theorem c_isNaN (n : Int) : eC Tryz.prog 218 #[.int .i64 n] (.bool false) := by
 intro w0
 refine bT (ok0 := no) (S := []) (args := [.int .i64 n]) 6 Tryz.func218 rfl rfl rfl (by simp) (by simp) ?_
 refine ap ?_
 refine ae ?_
 refine aq (ai rfl) rfl rfl ?_
 refine aa ?_
 refine aj ?_
 refine ap ?_
 refine ae ?_
 refine aq (am rfl) rfl rfl ?_
 refine aq (am rfl) rfl rfl ?_
 refine aq (cO rfl rfl) rfl rfl ?_
 refine aq (ai rfl) rfl rfl ?_
 refine aa ?_
 refine aj ?_
 refine aN ?_
 refine aR (ts := [2]) rfl rfl rfl (fun w hw => ?_)
 exact ⟨by show Ending.returned (.bool _) = _; congr 2; simp, hw.base⟩

def cmpI (a b : Int) : Int := if a < b then -1 else if b < a then 1 else 0

theorem c_cmpI (a b : Int) : eC Tryz.prog 173 #[.int .i64 a, .int .i64 b] (.int .i64 (cmpI a b)) := by
 intro w0
 refine bT (ok0 := no) (S := []) (args := [.int .i64 a, .int .i64 b]) 20 Tryz.func173 rfl rfl rfl (by simp) (by simp) ?_
 refine ap ?_
 refine ae ?_
 refine aq (ai rfl) rfl rfl ?_
 refine aa ?_
 refine aj ?_
 refine ap ?_
 refine ae ?_
 refine aq (am rfl) rfl rfl ?_
 refine bD rfl ent_218 (c_isNaN _) rfl ?_
 refine eo (t := 8) (.bool false) rfl (congrArg Value.bool rfl) ?_
 refine aq (ai rfl) rfl rfl ?_
 refine aa ?_
 refine aj ?_
 refine ap ?_
 refine ae ?_
 refine aq (am rfl) rfl rfl ?_
 refine bD rfl ent_218 (c_isNaN _) rfl ?_
 refine eo (t := 10) (.bool false) rfl (congrArg Value.bool rfl) ?_
 refine aq (ai rfl) rfl rfl ?_
 refine aa ?_
 refine aj ?_
 refine ap ?_
 refine ap ?_
 refine ae ?_
 refine aq (am rfl) rfl rfl ?_
 refine aa ?_
 refine aj ?_
 refine aD rfl ?_
 refine aQ ?_
 refine aj ?_
 refine ap ?_
 refine ap ?_
 refine ae ?_
 refine aq (am rfl) rfl rfl ?_
 refine aa ?_
 refine aj ?_
 refine aD rfl ?_
 refine aQ ?_
 refine aj ?_
 refine ap ?_
 refine ap ?_
 refine ae ?_
 refine aq (am rfl) rfl rfl ?_
 refine aq (am rfl) rfl rfl ?_
 refine aq (bW rfl rfl) rfl rfl ?_
 refine ay (t := 16) rfl (fun h9_2 => ?_) (fun h9_2 => ?_)
 refine aa ?_
 refine aj ?_
 refine aA rfl ?_
 refine ap ?_
 refine ae ?_
 refine aq (ai rfl) rfl rfl ?_
 refine aa ?_
 refine aj ?_
 refine aN ?_
 refine ax ?_
 refine aR (ts := [4]) rfl rfl rfl (fun w hw => ?_)
 refine ⟨?_, hw.base⟩
 show Ending.returned (.int _ _) = _
 congr 2
 focus first
   | (rw [cmpI, if_pos h9_2]
      done)
   | (rw [cmpI, if_neg h9_2, if_pos (by omega)]
      done)
   | (rw [cmpI, if_neg h9_2, if_neg (by omega)]
      done)
 refine aa ?_
 refine aj ?_
 refine aD rfl ?_
 refine aQ ?_
 refine aj ?_
 refine ap ?_
 refine ap ?_
 refine ae ?_
 refine aq (am rfl) rfl rfl ?_
 refine aq (am rfl) rfl rfl ?_
 refine aq (dB rfl rfl) rfl rfl ?_
 refine ay (t := 19) rfl (fun h11_2 => ?_) (fun h11_2 => ?_)
 refine aa ?_
 refine aj ?_
 refine aA rfl ?_
 refine ap ?_
 refine ae ?_
 refine aq (ai rfl) rfl rfl ?_
 refine aa ?_
 refine aj ?_
 refine aN ?_
 refine ax ?_
 refine aR (ts := [4]) rfl rfl rfl (fun w hw => ?_)
 refine ⟨?_, hw.base⟩
 show Ending.returned (.int _ _) = _
 congr 2
 focus first
   | (rw [cmpI, if_pos h9_2]
      done)
   | (rw [cmpI, if_neg h9_2, if_pos (by omega)]
      done)
   | (rw [cmpI, if_neg h9_2, if_neg (by omega)]
      done)
 refine aa ?_
 refine aj ?_
 refine aD rfl ?_
 refine aQ ?_
 refine aj ?_
 refine ap ?_
 refine ae ?_
 refine aq (ai rfl) rfl rfl ?_
 refine aa ?_
 refine aj ?_
 refine aN ?_
 refine aR (ts := [4]) rfl rfl rfl (fun w hw => ?_)
 refine ⟨?_, hw.base⟩
 show Ending.returned (.int _ _) = _
 congr 2
 focus first
   | (rw [cmpI, if_pos h9_2]
      done)
   | (rw [cmpI, if_neg h9_2, if_pos (by omega)]
      done)
   | (rw [cmpI, if_neg h9_2, if_neg (by omega)]
      done)

/-- A row turned about so far. -/
def d9 (l : List a6) (i : Nat) : List a6 := (List.range l.length).map fun p => if p < i ∨ l.length ≤ p + i then l.getD (l.length - 1 - p) [] else l.getD p []
theorem cu (l : List a6) (i : Nat) : (d9 l i).length = l.length := by simp [d9]
theorem i7 {l : List a6} {i p : Nat} (h : p < l.length) : (d9 l i).getD p [] = if p < i ∨ l.length ≤ p + i then l.getD (l.length - 1 - p) [] else l.getD p [] := by
  rw [d9, List.getD_eq_getElem?_getD, List.getElem?_map, List.getElem?_range h]; rfl
theorem ext_getD {l m : List a6} (h : l.length = m.length) (k : ∀ p, p < l.length → l.getD p [] = m.getD p []) : l = m := by
  apply List.ext_getElem h
  intro p h1 h2
  have := k p h1
  rwa [List.getD_eq_getElem?_getD, List.getD_eq_getElem?_getD, List.getElem?_eq_getElem h1, List.getElem?_eq_getElem h2] at this
theorem revK_zero (l : List a6) : d9 l 0 = l := ext_getD (cu l 0) (fun p hp => by
  rw [cu] at hp
  rw [i7 hp, if_neg (by omega)])
theorem revK_end {l : List a6} {i : Nat} (h : l.length ≤ 2 * i + 1) : d9 l i = l.reverse := ext_getD (by rw [cu, List.length_reverse]) (fun p hp => by
  rw [cu] at hp
  rw [i7 hp, rev_getD hp]
  split
  · rfl
  · congr 1; omega)
theorem getD_set {l : List a6} {i p : Nat} {v : a6} (hp : p < l.length) : (l.set i v).getD p [] = if i = p then v else l.getD p [] := by
  rw [List.getD_eq_getElem?_getD, List.getElem?_set, List.getD_eq_getElem?_getD]
  split
  · rename_i h; subst h; rw [if_pos hp]; rfl
  · rfl
theorem gc {l : List a6} {i j : Nat} (hj : i + j + 1 = l.length) (hi : i < j) : ((d9 l i).set i ((d9 l i).getD j [])).set j ((d9 l i).getD i []) = d9 l (i + 1) := ext_getD (by simp [cu]) (fun p hp => by
  simp only [List.length_set, cu] at hp
  rw [getD_set (by simpa [cu] using hp), getD_set (by rw [cu]; exact hp), i7 (by omega), i7 (by omega), i7 hp, i7 hp]
  by_cases h1 : j = p
  · subst h1
    rw [if_pos rfl, if_neg (by omega), if_pos (by omega)]
    congr 1; omega
  · rw [if_neg h1]
    by_cases h2 : i = p
    · subst h2
      rw [if_pos rfl, if_neg (by omega), if_pos (by omega)]
      congr 1; omega
    · rw [if_neg h2]
      by_cases h3 : p < i ∨ l.length ≤ p + i
      · rw [if_pos h3, if_pos (by omega)]
      · rw [if_neg h3, if_neg (by omega)])

set_option maxRecDepth 100000 in
theorem c_Reverse (l : List a6) (A : Option Addr) (c : Nat) (hl : l.length ≤ 1000000000) : UC Tryz.prog 191 #[.slice A l.length c] [] (Ch.ls A c 9 1 dD l) (α := Unit) (fun _ => .tuple #[]) (fun _ => Ch.ls A c 9 1 dD l.reverse) := by
 refine il (args := [.slice A l.length c]) 28 Tryz.func191 rfl rfl rfl (fun w0 => ?_)
 refine ap ?_
 refine ae ?_
 refine aq (am rfl) rfl rfl ?_
 refine aq (bg Tryz.underlying135 rfl) rfl rfl ?_
 refine aq (fd rfl rfl (by omega) (by omega)) rfl rfl ?_
 refine aq (ai rfl) rfl rfl ?_
 refine aq (ai rfl) rfl rfl ?_
 refine aa ?_
 refine aj ?_
 refine aS ?_
 refine dn (σ := Nat × Int) [2, 3, 7, 8, 9, 10, 11, 12, 13, 14, 15, 16, 17, 18, 19, 20, 21, 22, 23, 24, 25, 26, 27] (fun q => 2 * q.1 ≤ l.length + 1 ∧ q.2 = (l.length : Int) - 1 - q.1) (fun q => l.length - q.1) (fun q => [(2, .int .i64 q.1), (3, .int .i64 q.2)]) (fun q => Ch.ls A c 9 1 dD (d9 l q.1)) ((0, (l.length : Int) - 1)) ?_ ⟨rfl, rfl, trivial⟩ (by rw [revK_zero]) (fun q hI => ?_)
 exact ⟨by omega, by show (l.length : Int) - 1 = (l.length : Int) - 1 - ((0 : Nat) : Int); omega⟩
 obtain ⟨i, jz⟩ := q
 dsimp only at hI ⊢
 refine ap ?_
 refine ap ?_
 refine ae ?_
 refine aq (am rfl) rfl rfl ?_
 refine aq (am rfl) rfl rfl ?_
 refine aq (bW rfl rfl) rfl rfl ?_
 refine ay (t := 9) rfl (fun h1_2 => ?_) (fun h1_2 => ?_)
 have hrl := cu l i
 obtain ⟨j, hj⟩ : ∃ j : Nat, jz = (j : Int) := ⟨jz.toNat, by omega⟩
 subst hj
 refine aa ?_
 refine aj ?_
 refine aA rfl ?_
 refine aQ ?_
 refine aj ?_
 refine ap ?_
 refine aS ?_
 refine e7 13 rfl mixed ?_
 refine aI (i := 0) rfl ak (am rfl) aG aG rfl (ao (ah (av (ao aw)))) (by kernel_rfl) rfl ?_
 refine dT (t := 14) (.slice A (d9 l i).length c) rfl (by simp [cu]) ?_
 refine aI (i := 1) rfl ak (am rfl) aG aG rfl (ao (ah (av (ao aw)))) (by kernel_rfl) rfl ?_
 refine aI (i := 4) rfl ak (am rfl) aG aG rfl (ao (ah (av (ao aw)))) (by kernel_rfl) rfl ?_
 refine dT (t := 18) (.slice A (d9 l i).length c) rfl (by simp [cu]) ?_
 refine aI (i := 5) rfl ak (am rfl) aG aG rfl (ao (ah (av (ao aw)))) (by kernel_rfl) rfl ?_
 refine aI (i := 6) rfl ak (bB  Tryz.underlying135 cI rfl rfl (dL 0 rfl) rfl (by omega)) aG aG rfl (ao (ah (av (ao aw)))) (by kernel_rfl) rfl ?_
 refine aI (i := 7) rfl ak (bZ bV ([] : a6) cI rfl (dL 0 rfl) (by omega) rfl rfl) aG aG rfl (ao (ah (av (ao aw)))) (by kernel_rfl) rfl ?_
 refine aI (i := 8) rfl ak (am rfl) aG aG rfl (ao (ah (av (ao aw)))) (by kernel_rfl) rfl ?_
 refine dT (t := 22) (.slice A (d9 l i).length c) rfl (by simp [cu]) ?_
 refine aI (i := 9) rfl ak (am rfl) aG aG rfl (ao (ah (av (ao aw)))) (by kernel_rfl) rfl ?_
 refine aI (i := 10) rfl ak (bB  Tryz.underlying135 cI rfl rfl (dL 0 rfl) rfl (by omega)) aG aG rfl (ao (ah (av (ao aw)))) (by kernel_rfl) rfl ?_
 refine aI (i := 11) rfl ak (bZ bV ([] : a6) cI rfl (dL 0 rfl) (by omega) rfl rfl) aG aG rfl (ao (ah (av (ao aw)))) (by kernel_rfl) rfl ?_
 refine aI (i := 12) rfl ak (bB  Tryz.underlying135 cI rfl rfl (dL 0 rfl) rfl (by omega)) aG aG rfl (ao (ah (av (ao aw)))) (by kernel_rfl) rfl ?_
 refine de (js := [2, 3, 13]) (by kernel_rfl) rfl ?_
 refine bi (i := 2) rfl rfl rfl (fun _ _ _ => aM (by kernel_rfl)) rfl ?_ ?_
 refine aq (am rfl) rfl rfl ?_
 refine aa ?_
 refine aT aG ?_
 refine de (js := [3, 13]) (by kernel_rfl) rfl ?_
 refine bi (i := 3) rfl rfl rfl (fun _ _ _ => aM (by kernel_rfl)) rfl ?_ ?_
 refine aq (am rfl) rfl rfl ?_
 refine aa ?_
 refine aT aG ?_
 refine bl (i := 13) rfl rfl rfl (fun _ _ _ => aM (by kernel_rfl)) (by kernel_rfl) rfl ?_
 refine fb bV ([] : a6) ((d9 l i).getD j []) cI rfl rfl rfl .z rfl (by omega) rfl rfl rfl ?_
 refine aa ?_
 refine cW rfl ?_
 refine dT (t := 16) (.slice A ((d9 l i).set i ((d9 l i).getD j [])).length c) rfl (by simp [cu]) ?_
 refine bl (i := 14) rfl rfl rfl (fun _ _ _ => aM (by kernel_rfl)) (by kernel_rfl) rfl ?_
 refine aq (bB  Tryz.underlying135 cI rfl rfl (dL 0 rfl) rfl (by simp [cu]; omega)) rfl rfl ?_
 refine aa ?_
 refine cW rfl ?_
 refine bl (i := 15) rfl rfl rfl (fun _ _ _ => aM (by kernel_rfl)) (by kernel_rfl) rfl ?_
 refine fb bV ([] : a6) ((d9 l i).getD i []) cI rfl rfl rfl .z rfl (by simp [cu]; omega) rfl rfl rfl ?_
 refine aa ?_
 refine cW rfl ?_
 refine cw (by kernel_rfl) ?_
 refine bj ?_
 refine aj ?_
 refine ae ?_
 refine aq (am rfl) rfl rfl ?_
 refine aq (br rfl rfl (by omega) (by omega)) rfl rfl ?_
 refine aq (am rfl) rfl rfl ?_
 refine aq (fd rfl rfl (by omega) (by omega)) rfl rfl ?_
 refine aq (ai rfl) rfl rfl ?_
 refine aq (ai rfl) rfl rfl ?_
 refine aa ?_
 refine bv ((i + 1, (j : Int) - 1)) ?_ ?_ ⟨rfl, rfl, trivial⟩ (by repeat (first | exact trivial | refine ⟨rfl, ?_⟩)) (fun w h => by show Hp _ _ (Ch.ls _ _ _ _ _ (d9 l (i + 1)) :: _) _ _; rw [← gc (l := l) (i := i) (j := j) (by omega) (by omega)]; exact h)
 exact ⟨by show 2 * (i + 1) ≤ _; omega, by show (j : Int) - 1 = _; omega⟩
 show l.length - (i + 1) < l.length - i
 omega
 refine bi (i := 13) rfl rfl rfl (fun _ _ _ => aM (by kernel_rfl)) rfl ?_ ?_
 refine fb bV ([] : a6) ((d9 l i).getD j []) cI rfl rfl rfl .z rfl (by omega) rfl rfl rfl ?_
 refine aa ?_
 refine cW rfl ?_
 refine bl (i := 3) rfl rfl rfl (fun _ _ _ => aM (by kernel_rfl)) (by kernel_rfl) rfl ?_
 refine aq (am rfl) rfl rfl ?_
 refine aa ?_
 refine cW rfl ?_
 refine dT (t := 16) (.slice A ((d9 l i).set i ((d9 l i).getD j [])).length c) rfl (by simp [cu]) ?_
 refine bl (i := 14) rfl rfl rfl (fun _ _ _ => aM (by kernel_rfl)) (by kernel_rfl) rfl ?_
 refine aq (bB  Tryz.underlying135 cI rfl rfl (dL 0 rfl) rfl (by simp [cu]; omega)) rfl rfl ?_
 refine aa ?_
 refine cW rfl ?_
 refine bl (i := 15) rfl rfl rfl (fun _ _ _ => aM (by kernel_rfl)) (by kernel_rfl) rfl ?_
 refine fb bV ([] : a6) ((d9 l i).getD i []) cI rfl rfl rfl .z rfl (by simp [cu]; omega) rfl rfl rfl ?_
 refine aa ?_
 refine cW rfl ?_
 refine cw (by kernel_rfl) ?_
 refine bj ?_
 refine aj ?_
 refine ae ?_
 refine aq (am rfl) rfl rfl ?_
 refine aq (br rfl rfl (by omega) (by omega)) rfl rfl ?_
 refine aq (am rfl) rfl rfl ?_
 refine aq (fd rfl rfl (by omega) (by omega)) rfl rfl ?_
 refine aq (ai rfl) rfl rfl ?_
 refine aq (ai rfl) rfl rfl ?_
 refine aa ?_
 refine bv ((i + 1, (j : Int) - 1)) ?_ ?_ ⟨rfl, rfl, trivial⟩ (by repeat (first | exact trivial | refine ⟨rfl, ?_⟩)) (fun w h => by show Hp _ _ (Ch.ls _ _ _ _ _ (d9 l (i + 1)) :: _) _ _; rw [← gc (l := l) (i := i) (j := j) (by omega) (by omega)]; exact h)
 exact ⟨by show 2 * (i + 1) ≤ _; omega, by show (j : Int) - 1 = _; omega⟩
 show l.length - (i + 1) < l.length - i
 omega
 exact cH
 refine bi (i := 3) rfl rfl rfl (fun _ _ _ => aM (by kernel_rfl)) rfl ?_ ?_
 refine aq (am rfl) rfl rfl ?_
 refine aa ?_
 refine aT aG ?_
 refine de (js := [2, 13]) (by kernel_rfl) rfl ?_
 refine bi (i := 2) rfl rfl rfl (fun _ _ _ => aM (by kernel_rfl)) rfl ?_ ?_
 refine aq (am rfl) rfl rfl ?_
 refine aa ?_
 refine aT aG ?_
 refine bl (i := 13) rfl rfl rfl (fun _ _ _ => aM (by kernel_rfl)) (by kernel_rfl) rfl ?_
 refine fb bV ([] : a6) ((d9 l i).getD j []) cI rfl rfl rfl .z rfl (by omega) rfl rfl rfl ?_
 refine aa ?_
 refine cW rfl ?_
 refine dT (t := 16) (.slice A ((d9 l i).set i ((d9 l i).getD j [])).length c) rfl (by simp [cu]) ?_
 refine bl (i := 14) rfl rfl rfl (fun _ _ _ => aM (by kernel_rfl)) (by kernel_rfl) rfl ?_
 refine aq (bB  Tryz.underlying135 cI rfl rfl (dL 0 rfl) rfl (by simp [cu]; omega)) rfl rfl ?_
 refine aa ?_
 refine cW rfl ?_
 refine bl (i := 15) rfl rfl rfl (fun _ _ _ => aM (by kernel_rfl)) (by kernel_rfl) rfl ?_
 refine fb bV ([] : a6) ((d9 l i).getD i []) cI rfl rfl rfl .z rfl (by simp [cu]; omega) rfl rfl rfl ?_
 refine aa ?_
 refine cW rfl ?_
 refine cw (by kernel_rfl) ?_
 refine bj ?_
 refine aj ?_
 refine ae ?_
 refine aq (am rfl) rfl rfl ?_
 refine aq (br rfl rfl (by omega) (by omega)) rfl rfl ?_
 refine aq (am rfl) rfl rfl ?_
 refine aq (fd rfl rfl (by omega) (by omega)) rfl rfl ?_
 refine aq (ai rfl) rfl rfl ?_
 refine aq (ai rfl) rfl rfl ?_
 refine aa ?_
 refine bv ((i + 1, (j : Int) - 1)) ?_ ?_ ⟨rfl, rfl, trivial⟩ (by repeat (first | exact trivial | refine ⟨rfl, ?_⟩)) (fun w h => by show Hp _ _ (Ch.ls _ _ _ _ _ (d9 l (i + 1)) :: _) _ _; rw [← gc (l := l) (i := i) (j := j) (by omega) (by omega)]; exact h)
 exact ⟨by show 2 * (i + 1) ≤ _; omega, by show (j : Int) - 1 = _; omega⟩
 show l.length - (i + 1) < l.length - i
 omega
 refine bi (i := 13) rfl rfl rfl (fun _ _ _ => aM (by kernel_rfl)) rfl ?_ ?_
 refine fb bV ([] : a6) ((d9 l i).getD j []) cI rfl rfl rfl .z rfl (by omega) rfl rfl rfl ?_
 refine aa ?_
 refine cW rfl ?_
 refine bl (i := 2) rfl rfl rfl (fun _ _ _ => aM (by kernel_rfl)) (by kernel_rfl) rfl ?_
 refine aq (am rfl) rfl rfl ?_
 refine aa ?_
 refine cW rfl ?_
 refine dT (t := 16) (.slice A ((d9 l i).set i ((d9 l i).getD j [])).length c) rfl (by simp [cu]) ?_
 refine bl (i := 14) rfl rfl rfl (fun _ _ _ => aM (by kernel_rfl)) (by kernel_rfl) rfl ?_
 refine aq (bB  Tryz.underlying135 cI rfl rfl (dL 0 rfl) rfl (by simp [cu]; omega)) rfl rfl ?_
 refine aa ?_
 refine cW rfl ?_
 refine bl (i := 15) rfl rfl rfl (fun _ _ _ => aM (by kernel_rfl)) (by kernel_rfl) rfl ?_
 refine fb bV ([] : a6) ((d9 l i).getD i []) cI rfl rfl rfl .z rfl (by simp [cu]; omega) rfl rfl rfl ?_
 refine aa ?_
 refine cW rfl ?_
 refine cw (by kernel_rfl) ?_
 refine bj ?_
 refine aj ?_
 refine ae ?_
 refine aq (am rfl) rfl rfl ?_
 refine aq (br rfl rfl (by omega) (by omega)) rfl rfl ?_
 refine aq (am rfl) rfl rfl ?_
 refine aq (fd rfl rfl (by omega) (by omega)) rfl rfl ?_
 refine aq (ai rfl) rfl rfl ?_
 refine aq (ai rfl) rfl rfl ?_
 refine aa ?_
 refine bv ((i + 1, (j : Int) - 1)) ?_ ?_ ⟨rfl, rfl, trivial⟩ (by repeat (first | exact trivial | refine ⟨rfl, ?_⟩)) (fun w h => by show Hp _ _ (Ch.ls _ _ _ _ _ (d9 l (i + 1)) :: _) _ _; rw [← gc (l := l) (i := i) (j := j) (by omega) (by omega)]; exact h)
 exact ⟨by show 2 * (i + 1) ≤ _; omega, by show (j : Int) - 1 = _; omega⟩
 show l.length - (i + 1) < l.length - i
 omega
 exact cH
 refine bi (i := 13) rfl rfl rfl (fun _ _ _ => aM (by kernel_rfl)) rfl ?_ ?_
 refine fb bV ([] : a6) ((d9 l i).getD j []) cI rfl rfl rfl .z rfl (by omega) rfl rfl rfl ?_
 refine aa ?_
 refine cW rfl ?_
 refine de (js := [2, 3]) (by kernel_rfl) rfl ?_
 refine bi (i := 2) rfl rfl rfl (fun _ _ _ => aM (by kernel_rfl)) rfl ?_ ?_
 refine aq (am rfl) rfl rfl ?_
 refine aa ?_
 refine cW rfl ?_
 refine bl (i := 3) rfl rfl rfl (fun _ _ _ => aM (by kernel_rfl)) (by kernel_rfl) rfl ?_
 refine aq (am rfl) rfl rfl ?_
 refine aa ?_
 refine cW rfl ?_
 refine dT (t := 16) (.slice A ((d9 l i).set i ((d9 l i).getD j [])).length c) rfl (by simp [cu]) ?_
 refine bl (i := 14) rfl rfl rfl (fun _ _ _ => aM (by kernel_rfl)) (by kernel_rfl) rfl ?_
 refine aq (bB  Tryz.underlying135 cI rfl rfl (dL 0 rfl) rfl (by simp [cu]; omega)) rfl rfl ?_
 refine aa ?_
 refine cW rfl ?_
 refine bl (i := 15) rfl rfl rfl (fun _ _ _ => aM (by kernel_rfl)) (by kernel_rfl) rfl ?_
 refine fb bV ([] : a6) ((d9 l i).getD i []) cI rfl rfl rfl .z rfl (by simp [cu]; omega) rfl rfl rfl ?_
 refine aa ?_
 refine cW rfl ?_
 refine cw (by kernel_rfl) ?_
 refine bj ?_
 refine aj ?_
 refine ae ?_
 refine aq (am rfl) rfl rfl ?_
 refine aq (br rfl rfl (by omega) (by omega)) rfl rfl ?_
 refine aq (am rfl) rfl rfl ?_
 refine aq (fd rfl rfl (by omega) (by omega)) rfl rfl ?_
 refine aq (ai rfl) rfl rfl ?_
 refine aq (ai rfl) rfl rfl ?_
 refine aa ?_
 refine bv ((i + 1, (j : Int) - 1)) ?_ ?_ ⟨rfl, rfl, trivial⟩ (by repeat (first | exact trivial | refine ⟨rfl, ?_⟩)) (fun w h => by show Hp _ _ (Ch.ls _ _ _ _ _ (d9 l (i + 1)) :: _) _ _; rw [← gc (l := l) (i := i) (j := j) (by omega) (by omega)]; exact h)
 exact ⟨by show 2 * (i + 1) ≤ _; omega, by show (j : Int) - 1 = _; omega⟩
 show l.length - (i + 1) < l.length - i
 omega
 refine bi (i := 3) rfl rfl rfl (fun _ _ _ => aM (by kernel_rfl)) rfl ?_ ?_
 refine aq (am rfl) rfl rfl ?_
 refine aa ?_
 refine cW rfl ?_
 refine bl (i := 2) rfl rfl rfl (fun _ _ _ => aM (by kernel_rfl)) (by kernel_rfl) rfl ?_
 refine aq (am rfl) rfl rfl ?_
 refine aa ?_
 refine cW rfl ?_
 refine dT (t := 16) (.slice A ((d9 l i).set i ((d9 l i).getD j [])).length c) rfl (by simp [cu]) ?_
 refine bl (i := 14) rfl rfl rfl (fun _ _ _ => aM (by kernel_rfl)) (by kernel_rfl) rfl ?_
 refine aq (bB  Tryz.underlying135 cI rfl rfl (dL 0 rfl) rfl (by simp [cu]; omega)) rfl rfl ?_
 refine aa ?_
 refine cW rfl ?_
 refine bl (i := 15) rfl rfl rfl (fun _ _ _ => aM (by kernel_rfl)) (by kernel_rfl) rfl ?_
 refine fb bV ([] : a6) ((d9 l i).getD i []) cI rfl rfl rfl .z rfl (by simp [cu]; omega) rfl rfl rfl ?_
 refine aa ?_
 refine cW rfl ?_
 refine cw (by kernel_rfl) ?_
 refine bj ?_
 refine aj ?_
 refine ae ?_
 refine aq (am rfl) rfl rfl ?_
 refine aq (br rfl rfl (by omega) (by omega)) rfl rfl ?_
 refine aq (am rfl) rfl rfl ?_
 refine aq (fd rfl rfl (by omega) (by omega)) rfl rfl ?_
 refine aq (ai rfl) rfl rfl ?_
 refine aq (ai rfl) rfl rfl ?_
 refine aa ?_
 refine bv ((i + 1, (j : Int) - 1)) ?_ ?_ ⟨rfl, rfl, trivial⟩ (by repeat (first | exact trivial | refine ⟨rfl, ?_⟩)) (fun w h => by show Hp _ _ (Ch.ls _ _ _ _ _ (d9 l (i + 1)) :: _) _ _; rw [← gc (l := l) (i := i) (j := j) (by omega) (by omega)]; exact h)
 exact ⟨by show 2 * (i + 1) ≤ _; omega, by show (j : Int) - 1 = _; omega⟩
 show l.length - (i + 1) < l.length - i
 omega
 exact cH
 exact cH
 refine aa ?_
 refine aj ?_
 refine aD rfl ?_
 refine bJ ?_
 refine aV ?_
 refine aX ?_
 refine a8 ?_
 refine e_end (ts := []) rfl rfl rfl (fun w hw => ?_)
 obtain ⟨h1, h2, h3⟩ := (show Hp _ _ [Ch.ls A c 9 1 dD (d9 l i)] _ _ from hw).uc
 have he : d9 l i = l.reverse := revK_end (by omega)
 rw [he] at h2 h3
 exact ⟨(), rfl, h1, h2, h3⟩

theorem fK (a b : Nat) : cmpI (a : Int) (b : Int) = if a < b then -1 else if b < a then 1 else 0 := by
  unfold cmpI
  by_cases h1 : a < b
  · rw [if_pos h1, if_pos (by omega)]
  · rw [if_neg h1, if_neg (by omega)]
    by_cases h2 : b < a
    · rw [if_pos h2, if_pos (by omega)]
    · rw [if_neg h2, if_neg (by omega)]
theorem eS {a b : a6} {k : Nat} (h : bR a b = d6 ((bk a).reverse.drop k) ((bk b).reverse.drop k)) (h1 : k ≤ (bk a).length) (h2 : k ≤ (bk b).length) (he : k = (bk a).length ∨ k = (bk b).length) : bR a b = cmpI ((bk a).length : Int) ((bk b).length : Int) := by
  rw [h, cmpLs_end (by simp; omega) (by simpa using he), List.length_reverse, List.length_reverse, fK]

theorem c_name_Compare (a b : a6) (ha : a.length ≤ 1000000000) (hb : b.length ≤ 1000000000) : RC Tryz.prog 131 #[.string (ba a), .string (ba b)] [] (α := Unit) (fun _ => .int .i64 (bR a b)) (fun _ => []) := by
 refine bK (args := [.string (ba a), .string (ba b)]) 44 Tryz.func131 rfl rfl rfl (fun w0 => ?_)
 have hra : (bk a).reverse.length = (bk a).length := List.length_reverse
 have hrb : (bk b).reverse.length = (bk b).length := List.length_reverse
 have hla := gS a (by omega)
 have hlb := gS b (by omega)
 have hxa : ∀ s ∈ (bk a).reverse, s.length ≤ 1000000000000 := fun s hs => by have := hla.2.1 s (List.mem_reverse.1 hs); omega
 have hxb : ∀ s ∈ (bk b).reverse, s.length ≤ 1000000000000 := fun s hs => by have := hlb.2.1 s (List.mem_reverse.1 hs); omega
 have hxa2 : ∀ s ∈ bk a, s.length ≤ 1000000000000 := fun s hs => by have := hla.2.1 s hs; omega
 have hxb2 : ∀ s ∈ bk b, s.length ≤ 1000000000000 := fun s hs => by have := hlb.2.1 s hs; omega
 refine ap ?_
 refine ae ?_
 refine aq (ai rfl) rfl rfl ?_
 refine aa ?_
 refine aj ?_
 refine ap ?_
 refine ae ?_
 refine aq (am rfl) rfl rfl ?_
 refine dE rfl ent_146 rfl (gM _) (fun w hw => aY) (fun ⟨A0, c0⟩ => ?_)
 refine aq (am rfl) rfl rfl ?_
 refine dE rfl ent_146 rfl (gM _) (fun w hw => aY) (fun ⟨A1, c1⟩ => ?_)
 refine aq (ai rfl) rfl rfl ?_
 refine aq (ai rfl) rfl rfl ?_
 refine aa ?_
 refine aj ?_
 refine ap ?_
 refine ae ?_
 refine aq (am rfl) rfl rfl ?_
 refine f0 rfl ent_191 rfl (c_Reverse _ _ _ (by omega)) (fun o => (.s (.z))) (List.mem_of_getElem? (i := 1) rfl) (fun s hs => nomatch hs) (fun o2 => ?_)
 refine aa ?_
 refine aj ?_
 refine ap ?_
 refine ae ?_
 refine aq (am rfl) rfl rfl ?_
 refine f0 rfl ent_191 rfl (c_Reverse _ _ _ (by omega)) (fun o => .z) (List.mem_of_getElem? (i := 0) rfl) (fun s hs => nomatch hs) (fun o3 => ?_)
 refine aa ?_
 refine aj ?_
 refine ap ?_
 refine ap ?_
 refine ae ?_
 refine aq (am rfl) rfl rfl ?_
 refine eo (t := 18) (.slice A0 (bk a).reverse.length c0) rfl (by rw [List.length_reverse]) ?_
 refine aq (bg Tryz.underlying135 rfl) rfl rfl ?_
 refine aq (am rfl) rfl rfl ?_
 refine aa ?_
 refine aj ?_
 refine aS ?_
 refine cC (σ := Nat) [4, 7, 8, 9, 20, 21, 22, 23, 24, 25, 26, 27, 28, 29, 30, 31, 32, 33, 34, 35, 36, 37, 38] (fun k => k ≤ (bk a).length ∧ k ≤ (bk b).length ∧ bR a b = d6 ((bk a).reverse.drop k) ((bk b).reverse.drop k)) (fun k => (bk a).length - k) (fun k => [(20, .int .i64 k)]) (0) ?_ ⟨rfl, trivial⟩ (fun k hI => ?_)
 exact ⟨Nat.zero_le _, Nat.zero_le _, rfl⟩
 refine ap ?_
 refine ae ?_
 refine aq (bW rfl rfl) rfl rfl ?_
 refine ay (t := 21) rfl (fun h5_0 => ?_) (fun h5_0 => ?_)
 refine aa ?_
 refine aj ?_
 refine ap ?_
 refine aA rfl ?_
 refine aQ ?_
 refine aj ?_
 refine ap ?_
 refine aS ?_
 refine ap ?_
 refine ae ?_
 refine aq (am rfl) rfl rfl ?_
 refine aq (bB  Tryz.underlying135 cI rfl rfl (dL 1 rfl) rfl (by simp; omega)) rfl rfl ?_
 refine aq (bZ bV ([] : a6) cI rfl (dL 1 rfl) (by simp; omega) rfl rfl) rfl rfl ?_
 refine aq (ai rfl) rfl rfl ?_
 refine aq (ai rfl) rfl rfl ?_
 refine aa ?_
 refine aj ?_
 refine ap ?_
 refine ap ?_
 refine ae ?_
 refine aq (am rfl) rfl rfl ?_
 refine aq (am rfl) rfl rfl ?_
 refine aq (bg Tryz.underlying135 rfl) rfl rfl ?_
 refine aq (cY rfl rfl) rfl rfl ?_
 refine ay (t := 28) rfl (fun h7_3 => ?_) (fun h7_3 => ?_)
 refine aa ?_
 refine aj ?_
 refine aA rfl ?_
 refine bJ ?_
 refine aV ?_
 refine fe rfl ?_
 refine aV ?_
 refine aX ?_
 refine a8 ?_
 refine aj ?_
 refine ap ?_
 refine ae ?_
 refine aq (am rfl) rfl rfl ?_
 refine aq (bg Tryz.underlying135 rfl) rfl rfl ?_
 refine aq (am rfl) rfl rfl ?_
 refine aq (bg Tryz.underlying135 rfl) rfl rfl ?_
 refine bD rfl ent_173 (c_cmpI _ _) rfl ?_
 refine aq (ai rfl) rfl rfl ?_
 refine aa ?_
 refine aj ?_
 refine aN ?_
 refine aR (ts := [4]) rfl rfl rfl (fun w hw => ?_)
 focus first
   | (have he : bR a b = dK (bO ((bk a).reverse.getD k [])) (bO ((bk b).reverse.getD k [])) := by rw [hI.2.2, dR (s := (bk a).reverse) (t := (bk b).reverse) (k := k) (by simp; omega) (by simp; omega), if_pos h9_1]
      exact ⟨(), by rw [he]; rfl, hw.base, (hw.weak (List.nil_sublist _) (fun s hs => hs)).toNews⟩)
   | (have he := eS hI.2.2 hI.1 hI.2.1 (by omega)
      exact ⟨(), by rw [he]; rfl, hw.base, (hw.weak (List.nil_sublist _) (fun s hs => hs)).toNews⟩)
   | (trace_state; fail)
 refine aa ?_
 refine aj ?_
 refine aD rfl ?_
 refine aQ ?_
 refine aj ?_
 refine ap ?_
 refine ae ?_
 refine aq (am rfl) rfl rfl ?_
 refine aq (am rfl) rfl rfl ?_
 refine eo (t := 30) (.slice A1 (bk b).reverse.length c1) rfl (by rw [List.length_reverse]) ?_
 refine aq (am rfl) rfl rfl ?_
 refine aq (bB  Tryz.underlying135 cI rfl rfl (dL 0 rfl) rfl (by simp; omega)) rfl rfl ?_
 refine aq (bZ bV ([] : a6) cI rfl (dL 0 rfl) (by simp; omega) rfl rfl) rfl rfl ?_
 refine bD rfl ent_192 (c_label_Compare _ _ (hxa _ (aZ (by simp; omega))) (hxb _ (aZ (by simp; omega)))) rfl ?_
 refine aq (ai rfl) rfl rfl ?_
 refine aa ?_
 refine aj ?_
 refine ap ?_
 refine ae ?_
 refine aq (am rfl) rfl rfl ?_
 refine aq (cO rfl rfl) rfl rfl ?_
 refine ay (t := 36) rfl (fun h9_1 => ?_) (fun h9_1 => ?_)
 refine aa ?_
 refine aj ?_
 refine aA rfl ?_
 refine ap ?_
 refine ae ?_
 refine aq (am rfl) rfl rfl ?_
 refine aq (ai rfl) rfl rfl ?_
 refine aa ?_
 refine aj ?_
 refine aN ?_
 refine aJ ?_
 refine ax ?_
 refine bh ?_
 refine aJ ?_
 refine ax ?_
 refine aR (ts := [4]) rfl rfl rfl (fun w hw => ?_)
 focus first
   | (have he : bR a b = dK (bO ((bk a).reverse.getD k [])) (bO ((bk b).reverse.getD k [])) := by rw [hI.2.2, dR (s := (bk a).reverse) (t := (bk b).reverse) (k := k) (by simp; omega) (by simp; omega), if_pos h9_1]
      exact ⟨(), by rw [he]; rfl, hw.base, (hw.weak (List.nil_sublist _) (fun s hs => hs)).toNews⟩)
   | (have he := eS hI.2.2 hI.1 hI.2.1 (by omega)
      exact ⟨(), by rw [he]; rfl, hw.base, (hw.weak (List.nil_sublist _) (fun s hs => hs)).toNews⟩)
   | (trace_state; fail)
 refine aa ?_
 refine aj ?_
 refine aD rfl ?_
 refine aQ ?_
 refine bj ?_
 refine aj ?_
 refine ae ?_
 refine aq (br rfl rfl (by omega) (by omega)) rfl rfl ?_
 refine aq (am rfl) rfl rfl ?_
 refine aa ?_
 refine bv (k + 1) ?_ ?_ ⟨rfl, trivial⟩ (by repeat (first | exact trivial | refine ⟨rfl, ?_⟩)) aG
 exact ⟨by omega, by omega, by rw [hI.2.2, dR (s := (bk a).reverse) (t := (bk b).reverse) (k := k) (by simp; omega) (by simp; omega), if_neg h9_1]⟩
 omega
 refine aa ?_
 refine aj ?_
 refine ap ?_
 refine aD rfl ?_
 refine bJ ?_
 refine aV ?_
 refine aX ?_
 refine a8 ?_
 refine aj ?_
 refine ap ?_
 refine ae ?_
 refine aq (am rfl) rfl rfl ?_
 refine aq (bg Tryz.underlying135 rfl) rfl rfl ?_
 refine aq (am rfl) rfl rfl ?_
 refine aq (bg Tryz.underlying135 rfl) rfl rfl ?_
 refine bD rfl ent_173 (c_cmpI _ _) rfl ?_
 refine aq (ai rfl) rfl rfl ?_
 refine aa ?_
 refine aj ?_
 refine aN ?_
 refine aR (ts := [4]) rfl rfl rfl (fun w hw => ?_)
 focus first
   | (have he : bR a b = dK (bO ((bk a).reverse.getD k [])) (bO ((bk b).reverse.getD k [])) := by rw [hI.2.2, dR (s := (bk a).reverse) (t := (bk b).reverse) (k := k) (by simp; omega) (by simp; omega), if_pos h9_1]
      exact ⟨(), by rw [he]; rfl, hw.base, (hw.weak (List.nil_sublist _) (fun s hs => hs)).toNews⟩)
   | (have he := eS hI.2.2 hI.1 hI.2.1 (by omega)
      exact ⟨(), by rw [he]; rfl, hw.base, (hw.weak (List.nil_sublist _) (fun s hs => hs)).toNews⟩)
   | (trace_state; fail)

theorem fv (a b : a6) (ha : a.length ≤ 1000000000) (hb : b.length ≤ 1000000000) : eC Tryz.prog 131 #[.string (ba a), .string (ba b)] (.int .i64 (bR a b)) := rc_pure (c_name_Compare a b ha hb)

set_option maxRecDepth 100000 in
theorem c_ref01_Compare (a b : a6) (ha : a.length ≤ 1000000000000) (hb : b.length ≤ 1000000000000) : eC Tryz.prog 200 #[.string (ba a), .string (ba b)] (.int .i64 (dK (bO a) (bO b))) := by
 intro w0
 have hl1 := dW a
 have hl2 := dW b
 refine bT (ok0 := no) (S := []) (args := [.string (ba a), .string (ba b)]) 48 Tryz.func200 rfl rfl rfl (by simp) (by simp) ?_
 refine ap ?_
 refine ae ?_
 refine aq (ai rfl) rfl rfl ?_
 refine aa ?_
 refine aj ?_
 refine ap ?_
 refine ae ?_
 refine aq (am rfl) rfl rfl ?_
 refine bD rfl ent_180 (hG _ (by first | omega | (simp only [List.length_nil, List.length_cons, List.length_take, List.length_drop, List.length_append]; omega))) rfl ?_
 refine aq (am rfl) rfl rfl ?_
 refine bD rfl ent_180 (hG _ (by first | omega | (simp only [List.length_nil, List.length_cons, List.length_take, List.length_drop, List.length_append]; omega))) rfl ?_
 refine aq (ai rfl) rfl rfl ?_
 refine aq (ai rfl) rfl rfl ?_
 refine aa ?_
 refine aj ?_
 refine ap ?_
 refine ap ?_
 refine ae ?_
 refine aq (ai rfl) rfl rfl ?_
 refine aa ?_
 refine aj ?_
 refine aS ?_
 refine cC (σ := Nat) [4, 5, 10, 11, 12, 13, 14, 15, 16, 17, 18, 19, 20, 21, 22, 23, 24, 25, 26, 27, 28, 29, 30, 31, 32, 33, 34, 35] (fun k => k ≤ (bO a).length ∧ k ≤ (bO b).length ∧ dK (bO a) (bO b) = dK ((bO a).drop k) ((bO b).drop k)) (fun k => (bO a).length - k) (fun k => [(5, .int .i64 k)]) (0) ?_ ⟨rfl, trivial⟩ (fun k hI => ?_)
 exact ⟨Nat.zero_le _, Nat.zero_le _, rfl⟩
 refine ap ?_
 refine ap ?_
 refine ae ?_
 refine aq (am rfl) rfl rfl ?_
 refine aq (am rfl) rfl rfl ?_
 refine aq (dp Tryz.underlying9 rfl) rfl rfl ?_
 refine aq (bW rfl rfl) rfl rfl ?_
 refine ay (t := 13) rfl (fun h3_3 => ?_) (fun h3_3 => ?_)
 refine aq (am rfl) rfl rfl ?_
 refine au rfl rfl ?_
 refine aq (am rfl) rfl rfl ?_
 refine au rfl rfl ?_
 refine aq (am rfl) rfl rfl ?_
 refine au rfl rfl ?_
 refine aq (dp Tryz.underlying9 rfl) rfl rfl ?_
 refine au rfl rfl ?_
 refine aq (bW rfl rfl) rfl rfl ?_
 refine ay (t := 18) rfl (fun h3_8 => ?_) (fun h3_8 => ?_)
 refine aq (aH rfl rfl) rfl rfl ?_
 refine aa ?_
 refine aj ?_
 refine aA rfl ?_
 refine aQ ?_
 refine aj ?_
 refine ap ?_
 refine aS ?_
 refine ap ?_
 refine ap ?_
 refine dQ 7 rfl mixed ?_
 refine aK (i := 0) rfl ak (am rfl) aG aG rfl (ah (ah (ao (ah (av (ao (ah aw))))))) (by kernel_rfl) rfl ?_
 refine aK (i := 1) rfl ak (am rfl) aG aG rfl (ah (ah (ao (ah (av (ao (ah aw))))))) (by kernel_rfl) rfl ?_
 refine aK (i := 2) rfl ak (fA  Tryz.underlying9 rfl rfl rfl (by omega)) aG aG rfl (ah (ah (ao (ah (av (ao (ah aw))))))) (by kernel_rfl) rfl ?_
 refine aK (i := 3) rfl ak (am rfl) aG aG rfl (ah (ah (ao (ah (av (ao (ah aw))))))) (by kernel_rfl) rfl ?_
 refine aK (i := 4) rfl ak (am rfl) aG aG rfl (ah (ah (ao (ah (av (ao (ah aw))))))) (by kernel_rfl) rfl ?_
 refine aK (i := 5) rfl ak (fA  Tryz.underlying9 rfl rfl rfl (by omega)) aG aG rfl (ah (ah (ao (ah (av (ao (ah aw))))))) (by kernel_rfl) rfl ?_
 refine aK (i := 6) rfl ak (bW rfl rfl) aG aG rfl (ah (ah (ao (ah (av (ao (ah aw))))))) (by kernel_rfl) rfl ?_
 refine dN (t := 28) rfl (fun h5_6 => ?_) (fun h5_6 => ?_)
 refine cF (by kernel_rfl) ?_
 refine aj ?_
 refine aA rfl ?_
 refine ap ?_
 refine ae ?_
 refine aq (ai rfl) rfl rfl ?_
 refine aa ?_
 refine aj ?_
 refine aN ?_
 refine ax ?_
 refine aJ ?_
 refine ax ?_
 refine bh ?_
 refine aJ ?_
 refine ax ?_
 refine aR (ts := [4]) rfl rfl rfl (fun w hw => ?_)
 refine ⟨?_, hw.base⟩
 show Ending.returned (.int _ _) = _
 congr 2
 focus first
   | (rw [hI.2.2, dq (s := bO a) (t := bO b) (k := k) (by omega) (by omega), if_pos (by omega)]
      done)
   | (rw [hI.2.2, dq (s := bO a) (t := bO b) (k := k) (by omega) (by omega), if_neg (by omega), if_pos (by omega)]
      done)
   | (rw [hI.2.2, fO ⟨hI.1, hI.2.1⟩ (by omega)]
      focus first | (rw [if_pos (by omega)]; done) | (rw [if_neg (by omega), if_pos (by omega)]; done) | (rw [if_neg (by omega), if_neg (by omega)]; done))
   | (trace_state; fail)
 refine cF (by kernel_rfl) ?_
 refine aj ?_
 refine aD rfl ?_
 refine aQ ?_
 refine aj ?_
 refine ap ?_
 refine dQ 7 rfl mixed ?_
 refine aK (i := 0) rfl ak (am rfl) aG aG rfl (ah (ao (ah (av (ao (ah aw)))))) (by kernel_rfl) rfl ?_
 refine aK (i := 1) rfl ak (am rfl) aG aG rfl (ah (ao (ah (av (ao (ah aw)))))) (by kernel_rfl) rfl ?_
 refine aK (i := 2) rfl ak (fA  Tryz.underlying9 rfl rfl rfl (by omega)) aG aG rfl (ah (ao (ah (av (ao (ah aw)))))) (by kernel_rfl) rfl ?_
 refine aK (i := 3) rfl ak (am rfl) aG aG rfl (ah (ao (ah (av (ao (ah aw)))))) (by kernel_rfl) rfl ?_
 refine aK (i := 4) rfl ak (am rfl) aG aG rfl (ah (ao (ah (av (ao (ah aw)))))) (by kernel_rfl) rfl ?_
 refine aK (i := 5) rfl ak (fA  Tryz.underlying9 rfl rfl rfl (by omega)) aG aG rfl (ah (ao (ah (av (ao (ah aw)))))) (by kernel_rfl) rfl ?_
 refine aK (i := 6) rfl ak (dB rfl rfl) aG aG rfl (ah (ao (ah (av (ao (ah aw)))))) (by kernel_rfl) rfl ?_
 refine dN (t := 35) rfl (fun h7_6 => ?_) (fun h7_6 => ?_)
 refine cF (by kernel_rfl) ?_
 refine aj ?_
 refine aA rfl ?_
 refine ap ?_
 refine ae ?_
 refine aq (ai rfl) rfl rfl ?_
 refine aa ?_
 refine aj ?_
 refine aN ?_
 refine aJ ?_
 refine ax ?_
 refine bh ?_
 refine aJ ?_
 refine ax ?_
 refine aR (ts := [4]) rfl rfl rfl (fun w hw => ?_)
 refine ⟨?_, hw.base⟩
 show Ending.returned (.int _ _) = _
 congr 2
 focus first
   | (rw [hI.2.2, dq (s := bO a) (t := bO b) (k := k) (by omega) (by omega), if_pos (by omega)]
      done)
   | (rw [hI.2.2, dq (s := bO a) (t := bO b) (k := k) (by omega) (by omega), if_neg (by omega), if_pos (by omega)]
      done)
   | (rw [hI.2.2, fO ⟨hI.1, hI.2.1⟩ (by omega)]
      focus first | (rw [if_pos (by omega)]; done) | (rw [if_neg (by omega), if_pos (by omega)]; done) | (rw [if_neg (by omega), if_neg (by omega)]; done))
   | (trace_state; fail)
 refine cF (by kernel_rfl) ?_
 refine aj ?_
 refine aD rfl ?_
 refine aQ ?_
 refine bj ?_
 refine aj ?_
 refine ae ?_
 refine aq (am rfl) rfl rfl ?_
 refine aq (br rfl rfl (by omega) (by omega)) rfl rfl ?_
 refine aq (ai rfl) rfl rfl ?_
 refine aa ?_
 refine bv (k + 1) ?_ ?_ ⟨rfl, trivial⟩ (by repeat (first | exact trivial | refine ⟨rfl, ?_⟩)) aG
 exact ⟨by omega, by omega, by rw [hI.2.2, dq (s := bO a) (t := bO b) (k := k) (by omega) (by omega), if_neg (by omega), if_neg (by omega)]⟩
 omega
 refine aq (aH rfl rfl) rfl rfl ?_
 refine aa ?_
 refine aj ?_
 refine aD rfl ?_
 refine bJ ?_
 refine aV ?_
 refine aX ?_
 refine a8 ?_
 refine aj ?_
 refine ap ?_
 refine aS ?_
 refine ap ?_
 refine ae ?_
 refine aq (am rfl) rfl rfl ?_
 refine aq (dp Tryz.underlying9 rfl) rfl rfl ?_
 refine aq (am rfl) rfl rfl ?_
 refine aq (dp Tryz.underlying9 rfl) rfl rfl ?_
 refine aq (bW rfl rfl) rfl rfl ?_
 refine ay (t := 41) rfl (fun h9_4 => ?_) (fun h9_4 => ?_)
 refine aq (ai rfl) rfl rfl ?_
 refine aa ?_
 refine aj ?_
 refine aA rfl ?_
 refine ap ?_
 refine ae ?_
 refine aq (ai rfl) rfl rfl ?_
 refine aa ?_
 refine aj ?_
 refine aN ?_
 refine aJ ?_
 refine ax ?_
 refine aR (ts := [4]) rfl rfl rfl (fun w hw => ?_)
 refine ⟨?_, hw.base⟩
 show Ending.returned (.int _ _) = _
 congr 2
 focus first
   | (rw [hI.2.2, dq (s := bO a) (t := bO b) (k := k) (by omega) (by omega), if_pos (by omega)]
      done)
   | (rw [hI.2.2, dq (s := bO a) (t := bO b) (k := k) (by omega) (by omega), if_neg (by omega), if_pos (by omega)]
      done)
   | (rw [hI.2.2, fO ⟨hI.1, hI.2.1⟩ (by omega)]
      focus first | (rw [if_pos (by omega)]; done) | (rw [if_neg (by omega), if_pos (by omega)]; done) | (rw [if_neg (by omega), if_neg (by omega)]; done))
   | (trace_state; fail)
 refine aq (ai rfl) rfl rfl ?_
 refine aa ?_
 refine aj ?_
 refine aD rfl ?_
 refine ap ?_
 refine ae ?_
 refine aq (am rfl) rfl rfl ?_
 refine aq (dp Tryz.underlying9 rfl) rfl rfl ?_
 refine aq (am rfl) rfl rfl ?_
 refine aq (dp Tryz.underlying9 rfl) rfl rfl ?_
 refine aq (dB rfl rfl) rfl rfl ?_
 refine ay (t := 47) rfl (fun h11_4 => ?_) (fun h11_4 => ?_)
 refine aq (ai rfl) rfl rfl ?_
 refine aa ?_
 refine aj ?_
 refine aA rfl ?_
 refine ap ?_
 refine ae ?_
 refine aq (ai rfl) rfl rfl ?_
 refine aa ?_
 refine aj ?_
 refine aN ?_
 refine aJ ?_
 refine ax ?_
 refine aR (ts := [4]) rfl rfl rfl (fun w hw => ?_)
 refine ⟨?_, hw.base⟩
 show Ending.returned (.int _ _) = _
 congr 2
 focus first
   | (rw [hI.2.2, dq (s := bO a) (t := bO b) (k := k) (by omega) (by omega), if_pos (by omega)]
      done)
   | (rw [hI.2.2, dq (s := bO a) (t := bO b) (k := k) (by omega) (by omega), if_neg (by omega), if_pos (by omega)]
      done)
   | (rw [hI.2.2, fO ⟨hI.1, hI.2.1⟩ (by omega)]
      focus first | (rw [if_pos (by omega)]; done) | (rw [if_neg (by omega), if_pos (by omega)]; done) | (rw [if_neg (by omega), if_neg (by omega)]; done))
   | (trace_state; fail)
 refine aq (ai rfl) rfl rfl ?_
 refine aa ?_
 refine aj ?_
 refine aD rfl ?_
 refine aQ ?_
 refine bj ?_
 refine aj ?_
 refine ap ?_
 refine ae ?_
 refine aq (ai rfl) rfl rfl ?_
 refine aa ?_
 refine aj ?_
 refine aN ?_
 refine aR (ts := [4]) rfl rfl rfl (fun w hw => ?_)
 refine ⟨?_, hw.base⟩
 show Ending.returned (.int _ _) = _
 congr 2
 focus first
   | (rw [hI.2.2, dq (s := bO a) (t := bO b) (k := k) (by omega) (by omega), if_pos (by omega)]
      done)
   | (rw [hI.2.2, dq (s := bO a) (t := bO b) (k := k) (by omega) (by omega), if_neg (by omega), if_pos (by omega)]
      done)
   | (rw [hI.2.2, fO ⟨hI.1, hI.2.1⟩ (by omega)]
      focus first | (rw [if_pos (by omega)]; done) | (rw [if_neg (by omega), if_pos (by omega)]; done) | (rw [if_neg (by omega), if_neg (by omega)]; done))
   | (trace_state; fail)
 refine aq (am rfl) rfl rfl ?_
 refine ar rfl rfl rfl rfl ?_
 refine ar rfl rfl rfl rfl ?_
 refine ar rfl rfl rfl rfl ?_
 refine ar rfl rfl rfl rfl ?_
 refine aq (aF rfl rfl) rfl rfl ?_
 refine aa ?_
 refine aj ?_
 refine aD rfl ?_
 refine bJ ?_
 refine aV ?_
 refine aX ?_
 refine a8 ?_
 refine aj ?_
 refine ap ?_
 refine aS ?_
 refine ap ?_
 refine ae ?_
 refine aq (am rfl) rfl rfl ?_
 refine aq (dp Tryz.underlying9 rfl) rfl rfl ?_
 refine aq (am rfl) rfl rfl ?_
 refine aq (dp Tryz.underlying9 rfl) rfl rfl ?_
 refine aq (bW rfl rfl) rfl rfl ?_
 refine ay (t := 41) rfl (fun h9_4 => ?_) (fun h9_4 => ?_)
 refine aq (ai rfl) rfl rfl ?_
 refine aa ?_
 refine aj ?_
 refine aA rfl ?_
 refine ap ?_
 refine ae ?_
 refine aq (ai rfl) rfl rfl ?_
 refine aa ?_
 refine aj ?_
 refine aN ?_
 refine aJ ?_
 refine ax ?_
 refine aR (ts := [4]) rfl rfl rfl (fun w hw => ?_)
 refine ⟨?_, hw.base⟩
 show Ending.returned (.int _ _) = _
 congr 2
 focus first
   | (rw [hI.2.2, dq (s := bO a) (t := bO b) (k := k) (by omega) (by omega), if_pos (by omega)]
      done)
   | (rw [hI.2.2, dq (s := bO a) (t := bO b) (k := k) (by omega) (by omega), if_neg (by omega), if_pos (by omega)]
      done)
   | (rw [hI.2.2, fO ⟨hI.1, hI.2.1⟩ (by omega)]
      focus first | (rw [if_pos (by omega)]; done) | (rw [if_neg (by omega), if_pos (by omega)]; done) | (rw [if_neg (by omega), if_neg (by omega)]; done))
   | (trace_state; fail)
 refine aq (ai rfl) rfl rfl ?_
 refine aa ?_
 refine aj ?_
 refine aD rfl ?_
 refine ap ?_
 refine ae ?_
 refine aq (am rfl) rfl rfl ?_
 refine aq (dp Tryz.underlying9 rfl) rfl rfl ?_
 refine aq (am rfl) rfl rfl ?_
 refine aq (dp Tryz.underlying9 rfl) rfl rfl ?_
 refine aq (dB rfl rfl) rfl rfl ?_
 refine ay (t := 47) rfl (fun h11_4 => ?_) (fun h11_4 => ?_)
 refine aq (ai rfl) rfl rfl ?_
 refine aa ?_
 refine aj ?_
 refine aA rfl ?_
 refine ap ?_
 refine ae ?_
 refine aq (ai rfl) rfl rfl ?_
 refine aa ?_
 refine aj ?_
 refine aN ?_
 refine aJ ?_
 refine ax ?_
 refine aR (ts := [4]) rfl rfl rfl (fun w hw => ?_)
 refine ⟨?_, hw.base⟩
 show Ending.returned (.int _ _) = _
 congr 2
 focus first
   | (rw [hI.2.2, dq (s := bO a) (t := bO b) (k := k) (by omega) (by omega), if_pos (by omega)]
      done)
   | (rw [hI.2.2, dq (s := bO a) (t := bO b) (k := k) (by omega) (by omega), if_neg (by omega), if_pos (by omega)]
      done)
   | (rw [hI.2.2, fO ⟨hI.1, hI.2.1⟩ (by omega)]
      focus first | (rw [if_pos (by omega)]; done) | (rw [if_neg (by omega), if_pos (by omega)]; done) | (rw [if_neg (by omega), if_neg (by omega)]; done))
   | (trace_state; fail)
 refine aq (ai rfl) rfl rfl ?_
 refine aa ?_
 refine aj ?_
 refine aD rfl ?_
 refine aQ ?_
 refine bj ?_
 refine aj ?_
 refine ap ?_
 refine ae ?_
 refine aq (ai rfl) rfl rfl ?_
 refine aa ?_
 refine aj ?_
 refine aN ?_
 refine aR (ts := [4]) rfl rfl rfl (fun w hw => ?_)
 refine ⟨?_, hw.base⟩
 show Ending.returned (.int _ _) = _
 congr 2
 focus first
   | (rw [hI.2.2, dq (s := bO a) (t := bO b) (k := k) (by omega) (by omega), if_pos (by omega)]
      done)
   | (rw [hI.2.2, dq (s := bO a) (t := bO b) (k := k) (by omega) (by omega), if_neg (by omega), if_pos (by omega)]
      done)
   | (rw [hI.2.2, fO ⟨hI.1, hI.2.1⟩ (by omega)]
      focus first | (rw [if_pos (by omega)]; done) | (rw [if_neg (by omega), if_pos (by omega)]; done) | (rw [if_neg (by omega), if_neg (by omega)]; done))
   | (trace_state; fail)

theorem rget (l : List a6) {k : Nat} (h : k < l.length) : l.getD (l.length - 1 - k) [] = l.reverse.getD k [] := (rev_getD h).symm

set_option maxRecDepth 100000 in
theorem c_ref02_Compare (a b : a6) (ha : a.length ≤ 1000000000) (hb : b.length ≤ 1000000000) : RC Tryz.prog 141 #[.string (ba a), .string (ba b)] [] (α := Unit) (fun _ => .int .i64 (bR a b)) (fun _ => []) := by
 refine bK (args := [.string (ba a), .string (ba b)]) 55 Tryz.func141 rfl rfl rfl (fun w0 => ?_)
 have hra : (bk a).reverse.length = (bk a).length := List.length_reverse
 have hrb : (bk b).reverse.length = (bk b).length := List.length_reverse
 have hla := gS a (by omega)
 have hlb := gS b (by omega)
 have hxa : ∀ s ∈ (bk a).reverse, s.length ≤ 1000000000000 := fun s hs => by have := hla.2.1 s (List.mem_reverse.1 hs); omega
 have hxb : ∀ s ∈ (bk b).reverse, s.length ≤ 1000000000000 := fun s hs => by have := hlb.2.1 s (List.mem_reverse.1 hs); omega
 have hxa2 : ∀ s ∈ bk a, s.length ≤ 1000000000000 := fun s hs => by have := hla.2.1 s hs; omega
 have hxb2 : ∀ s ∈ bk b, s.length ≤ 1000000000000 := fun s hs => by have := hlb.2.1 s hs; omega
 refine ap ?_
 refine ae ?_
 refine aq (ai rfl) rfl rfl ?_
 refine aa ?_
 refine aj ?_
 refine ap ?_
 refine ae ?_
 refine aq (am rfl) rfl rfl ?_
 refine dE rfl ent_83 rfl (gt _) (fun w hw => aY) (fun ⟨A0, c0⟩ => ?_)
 refine aq (am rfl) rfl rfl ?_
 refine dE rfl ent_83 rfl (gt _) (fun w hw => aY) (fun ⟨A1, c1⟩ => ?_)
 refine aq (ai rfl) rfl rfl ?_
 refine aq (ai rfl) rfl rfl ?_
 refine aa ?_
 refine aj ?_
 refine ap ?_
 refine ap ?_
 refine ae ?_
 refine aq (ai rfl) rfl rfl ?_
 refine aa ?_
 refine aj ?_
 refine aS ?_
 refine cC (σ := Nat) [4, 7, 8, 13, 14, 15, 16, 17, 18, 19, 20, 21, 22, 23, 24, 25, 26, 27, 28, 29, 30, 31, 32, 33, 34, 35, 36, 37, 38, 39, 40, 41, 42] (fun k => k ≤ (bk a).length ∧ k ≤ (bk b).length ∧ bR a b = d6 ((bk a).reverse.drop k) ((bk b).reverse.drop k)) (fun k => (bk a).length - k) (fun k => [(7, .int .i64 ((k : Int) + 1))]) (0) ?_ ⟨rfl, trivial⟩ (fun k hI => ?_)
 exact ⟨Nat.zero_le _, Nat.zero_le _, rfl⟩
 refine ap ?_
 refine ap ?_
 refine ae ?_
 refine aq (am rfl) rfl rfl ?_
 refine aq (am rfl) rfl rfl ?_
 refine aq (bg Tryz.underlying135 rfl) rfl rfl ?_
 refine aq (ff rfl rfl) rfl rfl ?_
 refine ay (t := 16) rfl (fun h3_3 => ?_) (fun h3_3 => ?_)
 refine aq (am rfl) rfl rfl ?_
 refine au rfl rfl ?_
 refine aq (am rfl) rfl rfl ?_
 refine au rfl rfl ?_
 refine aq (am rfl) rfl rfl ?_
 refine au rfl rfl ?_
 refine aq (bg Tryz.underlying135 rfl) rfl rfl ?_
 refine au rfl rfl ?_
 refine aq (ff rfl rfl) rfl rfl ?_
 refine ay (t := 21) rfl (fun h3_8 => ?_) (fun h3_8 => ?_)
 refine aq (aH rfl rfl) rfl rfl ?_
 refine aa ?_
 refine aj ?_
 refine aA rfl ?_
 refine aQ ?_
 refine aj ?_
 refine ap ?_
 refine aS ?_
 refine ap ?_
 refine dQ 16 rfl mixed ?_
 refine aK (i := 0) rfl ak (am rfl) aG aG rfl (ah (ao (ah (av (ao (ah aw)))))) (by kernel_rfl) rfl ?_
 refine aK (i := 1) rfl ak (am rfl) aG aG rfl (ah (ao (ah (av (ao (ah aw)))))) (by kernel_rfl) rfl ?_
 refine aK (i := 2) rfl ak (bg Tryz.underlying135 rfl) aG aG rfl (ah (ao (ah (av (ao (ah aw)))))) (by kernel_rfl) rfl ?_
 refine aK (i := 3) rfl ak (am rfl) aG aG rfl (ah (ao (ah (av (ao (ah aw)))))) (by kernel_rfl) rfl ?_
 refine aK (i := 4) rfl ak (fd rfl rfl (by omega) (by omega)) aG aG rfl (ah (ao (ah (av (ao (ah aw)))))) (by kernel_rfl) rfl ?_
 refine aK (i := 5) rfl ak (bB (k := (bk a).length - 1 - k) Tryz.underlying135 cI rfl rfl (dL 1 rfl) (by omega) (by omega)) aG aG rfl (ah (ao (ah (av (ao (ah aw)))))) (by kernel_rfl) rfl ?_
 refine aK (i := 6) rfl ak (bZ bV ([] : a6) cI rfl (dL 1 rfl) (by omega) rfl rfl) aG aG rfl (ah (ao (ah (av (ao (ah aw)))))) (by kernel_rfl) rfl ?_
 refine gQ (t := 31) (.string (ba ((bk a).reverse.getD k []))) rfl (by rw [rget _ (by omega)]) ?_
 refine aK (i := 7) rfl ak (am rfl) aG aG rfl (ah (ao (ah (av (ao (ah aw)))))) (by kernel_rfl) rfl ?_
 refine aK (i := 8) rfl ak (am rfl) aG aG rfl (ah (ao (ah (av (ao (ah aw)))))) (by kernel_rfl) rfl ?_
 refine aK (i := 9) rfl ak (bg Tryz.underlying135 rfl) aG aG rfl (ah (ao (ah (av (ao (ah aw)))))) (by kernel_rfl) rfl ?_
 refine aK (i := 10) rfl ak (am rfl) aG aG rfl (ah (ao (ah (av (ao (ah aw)))))) (by kernel_rfl) rfl ?_
 refine aK (i := 11) rfl ak (fd rfl rfl (by omega) (by omega)) aG aG rfl (ah (ao (ah (av (ao (ah aw)))))) (by kernel_rfl) rfl ?_
 refine aK (i := 12) rfl ak (bB (k := (bk b).length - 1 - k) Tryz.underlying135 cI rfl rfl (dL 0 rfl) (by omega) (by omega)) aG aG rfl (ah (ao (ah (av (ao (ah aw)))))) (by kernel_rfl) rfl ?_
 refine aK (i := 13) rfl ak (bZ bV ([] : a6) cI rfl (dL 0 rfl) (by omega) rfl rfl) aG aG rfl (ah (ao (ah (av (ao (ah aw)))))) (by kernel_rfl) rfl ?_
 refine gQ (t := 38) (.string (ba ((bk b).reverse.getD k []))) rfl (by rw [rget _ (by omega)]) ?_
 refine dG (i := 14) rfl rfl rfl (bf rfl ent_200) (by kernel_rfl) rfl ?_
 refine bD rfl ent_200 (c_ref01_Compare _ _ (hxa _ (aZ (by simp; omega))) (hxb _ (aZ (by simp; omega)))) rfl ?_
 refine aa ?_
 refine eO aG ?_
 refine aK (i := 15) rfl ak (ai rfl) aG aG rfl (ah (ao (ah (av (ao (ah aw)))))) (by kernel_rfl) rfl ?_
 refine cF (by kernel_rfl) ?_
 refine aj ?_
 refine ap ?_
 refine ae ?_
 refine aq (am rfl) rfl rfl ?_
 refine aq (cO rfl rfl) rfl rfl ?_
 refine ay (t := 41) rfl (fun h6_1 => ?_) (fun h6_1 => ?_)
 refine aa ?_
 refine aj ?_
 refine aA rfl ?_
 refine ap ?_
 refine ae ?_
 refine aq (am rfl) rfl rfl ?_
 refine aq (ai rfl) rfl rfl ?_
 refine aa ?_
 refine aj ?_
 refine aN ?_
 refine aJ ?_
 refine ax ?_
 refine bh ?_
 refine aJ ?_
 refine ax ?_
 refine aR (ts := [4]) rfl rfl rfl (fun w hw => ?_)
 focus first
   | (have he : bR a b = dK (bO ((bk a).reverse.getD k [])) (bO ((bk b).reverse.getD k [])) := by rw [hI.2.2, dR (s := (bk a).reverse) (t := (bk b).reverse) (k := k) (by simp; omega) (by simp; omega), if_pos h6_1]
      exact ⟨(), by rw [he]; rfl, hw.base, (hw.weak (List.nil_sublist _) (fun s hs => hs)).toNews⟩)
   | (have he := eS hI.2.2 hI.1 hI.2.1 (by omega)
      rw [fK] at he
      refine ⟨(), ?_, hw.base, (hw.weak (List.nil_sublist _) (fun s hs => hs)).toNews⟩
      rw [he]
      show Ending.returned (.int _ _) = _
      congr 2
      focus first | (rw [if_pos (by omega)]; done) | (rw [if_neg (by omega), if_pos (by omega)]; done) | (rw [if_neg (by omega), if_neg (by omega)]; done))
   | (trace_state; fail)
 refine aa ?_
 refine aj ?_
 refine aD rfl ?_
 refine aQ ?_
 refine bj ?_
 refine aj ?_
 refine ae ?_
 refine aq (am rfl) rfl rfl ?_
 refine aq (br rfl rfl (by omega) (by omega)) rfl rfl ?_
 refine aq (ai rfl) rfl rfl ?_
 refine aa ?_
 refine bv (k + 1) ?_ ?_ ⟨lk rfl (by congr 1), trivial⟩ (by repeat (first | exact trivial | refine ⟨rfl, ?_⟩)) aG
 exact ⟨by omega, by omega, by rw [hI.2.2, dR (s := (bk a).reverse) (t := (bk b).reverse) (k := k) (by simp; omega) (by simp; omega), if_neg h6_1]⟩
 omega
 refine aq (aH rfl rfl) rfl rfl ?_
 refine aa ?_
 refine aj ?_
 refine aD rfl ?_
 refine bJ ?_
 refine aV ?_
 refine aX ?_
 refine a8 ?_
 refine aj ?_
 refine ap ?_
 refine aS ?_
 refine ap ?_
 refine ae ?_
 refine aq (am rfl) rfl rfl ?_
 refine aq (bg Tryz.underlying135 rfl) rfl rfl ?_
 refine aq (am rfl) rfl rfl ?_
 refine aq (bg Tryz.underlying135 rfl) rfl rfl ?_
 refine aq (bW rfl rfl) rfl rfl ?_
 refine ay (t := 48) rfl (fun h8_4 => ?_) (fun h8_4 => ?_)
 refine aq (ai rfl) rfl rfl ?_
 refine aa ?_
 refine aj ?_
 refine aA rfl ?_
 refine ap ?_
 refine ae ?_
 refine aq (ai rfl) rfl rfl ?_
 refine aa ?_
 refine aj ?_
 refine aN ?_
 refine aJ ?_
 refine ax ?_
 refine aR (ts := [4]) rfl rfl rfl (fun w hw => ?_)
 focus first
   | (have he : bR a b = dK (bO ((bk a).reverse.getD k [])) (bO ((bk b).reverse.getD k [])) := by rw [hI.2.2, dR (s := (bk a).reverse) (t := (bk b).reverse) (k := k) (by simp; omega) (by simp; omega), if_pos h6_1]
      exact ⟨(), by rw [he]; rfl, hw.base, (hw.weak (List.nil_sublist _) (fun s hs => hs)).toNews⟩)
   | (have he := eS hI.2.2 hI.1 hI.2.1 (by omega)
      rw [fK] at he
      refine ⟨(), ?_, hw.base, (hw.weak (List.nil_sublist _) (fun s hs => hs)).toNews⟩
      rw [he]
      show Ending.returned (.int _ _) = _
      congr 2
      focus first | (rw [if_pos (by omega)]; done) | (rw [if_neg (by omega), if_pos (by omega)]; done) | (rw [if_neg (by omega), if_neg (by omega)]; done))
   | (trace_state; fail)
 refine aq (ai rfl) rfl rfl ?_
 refine aa ?_
 refine aj ?_
 refine aD rfl ?_
 refine ap ?_
 refine ae ?_
 refine aq (am rfl) rfl rfl ?_
 refine aq (bg Tryz.underlying135 rfl) rfl rfl ?_
 refine aq (am rfl) rfl rfl ?_
 refine aq (bg Tryz.underlying135 rfl) rfl rfl ?_
 refine aq (dB rfl rfl) rfl rfl ?_
 refine ay (t := 54) rfl (fun h10_4 => ?_) (fun h10_4 => ?_)
 refine aq (ai rfl) rfl rfl ?_
 refine aa ?_
 refine aj ?_
 refine aA rfl ?_
 refine ap ?_
 refine ae ?_
 refine aq (ai rfl) rfl rfl ?_
 refine aa ?_
 refine aj ?_
 refine aN ?_
 refine aJ ?_
 refine ax ?_
 refine aR (ts := [4]) rfl rfl rfl (fun w hw => ?_)
 focus first
   | (have he : bR a b = dK (bO ((bk a).reverse.getD k [])) (bO ((bk b).reverse.getD k [])) := by rw [hI.2.2, dR (s := (bk a).reverse) (t := (bk b).reverse) (k := k) (by simp; omega) (by simp; omega), if_pos h6_1]
      exact ⟨(), by rw [he]; rfl, hw.base, (hw.weak (List.nil_sublist _) (fun s hs => hs)).toNews⟩)
   | (have he := eS hI.2.2 hI.1 hI.2.1 (by omega)
      rw [fK] at he
      refine ⟨(), ?_, hw.base, (hw.weak (List.nil_sublist _) (fun s hs => hs)).toNews⟩
      rw [he]
      show Ending.returned (.int _ _) = _
      congr 2
      focus first | (rw [if_pos (by omega)]; done) | (rw [if_neg (by omega), if_pos (by omega)]; done) | (rw [if_neg (by omega), if_neg (by omega)]; done))
   | (trace_state; fail)
 refine aq (ai rfl) rfl rfl ?_
 refine aa ?_
 refine aj ?_
 refine aD rfl ?_
 refine aQ ?_
 refine bj ?_
 refine aj ?_
 refine ap ?_
 refine ae ?_
 refine aq (ai rfl) rfl rfl ?_
 refine aa ?_
 refine aj ?_
 refine aN ?_
 refine aR (ts := [4]) rfl rfl rfl (fun w hw => ?_)
 focus first
   | (have he : bR a b = dK (bO ((bk a).reverse.getD k [])) (bO ((bk b).reverse.getD k [])) := by rw [hI.2.2, dR (s := (bk a).reverse) (t := (bk b).reverse) (k := k) (by simp; omega) (by simp; omega), if_pos h6_1]
      exact ⟨(), by rw [he]; rfl, hw.base, (hw.weak (List.nil_sublist _) (fun s hs => hs)).toNews⟩)
   | (have he := eS hI.2.2 hI.1 hI.2.1 (by omega)
      rw [fK] at he
      refine ⟨(), ?_, hw.base, (hw.weak (List.nil_sublist _) (fun s hs => hs)).toNews⟩
      rw [he]
      show Ending.returned (.int _ _) = _
      congr 2
      focus first | (rw [if_pos (by omega)]; done) | (rw [if_neg (by omega), if_pos (by omega)]; done) | (rw [if_neg (by omega), if_neg (by omega)]; done))
   | (trace_state; fail)
 refine aq (am rfl) rfl rfl ?_
 refine ar rfl rfl rfl rfl ?_
 refine ar rfl rfl rfl rfl ?_
 refine ar rfl rfl rfl rfl ?_
 refine ar rfl rfl rfl rfl ?_
 refine aq (aF rfl rfl) rfl rfl ?_
 refine aa ?_
 refine aj ?_
 refine aD rfl ?_
 refine bJ ?_
 refine aV ?_
 refine aX ?_
 refine a8 ?_
 refine aj ?_
 refine ap ?_
 refine aS ?_
 refine ap ?_
 refine ae ?_
 refine aq (am rfl) rfl rfl ?_
 refine aq (bg Tryz.underlying135 rfl) rfl rfl ?_
 refine aq (am rfl) rfl rfl ?_
 refine aq (bg Tryz.underlying135 rfl) rfl rfl ?_
 refine aq (bW rfl rfl) rfl rfl ?_
 refine ay (t := 48) rfl (fun h8_4 => ?_) (fun h8_4 => ?_)
 refine aq (ai rfl) rfl rfl ?_
 refine aa ?_
 refine aj ?_
 refine aA rfl ?_
 refine ap ?_
 refine ae ?_
 refine aq (ai rfl) rfl rfl ?_
 refine aa ?_
 refine aj ?_
 refine aN ?_
 refine aJ ?_
 refine ax ?_
 refine aR (ts := [4]) rfl rfl rfl (fun w hw => ?_)
 focus first
   | (have he : bR a b = dK (bO ((bk a).reverse.getD k [])) (bO ((bk b).reverse.getD k [])) := by rw [hI.2.2, dR (s := (bk a).reverse) (t := (bk b).reverse) (k := k) (by simp; omega) (by simp; omega), if_pos h6_1]
      exact ⟨(), by rw [he]; rfl, hw.base, (hw.weak (List.nil_sublist _) (fun s hs => hs)).toNews⟩)
   | (have he := eS hI.2.2 hI.1 hI.2.1 (by omega)
      rw [fK] at he
      refine ⟨(), ?_, hw.base, (hw.weak (List.nil_sublist _) (fun s hs => hs)).toNews⟩
      rw [he]
      show Ending.returned (.int _ _) = _
      congr 2
      focus first | (rw [if_pos (by omega)]; done) | (rw [if_neg (by omega), if_pos (by omega)]; done) | (rw [if_neg (by omega), if_neg (by omega)]; done))
   | (trace_state; fail)
 refine aq (ai rfl) rfl rfl ?_
 refine aa ?_
 refine aj ?_
 refine aD rfl ?_
 refine ap ?_
 refine ae ?_
 refine aq (am rfl) rfl rfl ?_
 refine aq (bg Tryz.underlying135 rfl) rfl rfl ?_
 refine aq (am rfl) rfl rfl ?_
 refine aq (bg Tryz.underlying135 rfl) rfl rfl ?_
 refine aq (dB rfl rfl) rfl rfl ?_
 refine ay (t := 54) rfl (fun h10_4 => ?_) (fun h10_4 => ?_)
 refine aq (ai rfl) rfl rfl ?_
 refine aa ?_
 refine aj ?_
 refine aA rfl ?_
 refine ap ?_
 refine ae ?_
 refine aq (ai rfl) rfl rfl ?_
 refine aa ?_
 refine aj ?_
 refine aN ?_
 refine aJ ?_
 refine ax ?_
 refine aR (ts := [4]) rfl rfl rfl (fun w hw => ?_)
 focus first
   | (have he : bR a b = dK (bO ((bk a).reverse.getD k [])) (bO ((bk b).reverse.getD k [])) := by rw [hI.2.2, dR (s := (bk a).reverse) (t := (bk b).reverse) (k := k) (by simp; omega) (by simp; omega), if_pos h6_1]
      exact ⟨(), by rw [he]; rfl, hw.base, (hw.weak (List.nil_sublist _) (fun s hs => hs)).toNews⟩)
   | (have he := eS hI.2.2 hI.1 hI.2.1 (by omega)
      rw [fK] at he
      refine ⟨(), ?_, hw.base, (hw.weak (List.nil_sublist _) (fun s hs => hs)).toNews⟩
      rw [he]
      show Ending.returned (.int _ _) = _
      congr 2
      focus first | (rw [if_pos (by omega)]; done) | (rw [if_neg (by omega), if_pos (by omega)]; done) | (rw [if_neg (by omega), if_neg (by omega)]; done))
   | (trace_state; fail)
 refine aq (ai rfl) rfl rfl ?_
 refine aa ?_
 refine aj ?_
 refine aD rfl ?_
 refine aQ ?_
 refine bj ?_
 refine aj ?_
 refine ap ?_
 refine ae ?_
 refine aq (ai rfl) rfl rfl ?_
 refine aa ?_
 refine aj ?_
 refine aN ?_
 refine aR (ts := [4]) rfl rfl rfl (fun w hw => ?_)
 focus first
   | (have he : bR a b = dK (bO ((bk a).reverse.getD k [])) (bO ((bk b).reverse.getD k [])) := by rw [hI.2.2, dR (s := (bk a).reverse) (t := (bk b).reverse) (k := k) (by simp; omega) (by simp; omega), if_pos h6_1]
      exact ⟨(), by rw [he]; rfl, hw.base, (hw.weak (List.nil_sublist _) (fun s hs => hs)).toNews⟩)
   | (have he := eS hI.2.2 hI.1 hI.2.1 (by omega)
      rw [fK] at he
      refine ⟨(), ?_, hw.base, (hw.weak (List.nil_sublist _) (fun s hs => hs)).toNews⟩
      rw [he]
      show Ending.returned (.int _ _) = _
      congr 2
      focus first | (rw [if_pos (by omega)]; done) | (rw [if_neg (by omega), if_pos (by omega)]; done) | (rw [if_neg (by omega), if_neg (by omega)]; done))
   | (trace_state; fail)

theorem iq (a b : a6) (ha : a.length ≤ 1000000000) (hb : b.length ≤ 1000000000) : eC Tryz.prog 141 #[.string (ba a), .string (ba b)] (.int .i64 (bR a b)) := rc_pure (c_ref02_Compare a b ha hb)
end Go.Proofs.YtnpdgmoeoidppaaGreat
