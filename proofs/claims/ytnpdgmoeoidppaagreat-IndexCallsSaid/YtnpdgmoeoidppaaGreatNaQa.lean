import Derived.Test.YtnpdgmoeoidppaaGreatPfQa
/- names compared, above, matched -/
namespace Go.Proofs.YtnpdgmoeoidppaaGreat
open Go.RowKit Go.Shelf
set_option linter.unusedVariables false
set_option linter.unusedSimpArgs false

theorem ent_152 : Enters Tryz.prog 152 := enters_of Tryz.func152 (by kernel_rfl) rfl
theorem ent_153 : Enters Tryz.prog 153 := enters_of Tryz.func153 (by kernel_rfl) rfl
theorem ent_173 : Enters Tryz.prog 173 := enters_of Tryz.func173 (by kernel_rfl) rfl
theorem ent_191 : Enters Tryz.prog 191 := enters_of Tryz.func191 (by kernel_rfl) rfl
theorem ent_192 : Enters Tryz.prog 192 := enters_of Tryz.func192 (by kernel_rfl) rfl
theorem ent_200 : Enters Tryz.prog 200 := enters_of Tryz.func200 (by kernel_rfl) rfl
theorem ent_210 : Enters Tryz.prog 210 := enters_of Tryz.func210 (by kernel_rfl) rfl
theorem ent_218 : Enters Tryz.prog 218 := enters_of Tryz.func218 (by kernel_rfl) rfl

theorem c_isNaN (n : Int) : dQ Tryz.prog 218 #[.int .i64 n] (.bool false) := by
 intro w0
 refine bH (ok0 := no) (S := []) (args := [.int .i64 n]) 6 Tryz.func218 rfl rfl rfl (by simp) (by simp) ?_
 refine ar ?_
 refine ai ?_
 refine au (ao rfl) rfl rfl ?_
 refine ah ?_
 refine aq ?_
 refine ar ?_
 refine ai ?_
 refine au (ap rfl) rfl rfl ?_
 refine au (ap rfl) rfl rfl ?_
 refine au (bX rfl rfl) rfl rfl ?_
 refine au (ao rfl) rfl rfl ?_
 refine ah ?_
 refine aq ?_
 refine aQ ?_
 refine aV (ts := [2]) rfl rfl rfl (fun w hw => ?_)
 exact ⟨by show Ending.returned (.bool _) = _; congr 2; simp, hw.base⟩

def cmpI (a b : Int) : Int := if a < b then -1 else if b < a then 1 else 0

theorem c_cmpI (a b : Int) : dQ Tryz.prog 173 #[.int .i64 a, .int .i64 b] (.int .i64 (cmpI a b)) := by
 intro w0
 refine bH (ok0 := no) (S := []) (args := [.int .i64 a, .int .i64 b]) 20 Tryz.func173 rfl rfl rfl (by simp) (by simp) ?_
 refine ar ?_
 refine ai ?_
 refine au (ao rfl) rfl rfl ?_
 refine ah ?_
 refine aq ?_
 refine ar ?_
 refine ai ?_
 refine au (ap rfl) rfl rfl ?_
 refine bb rfl ent_218 (c_isNaN _) rfl ?_
 refine cU (t := 8) (.bool false) rfl (congrArg Value.bool rfl) ?_
 refine au (ao rfl) rfl rfl ?_
 refine ah ?_
 refine aq ?_
 refine ar ?_
 refine ai ?_
 refine au (ap rfl) rfl rfl ?_
 refine bb rfl ent_218 (c_isNaN _) rfl ?_
 refine cU (t := 10) (.bool false) rfl (congrArg Value.bool rfl) ?_
 refine au (ao rfl) rfl rfl ?_
 refine ah ?_
 refine aq ?_
 refine ar ?_
 refine ar ?_
 refine ai ?_
 refine au (ap rfl) rfl rfl ?_
 refine ah ?_
 refine aq ?_
 refine aC rfl ?_
 refine aS ?_
 refine aq ?_
 refine ar ?_
 refine ar ?_
 refine ai ?_
 refine au (ap rfl) rfl rfl ?_
 refine ah ?_
 refine aq ?_
 refine aC rfl ?_
 refine aS ?_
 refine aq ?_
 refine ar ?_
 refine ar ?_
 refine ai ?_
 refine au (ap rfl) rfl rfl ?_
 refine au (ap rfl) rfl rfl ?_
 refine au (bI rfl rfl) rfl rfl ?_
 refine aB (t := 16) rfl (fun h9_2 => ?_) (fun h9_2 => ?_)
 refine ah ?_
 refine aq ?_
 refine aA rfl ?_
 refine ar ?_
 refine ai ?_
 refine au (ao rfl) rfl rfl ?_
 refine ah ?_
 refine aq ?_
 refine aQ ?_
 refine ay ?_
 refine aV (ts := [4]) rfl rfl rfl (fun w hw => ?_)
 refine ⟨?_, hw.base⟩
 show Ending.returned (.int _ _) = _
 congr 2
 focus first
   | (rw [cmpI, if_pos h9_2]
      done)
   | (rw [cmpI, if_neg h9_2, if_pos (by omega)]
      done)
   | (rw [cmpI, if_neg h9_2, if_neg (by omega)]
      done)
 refine ah ?_
 refine aq ?_
 refine aC rfl ?_
 refine aS ?_
 refine aq ?_
 refine ar ?_
 refine ar ?_
 refine ai ?_
 refine au (ap rfl) rfl rfl ?_
 refine au (ap rfl) rfl rfl ?_
 refine au (c9 rfl rfl) rfl rfl ?_
 refine aB (t := 19) rfl (fun h11_2 => ?_) (fun h11_2 => ?_)
 refine ah ?_
 refine aq ?_
 refine aA rfl ?_
 refine ar ?_
 refine ai ?_
 refine au (ao rfl) rfl rfl ?_
 refine ah ?_
 refine aq ?_
 refine aQ ?_
 refine ay ?_
 refine aV (ts := [4]) rfl rfl rfl (fun w hw => ?_)
 refine ⟨?_, hw.base⟩
 show Ending.returned (.int _ _) = _
 congr 2
 focus first
   | (rw [cmpI, if_pos h9_2]
      done)
   | (rw [cmpI, if_neg h9_2, if_pos (by omega)]
      done)
   | (rw [cmpI, if_neg h9_2, if_neg (by omega)]
      done)
 refine ah ?_
 refine aq ?_
 refine aC rfl ?_
 refine aS ?_
 refine aq ?_
 refine ar ?_
 refine ai ?_
 refine au (ao rfl) rfl rfl ?_
 refine ah ?_
 refine aq ?_
 refine aQ ?_
 refine aV (ts := [4]) rfl rfl rfl (fun w hw => ?_)
 refine ⟨?_, hw.base⟩
 show Ending.returned (.int _ _) = _
 congr 2
 focus first
   | (rw [cmpI, if_pos h9_2]
      done)
   | (rw [cmpI, if_neg h9_2, if_pos (by omega)]
      done)
   | (rw [cmpI, if_neg h9_2, if_neg (by omega)]
      done)

/-- A row turned about so far. -/
def dK (l : List bf) (i : Nat) : List bf := (List.range l.length).map fun p => if p < i ∨ l.length ≤ p + i then l.getD (l.length - 1 - p) [] else l.getD p []
theorem cm (l : List bf) (i : Nat) : (dK l i).length = l.length := by simp [dK]
theorem iK {l : List bf} {i p : Nat} (h : p < l.length) : (dK l i).getD p [] = if p < i ∨ l.length ≤ p + i then l.getD (l.length - 1 - p) [] else l.getD p [] := by
  rw [dK, List.getD_eq_getElem?_getD, List.getElem?_map, List.getElem?_range h]; rfl
theorem ext_getD {l m : List bf} (h : l.length = m.length) (k : ∀ p, p < l.length → l.getD p [] = m.getD p []) : l = m := by
  apply List.ext_getElem h
  intro p h1 h2
  have := k p h1
  rwa [List.getD_eq_getElem?_getD, List.getD_eq_getElem?_getD, List.getElem?_eq_getElem h1, List.getElem?_eq_getElem h2] at this
theorem revK_zero (l : List bf) : dK l 0 = l := ext_getD (cm l 0) (fun p hp => by
  rw [cm] at hp
  rw [iK hp, if_neg (by omega)])
theorem revK_end {l : List bf} {i : Nat} (h : l.length ≤ 2 * i + 1) : dK l i = l.reverse := ext_getD (by rw [cm, List.length_reverse]) (fun p hp => by
  rw [cm] at hp
  rw [iK hp, rev_getD hp]
  split
  · rfl
  · congr 1; omega)
theorem getD_set {l : List bf} {i p : Nat} {v : bf} (hp : p < l.length) : (l.set i v).getD p [] = if i = p then v else l.getD p [] := by
  rw [List.getD_eq_getElem?_getD, List.getElem?_set, List.getD_eq_getElem?_getD]
  split
  · rename_i h; subst h; rw [if_pos hp]; rfl
  · rfl
theorem fZ {l : List bf} {i j : Nat} (hj : i + j + 1 = l.length) (hi : i < j) : ((dK l i).set i ((dK l i).getD j [])).set j ((dK l i).getD i []) = dK l (i + 1) := ext_getD (by simp [cm]) (fun p hp => by
  simp only [List.length_set, cm] at hp
  rw [getD_set (by simpa [cm] using hp), getD_set (by rw [cm]; exact hp), iK (by omega), iK (by omega), iK hp, iK hp]
  by_cases h1 : j = p
  · subst h1
    rw [if_pos rfl, if_neg (by omega), if_pos (by omega)]
    congr 1; omega
  · rw [if_neg h1]
    by_cases h2 : i = p
    · subst h2
      rw [if_pos rfl, if_neg (by omega), if_pos (by omega)]
      congr 1; omega
    · rw [if_neg h2]
      by_cases h3 : p < i ∨ l.length ≤ p + i
      · rw [if_pos h3, if_pos (by omega)]
      · rw [if_neg h3, if_neg (by omega)])

set_option maxRecDepth 100000 in
theorem c_Reverse (l : List bf) (A : Option Addr) (c : Nat) (hl : l.length ≤ 1000000000) : UC Tryz.prog 191 #[.slice A l.length c] [] (Ch.ls A c 9 1 d9 l) (α := Unit) (fun _ => .tuple #[]) (fun _ => Ch.ls A c 9 1 d9 l.reverse) := by
 refine fR (args := [.slice A l.length c]) 28 Tryz.func191 rfl rfl rfl (fun w0 => ?_)
 refine ar ?_
 refine ai ?_
 refine au (ap rfl) rfl rfl ?_
 refine au (bg Tryz.underlying135 rfl) rfl rfl ?_
 refine au (eg rfl rfl (by omega) (by omega)) rfl rfl ?_
 refine au (ao rfl) rfl rfl ?_
 refine au (ao rfl) rfl rfl ?_
 refine ah ?_
 refine aq ?_
 refine aW ?_
 refine cP (σ := Nat × Int) [2, 3, 7, 8, 9, 10, 11, 12, 13, 14, 15, 16, 17, 18, 19, 20, 21, 22, 23, 24, 25, 26, 27] (fun q => 2 * q.1 ≤ l.length + 1 ∧ q.2 = (l.length : Int) - 1 - q.1) (fun q => l.length - q.1) (fun q => [(2, .int .i64 q.1), (3, .int .i64 q.2)]) (fun q => Ch.ls A c 9 1 d9 (dK l q.1)) ((0, (l.length : Int) - 1)) ?_ ⟨rfl, rfl, trivial⟩ (by rw [revK_zero]) (fun q hI => ?_)
 exact ⟨by omega, by show (l.length : Int) - 1 = (l.length : Int) - 1 - ((0 : Nat) : Int); omega⟩
 obtain ⟨i, jz⟩ := q
 dsimp only at hI ⊢
 refine ar ?_
 refine ar ?_
 refine ai ?_
 refine au (ap rfl) rfl rfl ?_
 refine au (ap rfl) rfl rfl ?_
 refine au (bI rfl rfl) rfl rfl ?_
 refine aB (t := 9) rfl (fun h1_2 => ?_) (fun h1_2 => ?_)
 have hrl := cm l i
 obtain ⟨j, hj⟩ : ∃ j : Nat, jz = (j : Int) := ⟨jz.toNat, by omega⟩
 subst hj
 refine ah ?_
 refine aq ?_
 refine aA rfl ?_
 refine aS ?_
 refine aq ?_
 refine ar ?_
 refine aW ?_
 refine dO 13 rfl cu ?_
 refine a2 (i := 0) rfl aj (ap rfl) aE aE rfl (ae (aa (ak (ae av)))) (by kernel_rfl) rfl ?_
 refine gE (t := 14) (.slice A (dK l i).length c) rfl (by simp [cm]) ?_
 refine a2 (i := 1) rfl aj (ap rfl) aE aE rfl (ae (aa (ak (ae av)))) (by kernel_rfl) rfl ?_
 refine a2 (i := 4) rfl aj (ap rfl) aE aE rfl (ae (aa (ak (ae av)))) (by kernel_rfl) rfl ?_
 refine gE (t := 18) (.slice A (dK l i).length c) rfl (by simp [cm]) ?_
 refine a2 (i := 5) rfl aj (ap rfl) aE aE rfl (ae (aa (ak (ae av)))) (by kernel_rfl) rfl ?_
 refine a2 (i := 6) rfl aj (bz  Tryz.underlying135 cB rfl rfl (dg 0 rfl) rfl (by omega)) aE aE rfl (ae (aa (ak (ae av)))) (by kernel_rfl) rfl ?_
 refine a2 (i := 7) rfl aj (cf ct ([] : bf) cB rfl (dg 0 rfl) (by omega) rfl rfl) aE aE rfl (ae (aa (ak (ae av)))) (by kernel_rfl) rfl ?_
 refine a2 (i := 8) rfl aj (ap rfl) aE aE rfl (ae (aa (ak (ae av)))) (by kernel_rfl) rfl ?_
 refine gE (t := 22) (.slice A (dK l i).length c) rfl (by simp [cm]) ?_
 refine a2 (i := 9) rfl aj (ap rfl) aE aE rfl (ae (aa (ak (ae av)))) (by kernel_rfl) rfl ?_
 refine a2 (i := 10) rfl aj (bz  Tryz.underlying135 cB rfl rfl (dg 0 rfl) rfl (by omega)) aE aE rfl (ae (aa (ak (ae av)))) (by kernel_rfl) rfl ?_
 refine a2 (i := 11) rfl aj (cf ct ([] : bf) cB rfl (dg 0 rfl) (by omega) rfl rfl) aE aE rfl (ae (aa (ak (ae av)))) (by kernel_rfl) rfl ?_
 refine a2 (i := 12) rfl aj (bz  Tryz.underlying135 cB rfl rfl (dg 0 rfl) rfl (by omega)) aE aE rfl (ae (aa (ak (ae av)))) (by kernel_rfl) rfl ?_
 refine cA (js := [2, 3, 13]) (by kernel_rfl) rfl ?_
 refine bi (i := 2) rfl rfl rfl (fun _ _ _ => aN (by kernel_rfl)) rfl ?_ ?_
 refine au (ap rfl) rfl rfl ?_
 refine ah ?_
 refine bv aE ?_
 refine cA (js := [3, 13]) (by kernel_rfl) rfl ?_
 refine bi (i := 3) rfl rfl rfl (fun _ _ _ => aN (by kernel_rfl)) rfl ?_ ?_
 refine au (ap rfl) rfl rfl ?_
 refine ah ?_
 refine bv aE ?_
 refine bk (i := 13) rfl rfl rfl (fun _ _ _ => aN (by kernel_rfl)) (by kernel_rfl) rfl ?_
 refine eS ct ([] : bf) ((dK l i).getD j []) cB rfl rfl rfl .z rfl (by omega) rfl rfl rfl ?_
 refine ah ?_
 refine a4 rfl ?_
 refine gE (t := 16) (.slice A ((dK l i).set i ((dK l i).getD j [])).length c) rfl (by simp [cm]) ?_
 refine bk (i := 14) rfl rfl rfl (fun _ _ _ => aN (by kernel_rfl)) (by kernel_rfl) rfl ?_
 refine au (bz  Tryz.underlying135 cB rfl rfl (dg 0 rfl) rfl (by simp [cm]; omega)) rfl rfl ?_
 refine ah ?_
 refine a4 rfl ?_
 refine bk (i := 15) rfl rfl rfl (fun _ _ _ => aN (by kernel_rfl)) (by kernel_rfl) rfl ?_
 refine eS ct ([] : bf) ((dK l i).getD i []) cB rfl rfl rfl .z rfl (by simp [cm]; omega) rfl rfl rfl ?_
 refine ah ?_
 refine a4 rfl ?_
 refine bP (by kernel_rfl) ?_
 refine bo ?_
 refine aq ?_
 refine ai ?_
 refine au (ap rfl) rfl rfl ?_
 refine au (bl rfl rfl (by omega) (by omega)) rfl rfl ?_
 refine au (ap rfl) rfl rfl ?_
 refine au (eg rfl rfl (by omega) (by omega)) rfl rfl ?_
 refine au (ao rfl) rfl rfl ?_
 refine au (ao rfl) rfl rfl ?_
 refine ah ?_
 refine bq ((i + 1, (j : Int) - 1)) ?_ ?_ ⟨rfl, rfl, trivial⟩ (by repeat (first | exact trivial | refine ⟨rfl, ?_⟩)) (fun w h => by show Hp _ _ (Ch.ls _ _ _ _ _ (dK l (i + 1)) :: _) _ _; rw [← fZ (l := l) (i := i) (j := j) (by omega) (by omega)]; exact h)
 exact ⟨by show 2 * (i + 1) ≤ _; omega, by show (j : Int) - 1 = _; omega⟩
 show l.length - (i + 1) < l.length - i
 omega
 refine bi (i := 13) rfl rfl rfl (fun _ _ _ => aN (by kernel_rfl)) rfl ?_ ?_
 refine eS ct ([] : bf) ((dK l i).getD j []) cB rfl rfl rfl .z rfl (by omega) rfl rfl rfl ?_
 refine ah ?_
 refine a4 rfl ?_
 refine bk (i := 3) rfl rfl rfl (fun _ _ _ => aN (by kernel_rfl)) (by kernel_rfl) rfl ?_
 refine au (ap rfl) rfl rfl ?_
 refine ah ?_
 refine a4 rfl ?_
 refine gE (t := 16) (.slice A ((dK l i).set i ((dK l i).getD j [])).length c) rfl (by simp [cm]) ?_
 refine bk (i := 14) rfl rfl rfl (fun _ _ _ => aN (by kernel_rfl)) (by kernel_rfl) rfl ?_
 refine au (bz  Tryz.underlying135 cB rfl rfl (dg 0 rfl) rfl (by simp [cm]; omega)) rfl rfl ?_
 refine ah ?_
 refine a4 rfl ?_
 refine bk (i := 15) rfl rfl rfl (fun _ _ _ => aN (by kernel_rfl)) (by kernel_rfl) rfl ?_
 refine eS ct ([] : bf) ((dK l i).getD i []) cB rfl rfl rfl .z rfl (by simp [cm]; omega) rfl rfl rfl ?_
 refine ah ?_
 refine a4 rfl ?_
 refine bP (by kernel_rfl) ?_
 refine bo ?_
 refine aq ?_
 refine ai ?_
 refine au (ap rfl) rfl rfl ?_
 refine au (bl rfl rfl (by omega) (by omega)) rfl rfl ?_
 refine au (ap rfl) rfl rfl ?_
 refine au (eg rfl rfl (by omega) (by omega)) rfl rfl ?_
 refine au (ao rfl) rfl rfl ?_
 refine au (ao rfl) rfl rfl ?_
 refine ah ?_
 refine bq ((i + 1, (j : Int) - 1)) ?_ ?_ ⟨rfl, rfl, trivial⟩ (by repeat (first | exact trivial | refine ⟨rfl, ?_⟩)) (fun w h => by show Hp _ _ (Ch.ls _ _ _ _ _ (dK l (i + 1)) :: _) _ _; rw [← fZ (l := l) (i := i) (j := j) (by omega) (by omega)]; exact h)
 exact ⟨by show 2 * (i + 1) ≤ _; omega, by show (j : Int) - 1 = _; omega⟩
 show l.length - (i + 1) < l.length - i
 omega
 exact ci
 refine bi (i := 3) rfl rfl rfl (fun _ _ _ => aN (by kernel_rfl)) rfl ?_ ?_
 refine au (ap rfl) rfl rfl ?_
 refine ah ?_
 refine bv aE ?_
 refine cA (js := [2, 13]) (by kernel_rfl) rfl ?_
 refine bi (i := 2) rfl rfl rfl (fun _ _ _ => aN (by kernel_rfl)) rfl ?_ ?_
 refine au (ap rfl) rfl rfl ?_
 refine ah ?_
 refine bv aE ?_
 refine bk (i := 13) rfl rfl rfl (fun _ _ _ => aN (by kernel_rfl)) (by kernel_rfl) rfl ?_
 refine eS ct ([] : bf) ((dK l i).getD j []) cB rfl rfl rfl .z rfl (by omega) rfl rfl rfl ?_
 refine ah ?_
 refine a4 rfl ?_
 refine gE (t := 16) (.slice A ((dK l i).set i ((dK l i).getD j [])).length c) rfl (by simp [cm]) ?_
 refine bk (i := 14) rfl rfl rfl (fun _ _ _ => aN (by kernel_rfl)) (by kernel_rfl) rfl ?_
 refine au (bz  Tryz.underlying135 cB rfl rfl (dg 0 rfl) rfl (by simp [cm]; omega)) rfl rfl ?_
 refine ah ?_
 refine a4 rfl ?_
 refine bk (i := 15) rfl rfl rfl (fun _ _ _ => aN (by kernel_rfl)) (by kernel_rfl) rfl ?_
 refine eS ct ([] : bf) ((dK l i).getD i []) cB rfl rfl rfl .z rfl (by simp [cm]; omega) rfl rfl rfl ?_
 refine ah ?_
 refine a4 rfl ?_
 refine bP (by kernel_rfl) ?_
 refine bo ?_
 refine aq ?_
 refine ai ?_
 refine au (ap rfl) rfl rfl ?_
 refine au (bl rfl rfl (by omega) (by omega)) rfl rfl ?_
 refine au (ap rfl) rfl rfl ?_
 refine au (eg rfl rfl (by omega) (by omega)) rfl rfl ?_
 refine au (ao rfl) rfl rfl ?_
 refine au (ao rfl) rfl rfl ?_
 refine ah ?_
 refine bq ((i + 1, (j : Int) - 1)) ?_ ?_ ⟨rfl, rfl, trivial⟩ (by repeat (first | exact trivial | refine ⟨rfl, ?_⟩)) (fun w h => by show Hp _ _ (Ch.ls _ _ _ _ _ (dK l (i + 1)) :: _) _ _; rw [← fZ (l := l) (i := i) (j := j) (by omega) (by omega)]; exact h)
 exact ⟨by show 2 * (i + 1) ≤ _; omega, by show (j : Int) - 1 = _; omega⟩
 show l.length - (i + 1) < l.length - i
 omega
 refine bi (i := 13) rfl rfl rfl (fun _ _ _ => aN (by kernel_rfl)) rfl ?_ ?_
 refine eS ct ([] : bf) ((dK l i).getD j []) cB rfl rfl rfl .z rfl (by omega) rfl rfl rfl ?_
 refine ah ?_
 refine a4 rfl ?_
 refine bk (i := 2) rfl rfl rfl (fun _ _ _ => aN (by kernel_rfl)) (by kernel_rfl) rfl ?_
 refine au (ap rfl) rfl rfl ?_
 refine ah ?_
 refine a4 rfl ?_
 refine gE (t := 16) (.slice A ((dK l i).set i ((dK l i).getD j [])).length c) rfl (by simp [cm]) ?_
 refine bk (i := 14) rfl rfl rfl (fun _ _ _ => aN (by kernel_rfl)) (by kernel_rfl) rfl ?_
 refine au (bz  Tryz.underlying135 cB rfl rfl (dg 0 rfl) rfl (by simp [cm]; omega)) rfl rfl ?_
 refine ah ?_
 refine a4 rfl ?_
 refine bk (i := 15) rfl rfl rfl (fun _ _ _ => aN (by kernel_rfl)) (by kernel_rfl) rfl ?_
 refine eS ct ([] : bf) ((dK l i).getD i []) cB rfl rfl rfl .z rfl (by simp [cm]; omega) rfl rfl rfl ?_
 refine ah ?_
 refine a4 rfl ?_
 refine bP (by kernel_rfl) ?_
 refine bo ?_
 refine aq ?_
 refine ai ?_
 refine au (ap rfl) rfl rfl ?_
 refine au (bl rfl rfl (by omega) (by omega)) rfl rfl ?_
 refine au (ap rfl) rfl rfl ?_
 refine au (eg rfl rfl (by omega) (by omega)) rfl rfl ?_
 refine au (ao rfl) rfl rfl ?_
 refine au (ao rfl) rfl rfl ?_
 refine ah ?_
 refine bq ((i + 1, (j : Int) - 1)) ?_ ?_ ⟨rfl, rfl, trivial⟩ (by repeat (first | exact trivial | refine ⟨rfl, ?_⟩)) (fun w h => by show Hp _ _ (Ch.ls _ _ _ _ _ (dK l (i + 1)) :: _) _ _; rw [← fZ (l := l) (i := i) (j := j) (by omega) (by omega)]; exact h)
 exact ⟨by show 2 * (i + 1) ≤ _; omega, by show (j : Int) - 1 = _; omega⟩
 show l.length - (i + 1) < l.length - i
 omega
 exact ci
 refine bi (i := 13) rfl rfl rfl (fun _ _ _ => aN (by kernel_rfl)) rfl ?_ ?_
 refine eS ct ([] : bf) ((dK l i).getD j []) cB rfl rfl rfl .z rfl (by omega) rfl rfl rfl ?_
 refine ah ?_
 refine a4 rfl ?_
 refine cA (js := [2, 3]) (by kernel_rfl) rfl ?_
 refine bi (i := 2) rfl rfl rfl (fun _ _ _ => aN (by kernel_rfl)) rfl ?_ ?_
 refine au (ap rfl) rfl rfl ?_
 refine ah ?_
 refine a4 rfl ?_
 refine bk (i := 3) rfl rfl rfl (fun _ _ _ => aN (by kernel_rfl)) (by kernel_rfl) rfl ?_
 refine au (ap rfl) rfl rfl ?_
 refine ah ?_
 refine a4 rfl ?_
 refine gE (t := 16) (.slice A ((dK l i).set i ((dK l i).getD j [])).length c) rfl (by simp [cm]) ?_
 refine bk (i := 14) rfl rfl rfl (fun _ _ _ => aN (by kernel_rfl)) (by kernel_rfl) rfl ?_
 refine au (bz  Tryz.underlying135 cB rfl rfl (dg 0 rfl) rfl (by simp [cm]; omega)) rfl rfl ?_
 refine ah ?_
 refine a4 rfl ?_
 refine bk (i := 15) rfl rfl rfl (fun _ _ _ => aN (by kernel_rfl)) (by kernel_rfl) rfl ?_
 refine eS ct ([] : bf) ((dK l i).getD i []) cB rfl rfl rfl .z rfl (by simp [cm]; omega) rfl rfl rfl ?_
 refine ah ?_
 refine a4 rfl ?_
 refine bP (by kernel_rfl) ?_
 refine bo ?_
 refine aq ?_
 refine ai ?_
 refine au (ap rfl) rfl rfl ?_
 refine au (bl rfl rfl (by omega) (by omega)) rfl rfl ?_
 refine au (ap rfl) rfl rfl ?_
 refine au (eg rfl rfl (by omega) (by omega)) rfl rfl ?_
 refine au (ao rfl) rfl rfl ?_
 refine au (ao rfl) rfl rfl ?_
 refine ah ?_
 refine bq ((i + 1, (j : Int) - 1)) ?_ ?_ ⟨rfl, rfl, trivial⟩ (by repeat (first | exact trivial | refine ⟨rfl, ?_⟩)) (fun w h => by show Hp _ _ (Ch.ls _ _ _ _ _ (dK l (i + 1)) :: _) _ _; rw [← fZ (l := l) (i := i) (j := j) (by omega) (by omega)]; exact h)
 exact ⟨by show 2 * (i + 1) ≤ _; omega, by show (j : Int) - 1 = _; omega⟩
 show l.length - (i + 1) < l.length - i
 omega
 refine bi (i := 3) rfl rfl rfl (fun _ _ _ => aN (by kernel_rfl)) rfl ?_ ?_
 refine au (ap rfl) rfl rfl ?_
 refine ah ?_
 refine a4 rfl ?_
 refine bk (i := 2) rfl rfl rfl (fun _ _ _ => aN (by kernel_rfl)) (by kernel_rfl) rfl ?_
 refine au (ap rfl) rfl rfl ?_
 refine ah ?_
 refine a4 rfl ?_
 refine gE (t := 16) (.slice A ((dK l i).set i ((dK l i).getD j [])).length c) rfl (by simp [cm]) ?_
 refine bk (i := 14) rfl rfl rfl (fun _ _ _ => aN (by kernel_rfl)) (by kernel_rfl) rfl ?_
 refine au (bz  Tryz.underlying135 cB rfl rfl (dg 0 rfl) rfl (by simp [cm]; omega)) rfl rfl ?_
 refine ah ?_
 refine a4 rfl ?_
 refine bk (i := 15) rfl rfl rfl (fun _ _ _ => aN (by kernel_rfl)) (by kernel_rfl) rfl ?_
 refine eS ct ([] : bf) ((dK l i).getD i []) cB rfl rfl rfl .z rfl (by simp [cm]; omega) rfl rfl rfl ?_
 refine ah ?_
 refine a4 rfl ?_
 refine bP (by kernel_rfl) ?_
 refine bo ?_
 refine aq ?_
 refine ai ?_
 refine au (ap rfl) rfl rfl ?_
 refine au (bl rfl rfl (by omega) (by omega)) rfl rfl ?_
 refine au (ap rfl) rfl rfl ?_
 refine au (eg rfl rfl (by omega) (by omega)) rfl rfl ?_
 refine au (ao rfl) rfl rfl ?_
 refine au (ao rfl) rfl rfl ?_
 refine ah ?_
 refine bq ((i + 1, (j : Int) - 1)) ?_ ?_ ⟨rfl, rfl, trivial⟩ (by repeat (first | exact trivial | refine ⟨rfl, ?_⟩)) (fun w h => by show Hp _ _ (Ch.ls _ _ _ _ _ (dK l (i + 1)) :: _) _ _; rw [← fZ (l := l) (i := i) (j := j) (by omega) (by omega)]; exact h)
 exact ⟨by show 2 * (i + 1) ≤ _; omega, by show (j : Int) - 1 = _; omega⟩
 show l.length - (i + 1) < l.length - i
 omega
 exact ci
 exact ci
 refine ah ?_
 refine aq ?_
 refine aC rfl ?_
 refine bw ?_
 refine aY ?_
 refine aZ ?_
 refine a7 ?_
 refine e_end (ts := []) rfl rfl rfl (fun w hw => ?_)
 obtain ⟨h1, h2, h3⟩ := (show Hp _ _ [Ch.ls A c 9 1 d9 (dK l i)] _ _ from hw).uc
 have he : dK l i = l.reverse := revK_end (by omega)
 rw [he] at h2 h3
 exact ⟨(), rfl, h1, h2, h3⟩

theorem fJ (a b : Nat) : cmpI (a : Int) (b : Int) = if a < b then -1 else if b < a then 1 else 0 := by
  unfold cmpI
  by_cases h1 : a < b
  · rw [if_pos h1, if_pos (by omega)]
  · rw [if_neg h1, if_neg (by omega)]
    by_cases h2 : b < a
    · rw [if_pos h2, if_pos (by omega)]
    · rw [if_neg h2, if_neg (by omega)]
theorem eJ {a b : bf} {k : Nat} (h : du a b = d7 ((a5 a).reverse.drop k) ((a5 b).reverse.drop k)) (h1 : k ≤ (a5 a).length) (h2 : k ≤ (a5 b).length) (he : k = (a5 a).length ∨ k = (a5 b).length) : du a b = cmpI ((a5 a).length : Int) ((a5 b).length : Int) := by
  rw [h, cmpLs_end (by simp; omega) (by simpa using he), List.length_reverse, List.length_reverse, fJ]

theorem c_name_Compare (a b : bf) (ha : a.length ≤ 1000000000) (hb : b.length ≤ 1000000000) : RC Tryz.prog 131 #[.string (ba a), .string (ba b)] [] (α := Unit) (fun _ => .int .i64 (du a b)) (fun _ => []) := by
 refine bx (args := [.string (ba a), .string (ba b)]) 44 Tryz.func131 rfl rfl rfl (fun w0 => ?_)
 have hra : (a5 a).reverse.length = (a5 a).length := List.length_reverse
 have hrb : (a5 b).reverse.length = (a5 b).length := List.length_reverse
 have hla := fe a (by omega)
 have hlb := fe b (by omega)
 have hxa : ∀ s ∈ (a5 a).reverse, s.length ≤ 1000000000000 := fun s hs => by have := hla.2.1 s (List.mem_reverse.1 hs); omega
 have hxb : ∀ s ∈ (a5 b).reverse, s.length ≤ 1000000000000 := fun s hs => by have := hlb.2.1 s (List.mem_reverse.1 hs); omega
 have hxa2 : ∀ s ∈ a5 a, s.length ≤ 1000000000000 := fun s hs => by have := hla.2.1 s hs; omega
 have hxb2 : ∀ s ∈ a5 b, s.length ≤ 1000000000000 := fun s hs => by have := hlb.2.1 s hs; omega
 refine ar ?_
 refine ai ?_
 refine au (ao rfl) rfl rfl ?_
 refine ah ?_
 refine aq ?_
 refine ar ?_
 refine ai ?_
 refine au (ap rfl) rfl rfl ?_
 refine bM rfl ent_146 rfl (gv _) (fun w hw => bd) (fun ⟨A0, c0⟩ => ?_)
 refine au (ap rfl) rfl rfl ?_
 refine bM rfl ent_146 rfl (gv _) (fun w hw => bd) (fun ⟨A1, c1⟩ => ?_)
 refine au (ao rfl) rfl rfl ?_
 refine au (ao rfl) rfl rfl ?_
 refine ah ?_
 refine aq ?_
 refine ar ?_
 refine ai ?_
 refine au (ap rfl) rfl rfl ?_
 refine dr rfl ent_191 rfl (c_Reverse _ _ _ (by omega)) (fun o => (.s (.z))) (List.mem_of_getElem? (i := 1) rfl) (fun s hs => nomatch hs) (fun o2 => ?_)
 refine ah ?_
 refine aq ?_
 refine ar ?_
 refine ai ?_
 refine au (ap rfl) rfl rfl ?_
 refine dr rfl ent_191 rfl (c_Reverse _ _ _ (by omega)) (fun o => .z) (List.mem_of_getElem? (i := 0) rfl) (fun s hs => nomatch hs) (fun o3 => ?_)
 refine ah ?_
 refine aq ?_
 refine ar ?_
 refine ar ?_
 refine ai ?_
 refine au (ap rfl) rfl rfl ?_
 refine cU (t := 18) (.slice A0 (a5 a).reverse.length c0) rfl (by rw [List.length_reverse]) ?_
 refine au (bg Tryz.underlying135 rfl) rfl rfl ?_
 refine au (ap rfl) rfl rfl ?_
 refine ah ?_
 refine aq ?_
 refine aW ?_
 refine bV (σ := Nat) [4, 7, 8, 9, 20, 21, 22, 23, 24, 25, 26, 27, 28, 29, 30, 31, 32, 33, 34, 35, 36, 37, 38] (fun k => k ≤ (a5 a).length ∧ k ≤ (a5 b).length ∧ du a b = d7 ((a5 a).reverse.drop k) ((a5 b).reverse.drop k)) (fun k => (a5 a).length - k) (fun k => [(20, .int .i64 k)]) (0) ?_ ⟨rfl, trivial⟩ (fun k hI => ?_)
 exact ⟨Nat.zero_le _, Nat.zero_le _, rfl⟩
 refine ar ?_
 refine ai ?_
 refine au (bI rfl rfl) rfl rfl ?_
 refine aB (t := 21) rfl (fun h5_0 => ?_) (fun h5_0 => ?_)
 refine ah ?_
 refine aq ?_
 refine ar ?_
 refine aA rfl ?_
 refine aS ?_
 refine aq ?_
 refine ar ?_
 refine aW ?_
 refine ar ?_
 refine ai ?_
 refine au (ap rfl) rfl rfl ?_
 refine au (bz  Tryz.underlying135 cB rfl rfl (dg 1 rfl) rfl (by simp; omega)) rfl rfl ?_
 refine au (cf ct ([] : bf) cB rfl (dg 1 rfl) (by simp; omega) rfl rfl) rfl rfl ?_
 refine au (ao rfl) rfl rfl ?_
 refine au (ao rfl) rfl rfl ?_
 refine ah ?_
 refine aq ?_
 refine ar ?_
 refine ar ?_
 refine ai ?_
 refine au (ap rfl) rfl rfl ?_
 refine au (ap rfl) rfl rfl ?_
 refine au (bg Tryz.underlying135 rfl) rfl rfl ?_
 refine au (dk rfl rfl) rfl rfl ?_
 refine aB (t := 28) rfl (fun h7_3 => ?_) (fun h7_3 => ?_)
 refine ah ?_
 refine aq ?_
 refine aA rfl ?_
 refine bw ?_
 refine aY ?_
 refine eT rfl ?_
 refine aY ?_
 refine aZ ?_
 refine a7 ?_
 refine aq ?_
 refine ar ?_
 refine ai ?_
 refine au (ap rfl) rfl rfl ?_
 refine au (bg Tryz.underlying135 rfl) rfl rfl ?_
 refine au (ap rfl) rfl rfl ?_
 refine au (bg Tryz.underlying135 rfl) rfl rfl ?_
 refine bb rfl ent_173 (c_cmpI _ _) rfl ?_
 refine au (ao rfl) rfl rfl ?_
 refine ah ?_
 refine aq ?_
 refine aQ ?_
 refine aV (ts := [4]) rfl rfl rfl (fun w hw => ?_)
 focus first
   | (have he : du a b = dw (bB ((a5 a).reverse.getD k [])) (bB ((a5 b).reverse.getD k [])) := by rw [hI.2.2, dy (s := (a5 a).reverse) (t := (a5 b).reverse) (k := k) (by simp; omega) (by simp; omega), if_pos h9_1]
      exact ⟨(), by rw [he]; rfl, hw.base, (hw.weak (List.nil_sublist _) (fun s hs => hs)).toNews⟩)
   | (have he := eJ hI.2.2 hI.1 hI.2.1 (by omega)
      exact ⟨(), by rw [he]; rfl, hw.base, (hw.weak (List.nil_sublist _) (fun s hs => hs)).toNews⟩)
   | (trace_state; fail)
 refine ah ?_
 refine aq ?_
 refine aC rfl ?_
 refine aS ?_
 refine aq ?_
 refine ar ?_
 refine ai ?_
 refine au (ap rfl) rfl rfl ?_
 refine au (ap rfl) rfl rfl ?_
 refine cU (t := 30) (.slice A1 (a5 b).reverse.length c1) rfl (by rw [List.length_reverse]) ?_
 refine au (ap rfl) rfl rfl ?_
 refine au (bz  Tryz.underlying135 cB rfl rfl (dg 0 rfl) rfl (by simp; omega)) rfl rfl ?_
 refine au (cf ct ([] : bf) cB rfl (dg 0 rfl) (by simp; omega) rfl rfl) rfl rfl ?_
 refine bb rfl ent_192 (c_label_Compare _ _ (hxa _ (bA (by simp; omega))) (hxb _ (bA (by simp; omega)))) rfl ?_
 refine au (ao rfl) rfl rfl ?_
 refine ah ?_
 refine aq ?_
 refine ar ?_
 refine ai ?_
 refine au (ap rfl) rfl rfl ?_
 refine au (bX rfl rfl) rfl rfl ?_
 refine aB (t := 36) rfl (fun h9_1 => ?_) (fun h9_1 => ?_)
 refine ah ?_
 refine aq ?_
 refine aA rfl ?_
 refine ar ?_
 refine ai ?_
 refine au (ap rfl) rfl rfl ?_
 refine au (ao rfl) rfl rfl ?_
 refine ah ?_
 refine aq ?_
 refine aQ ?_
 refine aK ?_
 refine ay ?_
 refine a9 ?_
 refine aK ?_
 refine ay ?_
 refine aV (ts := [4]) rfl rfl rfl (fun w hw => ?_)
 focus first
   | (have he : du a b = dw (bB ((a5 a).reverse.getD k [])) (bB ((a5 b).reverse.getD k [])) := by rw [hI.2.2, dy (s := (a5 a).reverse) (t := (a5 b).reverse) (k := k) (by simp; omega) (by simp; omega), if_pos h9_1]
      exact ⟨(), by rw [he]; rfl, hw.base, (hw.weak (List.nil_sublist _) (fun s hs => hs)).toNews⟩)
   | (have he := eJ hI.2.2 hI.1 hI.2.1 (by omega)
      exact ⟨(), by rw [he]; rfl, hw.base, (hw.weak (List.nil_sublist _) (fun s hs => hs)).toNews⟩)
   | (trace_state; fail)
 refine ah ?_
 refine aq ?_
 refine aC rfl ?_
 refine aS ?_
 refine bo ?_
 refine aq ?_
 refine ai ?_
 refine au (bl rfl rfl (by omega) (by omega)) rfl rfl ?_
 refine au (ap rfl) rfl rfl ?_
 refine ah ?_
 refine bq (k + 1) ?_ ?_ ⟨rfl, trivial⟩ (by repeat (first | exact trivial | refine ⟨rfl, ?_⟩)) aE
 exact ⟨by omega, by omega, by rw [hI.2.2, dy (s := (a5 a).reverse) (t := (a5 b).reverse) (k := k) (by simp; omega) (by simp; omega), if_neg h9_1]⟩
 omega
 refine ah ?_
 refine aq ?_
 refine ar ?_
 refine aC rfl ?_
 refine bw ?_
 refine aY ?_
 refine aZ ?_
 refine a7 ?_
 refine aq ?_
 refine ar ?_
 refine ai ?_
 refine au (ap rfl) rfl rfl ?_
 refine au (bg Tryz.underlying135 rfl) rfl rfl ?_
 refine au (ap rfl) rfl rfl ?_
 refine au (bg Tryz.underlying135 rfl) rfl rfl ?_
 refine bb rfl ent_173 (c_cmpI _ _) rfl ?_
 refine au (ao rfl) rfl rfl ?_
 refine ah ?_
 refine aq ?_
 refine aQ ?_
 refine aV (ts := [4]) rfl rfl rfl (fun w hw => ?_)
 focus first
   | (have he : du a b = dw (bB ((a5 a).reverse.getD k [])) (bB ((a5 b).reverse.getD k [])) := by rw [hI.2.2, dy (s := (a5 a).reverse) (t := (a5 b).reverse) (k := k) (by simp; omega) (by simp; omega), if_pos h9_1]
      exact ⟨(), by rw [he]; rfl, hw.base, (hw.weak (List.nil_sublist _) (fun s hs => hs)).toNews⟩)
   | (have he := eJ hI.2.2 hI.1 hI.2.1 (by omega)
      exact ⟨(), by rw [he]; rfl, hw.base, (hw.weak (List.nil_sublist _) (fun s hs => hs)).toNews⟩)
   | (trace_state; fail)

theorem p_name_Compare (a b : bf) (ha : a.length ≤ 1000000000) (hb : b.length ≤ 1000000000) : dQ Tryz.prog 131 #[.string (ba a), .string (ba b)] (.int .i64 (du a b)) := g4 (c_name_Compare a b ha hb)

set_option maxRecDepth 100000 in
theorem c_ref01_Compare (a b : bf) (ha : a.length ≤ 1000000000000) (hb : b.length ≤ 1000000000000) : dQ Tryz.prog 200 #[.string (ba a), .string (ba b)] (.int .i64 (dw (bB a) (bB b))) := by
 intro w0
 have hl1 := dF a
 have hl2 := dF b
 refine bH (ok0 := no) (S := []) (args := [.string (ba a), .string (ba b)]) 48 Tryz.func200 rfl rfl rfl (by simp) (by simp) ?_
 refine ar ?_
 refine ai ?_
 refine au (ao rfl) rfl rfl ?_
 refine ah ?_
 refine aq ?_
 refine ar ?_
 refine ai ?_
 refine au (ap rfl) rfl rfl ?_
 refine bb rfl jx (fg _ (by first | omega | (simp only [List.length_nil, List.length_cons, List.length_take, List.length_drop, List.length_append]; omega))) rfl ?_
 refine au (ap rfl) rfl rfl ?_
 refine bb rfl jx (fg _ (by first | omega | (simp only [List.length_nil, List.length_cons, List.length_take, List.length_drop, List.length_append]; omega))) rfl ?_
 refine au (ao rfl) rfl rfl ?_
 refine au (ao rfl) rfl rfl ?_
 refine ah ?_
 refine aq ?_
 refine ar ?_
 refine ar ?_
 refine ai ?_
 refine au (ao rfl) rfl rfl ?_
 refine ah ?_
 refine aq ?_
 refine aW ?_
 refine bV (σ := Nat) [4, 5, 10, 11, 12, 13, 14, 15, 16, 17, 18, 19, 20, 21, 22, 23, 24, 25, 26, 27, 28, 29, 30, 31, 32, 33, 34, 35] (fun k => k ≤ (bB a).length ∧ k ≤ (bB b).length ∧ dw (bB a) (bB b) = dw ((bB a).drop k) ((bB b).drop k)) (fun k => (bB a).length - k) (fun k => [(5, .int .i64 k)]) (0) ?_ ⟨rfl, trivial⟩ (fun k hI => ?_)
 exact ⟨Nat.zero_le _, Nat.zero_le _, rfl⟩
 refine ar ?_
 refine ar ?_
 refine ai ?_
 refine au (ap rfl) rfl rfl ?_
 refine au (ap rfl) rfl rfl ?_
 refine au (cL Tryz.underlying9 rfl) rfl rfl ?_
 refine au (bI rfl rfl) rfl rfl ?_
 refine aB (t := 13) rfl (fun h3_3 => ?_) (fun h3_3 => ?_)
 refine au (ap rfl) rfl rfl ?_
 refine az rfl rfl ?_
 refine au (ap rfl) rfl rfl ?_
 refine az rfl rfl ?_
 refine au (ap rfl) rfl rfl ?_
 refine az rfl rfl ?_
 refine au (cL Tryz.underlying9 rfl) rfl rfl ?_
 refine az rfl rfl ?_
 refine au (bI rfl rfl) rfl rfl ?_
 refine aB (t := 18) rfl (fun h3_8 => ?_) (fun h3_8 => ?_)
 refine au (aG rfl rfl) rfl rfl ?_
 refine ah ?_
 refine aq ?_
 refine aA rfl ?_
 refine aS ?_
 refine aq ?_
 refine ar ?_
 refine aW ?_
 refine ar ?_
 refine ar ?_
 refine dz 7 rfl cu ?_
 refine aF (i := 0) rfl aj (ap rfl) aE aE rfl (aa (aa (ae (aa (ak (ae (aa av))))))) (by kernel_rfl) rfl ?_
 refine aF (i := 1) rfl aj (ap rfl) aE aE rfl (aa (aa (ae (aa (ak (ae (aa av))))))) (by kernel_rfl) rfl ?_
 refine aF (i := 2) rfl aj (eG  Tryz.underlying9 rfl rfl rfl (by omega)) aE aE rfl (aa (aa (ae (aa (ak (ae (aa av))))))) (by kernel_rfl) rfl ?_
 refine aF (i := 3) rfl aj (ap rfl) aE aE rfl (aa (aa (ae (aa (ak (ae (aa av))))))) (by kernel_rfl) rfl ?_
 refine aF (i := 4) rfl aj (ap rfl) aE aE rfl (aa (aa (ae (aa (ak (ae (aa av))))))) (by kernel_rfl) rfl ?_
 refine aF (i := 5) rfl aj (eG  Tryz.underlying9 rfl rfl rfl (by omega)) aE aE rfl (aa (aa (ae (aa (ak (ae (aa av))))))) (by kernel_rfl) rfl ?_
 refine aF (i := 6) rfl aj (bI rfl rfl) aE aE rfl (aa (aa (ae (aa (ak (ae (aa av))))))) (by kernel_rfl) rfl ?_
 refine dn (t := 28) rfl (fun h5_6 => ?_) (fun h5_6 => ?_)
 refine cp (by kernel_rfl) ?_
 refine aq ?_
 refine aA rfl ?_
 refine ar ?_
 refine ai ?_
 refine au (ao rfl) rfl rfl ?_
 refine ah ?_
 refine aq ?_
 refine aQ ?_
 refine ay ?_
 refine aK ?_
 refine ay ?_
 refine a9 ?_
 refine aK ?_
 refine ay ?_
 refine aV (ts := [4]) rfl rfl rfl (fun w hw => ?_)
 refine ⟨?_, hw.base⟩
 show Ending.returned (.int _ _) = _
 congr 2
 focus first
   | (rw [hI.2.2, cZ (s := bB a) (t := bB b) (k := k) (by omega) (by omega), if_pos (by omega)]
      done)
   | (rw [hI.2.2, cZ (s := bB a) (t := bB b) (k := k) (by omega) (by omega), if_neg (by omega), if_pos (by omega)]
      done)
   | (rw [hI.2.2, fF ⟨hI.1, hI.2.1⟩ (by omega)]
      focus first | (rw [if_pos (by omega)]; done) | (rw [if_neg (by omega), if_pos (by omega)]; done) | (rw [if_neg (by omega), if_neg (by omega)]; done))
   | (trace_state; fail)
 refine cp (by kernel_rfl) ?_
 refine aq ?_
 refine aC rfl ?_
 refine aS ?_
 refine aq ?_
 refine ar ?_
 refine dz 7 rfl cu ?_
 refine aF (i := 0) rfl aj (ap rfl) aE aE rfl (aa (ae (aa (ak (ae (aa av)))))) (by kernel_rfl) rfl ?_
 refine aF (i := 1) rfl aj (ap rfl) aE aE rfl (aa (ae (aa (ak (ae (aa av)))))) (by kernel_rfl) rfl ?_
 refine aF (i := 2) rfl aj (eG  Tryz.underlying9 rfl rfl rfl (by omega)) aE aE rfl (aa (ae (aa (ak (ae (aa av)))))) (by kernel_rfl) rfl ?_
 refine aF (i := 3) rfl aj (ap rfl) aE aE rfl (aa (ae (aa (ak (ae (aa av)))))) (by kernel_rfl) rfl ?_
 refine aF (i := 4) rfl aj (ap rfl) aE aE rfl (aa (ae (aa (ak (ae (aa av)))))) (by kernel_rfl) rfl ?_
 refine aF (i := 5) rfl aj (eG  Tryz.underlying9 rfl rfl rfl (by omega)) aE aE rfl (aa (ae (aa (ak (ae (aa av)))))) (by kernel_rfl) rfl ?_
 refine aF (i := 6) rfl aj (c9 rfl rfl) aE aE rfl (aa (ae (aa (ak (ae (aa av)))))) (by kernel_rfl) rfl ?_
 refine dn (t := 35) rfl (fun h7_6 => ?_) (fun h7_6 => ?_)
 refine cp (by kernel_rfl) ?_
 refine aq ?_
 refine aA rfl ?_
 refine ar ?_
 refine ai ?_
 refine au (ao rfl) rfl rfl ?_
 refine ah ?_
 refine aq ?_
 refine aQ ?_
 refine aK ?_
 refine ay ?_
 refine a9 ?_
 refine aK ?_
 refine ay ?_
 refine aV (ts := [4]) rfl rfl rfl (fun w hw => ?_)
 refine ⟨?_, hw.base⟩
 show Ending.returned (.int _ _) = _
 congr 2
 focus first
   | (rw [hI.2.2, cZ (s := bB a) (t := bB b) (k := k) (by omega) (by omega), if_pos (by omega)]
      done)
   | (rw [hI.2.2, cZ (s := bB a) (t := bB b) (k := k) (by omega) (by omega), if_neg (by omega), if_pos (by omega)]
      done)
   | (rw [hI.2.2, fF ⟨hI.1, hI.2.1⟩ (by omega)]
      focus first | (rw [if_pos (by omega)]; done) | (rw [if_neg (by omega), if_pos (by omega)]; done) | (rw [if_neg (by omega), if_neg (by omega)]; done))
   | (trace_state; fail)
 refine cp (by kernel_rfl) ?_
 refine aq ?_
 refine aC rfl ?_
 refine aS ?_
 refine bo ?_
 refine aq ?_
 refine ai ?_
 refine au (ap rfl) rfl rfl ?_
 refine au (bl rfl rfl (by omega) (by omega)) rfl rfl ?_
 refine au (ao rfl) rfl rfl ?_
 refine ah ?_
 refine bq (k + 1) ?_ ?_ ⟨rfl, trivial⟩ (by repeat (first | exact trivial | refine ⟨rfl, ?_⟩)) aE
 exact ⟨by omega, by omega, by rw [hI.2.2, cZ (s := bB a) (t := bB b) (k := k) (by omega) (by omega), if_neg (by omega), if_neg (by omega)]⟩
 omega
 refine au (aG rfl rfl) rfl rfl ?_
 refine ah ?_
 refine aq ?_
 refine aC rfl ?_
 refine bw ?_
 refine aY ?_
 refine aZ ?_
 refine a7 ?_
 refine aq ?_
 refine ar ?_
 refine aW ?_
 refine ar ?_
 refine ai ?_
 refine au (ap rfl) rfl rfl ?_
 refine au (cL Tryz.underlying9 rfl) rfl rfl ?_
 refine au (ap rfl) rfl rfl ?_
 refine au (cL Tryz.underlying9 rfl) rfl rfl ?_
 refine au (bI rfl rfl) rfl rfl ?_
 refine aB (t := 41) rfl (fun h9_4 => ?_) (fun h9_4 => ?_)
 refine au (ao rfl) rfl rfl ?_
 refine ah ?_
 refine aq ?_
 refine aA rfl ?_
 refine ar ?_
 refine ai ?_
 refine au (ao rfl) rfl rfl ?_
 refine ah ?_
 refine aq ?_
 refine aQ ?_
 refine aK ?_
 refine ay ?_
 refine aV (ts := [4]) rfl rfl rfl (fun w hw => ?_)
 refine ⟨?_, hw.base⟩
 show Ending.returned (.int _ _) = _
 congr 2
 focus first
   | (rw [hI.2.2, cZ (s := bB a) (t := bB b) (k := k) (by omega) (by omega), if_pos (by omega)]
      done)
   | (rw [hI.2.2, cZ (s := bB a) (t := bB b) (k := k) (by omega) (by omega), if_neg (by omega), if_pos (by omega)]
      done)
   | (rw [hI.2.2, fF ⟨hI.1, hI.2.1⟩ (by omega)]
      focus first | (rw [if_pos (by omega)]; done) | (rw [if_neg (by omega), if_pos (by omega)]; done) | (rw [if_neg (by omega), if_neg (by omega)]; done))
   | (trace_state; fail)
 refine au (ao rfl) rfl rfl ?_
 refine ah ?_
 refine aq ?_
 refine aC rfl ?_
 refine ar ?_
 refine ai ?_
 refine au (ap rfl) rfl rfl ?_
 refine au (cL Tryz.underlying9 rfl) rfl rfl ?_
 refine au (ap rfl) rfl rfl ?_
 refine au (cL Tryz.underlying9 rfl) rfl rfl ?_
 refine au (c9 rfl rfl) rfl rfl ?_
 refine aB (t := 47) rfl (fun h11_4 => ?_) (fun h11_4 => ?_)
 refine au (ao rfl) rfl rfl ?_
 refine ah ?_
 refine aq ?_
 refine aA rfl ?_
 refine ar ?_
 refine ai ?_
 refine au (ao rfl) rfl rfl ?_
 refine ah ?_
 refine aq ?_
 refine aQ ?_
 refine aK ?_
 refine ay ?_
 refine aV (ts := [4]) rfl rfl rfl (fun w hw => ?_)
 refine ⟨?_, hw.base⟩
 show Ending.returned (.int _ _) = _
 congr 2
 focus first
   | (rw [hI.2.2, cZ (s := bB a) (t := bB b) (k := k) (by omega) (by omega), if_pos (by omega)]
      done)
   | (rw [hI.2.2, cZ (s := bB a) (t := bB b) (k := k) (by omega) (by omega), if_neg (by omega), if_pos (by omega)]
      done)
   | (rw [hI.2.2, fF ⟨hI.1, hI.2.1⟩ (by omega)]
      focus first | (rw [if_pos (by omega)]; done) | (rw [if_neg (by omega), if_pos (by omega)]; done) | (rw [if_neg (by omega), if_neg (by omega)]; done))
   | (trace_state; fail)
 refine au (ao rfl) rfl rfl ?_
 refine ah ?_
 refine aq ?_
 refine aC rfl ?_
 refine aS ?_
 refine bo ?_
 refine aq ?_
 refine ar ?_
 refine ai ?_
 refine au (ao rfl) rfl rfl ?_
 refine ah ?_
 refine aq ?_
 refine aQ ?_
 refine aV (ts := [4]) rfl rfl rfl (fun w hw => ?_)
 refine ⟨?_, hw.base⟩
 show Ending.returned (.int _ _) = _
 congr 2
 focus first
   | (rw [hI.2.2, cZ (s := bB a) (t := bB b) (k := k) (by omega) (by omega), if_pos (by omega)]
      done)
   | (rw [hI.2.2, cZ (s := bB a) (t := bB b) (k := k) (by omega) (by omega), if_neg (by omega), if_pos (by omega)]
      done)
   | (rw [hI.2.2, fF ⟨hI.1, hI.2.1⟩ (by omega)]
      focus first | (rw [if_pos (by omega)]; done) | (rw [if_neg (by omega), if_pos (by omega)]; done) | (rw [if_neg (by omega), if_neg (by omega)]; done))
   | (trace_state; fail)
 refine au (ap rfl) rfl rfl ?_
 refine ax rfl rfl rfl rfl ?_
 refine ax rfl rfl rfl rfl ?_
 refine ax rfl rfl rfl rfl ?_
 refine ax rfl rfl rfl rfl ?_
 refine au (aI rfl rfl) rfl rfl ?_
 refine ah ?_
 refine aq ?_
 refine aC rfl ?_
 refine bw ?_
 refine aY ?_
 refine aZ ?_
 refine a7 ?_
 refine aq ?_
 refine ar ?_
 refine aW ?_
 refine ar ?_
 refine ai ?_
 refine au (ap rfl) rfl rfl ?_
 refine au (cL Tryz.underlying9 rfl) rfl rfl ?_
 refine au (ap rfl) rfl rfl ?_
 refine au (cL Tryz.underlying9 rfl) rfl rfl ?_
 refine au (bI rfl rfl) rfl rfl ?_
 refine aB (t := 41) rfl (fun h9_4 => ?_) (fun h9_4 => ?_)
 refine au (ao rfl) rfl rfl ?_
 refine ah ?_
 refine aq ?_
 refine aA rfl ?_
 refine ar ?_
 refine ai ?_
 refine au (ao rfl) rfl rfl ?_
 refine ah ?_
 refine aq ?_
 refine aQ ?_
 refine aK ?_
 refine ay ?_
 refine aV (ts := [4]) rfl rfl rfl (fun w hw => ?_)
 refine ⟨?_, hw.base⟩
 show Ending.returned (.int _ _) = _
 congr 2
 focus first
   | (rw [hI.2.2, cZ (s := bB a) (t := bB b) (k := k) (by omega) (by omega), if_pos (by omega)]
      done)
   | (rw [hI.2.2, cZ (s := bB a) (t := bB b) (k := k) (by omega) (by omega), if_neg (by omega), if_pos (by omega)]
      done)
   | (rw [hI.2.2, fF ⟨hI.1, hI.2.1⟩ (by omega)]
      focus first | (rw [if_pos (by omega)]; done) | (rw [if_neg (by omega), if_pos (by omega)]; done) | (rw [if_neg (by omega), if_neg (by omega)]; done))
   | (trace_state; fail)
 refine au (ao rfl) rfl rfl ?_
 refine ah ?_
 refine aq ?_
 refine aC rfl ?_
 refine ar ?_
 refine ai ?_
 refine au (ap rfl) rfl rfl ?_
 refine au (cL Tryz.underlying9 rfl) rfl rfl ?_
 refine au (ap rfl) rfl rfl ?_
 refine au (cL Tryz.underlying9 rfl) rfl rfl ?_
 refine au (c9 rfl rfl) rfl rfl ?_
 refine aB (t := 47) rfl (fun h11_4 => ?_) (fun h11_4 => ?_)
 refine au (ao rfl) rfl rfl ?_
 refine ah ?_
 refine aq ?_
 refine aA rfl ?_
 refine ar ?_
 refine ai ?_
 refine au (ao rfl) rfl rfl ?_
 refine ah ?_
 refine aq ?_
 refine aQ ?_
 refine aK ?_
 refine ay ?_
 refine aV (ts := [4]) rfl rfl rfl (fun w hw => ?_)
 refine ⟨?_, hw.base⟩
 show Ending.returned (.int _ _) = _
 congr 2
 focus first
   | (rw [hI.2.2, cZ (s := bB a) (t := bB b) (k := k) (by omega) (by omega), if_pos (by omega)]
      done)
   | (rw [hI.2.2, cZ (s := bB a) (t := bB b) (k := k) (by omega) (by omega), if_neg (by omega), if_pos (by omega)]
      done)
   | (rw [hI.2.2, fF ⟨hI.1, hI.2.1⟩ (by omega)]
      focus first | (rw [if_pos (by omega)]; done) | (rw [if_neg (by omega), if_pos (by omega)]; done) | (rw [if_neg (by omega), if_neg (by omega)]; done))
   | (trace_state; fail)
 refine au (ao rfl) rfl rfl ?_
 refine ah ?_
 refine aq ?_
 refine aC rfl ?_
 refine aS ?_
 refine bo ?_
 refine aq ?_
 refine ar ?_
 refine ai ?_
 refine au (ao rfl) rfl rfl ?_
 refine ah ?_
 refine aq ?_
 refine aQ ?_
 refine aV (ts := [4]) rfl rfl rfl (fun w hw => ?_)
 refine ⟨?_, hw.base⟩
 show Ending.returned (.int _ _) = _
 congr 2
 focus first
   | (rw [hI.2.2, cZ (s := bB a) (t := bB b) (k := k) (by omega) (by omega), if_pos (by omega)]
      done)
   | (rw [hI.2.2, cZ (s := bB a) (t := bB b) (k := k) (by omega) (by omega), if_neg (by omega), if_pos (by omega)]
      done)
   | (rw [hI.2.2, fF ⟨hI.1, hI.2.1⟩ (by omega)]
      focus first | (rw [if_pos (by omega)]; done) | (rw [if_neg (by omega), if_pos (by omega)]; done) | (rw [if_neg (by omega), if_neg (by omega)]; done))
   | (trace_state; fail)

theorem c_ref01_Same (a b : bf) (ha : a.length ≤ 1000000000000) (hb : b.length ≤ 1000000000000) : dQ Tryz.prog 210 #[.string (ba a), .string (ba b)] (.bool (decide (bB a = bB b))) := by
 intro w0
 refine bH (ok0 := no) (S := []) (args := [.string (ba a), .string (ba b)]) 10 Tryz.func210 rfl rfl rfl (by simp) (by simp) ?_
 refine ar ?_
 refine ai ?_
 refine au (ao rfl) rfl rfl ?_
 refine ah ?_
 refine aq ?_
 refine ar ?_
 refine ai ?_
 refine au (ap rfl) rfl rfl ?_
 refine bb rfl jx (fg _ (by first | omega | (simp only [List.length_nil, List.length_cons, List.length_take, List.length_drop, List.length_append]; omega))) rfl ?_
 refine au (ap rfl) rfl rfl ?_
 refine bb rfl jx (fg _ (by first | omega | (simp only [List.length_nil, List.length_cons, List.length_take, List.length_drop, List.length_append]; omega))) rfl ?_
 refine au (d8 rfl rfl) rfl rfl ?_
 refine au (ao rfl) rfl rfl ?_
 refine ah ?_
 refine aq ?_
 refine aQ ?_
 refine aV (ts := [4]) rfl rfl rfl (fun w hw => ?_)
 exact ⟨rfl, hw.base⟩

theorem rget (l : List bf) {k : Nat} (h : k < l.length) : l.getD (l.length - 1 - k) [] = l.reverse.getD k [] := (rev_getD h).symm

set_option maxRecDepth 100000 in
theorem c_ref02_Compare (a b : bf) (ha : a.length ≤ 1000000000) (hb : b.length ≤ 1000000000) : RC Tryz.prog 141 #[.string (ba a), .string (ba b)] [] (α := Unit) (fun _ => .int .i64 (du a b)) (fun _ => []) := by
 refine bx (args := [.string (ba a), .string (ba b)]) 55 Tryz.func141 rfl rfl rfl (fun w0 => ?_)
 have hra : (a5 a).reverse.length = (a5 a).length := List.length_reverse
 have hrb : (a5 b).reverse.length = (a5 b).length := List.length_reverse
 have hla := fe a (by omega)
 have hlb := fe b (by omega)
 have hxa : ∀ s ∈ (a5 a).reverse, s.length ≤ 1000000000000 := fun s hs => by have := hla.2.1 s (List.mem_reverse.1 hs); omega
 have hxb : ∀ s ∈ (a5 b).reverse, s.length ≤ 1000000000000 := fun s hs => by have := hlb.2.1 s (List.mem_reverse.1 hs); omega
 have hxa2 : ∀ s ∈ a5 a, s.length ≤ 1000000000000 := fun s hs => by have := hla.2.1 s hs; omega
 have hxb2 : ∀ s ∈ a5 b, s.length ≤ 1000000000000 := fun s hs => by have := hlb.2.1 s hs; omega
 refine ar ?_
 refine ai ?_
 refine au (ao rfl) rfl rfl ?_
 refine ah ?_
 refine aq ?_
 refine ar ?_
 refine ai ?_
 refine au (ap rfl) rfl rfl ?_
 refine bM rfl gW rfl (db _) (fun w hw => bd) (fun ⟨A0, c0⟩ => ?_)
 refine au (ap rfl) rfl rfl ?_
 refine bM rfl gW rfl (db _) (fun w hw => bd) (fun ⟨A1, c1⟩ => ?_)
 refine au (ao rfl) rfl rfl ?_
 refine au (ao rfl) rfl rfl ?_
 refine ah ?_
 refine aq ?_
 refine ar ?_
 refine ar ?_
 refine ai ?_
 refine au (ao rfl) rfl rfl ?_
 refine ah ?_
 refine aq ?_
 refine aW ?_
 refine bV (σ := Nat) [4, 7, 8, 13, 14, 15, 16, 17, 18, 19, 20, 21, 22, 23, 24, 25, 26, 27, 28, 29, 30, 31, 32, 33, 34, 35, 36, 37, 38, 39, 40, 41, 42] (fun k => k ≤ (a5 a).length ∧ k ≤ (a5 b).length ∧ du a b = d7 ((a5 a).reverse.drop k) ((a5 b).reverse.drop k)) (fun k => (a5 a).length - k) (fun k => [(7, .int .i64 ((k : Int) + 1))]) (0) ?_ ⟨rfl, trivial⟩ (fun k hI => ?_)
 exact ⟨Nat.zero_le _, Nat.zero_le _, rfl⟩
 refine ar ?_
 refine ar ?_
 refine ai ?_
 refine au (ap rfl) rfl rfl ?_
 refine au (ap rfl) rfl rfl ?_
 refine au (bg Tryz.underlying135 rfl) rfl rfl ?_
 refine au (fp rfl rfl) rfl rfl ?_
 refine aB (t := 16) rfl (fun h3_3 => ?_) (fun h3_3 => ?_)
 refine au (ap rfl) rfl rfl ?_
 refine az rfl rfl ?_
 refine au (ap rfl) rfl rfl ?_
 refine az rfl rfl ?_
 refine au (ap rfl) rfl rfl ?_
 refine az rfl rfl ?_
 refine au (bg Tryz.underlying135 rfl) rfl rfl ?_
 refine az rfl rfl ?_
 refine au (fp rfl rfl) rfl rfl ?_
 refine aB (t := 21) rfl (fun h3_8 => ?_) (fun h3_8 => ?_)
 refine au (aG rfl rfl) rfl rfl ?_
 refine ah ?_
 refine aq ?_
 refine aA rfl ?_
 refine aS ?_
 refine aq ?_
 refine ar ?_
 refine aW ?_
 refine ar ?_
 refine dz 16 rfl cu ?_
 refine aF (i := 0) rfl aj (ap rfl) aE aE rfl (aa (ae (aa (ak (ae (aa av)))))) (by kernel_rfl) rfl ?_
 refine aF (i := 1) rfl aj (ap rfl) aE aE rfl (aa (ae (aa (ak (ae (aa av)))))) (by kernel_rfl) rfl ?_
 refine aF (i := 2) rfl aj (bg Tryz.underlying135 rfl) aE aE rfl (aa (ae (aa (ak (ae (aa av)))))) (by kernel_rfl) rfl ?_
 refine aF (i := 3) rfl aj (ap rfl) aE aE rfl (aa (ae (aa (ak (ae (aa av)))))) (by kernel_rfl) rfl ?_
 refine aF (i := 4) rfl aj (eg rfl rfl (by omega) (by omega)) aE aE rfl (aa (ae (aa (ak (ae (aa av)))))) (by kernel_rfl) rfl ?_
 refine aF (i := 5) rfl aj (bz (k := (a5 a).length - 1 - k) Tryz.underlying135 cB rfl rfl (dg 1 rfl) (by omega) (by omega)) aE aE rfl (aa (ae (aa (ak (ae (aa av)))))) (by kernel_rfl) rfl ?_
 refine aF (i := 6) rfl aj (cf ct ([] : bf) cB rfl (dg 1 rfl) (by omega) rfl rfl) aE aE rfl (aa (ae (aa (ak (ae (aa av)))))) (by kernel_rfl) rfl ?_
 refine gn (t := 31) (.string (ba ((a5 a).reverse.getD k []))) rfl (by rw [rget _ (by omega)]) ?_
 refine aF (i := 7) rfl aj (ap rfl) aE aE rfl (aa (ae (aa (ak (ae (aa av)))))) (by kernel_rfl) rfl ?_
 refine aF (i := 8) rfl aj (ap rfl) aE aE rfl (aa (ae (aa (ak (ae (aa av)))))) (by kernel_rfl) rfl ?_
 refine aF (i := 9) rfl aj (bg Tryz.underlying135 rfl) aE aE rfl (aa (ae (aa (ak (ae (aa av)))))) (by kernel_rfl) rfl ?_
 refine aF (i := 10) rfl aj (ap rfl) aE aE rfl (aa (ae (aa (ak (ae (aa av)))))) (by kernel_rfl) rfl ?_
 refine aF (i := 11) rfl aj (eg rfl rfl (by omega) (by omega)) aE aE rfl (aa (ae (aa (ak (ae (aa av)))))) (by kernel_rfl) rfl ?_
 refine aF (i := 12) rfl aj (bz (k := (a5 b).length - 1 - k) Tryz.underlying135 cB rfl rfl (dg 0 rfl) (by omega) (by omega)) aE aE rfl (aa (ae (aa (ak (ae (aa av)))))) (by kernel_rfl) rfl ?_
 refine aF (i := 13) rfl aj (cf ct ([] : bf) cB rfl (dg 0 rfl) (by omega) rfl rfl) aE aE rfl (aa (ae (aa (ak (ae (aa av)))))) (by kernel_rfl) rfl ?_
 refine gn (t := 38) (.string (ba ((a5 b).reverse.getD k []))) rfl (by rw [rget _ (by omega)]) ?_
 refine cy (i := 14) rfl rfl rfl (bm rfl ent_200) (by kernel_rfl) rfl ?_
 refine bb rfl ent_200 (c_ref01_Compare _ _ (hxa _ (bA (by simp; omega))) (hxb _ (bA (by simp; omega)))) rfl ?_
 refine ah ?_
 refine cW aE ?_
 refine aF (i := 15) rfl aj (ao rfl) aE aE rfl (aa (ae (aa (ak (ae (aa av)))))) (by kernel_rfl) rfl ?_
 refine cp (by kernel_rfl) ?_
 refine aq ?_
 refine ar ?_
 refine ai ?_
 refine au (ap rfl) rfl rfl ?_
 refine au (bX rfl rfl) rfl rfl ?_
 refine aB (t := 41) rfl (fun h6_1 => ?_) (fun h6_1 => ?_)
 refine ah ?_
 refine aq ?_
 refine aA rfl ?_
 refine ar ?_
 refine ai ?_
 refine au (ap rfl) rfl rfl ?_
 refine au (ao rfl) rfl rfl ?_
 refine ah ?_
 refine aq ?_
 refine aQ ?_
 refine aK ?_
 refine ay ?_
 refine a9 ?_
 refine aK ?_
 refine ay ?_
 refine aV (ts := [4]) rfl rfl rfl (fun w hw => ?_)
 focus first
   | (have he : du a b = dw (bB ((a5 a).reverse.getD k [])) (bB ((a5 b).reverse.getD k [])) := by rw [hI.2.2, dy (s := (a5 a).reverse) (t := (a5 b).reverse) (k := k) (by simp; omega) (by simp; omega), if_pos h6_1]
      exact ⟨(), by rw [he]; rfl, hw.base, (hw.weak (List.nil_sublist _) (fun s hs => hs)).toNews⟩)
   | (have he := eJ hI.2.2 hI.1 hI.2.1 (by omega)
      rw [fJ] at he
      refine ⟨(), ?_, hw.base, (hw.weak (List.nil_sublist _) (fun s hs => hs)).toNews⟩
      rw [he]
      show Ending.returned (.int _ _) = _
      congr 2
      focus first | (rw [if_pos (by omega)]; done) | (rw [if_neg (by omega), if_pos (by omega)]; done) | (rw [if_neg (by omega), if_neg (by omega)]; done))
   | (trace_state; fail)
 refine ah ?_
 refine aq ?_
 refine aC rfl ?_
 refine aS ?_
 refine bo ?_
 refine aq ?_
 refine ai ?_
 refine au (ap rfl) rfl rfl ?_
 refine au (bl rfl rfl (by omega) (by omega)) rfl rfl ?_
 refine au (ao rfl) rfl rfl ?_
 refine ah ?_
 refine bq (k + 1) ?_ ?_ ⟨lk rfl (by congr 1), trivial⟩ (by repeat (first | exact trivial | refine ⟨rfl, ?_⟩)) aE
 exact ⟨by omega, by omega, by rw [hI.2.2, dy (s := (a5 a).reverse) (t := (a5 b).reverse) (k := k) (by simp; omega) (by simp; omega), if_neg h6_1]⟩
 omega
 refine au (aG rfl rfl) rfl rfl ?_
 refine ah ?_
 refine aq ?_
 refine aC rfl ?_
 refine bw ?_
 refine aY ?_
 refine aZ ?_
 refine a7 ?_
 refine aq ?_
 refine ar ?_
 refine aW ?_
 refine ar ?_
 refine ai ?_
 refine au (ap rfl) rfl rfl ?_
 refine au (bg Tryz.underlying135 rfl) rfl rfl ?_
 refine au (ap rfl) rfl rfl ?_
 refine au (bg Tryz.underlying135 rfl) rfl rfl ?_
 refine au (bI rfl rfl) rfl rfl ?_
 refine aB (t := 48) rfl (fun h8_4 => ?_) (fun h8_4 => ?_)
 refine au (ao rfl) rfl rfl ?_
 refine ah ?_
 refine aq ?_
 refine aA rfl ?_
 refine ar ?_
 refine ai ?_
 refine au (ao rfl) rfl rfl ?_
 refine ah ?_
 refine aq ?_
 refine aQ ?_
 refine aK ?_
 refine ay ?_
 refine aV (ts := [4]) rfl rfl rfl (fun w hw => ?_)
 focus first
   | (have he : du a b = dw (bB ((a5 a).reverse.getD k [])) (bB ((a5 b).reverse.getD k [])) := by rw [hI.2.2, dy (s := (a5 a).reverse) (t := (a5 b).reverse) (k := k) (by simp; omega) (by simp; omega), if_pos h6_1]
      exact ⟨(), by rw [he]; rfl, hw.base, (hw.weak (List.nil_sublist _) (fun s hs => hs)).toNews⟩)
   | (have he := eJ hI.2.2 hI.1 hI.2.1 (by omega)
      rw [fJ] at he
      refine ⟨(), ?_, hw.base, (hw.weak (List.nil_sublist _) (fun s hs => hs)).toNews⟩
      rw [he]
      show Ending.returned (.int _ _) = _
      congr 2
      focus first | (rw [if_pos (by omega)]; done) | (rw [if_neg (by omega), if_pos (by omega)]; done) | (rw [if_neg (by omega), if_neg (by omega)]; done))
   | (trace_state; fail)
 refine au (ao rfl) rfl rfl ?_
 refine ah ?_
 refine aq ?_
 refine aC rfl ?_
 refine ar ?_
 refine ai ?_
 refine au (ap rfl) rfl rfl ?_
 refine au (bg Tryz.underlying135 rfl) rfl rfl ?_
 refine au (ap rfl) rfl rfl ?_
 refine au (bg Tryz.underlying135 rfl) rfl rfl ?_
 refine au (c9 rfl rfl) rfl rfl ?_
 refine aB (t := 54) rfl (fun h10_4 => ?_) (fun h10_4 => ?_)
 refine au (ao rfl) rfl rfl ?_
 refine ah ?_
 refine aq ?_
 refine aA rfl ?_
 refine ar ?_
 refine ai ?_
 refine au (ao rfl) rfl rfl ?_
 refine ah ?_
 refine aq ?_
 refine aQ ?_
 refine aK ?_
 refine ay ?_
 refine aV (ts := [4]) rfl rfl rfl (fun w hw => ?_)
 focus first
   | (have he : du a b = dw (bB ((a5 a).reverse.getD k [])) (bB ((a5 b).reverse.getD k [])) := by rw [hI.2.2, dy (s := (a5 a).reverse) (t := (a5 b).reverse) (k := k) (by simp; omega) (by simp; omega), if_pos h6_1]
      exact ⟨(), by rw [he]; rfl, hw.base, (hw.weak (List.nil_sublist _) (fun s hs => hs)).toNews⟩)
   | (have he := eJ hI.2.2 hI.1 hI.2.1 (by omega)
      rw [fJ] at he
      refine ⟨(), ?_, hw.base, (hw.weak (List.nil_sublist _) (fun s hs => hs)).toNews⟩
      rw [he]
      show Ending.returned (.int _ _) = _
      congr 2
      focus first | (rw [if_pos (by omega)]; done) | (rw [if_neg (by omega), if_pos (by omega)]; done) | (rw [if_neg (by omega), if_neg (by omega)]; done))
   | (trace_state; fail)
 refine au (ao rfl) rfl rfl ?_
 refine ah ?_
 refine aq ?_
 refine aC rfl ?_
 refine aS ?_
 refine bo ?_
 refine aq ?_
 refine ar ?_
 refine ai ?_
 refine au (ao rfl) rfl rfl ?_
 refine ah ?_
 refine aq ?_
 refine aQ ?_
 refine aV (ts := [4]) rfl rfl rfl (fun w hw => ?_)
 focus first
   | (have he : du a b = dw (bB ((a5 a).reverse.getD k [])) (bB ((a5 b).reverse.getD k [])) := by rw [hI.2.2, dy (s := (a5 a).reverse) (t := (a5 b).reverse) (k := k) (by simp; omega) (by simp; omega), if_pos h6_1]
      exact ⟨(), by rw [he]; rfl, hw.base, (hw.weak (List.nil_sublist _) (fun s hs => hs)).toNews⟩)
   | (have he := eJ hI.2.2 hI.1 hI.2.1 (by omega)
      rw [fJ] at he
      refine ⟨(), ?_, hw.base, (hw.weak (List.nil_sublist _) (fun s hs => hs)).toNews⟩
      rw [he]
      show Ending.returned (.int _ _) = _
      congr 2
      focus first | (rw [if_pos (by omega)]; done) | (rw [if_neg (by omega), if_pos (by omega)]; done) | (rw [if_neg (by omega), if_neg (by omega)]; done))
   | (trace_state; fail)
 refine au (ap rfl) rfl rfl ?_
 refine ax rfl rfl rfl rfl ?_
 refine ax rfl rfl rfl rfl ?_
 refine ax rfl rfl rfl rfl ?_
 refine ax rfl rfl rfl rfl ?_
 refine au (aI rfl rfl) rfl rfl ?_
 refine ah ?_
 refine aq ?_
 refine aC rfl ?_
 refine bw ?_
 refine aY ?_
 refine aZ ?_
 refine a7 ?_
 refine aq ?_
 refine ar ?_
 refine aW ?_
 refine ar ?_
 refine ai ?_
 refine au (ap rfl) rfl rfl ?_
 refine au (bg Tryz.underlying135 rfl) rfl rfl ?_
 refine au (ap rfl) rfl rfl ?_
 refine au (bg Tryz.underlying135 rfl) rfl rfl ?_
 refine au (bI rfl rfl) rfl rfl ?_
 refine aB (t := 48) rfl (fun h8_4 => ?_) (fun h8_4 => ?_)
 refine au (ao rfl) rfl rfl ?_
 refine ah ?_
 refine aq ?_
 refine aA rfl ?_
 refine ar ?_
 refine ai ?_
 refine au (ao rfl) rfl rfl ?_
 refine ah ?_
 refine aq ?_
 refine aQ ?_
 refine aK ?_
 refine ay ?_
 refine aV (ts := [4]) rfl rfl rfl (fun w hw => ?_)
 focus first
   | (have he : du a b = dw (bB ((a5 a).reverse.getD k [])) (bB ((a5 b).reverse.getD k [])) := by rw [hI.2.2, dy (s := (a5 a).reverse) (t := (a5 b).reverse) (k := k) (by simp; omega) (by simp; omega), if_pos h6_1]
      exact ⟨(), by rw [he]; rfl, hw.base, (hw.weak (List.nil_sublist _) (fun s hs => hs)).toNews⟩)
   | (have he := eJ hI.2.2 hI.1 hI.2.1 (by omega)
      rw [fJ] at he
      refine ⟨(), ?_, hw.base, (hw.weak (List.nil_sublist _) (fun s hs => hs)).toNews⟩
      rw [he]
      show Ending.returned (.int _ _) = _
      congr 2
      focus first | (rw [if_pos (by omega)]; done) | (rw [if_neg (by omega), if_pos (by omega)]; done) | (rw [if_neg (by omega), if_neg (by omega)]; done))
   | (trace_state; fail)
 refine au (ao rfl) rfl rfl ?_
 refine ah ?_
 refine aq ?_
 refine aC rfl ?_
 refine ar ?_
 refine ai ?_
 refine au (ap rfl) rfl rfl ?_
 refine au (bg Tryz.underlying135 rfl) rfl rfl ?_
 refine au (ap rfl) rfl rfl ?_
 refine au (bg Tryz.underlying135 rfl) rfl rfl ?_
 refine au (c9 rfl rfl) rfl rfl ?_
 refine aB (t := 54) rfl (fun h10_4 => ?_) (fun h10_4 => ?_)
 refine au (ao rfl) rfl rfl ?_
 refine ah ?_
 refine aq ?_
 refine aA rfl ?_
 refine ar ?_
 refine ai ?_
 refine au (ao rfl) rfl rfl ?_
 refine ah ?_
 refine aq ?_
 refine aQ ?_
 refine aK ?_
 refine ay ?_
 refine aV (ts := [4]) rfl rfl rfl (fun w hw => ?_)
 focus first
   | (have he : du a b = dw (bB ((a5 a).reverse.getD k [])) (bB ((a5 b).reverse.getD k [])) := by rw [hI.2.2, dy (s := (a5 a).reverse) (t := (a5 b).reverse) (k := k) (by simp; omega) (by simp; omega), if_pos h6_1]
      exact ⟨(), by rw [he]; rfl, hw.base, (hw.weak (List.nil_sublist _) (fun s hs => hs)).toNews⟩)
   | (have he := eJ hI.2.2 hI.1 hI.2.1 (by omega)
      rw [fJ] at he
      refine ⟨(), ?_, hw.base, (hw.weak (List.nil_sublist _) (fun s hs => hs)).toNews⟩
      rw [he]
      show Ending.returned (.int _ _) = _
      congr 2
      focus first | (rw [if_pos (by omega)]; done) | (rw [if_neg (by omega), if_pos (by omega)]; done) | (rw [if_neg (by omega), if_neg (by omega)]; done))
   | (trace_state; fail)
 refine au (ao rfl) rfl rfl ?_
 refine ah ?_
 refine aq ?_
 refine aC rfl ?_
 refine aS ?_
 refine bo ?_
 refine aq ?_
 refine ar ?_
 refine ai ?_
 refine au (ao rfl) rfl rfl ?_
 refine ah ?_
 refine aq ?_
 refine aQ ?_
 refine aV (ts := [4]) rfl rfl rfl (fun w hw => ?_)
 focus first
   | (have he : du a b = dw (bB ((a5 a).reverse.getD k [])) (bB ((a5 b).reverse.getD k [])) := by rw [hI.2.2, dy (s := (a5 a).reverse) (t := (a5 b).reverse) (k := k) (by simp; omega) (by simp; omega), if_pos h6_1]
      exact ⟨(), by rw [he]; rfl, hw.base, (hw.weak (List.nil_sublist _) (fun s hs => hs)).toNews⟩)
   | (have he := eJ hI.2.2 hI.1 hI.2.1 (by omega)
      rw [fJ] at he
      refine ⟨(), ?_, hw.base, (hw.weak (List.nil_sublist _) (fun s hs => hs)).toNews⟩
      rw [he]
      show Ending.returned (.int _ _) = _
      congr 2
      focus first | (rw [if_pos (by omega)]; done) | (rw [if_neg (by omega), if_pos (by omega)]; done) | (rw [if_neg (by omega), if_neg (by omega)]; done))
   | (trace_state; fail)

theorem ii (a b : bf) (ha : a.length ≤ 1000000000) (hb : b.length ≤ 1000000000) : dQ Tryz.prog 141 #[.string (ba a), .string (ba b)] (.int .i64 (du a b)) := g4 (c_ref02_Compare a b ha hb)
/-- name.Parent. -/
def fq (n : bf) : Bool := decide (a8 n = 0) && decide (n ≠ [])
def parN (n : bf) : bf := if fq n = true then ef n else []
theorem en {n : bf} (h : a8 n = 0) : fq n = cO n := by
  rw [fq, decide_eq_true h, Bool.true_and]
  by_cases h2 : n = []
  · subst h2; rfl
  · rw [iq h h2, decide_eq_true h2]
theorem iP {n : bf} (h : ¬ (a8 n = 0 ∧ n ≠ [])) : fq n = false := by
  rw [fq, Bool.and_eq_false_iff, decide_eq_false_iff_not, decide_eq_false_iff_not]; exact Decidable.not_and_iff_or_not.1 h
theorem jP {n : bf} (h : a8 n = 0 ∧ n ≠ []) : fq n = true := by rw [fq, decide_eq_true h.1, decide_eq_true h.2]; rfl
theorem fS {n : bf} (h : fq n = false) : parN n = [] := if_neg (by rw [h]; decide)
theorem fD {n : bf} (h : fq n = true) : parN n = ef n := if_pos h

theorem i3 (n : bf) : dQ Tryz.prog 80 #[.string (ba n)] (.tuple #[.string (ba (parN n)), .bool (fq n)]) := by
 intro w0
 refine bH (ok0 := no) (S := []) (args := [.string (ba n)]) 19 Tryz.func80 rfl rfl rfl (by simp) (by simp) ?_
 refine ar ?_
 refine ai ?_
 refine au (ao rfl) rfl rfl ?_
 refine au (ao rfl) rfl rfl ?_
 refine ah ?_
 refine aq ?_
 refine ar ?_
 refine ar ?_
 refine ai ?_
 refine au (ap rfl) rfl rfl ?_
 refine bb rfl fK (cX _) rfl ?_
 refine au (bX rfl rfl) rfl rfl ?_
 refine aB (t := 9) rfl (fun h1_2 => ?_) (fun h1_2 => ?_)
 refine ah ?_
 refine aq ?_
 refine aA rfl ?_
 refine ar ?_
 refine ai ?_
 refine au (ao rfl) rfl rfl ?_
 refine au (ao rfl) rfl rfl ?_
 refine ah ?_
 refine aq ?_
 refine aQ ?_
 refine ay ?_
 refine aV (ts := [2, 3]) rfl rfl rfl (fun w hw => ?_)
 refine ⟨?_, hw.base⟩
 focus first
   | (have hb : fq n = false := iP (fun h => by omega)
      rw [hb, fS hb]; rfl)
   | (have hb : fq n = false := by rw [en (by omega)]; exact h3_5
      rw [hb, fS hb]; rfl)
   | (have hb : fq n = true := by rw [en (by omega)]; exact h3_5
      have hc : cO n = true := h3_5
      rw [hb, fD hb]; show _ = Ending.returned (.tuple #[.string (ba (ef n)), _]); rw [← jl hc]; rfl)
   | (trace_state; fail)
 refine ah ?_
 refine aq ?_
 refine aC rfl ?_
 refine aS ?_
 refine aq ?_
 refine ar ?_
 refine ai ?_
 refine au (ap rfl) rfl rfl ?_
 refine bb rfl ent_149 (gZ _) rfl ?_
 refine au (ap rfl) rfl rfl ?_
 refine au (aP rfl rfl) rfl rfl ?_
 refine au (aP rfl rfl) rfl rfl ?_
 refine au (aP rfl rfl) rfl rfl ?_
 refine bD (t := 15) rfl (fun h3_5 => ?_) (fun h3_5 => ?_)
 refine au (ao rfl) rfl rfl ?_
 refine au (ao rfl) rfl rfl ?_
 refine au (ao rfl) rfl rfl ?_
 refine ah ?_
 refine aq ?_
 refine ar ?_
 refine ar ?_
 refine ai ?_
 refine au (ap rfl) rfl rfl ?_
 refine au (bC rfl) rfl rfl ?_
 refine ah ?_
 refine aq ?_
 refine aC rfl ?_
 refine aS ?_
 refine aq ?_
 refine ar ?_
 refine ai ?_
 refine au (ap rfl) rfl rfl ?_
 refine au (ao rfl) rfl rfl ?_
 refine au (ao rfl) rfl rfl ?_
 refine ah ?_
 refine aq ?_
 refine aQ ?_
 refine aV (ts := [2, 3]) rfl rfl rfl (fun w hw => ?_)
 refine ⟨?_, hw.base⟩
 focus first
   | (have hb : fq n = false := iP (fun h => by omega)
      rw [hb, fS hb]; rfl)
   | (have hb : fq n = false := by rw [en (by omega)]; exact h3_5
      rw [hb, fS hb]; rfl)
   | (have hb : fq n = true := by rw [en (by omega)]; exact h3_5
      have hc : cO n = true := h3_5
      rw [hb, fD hb]; show _ = Ending.returned (.tuple #[.string (ba (ef n)), _]); rw [← jl hc]; rfl)
   | (trace_state; fail)
 refine au (ao rfl) rfl rfl ?_
 refine au (ao rfl) rfl rfl ?_
 refine au (ao rfl) rfl rfl ?_
 refine ah ?_
 refine aq ?_
 refine ar ?_
 refine ar ?_
 refine ai ?_
 refine au (ap rfl) rfl rfl ?_
 refine au (bC rfl) rfl rfl ?_
 refine ah ?_
 refine aq ?_
 refine aA rfl ?_
 refine ar ?_
 refine ai ?_
 refine au (ao rfl) rfl rfl ?_
 refine au (ao rfl) rfl rfl ?_
 refine ah ?_
 refine aq ?_
 refine aQ ?_
 refine ay ?_
 refine aV (ts := [2, 3]) rfl rfl rfl (fun w hw => ?_)
 refine ⟨?_, hw.base⟩
 focus first
   | (have hb : fq n = false := iP (fun h => by omega)
      rw [hb, fS hb]; rfl)
   | (have hb : fq n = false := by rw [en (by omega)]; exact h3_5
      rw [hb, fS hb]; rfl)
   | (have hb : fq n = true := by rw [en (by omega)]; exact h3_5
      have hc : cO n = true := h3_5
      rw [hb, fD hb]; show _ = Ending.returned (.tuple #[.string (ba (ef n)), _]); rw [← jl hc]; rfl)
   | (trace_state; fail)

theorem c_ref02_Parent (n : bf) : dQ Tryz.prog 152 #[.string (ba n)] (.tuple #[.string (ba (parN n)), .bool (fq n)]) := by
 intro w0
 refine bH (ok0 := no) (S := []) (args := [.string (ba n)]) 17 Tryz.func152 rfl rfl rfl (by simp) (by simp) ?_
 refine ar ?_
 refine ai ?_
 refine au (ao rfl) rfl rfl ?_
 refine au (ao rfl) rfl rfl ?_
 refine ah ?_
 refine aq ?_
 refine ar ?_
 refine ar ?_
 refine ai ?_
 refine au (ap rfl) rfl rfl ?_
 refine bb rfl fB (da _) rfl ?_
 refine au (bX rfl rfl) rfl rfl ?_
 refine aB (t := 6) rfl (fun h1_2 => ?_) (fun h1_2 => ?_)
 refine au (ap rfl) rfl rfl ?_
 refine ax rfl rfl rfl rfl ?_
 refine ax rfl rfl rfl rfl ?_
 refine au (aG rfl rfl) rfl rfl ?_
 refine ah ?_
 refine aq ?_
 refine aA rfl ?_
 refine ar ?_
 refine ai ?_
 refine au (ao rfl) rfl rfl ?_
 refine au (ao rfl) rfl rfl ?_
 refine ah ?_
 refine aq ?_
 refine aQ ?_
 refine ay ?_
 refine aV (ts := [2, 3]) rfl rfl rfl (fun w hw => ?_)
 refine ⟨?_, hw.base⟩
 focus first
   | (have hb : fq n = true := jP ⟨by omega, h1_5⟩
      rw [hb, fD hb]; rfl)
   | (have hb : fq n = false := iP (fun h => by first | omega | exact h.2 h1_5)
      rw [hb, fS hb]; rfl)
   | (trace_state; fail)
 refine au (ap rfl) rfl rfl ?_
 refine az rfl rfl ?_
 refine au (ap rfl) rfl rfl ?_
 refine az rfl rfl ?_
 refine au (d8 rfl rfl) rfl rfl ?_
 refine aB (t := 9) rfl (fun h1_5 => ?_) (fun h1_5 => ?_)
 refine au (aI rfl rfl) rfl rfl ?_
 refine ah ?_
 refine aq ?_
 refine aA rfl ?_
 refine ar ?_
 refine ai ?_
 refine au (ao rfl) rfl rfl ?_
 refine au (ao rfl) rfl rfl ?_
 refine ah ?_
 refine aq ?_
 refine aQ ?_
 refine ay ?_
 refine aV (ts := [2, 3]) rfl rfl rfl (fun w hw => ?_)
 refine ⟨?_, hw.base⟩
 focus first
   | (have hb : fq n = true := jP ⟨by omega, h1_5⟩
      rw [hb, fD hb]; rfl)
   | (have hb : fq n = false := iP (fun h => by first | omega | exact h.2 h1_5)
      rw [hb, fS hb]; rfl)
   | (trace_state; fail)
 refine au (aI rfl rfl) rfl rfl ?_
 refine ah ?_
 refine aq ?_
 refine aC rfl ?_
 refine aS ?_
 refine aq ?_
 refine ar ?_
 have hc := iq (n := n) (by omega) h1_5
 have hc2 := cutOk_iff.1 hc
 refine ai ?_
 refine au (ap rfl) rfl rfl ?_
 refine au (ap rfl) rfl rfl ?_
 refine au (eG (k := 0) Tryz.underlying26 rfl rfl rfl (by omega)) rfl rfl ?_
 refine au (jQ Tryz.underlying5 Tryz.underlying3 rfl (jU (by omega) (by omega))) rfl rfl ?_
 refine au (bl rfl rfl (by omega) (by omega)) rfl rfl ?_
 refine au (y_slices_lo (m := 1 + bt n 0) Tryz.underlying26 rfl rfl (by omega) (by omega)) rfl rfl ?_
 refine au (ao rfl) rfl rfl ?_
 refine au (ao rfl) rfl rfl ?_
 refine ah ?_
 refine aq ?_
 refine aQ ?_
 refine aV (ts := [2, 3]) rfl rfl rfl (fun w hw => ?_)
 refine ⟨?_, hw.base⟩
 focus first
   | (have hb : fq n = true := jP ⟨by omega, h1_5⟩
      rw [hb, fD hb]; rfl)
   | (have hb : fq n = false := iP (fun h => by first | omega | exact h.2 h1_5)
      rw [hb, fS hb]; rfl)
   | (trace_state; fail)

/-- ref02.Under. -/
def cK (n p : bf) : Bool := decide (a8 n = 0) && decide (a8 p = 0) && decide ((a5 p).map bB <:+ (a5 n).map bB)
theorem suf_take {x y : List bf} (h : y.map bB <:+ x.map bB) {k : Nat} (hk : k ≤ y.length) : (x.reverse.take k).map bB = (y.reverse.take k).map bB := by
  obtain ⟨t, e⟩ := h
  have e2 := congrArg List.reverse e
  rw [List.reverse_append, ← List.map_reverse, ← List.map_reverse] at e2
  rw [List.map_take, List.map_take, ← e2, List.take_append_of_le_length (by simpa using hk)]
theorem suf_of {x y : List bf} (h : (x.reverse.take y.length).map bB = (y.reverse.take y.length).map bB) : y.map bB <:+ x.map bB := by
  have e : y.reverse.take y.length = y.reverse := List.take_of_length_le (by simp)
  rw [e] at h
  refine ⟨((x.reverse.drop y.length).map bB).reverse, ?_⟩
  have e2 : (x.reverse.map bB) = (x.reverse.take y.length).map bB ++ (x.reverse.drop y.length).map bB := by rw [← List.map_append, List.take_append_drop]
  have e3 := congrArg List.reverse e2
  rw [List.reverse_append, h, List.map_reverse, List.map_reverse, List.reverse_reverse, List.reverse_reverse] at e3
  exact e3.symm
theorem gM {n p : bf} (h : (a5 n).length < (a5 p).length) : cK n p = false := by
  have : ¬ ((a5 p).map bB <:+ (a5 n).map bB) := fun q => by have := q.length_le; simp at this; omega
  rw [cK, decide_eq_false this, Bool.and_false]
theorem iv {n p : bf} {k : Nat} (hn : k < (a5 n).length) (hp : k < (a5 p).length) (h : bB ((a5 n).reverse.getD k []) ≠ bB ((a5 p).reverse.getD k [])) : cK n p = false := by
  have : ¬ ((a5 p).map bB <:+ (a5 n).map bB) := fun q => by
    have e := suf_take q (k := k + 1) (by omega)
    rw [bK _ [] k (by simpa using hn), bK _ [] k (by simpa using hp), List.map_append, List.map_append] at e
    have e2 := List.append_inj_right' e (by simp)
    exact h (List.cons.inj e2).1
  rw [cK, decide_eq_false this, Bool.and_false]
theorem gK {n p : bf} (h1 : a8 n = 0) (h2 : a8 p = 0) (h : ((a5 n).reverse.take (a5 p).length).map bB = ((a5 p).reverse.take (a5 p).length).map bB) : cK n p = true := by
  rw [cK, decide_eq_true h1, decide_eq_true h2, decide_eq_true (suf_of h)]; rfl
theorem gC {n p : bf} (h : ¬ (a8 n = 0 ∧ a8 p = 0)) : cK n p = false := by
  rw [cK, Bool.and_eq_false_iff]
  left
  rw [Bool.and_eq_false_iff, decide_eq_false_iff_not, decide_eq_false_iff_not]; exact Decidable.not_and_iff_or_not.1 h

set_option maxRecDepth 100000 in
theorem c_ref02_Under (a b : bf) (ha : a.length ≤ 1000000000) (hb : b.length ≤ 1000000000) : RC Tryz.prog 153 #[.string (ba a), .string (ba b)] [] (α := Unit) (fun _ => .bool (cK a b)) (fun _ => []) := by
 refine bx (args := [.string (ba a), .string (ba b)]) 49 Tryz.func153 rfl rfl rfl (fun w0 => ?_)
 have hra : (a5 a).reverse.length = (a5 a).length := List.length_reverse
 have hrb : (a5 b).reverse.length = (a5 b).length := List.length_reverse
 have hla := fe a (by omega)
 have hlb := fe b (by omega)
 have hxa : ∀ s ∈ (a5 a).reverse, s.length ≤ 1000000000000 := fun s hs => by have := hla.2.1 s (List.mem_reverse.1 hs); omega
 have hxb : ∀ s ∈ (a5 b).reverse, s.length ≤ 1000000000000 := fun s hs => by have := hlb.2.1 s (List.mem_reverse.1 hs); omega
 have hxa2 : ∀ s ∈ a5 a, s.length ≤ 1000000000000 := fun s hs => by have := hla.2.1 s hs; omega
 have hxb2 : ∀ s ∈ a5 b, s.length ≤ 1000000000000 := fun s hs => by have := hlb.2.1 s hs; omega
 refine ar ?_
 refine ai ?_
 refine au (ao rfl) rfl rfl ?_
 refine ah ?_
 refine aq ?_
 refine ar ?_
 refine ai ?_
 refine au (ap rfl) rfl rfl ?_
 refine bM rfl gW rfl (db _) (fun w hw => bd) (fun ⟨A0, c0⟩ => ?_)
 refine au (ap rfl) rfl rfl ?_
 refine bM rfl gW rfl (db _) (fun w hw => bd) (fun ⟨A1, c1⟩ => ?_)
 refine au (ao rfl) rfl rfl ?_
 refine au (ao rfl) rfl rfl ?_
 refine ah ?_
 refine aq ?_
 refine ar ?_
 refine ar ?_
 refine ai ?_
 refine au (ap rfl) rfl rfl ?_
 refine bb rfl fB (da _) rfl ?_
 refine au (bX rfl rfl) rfl rfl ?_
 refine aB (t := 14) rfl (fun h2_2 => ?_) (fun h2_2 => ?_)
 refine au (ap rfl) rfl rfl ?_
 refine ax rfl rfl rfl rfl ?_
 refine ax rfl rfl rfl rfl ?_
 refine ax rfl rfl rfl rfl ?_
 refine au (aG rfl rfl) rfl rfl ?_
 refine au (ap rfl) rfl rfl ?_
 refine ax rfl rfl rfl rfl ?_
 refine ax rfl rfl rfl rfl ?_
 refine ax rfl rfl rfl rfl ?_
 refine ax rfl rfl rfl rfl ?_
 refine ax rfl rfl rfl rfl ?_
 refine au (aG rfl rfl) rfl rfl ?_
 refine ah ?_
 refine aq ?_
 refine aA rfl ?_
 refine ar ?_
 refine ai ?_
 refine au (ao rfl) rfl rfl ?_
 refine ah ?_
 refine aq ?_
 refine aQ ?_
 refine ay ?_
 refine aV (ts := [4]) rfl rfl rfl (fun w hw => ?_)
 focus first
   | (have he : cK a b = true := by
        have hk : k = (a5 b).length := by omega
        exact gK (by omega) (by omega) (hk ▸ hI.2)
      exact ⟨(), by rw [he]; rfl, hw.base, (hw.weak (List.nil_sublist _) (fun s hs => hs)).toNews⟩)
   | (have he : cK a b = false := iv (k := k) (by omega) (by omega) (of_decide_eq_false h7_14)
      exact ⟨(), by rw [he]; rfl, hw.base, (hw.weak (List.nil_sublist _) (fun s hs => hs)).toNews⟩)
   | (have he : cK a b = false := gC (fun h => by omega)
      exact ⟨(), by rw [he]; rfl, hw.base, (hw.weak (List.nil_sublist _) (fun s hs => hs)).toNews⟩)
   | (have he : cK a b = false := gM (by omega)
      exact ⟨(), by rw [he]; rfl, hw.base, (hw.weak (List.nil_sublist _) (fun s hs => hs)).toNews⟩)
   | (trace_state; fail)
 refine au (ap rfl) rfl rfl ?_
 refine az rfl rfl ?_
 refine au (ap rfl) rfl rfl ?_
 refine az rfl rfl ?_
 refine bb rfl fB (da _) rfl ?_
 refine az rfl rfl ?_
 refine au (bX rfl rfl) rfl rfl ?_
 refine aB (t := 18) rfl (fun h2_6 => ?_) (fun h2_6 => ?_)
 refine au (aI rfl rfl) rfl rfl ?_
 refine au (ap rfl) rfl rfl ?_
 refine ax rfl rfl rfl rfl ?_
 refine ax rfl rfl rfl rfl ?_
 refine ax rfl rfl rfl rfl ?_
 refine ax rfl rfl rfl rfl ?_
 refine ax rfl rfl rfl rfl ?_
 refine au (aG rfl rfl) rfl rfl ?_
 refine ah ?_
 refine aq ?_
 refine aA rfl ?_
 refine ar ?_
 refine ai ?_
 refine au (ao rfl) rfl rfl ?_
 refine ah ?_
 refine aq ?_
 refine aQ ?_
 refine ay ?_
 refine aV (ts := [4]) rfl rfl rfl (fun w hw => ?_)
 focus first
   | (have he : cK a b = true := by
        have hk : k = (a5 b).length := by omega
        exact gK (by omega) (by omega) (hk ▸ hI.2)
      exact ⟨(), by rw [he]; rfl, hw.base, (hw.weak (List.nil_sublist _) (fun s hs => hs)).toNews⟩)
   | (have he : cK a b = false := iv (k := k) (by omega) (by omega) (of_decide_eq_false h7_14)
      exact ⟨(), by rw [he]; rfl, hw.base, (hw.weak (List.nil_sublist _) (fun s hs => hs)).toNews⟩)
   | (have he : cK a b = false := gC (fun h => by omega)
      exact ⟨(), by rw [he]; rfl, hw.base, (hw.weak (List.nil_sublist _) (fun s hs => hs)).toNews⟩)
   | (have he : cK a b = false := gM (by omega)
      exact ⟨(), by rw [he]; rfl, hw.base, (hw.weak (List.nil_sublist _) (fun s hs => hs)).toNews⟩)
   | (trace_state; fail)
 refine au (aI rfl rfl) rfl rfl ?_
 refine au (ap rfl) rfl rfl ?_
 refine az rfl rfl ?_
 refine au (ap rfl) rfl rfl ?_
 refine az rfl rfl ?_
 refine au (bg Tryz.underlying135 rfl) rfl rfl ?_
 refine az rfl rfl ?_
 refine au (ap rfl) rfl rfl ?_
 refine az rfl rfl ?_
 refine au (bg Tryz.underlying135 rfl) rfl rfl ?_
 refine az rfl rfl ?_
 refine au (bI rfl rfl) rfl rfl ?_
 refine aB (t := 25) rfl (fun h2_13 => ?_) (fun h2_13 => ?_)
 refine au (aI rfl rfl) rfl rfl ?_
 refine ah ?_
 refine aq ?_
 refine aA rfl ?_
 refine ar ?_
 refine ai ?_
 refine au (ao rfl) rfl rfl ?_
 refine ah ?_
 refine aq ?_
 refine aQ ?_
 refine ay ?_
 refine aV (ts := [4]) rfl rfl rfl (fun w hw => ?_)
 focus first
   | (have he : cK a b = true := by
        have hk : k = (a5 b).length := by omega
        exact gK (by omega) (by omega) (hk ▸ hI.2)
      exact ⟨(), by rw [he]; rfl, hw.base, (hw.weak (List.nil_sublist _) (fun s hs => hs)).toNews⟩)
   | (have he : cK a b = false := iv (k := k) (by omega) (by omega) (of_decide_eq_false h7_14)
      exact ⟨(), by rw [he]; rfl, hw.base, (hw.weak (List.nil_sublist _) (fun s hs => hs)).toNews⟩)
   | (have he : cK a b = false := gC (fun h => by omega)
      exact ⟨(), by rw [he]; rfl, hw.base, (hw.weak (List.nil_sublist _) (fun s hs => hs)).toNews⟩)
   | (have he : cK a b = false := gM (by omega)
      exact ⟨(), by rw [he]; rfl, hw.base, (hw.weak (List.nil_sublist _) (fun s hs => hs)).toNews⟩)
   | (trace_state; fail)
 refine au (aI rfl rfl) rfl rfl ?_
 refine ah ?_
 refine aq ?_
 refine aC rfl ?_
 refine aS ?_
 refine aq ?_
 refine ar ?_
 refine ar ?_
 refine ai ?_
 refine au (ao rfl) rfl rfl ?_
 refine ah ?_
 refine aq ?_
 refine aW ?_
 refine bV (σ := Nat) [4, 7, 27, 28, 29, 30, 31, 32, 33, 34, 35, 36, 37, 38, 39, 40, 41, 42, 43, 44, 45, 46, 47, 48] (fun k => k ≤ (a5 b).length ∧ ((a5 a).reverse.take k).map bB = ((a5 b).reverse.take k).map bB) (fun k => (a5 b).length - k) (fun k => [(7, .int .i64 ((k : Int) + 1))]) (0) ?_ ⟨rfl, trivial⟩ (fun k hI => ?_)
 exact ⟨Nat.zero_le _, rfl⟩
 refine ar ?_
 refine ar ?_
 refine ai ?_
 refine au (ap rfl) rfl rfl ?_
 refine au (ap rfl) rfl rfl ?_
 refine au (bg Tryz.underlying135 rfl) rfl rfl ?_
 refine au (fp rfl rfl) rfl rfl ?_
 refine aB (t := 30) rfl (fun h5_3 => ?_) (fun h5_3 => ?_)
 refine ah ?_
 refine aq ?_
 refine aA rfl ?_
 refine aS ?_
 refine aq ?_
 refine ar ?_
 refine aW ?_
 refine ar ?_
 refine dz 16 rfl cu ?_
 refine aF (i := 0) rfl aj (ap rfl) aE aE rfl (aa (ae (aa (ak (ae (aa av)))))) (by kernel_rfl) rfl ?_
 refine aF (i := 1) rfl aj (ap rfl) aE aE rfl (aa (ae (aa (ak (ae (aa av)))))) (by kernel_rfl) rfl ?_
 refine aF (i := 2) rfl aj (bg Tryz.underlying135 rfl) aE aE rfl (aa (ae (aa (ak (ae (aa av)))))) (by kernel_rfl) rfl ?_
 refine aF (i := 3) rfl aj (ap rfl) aE aE rfl (aa (ae (aa (ak (ae (aa av)))))) (by kernel_rfl) rfl ?_
 refine aF (i := 4) rfl aj (eg rfl rfl (by omega) (by omega)) aE aE rfl (aa (ae (aa (ak (ae (aa av)))))) (by kernel_rfl) rfl ?_
 refine aF (i := 5) rfl aj (bz (k := (a5 a).length - 1 - k) Tryz.underlying135 cB rfl rfl (dg 1 rfl) (by omega) (by omega)) aE aE rfl (aa (ae (aa (ak (ae (aa av)))))) (by kernel_rfl) rfl ?_
 refine aF (i := 6) rfl aj (cf ct ([] : bf) cB rfl (dg 1 rfl) (by omega) rfl rfl) aE aE rfl (aa (ae (aa (ak (ae (aa av)))))) (by kernel_rfl) rfl ?_
 refine gn (t := 39) (.string (ba ((a5 a).reverse.getD k []))) rfl (by rw [rget _ (by omega)]) ?_
 refine aF (i := 7) rfl aj (ap rfl) aE aE rfl (aa (ae (aa (ak (ae (aa av)))))) (by kernel_rfl) rfl ?_
 refine aF (i := 8) rfl aj (ap rfl) aE aE rfl (aa (ae (aa (ak (ae (aa av)))))) (by kernel_rfl) rfl ?_
 refine aF (i := 9) rfl aj (bg Tryz.underlying135 rfl) aE aE rfl (aa (ae (aa (ak (ae (aa av)))))) (by kernel_rfl) rfl ?_
 refine aF (i := 10) rfl aj (ap rfl) aE aE rfl (aa (ae (aa (ak (ae (aa av)))))) (by kernel_rfl) rfl ?_
 refine aF (i := 11) rfl aj (eg rfl rfl (by omega) (by omega)) aE aE rfl (aa (ae (aa (ak (ae (aa av)))))) (by kernel_rfl) rfl ?_
 refine aF (i := 12) rfl aj (bz (k := (a5 b).length - 1 - k) Tryz.underlying135 cB rfl rfl (dg 0 rfl) (by omega) (by omega)) aE aE rfl (aa (ae (aa (ak (ae (aa av)))))) (by kernel_rfl) rfl ?_
 refine aF (i := 13) rfl aj (cf ct ([] : bf) cB rfl (dg 0 rfl) (by omega) rfl rfl) aE aE rfl (aa (ae (aa (ak (ae (aa av)))))) (by kernel_rfl) rfl ?_
 refine gn (t := 46) (.string (ba ((a5 b).reverse.getD k []))) rfl (by rw [rget _ (by omega)]) ?_
 refine cy (i := 14) rfl rfl rfl (bm rfl ent_210) (by kernel_rfl) rfl ?_
 refine bb rfl ent_210 (c_ref01_Same _ _ (hxa _ (bA (by simp; omega))) (hxb _ (bA (by simp; omega)))) rfl ?_
 refine ah ?_
 refine cW aE ?_
 refine wa_splitb (t := 47) rfl (fun h7_14 => ?_) (fun h7_14 => ?_)
 refine aF (i := 15) rfl aj (bC rfl) aE aE rfl (aa (ae (aa (ak (ae (aa av)))))) (by kernel_rfl) rfl ?_
 refine cp (by kernel_rfl) ?_
 refine aq ?_
 refine aC rfl ?_
 refine aS ?_
 refine bo ?_
 refine aq ?_
 refine ai ?_
 refine au (ap rfl) rfl rfl ?_
 refine au (bl rfl rfl (by omega) (by omega)) rfl rfl ?_
 refine au (ao rfl) rfl rfl ?_
 refine ah ?_
 refine bq (k + 1) ?_ ?_ ⟨lk rfl (by congr 1), trivial⟩ (by repeat (first | exact trivial | refine ⟨rfl, ?_⟩)) aE
 exact ⟨by omega, map_eq_succ bB [] (by simp; omega) (by simp; omega) hI.2 (of_decide_eq_true h7_14)⟩
 omega
 refine aF (i := 15) rfl aj (bC rfl) aE aE rfl (aa (ae (aa (ak (ae (aa av)))))) (by kernel_rfl) rfl ?_
 refine cp (by kernel_rfl) ?_
 refine aq ?_
 refine aA rfl ?_
 refine ar ?_
 refine ai ?_
 refine au (ao rfl) rfl rfl ?_
 refine ah ?_
 refine aq ?_
 refine aQ ?_
 refine aK ?_
 refine ay ?_
 refine a9 ?_
 refine aK ?_
 refine ay ?_
 refine aV (ts := [4]) rfl rfl rfl (fun w hw => ?_)
 focus first
   | (have he : cK a b = true := by
        have hk : k = (a5 b).length := by omega
        exact gK (by omega) (by omega) (hk ▸ hI.2)
      exact ⟨(), by rw [he]; rfl, hw.base, (hw.weak (List.nil_sublist _) (fun s hs => hs)).toNews⟩)
   | (have he : cK a b = false := iv (k := k) (by omega) (by omega) (of_decide_eq_false h7_14)
      exact ⟨(), by rw [he]; rfl, hw.base, (hw.weak (List.nil_sublist _) (fun s hs => hs)).toNews⟩)
   | (have he : cK a b = false := gC (fun h => by omega)
      exact ⟨(), by rw [he]; rfl, hw.base, (hw.weak (List.nil_sublist _) (fun s hs => hs)).toNews⟩)
   | (have he : cK a b = false := gM (by omega)
      exact ⟨(), by rw [he]; rfl, hw.base, (hw.weak (List.nil_sublist _) (fun s hs => hs)).toNews⟩)
   | (trace_state; fail)
 refine ah ?_
 refine aq ?_
 refine aC rfl ?_
 refine bw ?_
 refine aY ?_
 refine aZ ?_
 refine a7 ?_
 refine aq ?_
 refine ar ?_
 refine ai ?_
 refine au (ao rfl) rfl rfl ?_
 refine ah ?_
 refine aq ?_
 refine aQ ?_
 refine aV (ts := [4]) rfl rfl rfl (fun w hw => ?_)
 focus first
   | (have he : cK a b = true := by
        have hk : k = (a5 b).length := by omega
        exact gK (by omega) (by omega) (hk ▸ hI.2)
      exact ⟨(), by rw [he]; rfl, hw.base, (hw.weak (List.nil_sublist _) (fun s hs => hs)).toNews⟩)
   | (have he : cK a b = false := iv (k := k) (by omega) (by omega) (of_decide_eq_false h7_14)
      exact ⟨(), by rw [he]; rfl, hw.base, (hw.weak (List.nil_sublist _) (fun s hs => hs)).toNews⟩)
   | (have he : cK a b = false := gC (fun h => by omega)
      exact ⟨(), by rw [he]; rfl, hw.base, (hw.weak (List.nil_sublist _) (fun s hs => hs)).toNews⟩)
   | (have he : cK a b = false := gM (by omega)
      exact ⟨(), by rw [he]; rfl, hw.base, (hw.weak (List.nil_sublist _) (fun s hs => hs)).toNews⟩)
   | (trace_state; fail)

theorem p_ref02_Under (a b : bf) (ha : a.length ≤ 1000000000) (hb : b.length ≤ 1000000000) : dQ Tryz.prog 153 #[.string (ba a), .string (ba b)] (.bool (cK a b)) := g4 (c_ref02_Under a b ha hb)
/-- ref02.Matches. -/
def cT (w n : bf) : Bool := fN w && decide (a8 n = 0) && cK n (parN w) && decide ((a5 (parN w)).length < (a5 n).length)
theorem parN_le (n : bf) : (parN n).length ≤ n.length := by
  unfold parN
  split
  · simp [ef]
  · simp

theorem c_ref02_Matches (a b : bf) (ha : a.length ≤ 1000000000) (hb : b.length ≤ 1000000000) : RC Tryz.prog 82 #[.string (ba a), .string (ba b)] [] (α := Unit) (fun _ => .bool (cT a b)) (fun _ => []) := by
 refine bx (args := [.string (ba a), .string (ba b)]) 32 Tryz.func82 rfl rfl rfl (fun w0 => ?_)
 have hpl := parN_le a
 refine ar ?_
 refine ai ?_
 refine au (ao rfl) rfl rfl ?_
 refine ah ?_
 refine aq ?_
 refine ar ?_
 refine ar ?_
 refine ai ?_
 refine au (ap rfl) rfl rfl ?_
 refine bb rfl ent_151 (jB _) rfl ?_
 refine bD (t := 8) rfl (fun h1_1 => ?_) (fun h1_1 => ?_)
 refine au (bC rfl) rfl rfl ?_
 refine au (ap rfl) rfl rfl ?_
 refine az rfl rfl ?_
 refine au (ap rfl) rfl rfl ?_
 refine az rfl rfl ?_
 refine bb rfl fB (da _) rfl ?_
 refine az rfl rfl ?_
 refine au (bX rfl rfl) rfl rfl ?_
 refine aB (t := 13) rfl (fun h1_6 => ?_) (fun h1_6 => ?_)
 refine au (aI rfl rfl) rfl rfl ?_
 refine ah ?_
 refine aq ?_
 refine aA rfl ?_
 refine ar ?_
 refine ai ?_
 refine au (ao rfl) rfl rfl ?_
 refine ah ?_
 refine aq ?_
 refine aQ ?_
 refine ay ?_
 refine aV (ts := [4]) rfl rfl rfl (fun w hw => ?_)
 refine ⟨(), ?_, hw.base, (hw.weak (List.nil_sublist _) (fun s hs => hs)).toNews⟩
 show Ending.returned (.bool _) = _
 congr 2
 focus first
   | (simp [cT, *]
      done)
   | (have hn9 : a8 b = 0 := by omega
      simp [cT, *]
      done)
   | (trace_state; fail)
 refine au (aI rfl rfl) rfl rfl ?_
 refine ah ?_
 refine aq ?_
 refine aC rfl ?_
 refine aS ?_
 refine aq ?_
 refine ar ?_
 refine ai ?_
 refine au (ap rfl) rfl rfl ?_
 refine bb rfl ent_152 (c_ref02_Parent _) rfl ?_
 refine au (ap rfl) rfl rfl ?_
 refine au (aP rfl rfl) rfl rfl ?_
 refine au (aP rfl rfl) rfl rfl ?_
 refine au (ao rfl) rfl rfl ?_
 refine au (ao rfl) rfl rfl ?_
 refine ah ?_
 refine aq ?_
 refine ar ?_
 refine ai ?_
 refine au (ap rfl) rfl rfl ?_
 refine au (ap rfl) rfl rfl ?_
 refine bb rfl ent_153 (p_ref02_Under _ _ (by omega) (by omega)) rfl ?_
 refine bD (t := 22) rfl (fun h4_2 => ?_) (fun h4_2 => ?_)
 refine au (ap rfl) rfl rfl ?_
 refine az rfl rfl ?_
 refine au (ap rfl) rfl rfl ?_
 refine az rfl rfl ?_
 refine bM rfl gW rfl (db _) (fun w hw => bd) (fun ⟨A0, c0⟩ => ?_)
 refine az rfl rfl ?_
 refine au (bg Tryz.underlying135 rfl) rfl rfl ?_
 refine az rfl rfl ?_
 refine au (ap rfl) rfl rfl ?_
 refine az rfl rfl ?_
 refine bM rfl gW rfl (db _) (fun w hw => bd) (fun ⟨A1, c1⟩ => ?_)
 refine az rfl rfl ?_
 refine au (bg Tryz.underlying135 rfl) rfl rfl ?_
 refine az rfl rfl ?_
 refine au (c9 rfl rfl) rfl rfl ?_
 refine au (aG rfl rfl) rfl rfl ?_
 refine au (ao rfl) rfl rfl ?_
 refine ah ?_
 refine aq ?_
 refine aQ ?_
 refine aV (ts := [4]) rfl rfl rfl (fun w hw => ?_)
 refine ⟨(), ?_, hw.base, (hw.weak (List.nil_sublist _) (fun s hs => hs)).toNews⟩
 show Ending.returned (.bool _) = _
 congr 2
 focus first
   | (simp [cT, *]
      done)
   | (have hn9 : a8 b = 0 := by omega
      simp [cT, *]
      done)
   | (trace_state; fail)
 refine au (ap rfl) rfl rfl ?_
 refine ax rfl rfl rfl rfl ?_
 refine ax rfl rfl rfl rfl ?_
 refine ax rfl rfl rfl rfl ?_
 refine ax rfl rfl rfl rfl ?_
 refine ax rfl rfl rfl rfl ?_
 refine ax rfl rfl rfl rfl ?_
 refine ax rfl rfl rfl rfl ?_
 refine au (aI rfl rfl) rfl rfl ?_
 refine au (ao rfl) rfl rfl ?_
 refine ah ?_
 refine aq ?_
 refine aQ ?_
 refine aV (ts := [4]) rfl rfl rfl (fun w hw => ?_)
 refine ⟨(), ?_, hw.base, (hw.weak (List.nil_sublist _) (fun s hs => hs)).toNews⟩
 show Ending.returned (.bool _) = _
 congr 2
 focus first
   | (simp [cT, *]
      done)
   | (have hn9 : a8 b = 0 := by omega
      simp [cT, *]
      done)
   | (trace_state; fail)
 refine au (bC rfl) rfl rfl ?_
 refine au (ap rfl) rfl rfl ?_
 refine ax rfl rfl rfl rfl ?_
 refine ax rfl rfl rfl rfl ?_
 refine ax rfl rfl rfl rfl ?_
 refine au (aG rfl rfl) rfl rfl ?_
 refine ah ?_
 refine aq ?_
 refine aA rfl ?_
 refine ar ?_
 refine ai ?_
 refine au (ao rfl) rfl rfl ?_
 refine ah ?_
 refine aq ?_
 refine aQ ?_
 refine ay ?_
 refine aV (ts := [4]) rfl rfl rfl (fun w hw => ?_)
 refine ⟨(), ?_, hw.base, (hw.weak (List.nil_sublist _) (fun s hs => hs)).toNews⟩
 show Ending.returned (.bool _) = _
 congr 2
 focus first
   | (simp [cT, *]
      done)
   | (have hn9 : a8 b = 0 := by omega
      simp [cT, *]
      done)
   | (trace_state; fail)

theorem p_ref02_Matches (a b : bf) (ha : a.length ≤ 1000000000) (hb : b.length ≤ 1000000000) : dQ Tryz.prog 82 #[.string (ba a), .string (ba b)] (.bool (cT a b)) := g4 (c_ref02_Matches a b ha hb)

end Go.Proofs.YtnpdgmoeoidppaaGreat
