import Derived.Test.YtnpdgmoeoidppaaUbQb
/- two tables gone through side by side -/
namespace Go.Proofs.Ytnpdgmoeoidppaa
open Go.RowKit Go.Shelf
set_option linter.unusedVariables false
set_option linter.unusedSimpArgs false

def ptA (A : Option Addr) : Option Nat → Option Addr
  | some i => some ⟨Ab A, Ao A + i * 7, none⟩
  | none => none
def encPP (A B : Option Addr) (q : Option Nat × Option Nat) : List Value := [.pointer (ptA A q.1), .pointer (ptA B q.2)]
theorem sA_zero (A : Option Addr) (c sz : Nat) : A = sA A 0 c sz := by
  unfold sA
  split
  · rfl
  · cases A with
    | none => rfl
    | some a => simp [Addr.add]
theorem hZ {A : Option Addr} {i c sz : Nat} (h : i + 1 < c) : sA (sA A i c sz) 1 (c - i) sz = sA A (i + 1) c sz := by
  unfold sA
  rw [if_neg (by omega), if_neg (by omega), if_neg (by omega)]
  cases A with
  | none => rfl
  | some a => simp only [Option.map_some, Addr.add_add, Nat.add_mul]
theorem sA_pt {A : Option Addr} {i c : Nat} (hA : A = some ⟨Ab A, Ao A, none⟩) (h : i < c) : Value.pointer (some ⟨Ab (sA A i c 7), Ao (sA A i c 7) + 0 * 7, none⟩) = .pointer (ptA A (some i)) := by
  rw [hA]
  unfold sA
  rw [if_neg (by omega), Option.map_some, Addr.add_lit]
  rfl
theorem g1 (l : List Le) (i : Nat) : (l.drop i).getD 0 bO = l.getD i bO := by
  rw [List.getD_eq_getElem?_getD, List.getElem?_drop, List.getD_eq_getElem?_getD, Nat.add_zero]
theorem fF {l p : List Le} : ∀ (n i j : Nat) (e : Option Nat × Option Nat), (l.length - i) + (p.length - j) ≤ n → e ∈ du l p i j → (∃ a, a < l.length ∧ e = (some a, none)) ∨ ∃ oa b, b < p.length ∧ e = (oa, some b) ∧ ∀ a, oa = some a → a < l.length
  | 0, i, j, e, h, he => by rw [eA (by omega) (by omega)] at he; cases he
  | n + 1, i, j, e, h, he => by
    by_cases hi : i < l.length
    · by_cases hj : j < p.length
      · rcases Int.lt_trichotomy (cn (l.getD i bO).e.host (p.getD j bO).e.host) 0 with c | c | c
        · rw [dO hi (.inr c)] at he
          rcases List.mem_cons.1 he with rfl | he
          · exact .inl ⟨i, hi, rfl⟩
          · exact fF n (i + 1) j e (by omega) he
        · rw [eS hi hj c] at he
          rcases List.mem_cons.1 he with rfl | he
          · exact .inr ⟨_, j, hj, rfl, fun a q => by cases q; exact hi⟩
          · exact fF n (i + 1) (j + 1) e (by omega) he
        · rw [dN hj (.inr c)] at he
          rcases List.mem_cons.1 he with rfl | he
          · exact .inr ⟨_, j, hj, rfl, nofun⟩
          · exact fF n i (j + 1) e (by omega) he
      · rw [dO hi (.inl (by omega))] at he
        rcases List.mem_cons.1 he with rfl | he
        · exact .inl ⟨i, hi, rfl⟩
        · exact fF n (i + 1) j e (by omega) he
    · by_cases hj : j < p.length
      · rw [dN hj (.inl (by omega))] at he
        rcases List.mem_cons.1 he with rfl | he
        · exact .inr ⟨_, j, hj, rfl, nofun⟩
        · exact fF n i (j + 1) e (by omega) he
      · rw [eA (by omega) (by omega)] at he; cases he
theorem fI {l p : List Le} : ∀ (n i j : Nat), (l.length - i) + (p.length - j) ≤ n → (du l p i j).length ≤ n
  | 0, i, j, h => by rw [eA (by omega) (by omega)]; exact Nat.le_refl _
  | n + 1, i, j, h => by
    by_cases hi : i < l.length
    · by_cases hj : j < p.length
      · rcases Int.lt_trichotomy (cn (l.getD i bO).e.host (p.getD j bO).e.host) 0 with c | c | c
        · rw [dO hi (.inr c)]; exact Nat.succ_le_succ (fI n (i + 1) j (by omega))
        · rw [eS hi hj c]; exact Nat.succ_le_succ (fI n (i + 1) (j + 1) (by omega))
        · rw [dN hj (.inr c)]; exact Nat.succ_le_succ (fI n i (j + 1) (by omega))
      · rw [dO hi (.inl (by omega))]; exact Nat.succ_le_succ (fI n (i + 1) j (by omega))
    · by_cases hj : j < p.length
      · rw [dN hj (.inl (by omega))]; exact Nat.succ_le_succ (fI n i (j + 1) (by omega))
      · rw [eA (by omega) (by omega)]; exact Nat.zero_le _

set_option maxRecDepth 100000 in
theorem c_pairs1 (l p : List Le) (A B : Option Addr) (c d ba bb : Nat) (hlc : l.length ≤ c) (hpd : p.length ≤ d) (hl : l.length ≤ 1000000) (hpl : p.length ≤ 1000000) (hlh : ∀ x ∈ l, x.e.host.length ≤ 1000000000) (hph : ∀ x ∈ p, x.e.host.length ≤ 1000000000) : IterG Try.prog 88 [.pointer (some ⟨ba, 0, none⟩), .pointer (some ⟨bb, 0, none⟩)] [Ch.rd A 7 d4 l, Ch.rd B 7 d4 p] [Ch.row bb [.slice B p.length d] 22, Ch.row ba [.slice A l.length c] 22] [] (encPP A B) (fun pre => ∃ post, du l p 0 0 = pre ++ post) (fun xs => xs = du l p 0 0) := by
 refine iterG_of_W 47 Try.func88 rfl rfl rfl (fun lr σ I Ix C Sc hy g0 hg0 w0 => ?_)
 refine w_fact (p := 0 < l.length → A = some ⟨Ab A, Ao A, none⟩) (fun w hw h0 => ((cD 0 rfl w hw).addr h0).1) (fun hA => ?_)
 refine w_fact (p := 0 < p.length → B = some ⟨Ab B, Ao B, none⟩) (fun w hw h0 => ((cD 1 rfl w hw).addr h0).1) (fun hB => ?_)
 refine bn ?_
 refine w_loopL (σ := Nat × Nat × Option Addr × Option Addr × σ) [4, 5, 6, 7, 8, 9, 10, 11, 12, 13, 14, 15, 16, 17, 18, 19, 20, 21, 22, 23, 24, 25, 26, 27, 28, 29, 30, 31, 32, 33, 34, 35, 36, 37, 38, 39, 40, 41, 42, 43, 44, 45, 46] (fun q => q.1 ≤ l.length ∧ q.2.1 ≤ p.length ∧ (q.1 < l.length → q.2.2.1 = sA A q.1 c 7) ∧ (q.2.1 < p.length → q.2.2.2.1 = sA B q.2.1 d 7) ∧ ∃ pre, du l p 0 0 = pre ++ du l p q.1 q.2.1 ∧ I pre q.2.2.2.2) (fun q => (l.length - q.1) + (p.length - q.2.1)) (fun q => []) (fun q => [C q.2.2.2.2, Ch.row bb [.slice q.2.2.2.1 (p.drop q.2.1).length (d - q.2.1)] 22, Ch.row ba [.slice q.2.2.1 (l.drop q.1).length (c - q.1)] 22]) ((0, 0, A, B, g0)) ?_ trivial rfl (fun q hI => ?_)
 exact ⟨Nat.zero_le _, Nat.zero_le _, fun _ => sA_zero A c 7, fun _ => sA_zero B d 7, [], rfl, hg0⟩
 obtain ⟨i, j, Ai, Bj, g⟩ := q
 dsimp only at hI ⊢
 obtain ⟨hil, hjl, hAi9, hBj9, pre, hpre, hIg⟩ := hI
 refine ar ?_
 refine ar ?_
 refine ah ?_
 refine ap (aG 2 bU rfl rfl rfl) rfl rfl ?_
 refine ap (bI Try.underlying22 rfl) rfl rfl ?_
 refine ap (aG 1 bU rfl rfl rfl) rfl rfl ?_
 refine ap (bI Try.underlying22 rfl) rfl rfl ?_
 refine ap (bY rfl rfl (by simp only [List.length_drop]; omega) (by simp only [List.length_drop]; omega)) rfl rfl ?_
 refine ap (eo rfl rfl) rfl rfl ?_
 refine aC (t := 12) rfl (fun h0_5 => ?_) (fun h0_5 => ?_)
 simp only [List.length_drop] at h0_5
 refine ae ?_
 refine ao ?_
 refine aI rfl ?_
 refine bd ?_
 refine ao ?_
 refine bn ?_
 refine ar ?_
 refine ah ?_
 refine ap (ai rfl) rfl rfl ?_
 refine ae ?_
 refine ao ?_
 refine ar ?_
 refine bn ?_
 refine ar ?_
 refine ah ?_
 refine ap (aG 2 bU rfl rfl rfl) rfl rfl ?_
 refine ap (bI Try.underlying22 rfl) rfl rfl ?_
 refine ap (dg rfl rfl) rfl rfl ?_
 refine aC (t := 25) rfl (fun h3_2 => ?_) (fun h3_2 => ?_)
 have hle : l.length ≤ i := by simp only [List.length_drop] at h3_2; omega
 have hj : j < p.length := by omega
 obtain rfl := hBj9 hj
 have hB1 := hB (by omega)
 refine ap (ai rfl) rfl rfl ?_
 refine ae ?_
 refine ao ?_
 refine aI rfl ?_
 refine ah ?_
 refine ap (ai rfl) rfl rfl ?_
 refine ae ?_
 refine bV ?_
 refine ao ?_
 refine ar ?_
 refine ah ?_
 refine ap (ai rfl) rfl rfl ?_
 refine ap (ai rfl) rfl rfl ?_
 refine ae ?_
 refine ao ?_
 refine ar ?_
 refine ar ?_
 refine ah ?_
 refine ap (am rfl) rfl rfl ?_
 refine ap (eP rfl rfl) rfl rfl ?_
 refine wl_af (t := 31) rfl (by omega) ?_
 refine ae ?_
 refine ao ?_
 refine aN rfl ?_
 refine bd ?_
 refine ao ?_
 refine ar ?_
 refine ar ?_
 refine ah ?_
 refine ap (am rfl) rfl rfl ?_
 refine ap (gR rfl rfl) rfl rfl ?_
 refine fd (t := 37) rfl (by omega) ?_
 refine ae ?_
 refine ao ?_
 refine aI rfl ?_
 refine dX 5 rfl mixed ?_
 refine aX (i := 0) rfl aa (aG 1 bU rfl rfl rfl) aD aD rfl (aj (aA (aW (aA av)))) (by kernel_rfl) rfl ?_
 refine aX (i := 1) rfl aa (cj (k := 0) Try.underlying22 a7 rfl rfl (fun w hw => (dL bl 1 rfl (by omega) hpd hw).1) rfl (by simp only [List.length_drop]; omega)) aD aD rfl (aj (aA (aW (aA av)))) (by kernel_rfl) rfl ?_
 refine f0 (t := 39) (.pointer (ptA B (some j))) rfl (sA_pt hB1 (by omega)) ?_
 refine aX (i := 2) rfl aa (aG 1 bU rfl rfl rfl) aD aD rfl (aj (aA (aW (aA av)))) (by kernel_rfl) rfl ?_
 refine aX (i := 3) rfl aa (gI (m := 1) Try.underlying22 a7 rfl rfl rfl (by simp only [List.length_drop]; omega)) aD aD rfl (aj (aA (aW (aA av)))) (by kernel_rfl) rfl ?_
 refine aX (i := 4) rfl aa (ai rfl) aD aD rfl (aj (aA (aW (aA av)))) (by kernel_rfl) rfl ?_
 refine dl (i := 5) rfl rfl rfl (fun _ _ _ => ax (by kernel_rfl)) (by kernel_rfl) rfl ?_
 refine aS bU rfl rfl rfl (.s (.z)) rfl rfl rfl rfl ?_
 refine ae ?_
 refine ea rfl ?_
 refine dm (by kernel_rfl) ?_
 refine ao ?_
 refine ar ?_
 have hM : du l p i j = (none, some j) :: du l p i (j + 1) := by first | exact dO hi (.inl hpe) | exact dO hi (.inr (by omega)) | exact dN hj (.inl hle) | exact dN hj (.inr (by omega)) | exact eS hi hj (by omega)
 have hadm : du l p 0 0 = (pre ++ [(none, some j)]) ++ du l p i (j + 1) := by rw [hpre, hM, List.append_assoc]; rfl
 refine ah ?_
 refine ap (am rfl) rfl rfl ?_
 refine ap (am rfl) rfl rfl ?_
 refine ap (am rfl) rfl rfl ?_
 refine hX rfl rfl (hy pre (none, some j) g ⟨_, hadm⟩ hIg) (fun _ => .z) (fun s hs => List.mem_append_right _ hs) rfl (fun g' hT => ?_) (fun g' hF => ?_)
 refine ap (ct rfl) rfl rfl ?_
 refine ae ?_
 refine ao ?_
 refine aN rfl ?_
 refine bd ?_
 refine bV ?_
 refine cr ((i, (j + 1), Ai, sA (sA B j d 7) 1 (d - j) 7, g')) ?_ ?_ trivial (by repeat (first | exact trivial | refine ⟨rfl, ?_⟩)) (fun w h => by have h9 := h; simp only [List.drop_drop, Nat.sub_sub] at h9; exact h9)
 exact ⟨by show i ≤ _; omega, by show (j + 1) ≤ _; omega, hAi9, (fun h => hZ (by have h9 : j + 1 < p.length := h; omega)), _, hadm, hT⟩
 show (l.length - i) + (p.length - (j + 1)) < (l.length - i) + (p.length - j)
 omega
 refine ap (ct rfl) rfl rfl ?_
 refine ae ?_
 refine ao ?_
 refine aI rfl ?_
 refine aV ?_
 refine aT ?_
 refine bL ?_
 refine aT ?_
 refine aY (ts := []) rfl rfl rfl (fun w hw => ?_)
 focus first
   | exact dI _ (.inr ⟨_, ⟨_, hadm⟩, hF⟩) (hw.weak (.cons_cons _ (.cons _ (.cons _ .slnil))) (fun s hs => hs))
   | (have hq : du l p i j = [] := eA (by omega) (by omega)
      rw [hq, List.append_nil] at hpre
      exact dI _ (.inl ⟨_, rfl, by rw [hpre]; exact hIg⟩) (hw.weak (.cons_cons _ (.cons _ (.cons _ .slnil))) (fun s hs => hs)))
   | (trace_state; fail)
 have hi : i < l.length := by simp only [List.length_drop] at h3_2; omega
 obtain rfl := hAi9 hi
 have hA1 := hA (by omega)
 refine ap (ai rfl) rfl rfl ?_
 refine ae ?_
 refine ao ?_
 refine aN rfl ?_
 refine ar ?_
 refine ah ?_
 refine ap (aG 1 bU rfl rfl rfl) rfl rfl ?_
 refine ap (bI Try.underlying22 rfl) rfl rfl ?_
 refine ap (dg rfl rfl) rfl rfl ?_
 refine aC (t := 29) rfl (fun h5_2 => ?_) (fun h5_2 => ?_)
 have hpe : p.length ≤ j := by simp only [List.length_drop] at h5_2; omega
 refine ap (ai rfl) rfl rfl ?_
 refine ae ?_
 refine ao ?_
 refine aI rfl ?_
 refine ah ?_
 refine ap (ai rfl) rfl rfl ?_
 refine ae ?_
 refine bV ?_
 refine ao ?_
 refine ar ?_
 refine ah ?_
 refine ap (ai rfl) rfl rfl ?_
 refine ap (ai rfl) rfl rfl ?_
 refine ae ?_
 refine ao ?_
 refine ar ?_
 refine ar ?_
 refine ah ?_
 refine ap (am rfl) rfl rfl ?_
 refine ap (eP rfl rfl) rfl rfl ?_
 refine fd (t := 31) rfl (by omega) ?_
 refine ae ?_
 refine ao ?_
 refine aI rfl ?_
 refine dX 5 rfl mixed ?_
 refine aX (i := 0) rfl aa (aG 2 bU rfl rfl rfl) aD aD rfl (aj (aA (aW (aA av)))) (by kernel_rfl) rfl ?_
 refine aX (i := 1) rfl aa (cj (k := 0) Try.underlying22 a7 rfl rfl (fun w hw => (dL bl 0 rfl (by omega) hlc hw).1) rfl (by simp only [List.length_drop]; omega)) aD aD rfl (aj (aA (aW (aA av)))) (by kernel_rfl) rfl ?_
 refine f0 (t := 33) (.pointer (ptA A (some i))) rfl (sA_pt hA1 (by omega)) ?_
 refine aX (i := 2) rfl aa (aG 2 bU rfl rfl rfl) aD aD rfl (aj (aA (aW (aA av)))) (by kernel_rfl) rfl ?_
 refine aX (i := 3) rfl aa (gI (m := 1) Try.underlying22 a7 rfl rfl rfl (by simp only [List.length_drop]; omega)) aD aD rfl (aj (aA (aW (aA av)))) (by kernel_rfl) rfl ?_
 refine aX (i := 4) rfl aa (ai rfl) aD aD rfl (aj (aA (aW (aA av)))) (by kernel_rfl) rfl ?_
 refine dl (i := 5) rfl rfl rfl (fun _ _ _ => ax (by kernel_rfl)) (by kernel_rfl) rfl ?_
 refine aS bU rfl rfl rfl (.s (.s (.z))) rfl rfl rfl rfl ?_
 refine ae ?_
 refine ea rfl ?_
 refine dm (by kernel_rfl) ?_
 refine ao ?_
 refine ar ?_
 refine ar ?_
 refine ah ?_
 refine ap (am rfl) rfl rfl ?_
 refine ap (gR rfl rfl) rfl rfl ?_
 refine wl_af (t := 37) rfl (by omega) ?_
 refine ae ?_
 refine ao ?_
 refine aN rfl ?_
 refine bd ?_
 refine ao ?_
 refine ar ?_
 have hM : du l p i j = (some i, none) :: du l p (i + 1) j := by first | exact dO hi (.inl hpe) | exact dO hi (.inr (by omega)) | exact dN hj (.inl hle) | exact dN hj (.inr (by omega)) | exact eS hi hj (by omega)
 have hadm : du l p 0 0 = (pre ++ [(some i, none)]) ++ du l p (i + 1) j := by rw [hpre, hM, List.append_assoc]; rfl
 refine ah ?_
 refine ap (am rfl) rfl rfl ?_
 refine ap (am rfl) rfl rfl ?_
 refine ap (am rfl) rfl rfl ?_
 refine hX rfl rfl (hy pre (some i, none) g ⟨_, hadm⟩ hIg) (fun _ => .z) (fun s hs => List.mem_append_right _ hs) rfl (fun g' hT => ?_) (fun g' hF => ?_)
 refine ap (ct rfl) rfl rfl ?_
 refine ae ?_
 refine ao ?_
 refine aN rfl ?_
 refine bd ?_
 refine bV ?_
 refine cr (((i + 1), j, sA (sA A i c 7) 1 (c - i) 7, Bj, g')) ?_ ?_ trivial (by repeat (first | exact trivial | refine ⟨rfl, ?_⟩)) (fun w h => by have h9 := h; simp only [List.drop_drop, Nat.sub_sub] at h9; exact h9)
 exact ⟨by show (i + 1) ≤ _; omega, by show j ≤ _; omega, (fun h => hZ (by have h9 : i + 1 < l.length := h; omega)), hBj9, _, hadm, hT⟩
 show (l.length - (i + 1)) + (p.length - j) < (l.length - i) + (p.length - j)
 omega
 refine ap (ct rfl) rfl rfl ?_
 refine ae ?_
 refine ao ?_
 refine aI rfl ?_
 refine aV ?_
 refine aT ?_
 refine bL ?_
 refine aT ?_
 refine aY (ts := []) rfl rfl rfl (fun w hw => ?_)
 focus first
   | exact dI _ (.inr ⟨_, ⟨_, hadm⟩, hF⟩) (hw.weak (.cons_cons _ (.cons _ (.cons _ .slnil))) (fun s hs => hs))
   | (have hq : du l p i j = [] := eA (by omega) (by omega)
      rw [hq, List.append_nil] at hpre
      exact dI _ (.inl ⟨_, rfl, by rw [hpre]; exact hIg⟩) (hw.weak (.cons_cons _ (.cons _ (.cons _ .slnil))) (fun s hs => hs)))
   | (trace_state; fail)
 have hj : j < p.length := by simp only [List.length_drop] at h5_2; omega
 obtain rfl := hBj9 hj
 have hB1 := hB (by omega)
 refine ap (ai rfl) rfl rfl ?_
 refine ae ?_
 refine ao ?_
 refine aN rfl ?_
 refine dX 10 rfl mixed ?_
 refine aX (i := 0) rfl aa (aG 2 bU rfl rfl rfl) aD aD rfl (aA (aj (aA (aW (aA av))))) (by kernel_rfl) rfl ?_
 refine aX (i := 1) rfl aa (cj (k := 0) Try.underlying22 a7 rfl rfl (fun w hw => (dL bl 0 rfl (by omega) hlc hw).1) rfl (by simp only [List.length_drop]; omega)) aD aD rfl (aA (aj (aA (aW (aA av))))) (by kernel_rfl) rfl ?_
 refine aX (i := 2) rfl aa (aF dA rfl) aD aD rfl (aA (aj (aA (aW (aA av))))) (by kernel_rfl) rfl ?_
 refine aX (i := 3) rfl aa (cR (k := 0) bl bO bF rfl (fun w hw => (dL bl 0 rfl (by omega) hlc hw).1) (by simp only [List.length_drop]; omega) rfl rfl) aD aD rfl (aA (aj (aA (aW (aA av))))) (by kernel_rfl) rfl ?_
 refine aX (i := 4) rfl aa (aG 1 bU rfl rfl rfl) aD aD rfl (aA (aj (aA (aW (aA av))))) (by kernel_rfl) rfl ?_
 refine aX (i := 5) rfl aa (cj (k := 0) Try.underlying22 a7 rfl rfl (fun w hw => (dL bl 1 rfl (by omega) hpd hw).1) rfl (by simp only [List.length_drop]; omega)) aD aD rfl (aA (aj (aA (aW (aA av))))) (by kernel_rfl) rfl ?_
 refine aX (i := 6) rfl aa (aF dA rfl) aD aD rfl (aA (aj (aA (aW (aA av))))) (by kernel_rfl) rfl ?_
 refine aX (i := 7) rfl aa (cR (k := 0) bl bO bF rfl (fun w hw => (dL bl 1 rfl (by omega) hpd hw).1) (by simp only [List.length_drop]; omega) rfl rfl) aD aD rfl (aA (aj (aA (aW (aA av))))) (by kernel_rfl) rfl ?_
 refine dl (i := 8) rfl rfl rfl (aH rfl ent_47) (by kernel_rfl) rfl ?_
 refine bR rfl ent_47 (eL _ _ (by rw [g1]; exact hlh _ (bE hi)) (by rw [g1]; exact hph _ (bE hj))) rfl ?_
 refine ae ?_
 refine d8 aD ?_
 refine f0 (t := 21) (.int .i64 (cn (l.getD i bO).e.host (p.getD j bO).e.host)) rfl (by rw [g1, g1]) ?_
 refine aX (i := 9) rfl aa (ai rfl) aD aD rfl (aA (aj (aA (aW (aA av))))) (by kernel_rfl) rfl ?_
 refine dm (by kernel_rfl) ?_
 refine bV ?_
 refine ao ?_
 refine ar ?_
 refine ah ?_
 refine ap (ai rfl) rfl rfl ?_
 refine ap (ai rfl) rfl rfl ?_
 refine ae ?_
 refine ao ?_
 refine ar ?_
 refine ar ?_
 refine ah ?_
 refine ap (am rfl) rfl rfl ?_
 refine ap (eP rfl rfl) rfl rfl ?_
 refine aC (t := 31) rfl (fun h8_1 => ?_) (fun h8_1 => ?_)
 refine ae ?_
 refine ao ?_
 refine aI rfl ?_
 refine dX 5 rfl mixed ?_
 refine aX (i := 0) rfl aa (aG 2 bU rfl rfl rfl) aD aD rfl (aj (aA (aW (aA av)))) (by kernel_rfl) rfl ?_
 refine aX (i := 1) rfl aa (cj (k := 0) Try.underlying22 a7 rfl rfl (fun w hw => (dL bl 0 rfl (by omega) hlc hw).1) rfl (by simp only [List.length_drop]; omega)) aD aD rfl (aj (aA (aW (aA av)))) (by kernel_rfl) rfl ?_
 refine f0 (t := 33) (.pointer (ptA A (some i))) rfl (sA_pt hA1 (by omega)) ?_
 refine aX (i := 2) rfl aa (aG 2 bU rfl rfl rfl) aD aD rfl (aj (aA (aW (aA av)))) (by kernel_rfl) rfl ?_
 refine aX (i := 3) rfl aa (gI (m := 1) Try.underlying22 a7 rfl rfl rfl (by simp only [List.length_drop]; omega)) aD aD rfl (aj (aA (aW (aA av)))) (by kernel_rfl) rfl ?_
 refine aX (i := 4) rfl aa (ai rfl) aD aD rfl (aj (aA (aW (aA av)))) (by kernel_rfl) rfl ?_
 refine dl (i := 5) rfl rfl rfl (fun _ _ _ => ax (by kernel_rfl)) (by kernel_rfl) rfl ?_
 refine aS bU rfl rfl rfl (.s (.s (.z))) rfl rfl rfl rfl ?_
 refine ae ?_
 refine ea rfl ?_
 refine dm (by kernel_rfl) ?_
 refine ao ?_
 refine ar ?_
 refine ar ?_
 refine ah ?_
 refine ap (am rfl) rfl rfl ?_
 refine ap (gR rfl rfl) rfl rfl ?_
 refine aC (t := 37) rfl (fun h10_1 => ?_) (fun h10_1 => ?_)
 refine ae ?_
 refine ao ?_
 refine aI rfl ?_
 refine dX 5 rfl mixed ?_
 refine aX (i := 0) rfl aa (aG 1 bU rfl rfl rfl) aD aD rfl (aj (aA (aW (aA av)))) (by kernel_rfl) rfl ?_
 refine aX (i := 1) rfl aa (cj (k := 0) Try.underlying22 a7 rfl rfl (fun w hw => (dL bl 1 rfl (by omega) hpd hw).1) rfl (by simp only [List.length_drop]; omega)) aD aD rfl (aj (aA (aW (aA av)))) (by kernel_rfl) rfl ?_
 refine f0 (t := 39) (.pointer (ptA B (some j))) rfl (sA_pt hB1 (by omega)) ?_
 refine aX (i := 2) rfl aa (aG 1 bU rfl rfl rfl) aD aD rfl (aj (aA (aW (aA av)))) (by kernel_rfl) rfl ?_
 refine aX (i := 3) rfl aa (gI (m := 1) Try.underlying22 a7 rfl rfl rfl (by simp only [List.length_drop]; omega)) aD aD rfl (aj (aA (aW (aA av)))) (by kernel_rfl) rfl ?_
 refine aX (i := 4) rfl aa (ai rfl) aD aD rfl (aj (aA (aW (aA av)))) (by kernel_rfl) rfl ?_
 refine dl (i := 5) rfl rfl rfl (fun _ _ _ => ax (by kernel_rfl)) (by kernel_rfl) rfl ?_
 refine aS bU rfl rfl rfl (.s (.z)) rfl rfl rfl rfl ?_
 refine ae ?_
 refine ea rfl ?_
 refine dm (by kernel_rfl) ?_
 refine ao ?_
 refine ar ?_
 have hM : du l p i j = (some i, some j) :: du l p (i + 1) (j + 1) := by first | exact dO hi (.inl hpe) | exact dO hi (.inr (by omega)) | exact dN hj (.inl hle) | exact dN hj (.inr (by omega)) | exact eS hi hj (by omega)
 have hadm : du l p 0 0 = (pre ++ [(some i, some j)]) ++ du l p (i + 1) (j + 1) := by rw [hpre, hM, List.append_assoc]; rfl
 refine ah ?_
 refine ap (am rfl) rfl rfl ?_
 refine ap (am rfl) rfl rfl ?_
 refine ap (am rfl) rfl rfl ?_
 refine hX rfl rfl (hy pre (some i, some j) g ⟨_, hadm⟩ hIg) (fun _ => .z) (fun s hs => List.mem_append_right _ hs) rfl (fun g' hT => ?_) (fun g' hF => ?_)
 refine ap (ct rfl) rfl rfl ?_
 refine ae ?_
 refine ao ?_
 refine aN rfl ?_
 refine bd ?_
 refine bV ?_
 refine cr (((i + 1), (j + 1), sA (sA A i c 7) 1 (c - i) 7, sA (sA B j d 7) 1 (d - j) 7, g')) ?_ ?_ trivial (by repeat (first | exact trivial | refine ⟨rfl, ?_⟩)) (fun w h => by have h9 := h; simp only [List.drop_drop, Nat.sub_sub] at h9; exact h9)
 exact ⟨by show (i + 1) ≤ _; omega, by show (j + 1) ≤ _; omega, (fun h => hZ (by have h9 : i + 1 < l.length := h; omega)), (fun h => hZ (by have h9 : j + 1 < p.length := h; omega)), _, hadm, hT⟩
 show (l.length - (i + 1)) + (p.length - (j + 1)) < (l.length - i) + (p.length - j)
 omega
 refine ap (ct rfl) rfl rfl ?_
 refine ae ?_
 refine ao ?_
 refine aI rfl ?_
 refine aV ?_
 refine aT ?_
 refine bL ?_
 refine aT ?_
 refine aY (ts := []) rfl rfl rfl (fun w hw => ?_)
 focus first
   | exact dI _ (.inr ⟨_, ⟨_, hadm⟩, hF⟩) (hw.weak (.cons_cons _ (.cons _ (.cons _ .slnil))) (fun s hs => hs))
   | (have hq : du l p i j = [] := eA (by omega) (by omega)
      rw [hq, List.append_nil] at hpre
      exact dI _ (.inl ⟨_, rfl, by rw [hpre]; exact hIg⟩) (hw.weak (.cons_cons _ (.cons _ (.cons _ .slnil))) (fun s hs => hs)))
   | (trace_state; fail)
 refine ae ?_
 refine ao ?_
 refine aN rfl ?_
 refine bd ?_
 refine ao ?_
 refine ar ?_
 have hM : du l p i j = (some i, none) :: du l p (i + 1) j := by first | exact dO hi (.inl hpe) | exact dO hi (.inr (by omega)) | exact dN hj (.inl hle) | exact dN hj (.inr (by omega)) | exact eS hi hj (by omega)
 have hadm : du l p 0 0 = (pre ++ [(some i, none)]) ++ du l p (i + 1) j := by rw [hpre, hM, List.append_assoc]; rfl
 refine ah ?_
 refine ap (am rfl) rfl rfl ?_
 refine ap (am rfl) rfl rfl ?_
 refine ap (am rfl) rfl rfl ?_
 refine hX rfl rfl (hy pre (some i, none) g ⟨_, hadm⟩ hIg) (fun _ => .z) (fun s hs => List.mem_append_right _ hs) rfl (fun g' hT => ?_) (fun g' hF => ?_)
 refine ap (ct rfl) rfl rfl ?_
 refine ae ?_
 refine ao ?_
 refine aN rfl ?_
 refine bd ?_
 refine bV ?_
 refine cr (((i + 1), j, sA (sA A i c 7) 1 (c - i) 7, sA B j d 7, g')) ?_ ?_ trivial (by repeat (first | exact trivial | refine ⟨rfl, ?_⟩)) (fun w h => by have h9 := h; simp only [List.drop_drop, Nat.sub_sub] at h9; exact h9)
 exact ⟨by show (i + 1) ≤ _; omega, by show j ≤ _; omega, (fun h => hZ (by have h9 : i + 1 < l.length := h; omega)), hBj9, _, hadm, hT⟩
 show (l.length - (i + 1)) + (p.length - j) < (l.length - i) + (p.length - j)
 omega
 refine ap (ct rfl) rfl rfl ?_
 refine ae ?_
 refine ao ?_
 refine aI rfl ?_
 refine aV ?_
 refine aT ?_
 refine bL ?_
 refine aT ?_
 refine aY (ts := []) rfl rfl rfl (fun w hw => ?_)
 focus first
   | exact dI _ (.inr ⟨_, ⟨_, hadm⟩, hF⟩) (hw.weak (.cons_cons _ (.cons _ (.cons _ .slnil))) (fun s hs => hs))
   | (have hq : du l p i j = [] := eA (by omega) (by omega)
      rw [hq, List.append_nil] at hpre
      exact dI _ (.inl ⟨_, rfl, by rw [hpre]; exact hIg⟩) (hw.weak (.cons_cons _ (.cons _ (.cons _ .slnil))) (fun s hs => hs)))
   | (trace_state; fail)
 refine ae ?_
 refine ao ?_
 refine aN rfl ?_
 refine bd ?_
 refine ao ?_
 refine ar ?_
 refine ar ?_
 refine ah ?_
 refine ap (am rfl) rfl rfl ?_
 refine ap (gR rfl rfl) rfl rfl ?_
 refine fd (t := 37) rfl (by omega) ?_
 refine ae ?_
 refine ao ?_
 refine aI rfl ?_
 refine dX 5 rfl mixed ?_
 refine aX (i := 0) rfl aa (aG 1 bU rfl rfl rfl) aD aD rfl (aj (aA (aW (aA av)))) (by kernel_rfl) rfl ?_
 refine aX (i := 1) rfl aa (cj (k := 0) Try.underlying22 a7 rfl rfl (fun w hw => (dL bl 1 rfl (by omega) hpd hw).1) rfl (by simp only [List.length_drop]; omega)) aD aD rfl (aj (aA (aW (aA av)))) (by kernel_rfl) rfl ?_
 refine f0 (t := 39) (.pointer (ptA B (some j))) rfl (sA_pt hB1 (by omega)) ?_
 refine aX (i := 2) rfl aa (aG 1 bU rfl rfl rfl) aD aD rfl (aj (aA (aW (aA av)))) (by kernel_rfl) rfl ?_
 refine aX (i := 3) rfl aa (gI (m := 1) Try.underlying22 a7 rfl rfl rfl (by simp only [List.length_drop]; omega)) aD aD rfl (aj (aA (aW (aA av)))) (by kernel_rfl) rfl ?_
 refine aX (i := 4) rfl aa (ai rfl) aD aD rfl (aj (aA (aW (aA av)))) (by kernel_rfl) rfl ?_
 refine dl (i := 5) rfl rfl rfl (fun _ _ _ => ax (by kernel_rfl)) (by kernel_rfl) rfl ?_
 refine aS bU rfl rfl rfl (.s (.z)) rfl rfl rfl rfl ?_
 refine ae ?_
 refine ea rfl ?_
 refine dm (by kernel_rfl) ?_
 refine ao ?_
 refine ar ?_
 have hM : du l p i j = (none, some j) :: du l p i (j + 1) := by first | exact dO hi (.inl hpe) | exact dO hi (.inr (by omega)) | exact dN hj (.inl hle) | exact dN hj (.inr (by omega)) | exact eS hi hj (by omega)
 have hadm : du l p 0 0 = (pre ++ [(none, some j)]) ++ du l p i (j + 1) := by rw [hpre, hM, List.append_assoc]; rfl
 refine ah ?_
 refine ap (am rfl) rfl rfl ?_
 refine ap (am rfl) rfl rfl ?_
 refine ap (am rfl) rfl rfl ?_
 refine hX rfl rfl (hy pre (none, some j) g ⟨_, hadm⟩ hIg) (fun _ => .z) (fun s hs => List.mem_append_right _ hs) rfl (fun g' hT => ?_) (fun g' hF => ?_)
 refine ap (ct rfl) rfl rfl ?_
 refine ae ?_
 refine ao ?_
 refine aN rfl ?_
 refine bd ?_
 refine bV ?_
 refine cr ((i, (j + 1), sA A i c 7, sA (sA B j d 7) 1 (d - j) 7, g')) ?_ ?_ trivial (by repeat (first | exact trivial | refine ⟨rfl, ?_⟩)) (fun w h => by have h9 := h; simp only [List.drop_drop, Nat.sub_sub] at h9; exact h9)
 exact ⟨by show i ≤ _; omega, by show (j + 1) ≤ _; omega, hAi9, (fun h => hZ (by have h9 : j + 1 < p.length := h; omega)), _, hadm, hT⟩
 show (l.length - i) + (p.length - (j + 1)) < (l.length - i) + (p.length - j)
 omega
 refine ap (ct rfl) rfl rfl ?_
 refine ae ?_
 refine ao ?_
 refine aI rfl ?_
 refine aV ?_
 refine aT ?_
 refine bL ?_
 refine aT ?_
 refine aY (ts := []) rfl rfl rfl (fun w hw => ?_)
 focus first
   | exact dI _ (.inr ⟨_, ⟨_, hadm⟩, hF⟩) (hw.weak (.cons_cons _ (.cons _ (.cons _ .slnil))) (fun s hs => hs))
   | (have hq : du l p i j = [] := eA (by omega) (by omega)
      rw [hq, List.append_nil] at hpre
      exact dI _ (.inl ⟨_, rfl, by rw [hpre]; exact hIg⟩) (hw.weak (.cons_cons _ (.cons _ (.cons _ .slnil))) (fun s hs => hs)))
   | (trace_state; fail)
 simp only [List.length_drop] at h0_5
 refine ae ?_
 refine ao ?_
 refine aN rfl ?_
 refine cz ?_
 refine br ?_
 refine bC ?_
 refine bK ?_
 refine e_end (ts := []) rfl rfl rfl (fun w hw => ?_)
 focus first
   | exact dI _ (.inr ⟨_, ⟨_, hadm⟩, hF⟩) (hw.weak (.cons_cons _ (.cons _ (.cons _ .slnil))) (fun s hs => hs))
   | (have hq : du l p i j = [] := eA (by omega) (by omega)
      rw [hq, List.append_nil] at hpre
      exact dI _ (.inl ⟨_, rfl, by rw [hpre]; exact hIg⟩) (hw.weak (.cons_cons _ (.cons _ (.cons _ .slnil))) (fun s hs => hs)))
   | (trace_state; fail)

theorem c_pairs (A B : Option Addr) (n m c d : Nat) : RC Try.prog 48 #[.slice A n c, .slice B m d] [] (α := Nat × Nat) (fun p => .func (.func 88) #[] #[.pointer (some ⟨p.1, 0, none⟩), .pointer (some ⟨p.2, 0, none⟩)]) (fun p => [Ch.row p.2 [.slice B m d] 22, Ch.row p.1 [.slice A n c] 22]) := by
 refine bZ (args := [.slice A n c, .slice B m d]) 6 Try.func48 rfl rfl rfl (fun w0 => ?_)
 refine ar ?_
 refine ah ?_
 refine cT rfl rfl rfl (fun b1 => ?_)
 refine cT rfl rfl rfl (fun b2 => ?_)
 refine ap (ai rfl) rfl rfl ?_
 refine ae ?_
 refine ao ?_
 refine ar ?_
 refine ah ?_
 refine ap (im rfl rfl) rfl rfl ?_
 refine ap (ai rfl) rfl rfl ?_
 refine ae ?_
 refine ao ?_
 refine aV ?_
 refine aY (ts := [4]) rfl rfl rfl (fun w hw => ?_)
 exact ⟨(b1, b2), rfl, hw.base, (hw.weak (.cons_cons _ (.cons_cons _ .slnil)) (fun s hs => hs)).toNews⟩
end Go.Proofs.Ytnpdgmoeoidppaa
