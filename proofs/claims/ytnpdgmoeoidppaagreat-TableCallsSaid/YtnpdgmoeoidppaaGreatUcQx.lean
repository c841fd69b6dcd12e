import Derived.Test.YtnpdgmoeoidppaaGreatUbQx
/- two tables gone through side by side -/
namespace Go.Proofs.YtnpdgmoeoidppaaGreat
open Go.RowKit Go.Shelf
set_option linter.unusedVariables false
set_option linter.unusedSimpArgs false

def ptA (A : Option Addr) : Option Nat → Option Addr
  | some i => some ⟨Ab A, Ao A + i * 7, none⟩
  | none => none
def encPP (A B : Option Addr) (q : Option Nat × Option Nat) : List Value := [.pointer (ptA A q.1), .pointer (ptA B q.2)]
theorem sA_zero (A : Option Addr) (c sz : Nat) : A = sA A 0 c sz := by
  unfold sA
  split
  · rfl
  · cases A with
    | none => rfl
    | some a => simp [Addr.add]
theorem i6 {A : Option Addr} {i c sz : Nat} (h : i + 1 < c) : sA (sA A i c sz) 1 (c - i) sz = sA A (i + 1) c sz := by
  unfold sA
  rw [if_neg (by omega), if_neg (by omega), if_neg (by omega)]
  cases A with
  | none => rfl
  | some a => simp only [Option.map_some, Addr.add_add, Nat.add_mul]
theorem sA_pt {A : Option Addr} {i c : Nat} (hA : A = some ⟨Ab A, Ao A, none⟩) (h : i < c) : Value.pointer (some ⟨Ab (sA A i c 7), Ao (sA A i c 7) + 0 * 7, none⟩) = .pointer (ptA A (some i)) := by
  rw [hA]
  unfold sA
  rw [if_neg (by omega), Option.map_some, Addr.add_lit]
  rfl
theorem iY (l : List Le) (i : Nat) : (l.drop i).getD 0 bm = l.getD i bm := by
  rw [List.getD_eq_getElem?_getD, List.getElem?_drop, List.getD_eq_getElem?_getD, Nat.add_zero]
theorem gk {l p : List Le} : ∀ (n i j : Nat) (e : Option Nat × Option Nat), (l.length - i) + (p.length - j) ≤ n → e ∈ dJ l p i j → (∃ a, a < l.length ∧ e = (some a, none)) ∨ ∃ oa b, b < p.length ∧ e = (oa, some b) ∧ ∀ a, oa = some a → a < l.length
  | 0, i, j, e, h, he => by rw [eU (by omega) (by omega)] at he; cases he
  | n + 1, i, j, e, h, he => by
    by_cases hi : i < l.length
    · by_cases hj : j < p.length
      · rcases Int.lt_trichotomy (bR (l.getD i bm).e.host (p.getD j bm).e.host) 0 with c | c | c
        · rw [ed hi (.inr c)] at he
          rcases List.mem_cons.1 he with rfl | he
          · exact .inl ⟨i, hi, rfl⟩
          · exact gk n (i + 1) j e (by omega) he
        · rw [fF hi hj c] at he
          rcases List.mem_cons.1 he with rfl | he
          · exact .inr ⟨_, j, hj, rfl, fun a q => by cases q; exact hi⟩
          · exact gk n (i + 1) (j + 1) e (by omega) he
        · rw [ee hj (.inr c)] at he
          rcases List.mem_cons.1 he with rfl | he
          · exact .inr ⟨_, j, hj, rfl, nofun⟩
          · exact gk n i (j + 1) e (by omega) he
      · rw [ed hi (.inl (by omega))] at he
        rcases List.mem_cons.1 he with rfl | he
        · exact .inl ⟨i, hi, rfl⟩
        · exact gk n (i + 1) j e (by omega) he
    · by_cases hj : j < p.length
      · rw [ee hj (.inl (by omega))] at he
        rcases List.mem_cons.1 he with rfl | he
        · exact .inr ⟨_, j, hj, rfl, nofun⟩
        · exact gk n i (j + 1) e (by omega) he
      · rw [eU (by omega) (by omega)] at he; cases he
theorem gl {l p : List Le} : ∀ (n i j : Nat), (l.length - i) + (p.length - j) ≤ n → (dJ l p i j).length ≤ n
  | 0, i, j, h => by rw [eU (by omega) (by omega)]; exact Nat.le_refl _
  | n + 1, i, j, h => by
    by_cases hi : i < l.length
    · by_cases hj : j < p.length
      · rcases Int.lt_trichotomy (bR (l.getD i bm).e.host (p.getD j bm).e.host) 0 with c | c | c
        · rw [ed hi (.inr c)]; exact Nat.succ_le_succ (gl n (i + 1) j (by omega))
        · rw [fF hi hj c]; exact Nat.succ_le_succ (gl n (i + 1) (j + 1) (by omega))
        · rw [ee hj (.inr c)]; exact Nat.succ_le_succ (gl n i (j + 1) (by omega))
      · rw [ed hi (.inl (by omega))]; exact Nat.succ_le_succ (gl n (i + 1) j (by omega))
    · by_cases hj : j < p.length
      · rw [ee hj (.inl (by omega))]; exact Nat.succ_le_succ (gl n i (j + 1) (by omega))
      · rw [eU (by omega) (by omega)]; exact Nat.zero_le _

set_option maxRecDepth 100000 in
theorem c_pairs1 (l p : List Le) (A B : Option Addr) (c d ba bb : Nat) (hlc : l.length ≤ c) (hpd : p.length ≤ d) (hl : l.length ≤ 1000000) (hpl : p.length ≤ 1000000) (hlh : ∀ x ∈ l, x.e.host.length ≤ 1000000000) (hph : ∀ x ∈ p, x.e.host.length ≤ 1000000000) : IterG Tryz.prog 193 [.pointer (some ⟨ba, 0, none⟩), .pointer (some ⟨bb, 0, none⟩)] [Ch.rd A 7 dF l, Ch.rd B 7 dF p] [Ch.row bb [.slice B p.length d] 22, Ch.row ba [.slice A l.length c] 22] [] (encPP A B) (fun pre => ∃ post, dJ l p 0 0 = pre ++ post) (fun xs => xs = dJ l p 0 0) := by
 refine iterG_of_W 47 Tryz.func193 rfl rfl rfl (fun lr σ I Ix C Sc hy g0 hg0 w0 => ?_)
 refine w_fact (p := 0 < l.length → A = some ⟨Ab A, Ao A, none⟩) (fun w hw h0 => ((bF 0 rfl w hw).addr h0).1) (fun hA => ?_)
 refine w_fact (p := 0 < p.length → B = some ⟨Ab B, Ao B, none⟩) (fun w hw h0 => ((bF 1 rfl w hw).addr h0).1) (fun hB => ?_)
 refine aS ?_
 refine w_loopL (σ := Nat × Nat × Option Addr × Option Addr × σ) [4, 5, 6, 7, 8, 9, 10, 11, 12, 13, 14, 15, 16, 17, 18, 19, 20, 21, 22, 23, 24, 25, 26, 27, 28, 29, 30, 31, 32, 33, 34, 35, 36, 37, 38, 39, 40, 41, 42, 43, 44, 45, 46] (fun q => q.1 ≤ l.length ∧ q.2.1 ≤ p.length ∧ (q.1 < l.length → q.2.2.1 = sA A q.1 c 7) ∧ (q.2.1 < p.length → q.2.2.2.1 = sA B q.2.1 d 7) ∧ ∃ pre, dJ l p 0 0 = pre ++ dJ l p q.1 q.2.1 ∧ I pre q.2.2.2.2) (fun q => (l.length - q.1) + (p.length - q.2.1)) (fun q => []) (fun q => [C q.2.2.2.2, Ch.row bb [.slice q.2.2.2.1 (p.drop q.2.1).length (d - q.2.1)] 22, Ch.row ba [.slice q.2.2.1 (l.drop q.1).length (c - q.1)] 22]) ((0, 0, A, B, g0)) ?_ trivial rfl (fun q hI => ?_)
 exact ⟨Nat.zero_le _, Nat.zero_le _, fun _ => sA_zero A c 7, fun _ => sA_zero B d 7, [], rfl, hg0⟩
 obtain ⟨i, j, Ai, Bj, g⟩ := q
 dsimp only at hI ⊢
 obtain ⟨hil, hjl, hAi9, hBj9, pre, hpre, hIg⟩ := hI
 refine ap ?_
 refine ap ?_
 refine ae ?_
 refine aq (aC 2 bz rfl rfl rfl) rfl rfl ?_
 refine aq (bg Tryz.underlying22 rfl) rfl rfl ?_
 refine aq (aC 1 bz rfl rfl rfl) rfl rfl ?_
 refine aq (bg Tryz.underlying22 rfl) rfl rfl ?_
 refine aq (br rfl rfl (by simp only [List.length_drop]; omega) (by simp only [List.length_drop]; omega)) rfl rfl ?_
 refine aq (dB rfl rfl) rfl rfl ?_
 refine ay (t := 12) rfl (fun h0_5 => ?_) (fun h0_5 => ?_)
 simp only [List.length_drop] at h0_5
 refine aa ?_
 refine aj ?_
 refine aA rfl ?_
 refine aQ ?_
 refine aj ?_
 refine aS ?_
 refine ap ?_
 refine ae ?_
 refine aq (ai rfl) rfl rfl ?_
 refine aa ?_
 refine aj ?_
 refine ap ?_
 refine aS ?_
 refine ap ?_
 refine ae ?_
 refine aq (aC 2 bz rfl rfl rfl) rfl rfl ?_
 refine aq (bg Tryz.underlying22 rfl) rfl rfl ?_
 refine aq (cY rfl rfl) rfl rfl ?_
 refine ay (t := 25) rfl (fun h3_2 => ?_) (fun h3_2 => ?_)
 have hle : l.length ≤ i := by simp only [List.length_drop] at h3_2; omega
 have hj : j < p.length := by omega
 obtain rfl := hBj9 hj
 have hB1 := hB (by omega)
 refine aq (ai rfl) rfl rfl ?_
 refine aa ?_
 refine aj ?_
 refine aA rfl ?_
 refine ae ?_
 refine aq (ai rfl) rfl rfl ?_
 refine aa ?_
 refine bj ?_
 refine aj ?_
 refine ap ?_
 refine ae ?_
 refine aq (ai rfl) rfl rfl ?_
 refine aq (ai rfl) rfl rfl ?_
 refine aa ?_
 refine aj ?_
 refine ap ?_
 refine ap ?_
 refine ae ?_
 refine aq (am rfl) rfl rfl ?_
 refine aq (ff rfl rfl) rfl rfl ?_
 refine wl_af (t := 31) rfl (by omega) ?_
 refine aa ?_
 refine aj ?_
 refine aD rfl ?_
 refine aQ ?_
 refine aj ?_
 refine ap ?_
 refine ap ?_
 refine ae ?_
 refine aq (am rfl) rfl rfl ?_
 refine aq (gD rfl rfl) rfl rfl ?_
 refine wl_at (t := 37) rfl (by omega) ?_
 refine aa ?_
 refine aj ?_
 refine aA rfl ?_
 refine dQ 5 rfl mixed ?_
 refine aK (i := 0) rfl ak (aC 1 bz rfl rfl rfl) aG aG rfl (ah (ao (av (ao aw)))) (by kernel_rfl) rfl ?_
 refine aK (i := 1) rfl ak (bB (k := 0) Tryz.underlying22 aU rfl rfl (fun w hw => (fy bp 1 rfl (by omega) hpd hw).1) rfl (by simp only [List.length_drop]; omega)) aG aG rfl (ah (ao (av (ao aw)))) (by kernel_rfl) rfl ?_
 refine gQ (t := 39) (.pointer (ptA B (some j))) rfl (sA_pt hB1 (by omega)) ?_
 refine aK (i := 2) rfl ak (aC 1 bz rfl rfl rfl) aG aG rfl (ah (ao (av (ao aw)))) (by kernel_rfl) rfl ?_
 refine aK (i := 3) rfl ak (iv (m := 1) Tryz.underlying22 aU rfl rfl rfl (by simp only [List.length_drop]; omega)) aG aG rfl (ah (ao (av (ao aw)))) (by kernel_rfl) rfl ?_
 refine aK (i := 4) rfl ak (ai rfl) aG aG rfl (ah (ao (av (ao aw)))) (by kernel_rfl) rfl ?_
 refine dG (i := 5) rfl rfl rfl (fun _ _ _ => aM (by kernel_rfl)) (by kernel_rfl) rfl ?_
 refine aW bz rfl rfl rfl (.s (.z)) rfl rfl rfl rfl ?_
 refine aa ?_
 refine eM rfl ?_
 refine cF (by kernel_rfl) ?_
 refine aj ?_
 refine ap ?_
 have hM : dJ l p i j = (none, some j) :: dJ l p i (j + 1) := by first | exact ed hi (.inl hpe) | exact ed hi (.inr (by omega)) | exact ee hj (.inl hle) | exact ee hj (.inr (by omega)) | exact fF hi hj (by omega)
 have hadm : dJ l p 0 0 = (pre ++ [(none, some j)]) ++ dJ l p i (j + 1) := by rw [hpre, hM, List.append_assoc]; rfl
 refine ae ?_
 refine aq (am rfl) rfl rfl ?_
 refine aq (am rfl) rfl rfl ?_
 refine aq (am rfl) rfl rfl ?_
 refine iQ rfl rfl (hy pre (none, some j) g ⟨_, hadm⟩ hIg) (fun _ => .z) (fun s hs => List.mem_append_right _ hs) rfl (fun g' hT => ?_) (fun g' hF => ?_)
 refine aq (bS rfl) rfl rfl ?_
 refine aa ?_
 refine aj ?_
 refine aD rfl ?_
 refine aQ ?_
 refine bj ?_
 refine bv ((i, (j + 1), Ai, sA (sA B j d 7) 1 (d - j) 7, g')) ?_ ?_ trivial (by repeat (first | exact trivial | refine ⟨rfl, ?_⟩)) (fun w h => by have h9 := h; simp only [List.drop_drop, Nat.sub_sub] at h9; exact h9)
 exact ⟨by show i ≤ _; omega, by show (j + 1) ≤ _; omega, hAi9, (fun h => i6 (by have h9 : j + 1 < p.length := h; omega)), _, hadm, hT⟩
 show (l.length - i) + (p.length - (j + 1)) < (l.length - i) + (p.length - j)
 omega
 refine aq (bS rfl) rfl rfl ?_
 refine aa ?_
 refine aj ?_
 refine aA rfl ?_
 refine aN ?_
 refine aJ ?_
 refine bh ?_
 refine aJ ?_
 refine aR (ts := []) rfl rfl rfl (fun w hw => ?_)
 focus first
   | exact eb _ (.inr ⟨_, ⟨_, hadm⟩, hF⟩) (hw.weak (.cons_cons _ (.cons _ (.cons _ .slnil))) (fun s hs => hs))
   | (have hq : dJ l p i j = [] := eU (by omega) (by omega)
      rw [hq, List.append_nil] at hpre
      exact eb _ (.inl ⟨_, rfl, by rw [hpre]; exact hIg⟩) (hw.weak (.cons_cons _ (.cons _ (.cons _ .slnil))) (fun s hs => hs)))
   | (trace_state; fail)
 have hi : i < l.length := by simp only [List.length_drop] at h3_2; omega
 obtain rfl := hAi9 hi
 have hA1 := hA (by omega)
 refine aq (ai rfl) rfl rfl ?_
 refine aa ?_
 refine aj ?_
 refine aD rfl ?_
 refine ap ?_
 refine ae ?_
 refine aq (aC 1 bz rfl rfl rfl) rfl rfl ?_
 refine aq (bg Tryz.underlying22 rfl) rfl rfl ?_
 refine aq (cY rfl rfl) rfl rfl ?_
 refine ay (t := 29) rfl (fun h5_2 => ?_) (fun h5_2 => ?_)
 have hpe : p.length ≤ j := by simp only [List.length_drop] at h5_2; omega
 refine aq (ai rfl) rfl rfl ?_
 refine aa ?_
 refine aj ?_
 refine aA rfl ?_
 refine ae ?_
 refine aq (ai rfl) rfl rfl ?_
 refine aa ?_
 refine bj ?_
 refine aj ?_
 refine ap ?_
 refine ae ?_
 refine aq (ai rfl) rfl rfl ?_
 refine aq (ai rfl) rfl rfl ?_
 refine aa ?_
 refine aj ?_
 refine ap ?_
 refine ap ?_
 refine ae ?_
 refine aq (am rfl) rfl rfl ?_
 refine aq (ff rfl rfl) rfl rfl ?_
 refine wl_at (t := 31) rfl (by omega) ?_
 refine aa ?_
 refine aj ?_
 refine aA rfl ?_
 refine dQ 5 rfl mixed ?_
 refine aK (i := 0) rfl ak (aC 2 bz rfl rfl rfl) aG aG rfl (ah (ao (av (ao aw)))) (by kernel_rfl) rfl ?_
 refine aK (i := 1) rfl ak (bB (k := 0) Tryz.underlying22 aU rfl rfl (fun w hw => (fy bp 0 rfl (by omega) hlc hw).1) rfl (by simp only [List.length_drop]; omega)) aG aG rfl (ah (ao (av (ao aw)))) (by kernel_rfl) rfl ?_
 refine gQ (t := 33) (.pointer (ptA A (some i))) rfl (sA_pt hA1 (by omega)) ?_
 refine aK (i := 2) rfl ak (aC 2 bz rfl rfl rfl) aG aG rfl (ah (ao (av (ao aw)))) (by kernel_rfl) rfl ?_
 refine aK (i := 3) rfl ak (iv (m := 1) Tryz.underlying22 aU rfl rfl rfl (by simp only [List.length_drop]; omega)) aG aG rfl (ah (ao (av (ao aw)))) (by kernel_rfl) rfl ?_
 refine aK (i := 4) rfl ak (ai rfl) aG aG rfl (ah (ao (av (ao aw)))) (by kernel_rfl) rfl ?_
 refine dG (i := 5) rfl rfl rfl (fun _ _ _ => aM (by kernel_rfl)) (by kernel_rfl) rfl ?_
 refine aW bz rfl rfl rfl (.s (.s (.z))) rfl rfl rfl rfl ?_
 refine aa ?_
 refine eM rfl ?_
 refine cF (by kernel_rfl) ?_
 refine aj ?_
 refine ap ?_
 refine ap ?_
 refine ae ?_
 refine aq (am rfl) rfl rfl ?_
 refine aq (gD rfl rfl) rfl rfl ?_
 refine wl_af (t := 37) rfl (by omega) ?_
 refine aa ?_
 refine aj ?_
 refine aD rfl ?_
 refine aQ ?_
 refine aj ?_
 refine ap ?_
 have hM : dJ l p i j = (some i, none) :: dJ l p (i + 1) j := by first | exact ed hi (.inl hpe) | exact ed hi (.inr (by omega)) | exact ee hj (.inl hle) | exact ee hj (.inr (by omega)) | exact fF hi hj (by omega)
 have hadm : dJ l p 0 0 = (pre ++ [(some i, none)]) ++ dJ l p (i + 1) j := by rw [hpre, hM, List.append_assoc]; rfl
 refine ae ?_
 refine aq (am rfl) rfl rfl ?_
 refine aq (am rfl) rfl rfl ?_
 refine aq (am rfl) rfl rfl ?_
 refine iQ rfl rfl (hy pre (some i, none) g ⟨_, hadm⟩ hIg) (fun _ => .z) (fun s hs => List.mem_append_right _ hs) rfl (fun g' hT => ?_) (fun g' hF => ?_)
 refine aq (bS rfl) rfl rfl ?_
 refine aa ?_
 refine aj ?_
 refine aD rfl ?_
 refine aQ ?_
 refine bj ?_
 refine bv (((i + 1), j, sA (sA A i c 7) 1 (c - i) 7, Bj, g')) ?_ ?_ trivial (by repeat (first | exact trivial | refine ⟨rfl, ?_⟩)) (fun w h => by have h9 := h; simp only [List.drop_drop, Nat.sub_sub] at h9; exact h9)
 exact ⟨by show (i + 1) ≤ _; omega, by show j ≤ _; omega, (fun h => i6 (by have h9 : i + 1 < l.length := h; omega)), hBj9, _, hadm, hT⟩
 show (l.length - (i + 1)) + (p.length - j) < (l.length - i) + (p.length - j)
 omega
 refine aq (bS rfl) rfl rfl ?_
 refine aa ?_
 refine aj ?_
 refine aA rfl ?_
 refine aN ?_
 refine aJ ?_
 refine bh ?_
 refine aJ ?_
 refine aR (ts := []) rfl rfl rfl (fun w hw => ?_)
 focus first
   | exact eb _ (.inr ⟨_, ⟨_, hadm⟩, hF⟩) (hw.weak (.cons_cons _ (.cons _ (.cons _ .slnil))) (fun s hs => hs))
   | (have hq : dJ l p i j = [] := eU (by omega) (by omega)
      rw [hq, List.append_nil] at hpre
      exact eb _ (.inl ⟨_, rfl, by rw [hpre]; exact hIg⟩) (hw.weak (.cons_cons _ (.cons _ (.cons _ .slnil))) (fun s hs => hs)))
   | (trace_state; fail)
 have hj : j < p.length := by simp only [List.length_drop] at h5_2; omega
 obtain rfl := hBj9 hj
 have hB1 := hB (by omega)
 refine aq (ai rfl) rfl rfl ?_
 refine aa ?_
 refine aj ?_
 refine aD rfl ?_
 refine dQ 10 rfl mixed ?_
 refine aK (i := 0) rfl ak (aC 2 bz rfl rfl rfl) aG aG rfl (ao (ah (ao (av (ao aw))))) (by kernel_rfl) rfl ?_
 refine aK (i := 1) rfl ak (bB (k := 0) Tryz.underlying22 aU rfl rfl (fun w hw => (fy bp 0 rfl (by omega) hlc hw).1) rfl (by simp only [List.length_drop]; omega)) aG aG rfl (ao (ah (ao (av (ao aw))))) (by kernel_rfl) rfl ?_
 refine aK (i := 2) rfl ak (aB cM rfl) aG aG rfl (ao (ah (ao (av (ao aw))))) (by kernel_rfl) rfl ?_
 refine aK (i := 3) rfl ak (bZ (k := 0) bp bm bE rfl (fun w hw => (fy bp 0 rfl (by omega) hlc hw).1) (by simp only [List.length_drop]; omega) rfl rfl) aG aG rfl (ao (ah (ao (av (ao aw))))) (by kernel_rfl) rfl ?_
 refine aK (i := 4) rfl ak (aC 1 bz rfl rfl rfl) aG aG rfl (ao (ah (ao (av (ao aw))))) (by kernel_rfl) rfl ?_
 refine aK (i := 5) rfl ak (bB (k := 0) Tryz.underlying22 aU rfl rfl (fun w hw => (fy bp 1 rfl (by omega) hpd hw).1) rfl (by simp only [List.length_drop]; omega)) aG aG rfl (ao (ah (ao (av (ao aw))))) (by kernel_rfl) rfl ?_
 refine aK (i := 6) rfl ak (aB cM rfl) aG aG rfl (ao (ah (ao (av (ao aw))))) (by kernel_rfl) rfl ?_
 refine aK (i := 7) rfl ak (bZ (k := 0) bp bm bE rfl (fun w hw => (fy bp 1 rfl (by omega) hpd hw).1) (by simp only [List.length_drop]; omega) rfl rfl) aG aG rfl (ao (ah (ao (av (ao aw))))) (by kernel_rfl) rfl ?_
 refine dG (i := 8) rfl rfl rfl (bf rfl jV) (by kernel_rfl) rfl ?_
 refine bD rfl jV (fv _ _ (by rw [iY]; exact hlh _ (aZ hi)) (by rw [iY]; exact hph _ (aZ hj))) rfl ?_
 refine aa ?_
 refine eO aG ?_
 refine gQ (t := 21) (.int .i64 (bR (l.getD i bm).e.host (p.getD j bm).e.host)) rfl (by rw [iY, iY]) ?_
 refine aK (i := 9) rfl ak (ai rfl) aG aG rfl (ao (ah (ao (av (ao aw))))) (by kernel_rfl) rfl ?_
 refine cF (by kernel_rfl) ?_
 refine bj ?_
 refine aj ?_
 refine ap ?_
 refine ae ?_
 refine aq (ai rfl) rfl rfl ?_
 refine aq (ai rfl) rfl rfl ?_
 refine aa ?_
 refine aj ?_
 refine ap ?_
 refine ap ?_
 refine ae ?_
 refine aq (am rfl) rfl rfl ?_
 refine aq (ff rfl rfl) rfl rfl ?_
 refine ay (t := 31) rfl (fun h8_1 => ?_) (fun h8_1 => ?_)
 refine aa ?_
 refine aj ?_
 refine aA rfl ?_
 refine dQ 5 rfl mixed ?_
 refine aK (i := 0) rfl ak (aC 2 bz rfl rfl rfl) aG aG rfl (ah (ao (av (ao aw)))) (by kernel_rfl) rfl ?_
 refine aK (i := 1) rfl ak (bB (k := 0) Tryz.underlying22 aU rfl rfl (fun w hw => (fy bp 0 rfl (by omega) hlc hw).1) rfl (by simp only [List.length_drop]; omega)) aG aG rfl (ah (ao (av (ao aw)))) (by kernel_rfl) rfl ?_
 refine gQ (t := 33) (.pointer (ptA A (some i))) rfl (sA_pt hA1 (by omega)) ?_
 refine aK (i := 2) rfl ak (aC 2 bz rfl rfl rfl) aG aG rfl (ah (ao (av (ao aw)))) (by kernel_rfl) rfl ?_
 refine aK (i := 3) rfl ak (iv (m := 1) Tryz.underlying22 aU rfl rfl rfl (by simp only [List.length_drop]; omega)) aG aG rfl (ah (ao (av (ao aw)))) (by kernel_rfl) rfl ?_
 refine aK (i := 4) rfl ak (ai rfl) aG aG rfl (ah (ao (av (ao aw)))) (by kernel_rfl) rfl ?_
 refine dG (i := 5) rfl rfl rfl (fun _ _ _ => aM (by kernel_rfl)) (by kernel_rfl) rfl ?_
 refine aW bz rfl rfl rfl (.s (.s (.z))) rfl rfl rfl rfl ?_
 refine aa ?_
 refine eM rfl ?_
 refine cF (by kernel_rfl) ?_
 refine aj ?_
 refine ap ?_
 refine ap ?_
 refine ae ?_
 refine aq (am rfl) rfl rfl ?_
 refine aq (gD rfl rfl) rfl rfl ?_
 refine ay (t := 37) rfl (fun h10_1 => ?_) (fun h10_1 => ?_)
 refine aa ?_
 refine aj ?_
 refine aA rfl ?_
 refine dQ 5 rfl mixed ?_
 refine aK (i := 0) rfl ak (aC 1 bz rfl rfl rfl) aG aG rfl (ah (ao (av (ao aw)))) (by kernel_rfl) rfl ?_
 refine aK (i := 1) rfl ak (bB (k := 0) Tryz.underlying22 aU rfl rfl (fun w hw => (fy bp 1 rfl (by omega) hpd hw).1) rfl (by simp only [List.length_drop]; omega)) aG aG rfl (ah (ao (av (ao aw)))) (by kernel_rfl) rfl ?_
 refine gQ (t := 39) (.pointer (ptA B (some j))) rfl (sA_pt hB1 (by omega)) ?_
 refine aK (i := 2) rfl ak (aC 1 bz rfl rfl rfl) aG aG rfl (ah (ao (av (ao aw)))) (by kernel_rfl) rfl ?_
 refine aK (i := 3) rfl ak (iv (m := 1) Tryz.underlying22 aU rfl rfl rfl (by simp only [List.length_drop]; omega)) aG aG rfl (ah (ao (av (ao aw)))) (by kernel_rfl) rfl ?_
 refine aK (i := 4) rfl ak (ai rfl) aG aG rfl (ah (ao (av (ao aw)))) (by kernel_rfl) rfl ?_
 refine dG (i := 5) rfl rfl rfl (fun _ _ _ => aM (by kernel_rfl)) (by kernel_rfl) rfl ?_
 refine aW bz rfl rfl rfl (.s (.z)) rfl rfl rfl rfl ?_
 refine aa ?_
 refine eM rfl ?_
 refine cF (by kernel_rfl) ?_
 refine aj ?_
 refine ap ?_
 have hM : dJ l p i j = (some i, some j) :: dJ l p (i + 1) (j + 1) := by first | exact ed hi (.inl hpe) | exact ed hi (.inr (by omega)) | exact ee hj (.inl hle) | exact ee hj (.inr (by omega)) | exact fF hi hj (by omega)
 have hadm : dJ l p 0 0 = (pre ++ [(some i, some j)]) ++ dJ l p (i + 1) (j + 1) := by rw [hpre, hM, List.append_assoc]; rfl
 refine ae ?_
 refine aq (am rfl) rfl rfl ?_
 refine aq (am rfl) rfl rfl ?_
 refine aq (am rfl) rfl rfl ?_
 refine iQ rfl rfl (hy pre (some i, some j) g ⟨_, hadm⟩ hIg) (fun _ => .z) (fun s hs => List.mem_append_right _ hs) rfl (fun g' hT => ?_) (fun g' hF => ?_)
 refine aq (bS rfl) rfl rfl ?_
 refine aa ?_
 refine aj ?_
 refine aD rfl ?_
 refine aQ ?_
 refine bj ?_
 refine bv (((i + 1), (j + 1), sA (sA A i c 7) 1 (c - i) 7, sA (sA B j d 7) 1 (d - j) 7, g')) ?_ ?_ trivial (by repeat (first | exact trivial | refine ⟨rfl, ?_⟩)) (fun w h => by have h9 := h; simp only [List.drop_drop, Nat.sub_sub] at h9; exact h9)
 exact ⟨by show (i + 1) ≤ _; omega, by show (j + 1) ≤ _; omega, (fun h => i6 (by have h9 : i + 1 < l.length := h; omega)), (fun h => i6 (by have h9 : j + 1 < p.length := h; omega)), _, hadm, hT⟩
 show (l.length - (i + 1)) + (p.length - (j + 1)) < (l.length - i) + (p.length - j)
 omega
 refine aq (bS rfl) rfl rfl ?_
 refine aa ?_
 refine aj ?_
 refine aA rfl ?_
 refine aN ?_
 refine aJ ?_
 refine bh ?_
 refine aJ ?_
 refine aR (ts := []) rfl rfl rfl (fun w hw => ?_)
 focus first
   | exact eb _ (.inr ⟨_, ⟨_, hadm⟩, hF⟩) (hw.weak (.cons_cons _ (.cons _ (.cons _ .slnil))) (fun s hs => hs))
   | (have hq : dJ l p i j = [] := eU (by omega) (by omega)
      rw [hq, List.append_nil] at hpre
      exact eb _ (.inl ⟨_, rfl, by rw [hpre]; exact hIg⟩) (hw.weak (.cons_cons _ (.cons _ (.cons _ .slnil))) (fun s hs => hs)))
   | (trace_state; fail)
 refine aa ?_
 refine aj ?_
 refine aD rfl ?_
 refine aQ ?_
 refine aj ?_
 refine ap ?_
 have hM : dJ l p i j = (some i, none) :: dJ l p (i + 1) j := by first | exact ed hi (.inl hpe) | exact ed hi (.inr (by omega)) | exact ee hj (.inl hle) | exact ee hj (.inr (by omega)) | exact fF hi hj (by omega)
 have hadm : dJ l p 0 0 = (pre ++ [(some i, none)]) ++ dJ l p (i + 1) j := by rw [hpre, hM, List.append_assoc]; rfl
 refine ae ?_
 refine aq (am rfl) rfl rfl ?_
 refine aq (am rfl) rfl rfl ?_
 refine aq (am rfl) rfl rfl ?_
 refine iQ rfl rfl (hy pre (some i, none) g ⟨_, hadm⟩ hIg) (fun _ => .z) (fun s hs => List.mem_append_right _ hs) rfl (fun g' hT => ?_) (fun g' hF => ?_)
 refine aq (bS rfl) rfl rfl ?_
 refine aa ?_
 refine aj ?_
 refine aD rfl ?_
 refine aQ ?_
 refine bj ?_
 refine bv (((i + 1), j, sA (sA A i c 7) 1 (c - i) 7, sA B j d 7, g')) ?_ ?_ trivial (by repeat (first | exact trivial | refine ⟨rfl, ?_⟩)) (fun w h => by have h9 := h; simp only [List.drop_drop, Nat.sub_sub] at h9; exact h9)
 exact ⟨by show (i + 1) ≤ _; omega, by show j ≤ _; omega, (fun h => i6 (by have h9 : i + 1 < l.length := h; omega)), hBj9, _, hadm, hT⟩
 show (l.length - (i + 1)) + (p.length - j) < (l.length - i) + (p.length - j)
 omega
 refine aq (bS rfl) rfl rfl ?_
 refine aa ?_
 refine aj ?_
 refine aA rfl ?_
 refine aN ?_
 refine aJ ?_
 refine bh ?_
 refine aJ ?_
 refine aR (ts := []) rfl rfl rfl (fun w hw => ?_)
 focus first
   | exact eb _ (.inr ⟨_, ⟨_, hadm⟩, hF⟩) (hw.weak (.cons_cons _ (.cons _ (.cons _ .slnil))) (fun s hs => hs))
   | (have hq : dJ l p i j = [] := eU (by omega) (by omega)
      rw [hq, List.append_nil] at hpre
      exact eb _ (.inl ⟨_, rfl, by rw [hpre]; exact hIg⟩) (hw.weak (.cons_cons _ (.cons _ (.cons _ .slnil))) (fun s hs => hs)))
   | (trace_state; fail)
 refine aa ?_
 refine aj ?_
 refine aD rfl ?_
 refine aQ ?_
 refine aj ?_
 refine ap ?_
 refine ap ?_
 refine ae ?_
 refine aq (am rfl) rfl rfl ?_
 refine aq (gD rfl rfl) rfl rfl ?_
 refine wl_at (t := 37) rfl (by omega) ?_
 refine aa ?_
 refine aj ?_
 refine aA rfl ?_
 refine dQ 5 rfl mixed ?_
 refine aK (i := 0) rfl ak (aC 1 bz rfl rfl rfl) aG aG rfl (ah (ao (av (ao aw)))) (by kernel_rfl) rfl ?_
 refine aK (i := 1) rfl ak (bB (k := 0) Tryz.underlying22 aU rfl rfl (fun w hw => (fy bp 1 rfl (by omega) hpd hw).1) rfl (by simp only [List.length_drop]; omega)) aG aG rfl (ah (ao (av (ao aw)))) (by kernel_rfl) rfl ?_
 refine gQ (t := 39) (.pointer (ptA B (some j))) rfl (sA_pt hB1 (by omega)) ?_
 refine aK (i := 2) rfl ak (aC 1 bz rfl rfl rfl) aG aG rfl (ah (ao (av (ao aw)))) (by kernel_rfl) rfl ?_
 refine aK (i := 3) rfl ak (iv (m := 1) Tryz.underlying22 aU rfl rfl rfl (by simp only [List.length_drop]; omega)) aG aG rfl (ah (ao (av (ao aw)))) (by kernel_rfl) rfl ?_
 refine aK (i := 4) rfl ak (ai rfl) aG aG rfl (ah (ao (av (ao aw)))) (by kernel_rfl) rfl ?_
 refine dG (i := 5) rfl rfl rfl (fun _ _ _ => aM (by kernel_rfl)) (by kernel_rfl) rfl ?_
 refine aW bz rfl rfl rfl (.s (.z)) rfl rfl rfl rfl ?_
 refine aa ?_
 refine eM rfl ?_
 refine cF (by kernel_rfl) ?_
 refine aj ?_
 refine ap ?_
 have hM : dJ l p i j = (none, some j) :: dJ l p i (j + 1) := by first | exact ed hi (.inl hpe) | exact ed hi (.inr (by omega)) | exact ee hj (.inl hle) | exact ee hj (.inr (by omega)) | exact fF hi hj (by omega)
 have hadm : dJ l p 0 0 = (pre ++ [(none, some j)]) ++ dJ l p i (j + 1) := by rw [hpre, hM, List.append_assoc]; rfl
 refine ae ?_
 refine aq (am rfl) rfl rfl ?_
 refine aq (am rfl) rfl rfl ?_
 refine aq (am rfl) rfl rfl ?_
 refine iQ rfl rfl (hy pre (none, some j) g ⟨_, hadm⟩ hIg) (fun _ => .z) (fun s hs => List.mem_append_right _ hs) rfl (fun g' hT => ?_) (fun g' hF => ?_)
 refine aq (bS rfl) rfl rfl ?_
 refine aa ?_
 refine aj ?_
 refine aD rfl ?_
 refine aQ ?_
 refine bj ?_
 refine bv ((i, (j + 1), sA A i c 7, sA (sA B j d 7) 1 (d - j) 7, g')) ?_ ?_ trivial (by repeat (first | exact trivial | refine ⟨rfl, ?_⟩)) (fun w h => by have h9 := h; simp only [List.drop_drop, Nat.sub_sub] at h9; exact h9)
 exact ⟨by show i ≤ _; omega, by show (j + 1) ≤ _; omega, hAi9, (fun h => i6 (by have h9 : j + 1 < p.length := h; omega)), _, hadm, hT⟩
 show (l.length - i) + (p.length - (j + 1)) < (l.length - i) + (p.length - j)
 omega
 refine aq (bS rfl) rfl rfl ?_
 refine aa ?_
 refine aj ?_
 refine aA rfl ?_
 refine aN ?_
 refine aJ ?_
 refine bh ?_
 refine aJ ?_
 refine aR (ts := []) rfl rfl rfl (fun w hw => ?_)
 focus first
   | exact eb _ (.inr ⟨_, ⟨_, hadm⟩, hF⟩) (hw.weak (.cons_cons _ (.cons _ (.cons _ .slnil))) (fun s hs => hs))
   | (have hq : dJ l p i j = [] := eU (by omega) (by omega)
      rw [hq, List.append_nil] at hpre
      exact eb _ (.inl ⟨_, rfl, by rw [hpre]; exact hIg⟩) (hw.weak (.cons_cons _ (.cons _ (.cons _ .slnil))) (fun s hs => hs)))
   | (trace_state; fail)
 simp only [List.length_drop] at h0_5
 refine aa ?_
 refine aj ?_
 refine aD rfl ?_
 refine bJ ?_
 refine aV ?_
 refine aX ?_
 refine a8 ?_
 refine e_end (ts := []) rfl rfl rfl (fun w hw => ?_)
 focus first
   | exact eb _ (.inr ⟨_, ⟨_, hadm⟩, hF⟩) (hw.weak (.cons_cons _ (.cons _ (.cons _ .slnil))) (fun s hs => hs))
   | (have hq : dJ l p i j = [] := eU (by omega) (by omega)
      rw [hq, List.append_nil] at hpre
      exact eb _ (.inl ⟨_, rfl, by rw [hpre]; exact hIg⟩) (hw.weak (.cons_cons _ (.cons _ (.cons _ .slnil))) (fun s hs => hs)))
   | (trace_state; fail)

theorem c_pairs (A B : Option Addr) (n m c d : Nat) : RC Tryz.prog 132 #[.slice A n c, .slice B m d] [] (α := Nat × Nat) (fun p => .func (.func 193) #[] #[.pointer (some ⟨p.1, 0, none⟩), .pointer (some ⟨p.2, 0, none⟩)]) (fun p => [Ch.row p.2 [.slice B m d] 22, Ch.row p.1 [.slice A n c] 22]) := by
 refine bK (args := [.slice A n c, .slice B m d]) 6 Tryz.func132 rfl rfl rfl (fun w0 => ?_)
 refine ap ?_
 refine ae ?_
 refine cL rfl rfl rfl (fun b1 => ?_)
 refine cL rfl rfl rfl (fun b2 => ?_)
 refine aq (ai rfl) rfl rfl ?_
 refine aa ?_
 refine aj ?_
 refine ap ?_
 refine ae ?_
 refine aq (jn rfl rfl) rfl rfl ?_
 refine aq (ai rfl) rfl rfl ?_
 refine aa ?_
 refine aj ?_
 refine aN ?_
 refine aR (ts := [4]) rfl rfl rfl (fun w hw => ?_)
 exact ⟨(b1, b2), rfl, hw.base, (hw.weak (.cons_cons _ (.cons_cons _ .slnil)) (fun s hs => hs)).toNews⟩
end Go.Proofs.YtnpdgmoeoidppaaGreat
