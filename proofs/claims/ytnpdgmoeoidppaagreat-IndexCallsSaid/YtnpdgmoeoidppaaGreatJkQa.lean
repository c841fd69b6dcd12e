import Derived.Test.YtnpdgmoeoidppaaGreatJgQa
/- the index, said plainly: with what is held -/
namespace Go.Proofs.YtnpdgmoeoidppaaGreat
open Go.RowKit Go.Shelf
set_option linter.unusedVariables false
set_option linter.unusedSimpArgs false

theorem fc : Enters Tryz.prog 58 := enters_of Tryz.func58 (by kernel_rfl) rfl
theorem ent_88 : Enters Tryz.prog 88 := enters_of Tryz.func88 (by kernel_rfl) rfl
theorem gS : FA Tryz.prog 131 1 2 := fun b o w => by kernel_rfl
theorem ty_25 : TyI Tryz.prog 25 false 1 24 (.slice none 0 0) := TyI.mk' (by kernel_rfl) (fun _ => by kernel_rfl)

abbrev rfC (v : Int) (F : Option Addr) (n d : Nat) (Q : Option Addr) (k q : Nat) : List Value := [.int .i64 v, .slice F n d, .slice Q k q]
def rfV : Option (Nat × Option Addr × Nat) → Value
  | some p => .tuple #[.pointer (some ⟨p.1, 0, none⟩), .int .i64 0]
  | none => .tuple #[.pointer none, .int .i64 2]
def rfD (v : Int) (F : Option Addr) (n d : Nat) (hs : List Hd) : Option (Nat × Option Addr × Nat) → List Ch
  | some p => [Ch.row p.1 (rfC v F n d p.2.1 hs.length p.2.2) 131, Ch.rd p.2.1 4 hdC hs]
  | none => []
theorem f8 {x : Cx} {C : World → Prop} {l : Fr} {L S : List Ch} {Q : Exit → Act → World → Prop} {ops : Array Oper} {fuel m : Nat} {listed : Array Bool} {i d : Nat} {op : Op} {ty : TypeId} {pos : String} {af : Array Edge} {gd : Option (Nat × Bool)} {listed' : Array Bool} (hi : ops[i]? = some ⟨some d, op, ty, pos, af, gd⟩) (hw : ∀ a, Kn x.N x.ds l a → Region.wanted ⟨some d, op, ty, pos, af, gd⟩ (yielded ops a.tmps) = false)
    (hC : ∀ w, Hp x.ok0 x.w0 L S w → C w) (hN : Nat.blt d x.N = true) (hpk : jK Q)
    (hs : (Region.noSelect ops && Region.free .any ops listed i && (Region.ready .any ops listed).contains i && iB ops m i && Nat.blt i m && ej m listed && iC ops listed) = true) (hl : listed.setIfInBounds i true = listed')
    (k : WU x C m ops fuel listed' ((d, undef) :: l) L S Q) : WU x C m ops (fuel + 1) listed l L S Q := fun a w ha hh => by
  simp only [Bool.and_eq_true] at hs
  obtain ⟨⟨⟨⟨⟨⟨h1, h2⟩, h3⟩, h4⟩, h5⟩, h6⟩, h7⟩ := hs
  exact jL hi (Region.noSelect_spec h1) (fun c a w h => hpk c a w _ _ h) h4 (Nat.le_of_ble_eq_true h5) fuel listed a w h6 (iL h7) (Region.free_spec hi h2) (by simpa using h3) (.inr ⟨hw a ha, rfl⟩) (hC w hh) (by rw [hl]; exact k _ w (ha.put (Nat.le_of_ble_eq_true hN) undef) hh)
theorem fe_yes {l : List Le} {h : Hd} {r : Option Le} (hr : FE l h.host r) (h1 : r.isSome = true) (h2 : (r.getD br).e.kind = 2) (h3 : cz h.ad = 0) : a8 h.host = 0 ∧ (∃ e, ee (l.map (·.e)) (aX h.host) = some e ∧ e.kind = 2) ∧ cz h.ad = 0 := by
  have h4 := hr.e
  cases r with
  | none => cases h1
  | some y =>
    rw [ij] at h4
    split at h4
    · cases h4
    · exact ⟨by omega, ⟨_, h4.symm, h2⟩, h3⟩
theorem fe_no {l : List Le} {h : Hd} {r : Option Le} (hr : FE l h.host r) (hn : r.isSome = false ∨ (r.getD br).e.kind ≠ 2 ∨ cz h.ad ≠ 0) {pre : List Hd} : ¬ okH (l.map (·.e)) pre h := fun ⟨q1, ⟨e, q2, q3⟩, q4, _⟩ => by
  have h4 := hr.e
  rw [ij, if_neg (fun q => q q1), q2] at h4
  cases r with
  | none => cases h4
  | some y =>
    have h5 : y.e = e := Option.some.inj h4
    rcases hn with hn | hn | hn
    · cases hn
    · exact hn (by show y.e.kind = 2; rw [h5]; exact q3)
    · exact hn q4
/-- Up to i what is held may be; at i only what came earlier is not yet looked at. -/
def HkN (es : List En) (hs : List Hd) (i : Nat) : Prop := ∀ q, q < i → okH es (hs.take q) (hs.getD q dG)
def OwN (es : List En) (h : Hd) : Prop := a8 h.host = 0 ∧ (∃ e, ee es (aX h.host) = some e ∧ e.kind = 2) ∧ cz h.ad = 0
def FrN (hs : List Hd) (i j : Nat) : Prop := ∀ q, q < j → aX (hs.getD q dG).host ≠ aX (hs.getD i dG).host ∧ (hs.getD q dG).ad ≠ (hs.getD i dG).ad
theorem hk_step {es : List En} {hs : List Hd} {i : Nat} (h : HkN es hs i) (h1 : OwN es (hs.getD i dG)) (h2 : FrN hs i i) (hi : i < hs.length) : HkN es hs (i + 1) := fun q hq => by
  by_cases e : q = i
  · subst e
    have h3 : ∀ p ∈ hs.take q, aX p.host ≠ aX (hs.getD q dG).host ∧ p.ad ≠ (hs.getD q dG).ad := fun p hp => by
      obtain ⟨k, hk, rfl⟩ := List.mem_iff_getElem.1 hp
      have hk2 : k < q := by simp at hk; omega
      have := h2 k hk2
      rw [List.getD_eq_getElem?_getD, List.getElem?_eq_getElem (by omega)] at this
      rw [List.getElem_take]; exact this
    exact ⟨h1.1, h1.2.1, h1.2.2, fun p hp => (h3 p hp).1, fun p hp => (h3 p hp).2⟩
  · exact h q (by omega)
theorem jF {es : List En} {hs : List Hd} (H : bU es hs) {i j : Nat} (hij : j < i) (hi : i < hs.length) : aX (hs.getD j dG).host ≠ aX (hs.getD i dG).host ∧ (hs.getD j dG).ad ≠ (hs.getD i dG).ad := by
  have h1 := H i hi
  have hm : hs.getD j dG ∈ hs.take i := by
    rw [List.getD_eq_getElem?_getD, List.getElem?_eq_getElem (by omega)]
    exact List.mem_iff_getElem.2 ⟨j, by simp; omega, by rw [List.getElem_take]; rfl⟩
  exact ⟨h1.2.2.2.1 _ hm, h1.2.2.2.2 _ hm⟩
theorem eI {a b : bf} (h : dE a b = true) : a8 a = 0 ∧ a8 b = 0 := by
  simp only [dE, Bool.and_eq_true, decide_eq_true_eq] at h; exact ⟨h.1.1, h.1.2⟩
theorem fr_step {es : List En} {hs : List Hd} {i j : Nat} (hk : HkN es hs i) (ho : OwN es (hs.getD i dG)) (h : FrN hs i j) (hj : j < i) (h1 : dE (hs.getD j dG).host (hs.getD i dG).host = false) (h2 : (hs.getD j dG).ad ≠ (hs.getD i dG).ad) : FrN hs i (j + 1) := fun q hq => by
  by_cases e : q = j
  · subst e
    refine ⟨fun hf => ?_, h2⟩
    rw [(dP (hk q hj).1 ho.1).2 hf] at h1; cases h1
  · exact h q (by omega)
theorem rd_fe {w : World} {l : List Le} {y : Le} (h : (Ch.rall (l.flatMap e6)).P w ∧ ∀ b, (Ch.rall (l.flatMap e6)).ok b → b < w.heap.size) (hm : y ∈ br :: l) : ((Ch.rd y.A 3 dT y.e.addrs).P w ∧ ∀ b, (Ch.rd y.A 3 dT y.e.addrs).ok b → b < w.heap.size) ∧ ((Ch.rd y.B 1 eX y.e.ports).P w ∧ ∀ b, (Ch.rd y.B 1 eX y.e.ports).ok b → b < w.heap.size) := by
  rcases List.mem_cons.1 hm with rfl | hm
  · exact ⟨ju, ju⟩
  · exact ⟨bG h (bL hm _ (gD _)), bG h (bL hm _ (jA _))⟩

set_option maxRecDepth 100000 in
set_option maxHeartbeats 1000000 in
theorem c_ref18_New (v : Int) (l : List Le) (A : Option Addr) (c : Nat) (Q : Option Addr) (hs : List Hd) (qc : Nat) (hok : TbOk l) (hlen : l.length ≤ 1000000000) (h0 : bO v l = 0) (hhl : hs.length ≤ 1000000) (hhh : ∀ h ∈ hs, h.host.length ≤ 1000 ∧ 0 ≤ h.ad.lo) : RC Tryz.prog 16 #[.agg (iM v A l.length c).toArray, .slice Q hs.length qc] [Ch.rd A 7 dB l, Ch.rall (l.flatMap e6), Ch.rd Q 4 hdC hs] (α := {o : Option (Nat × Option Addr × Nat) // (o = none → ¬ bU (l.map (·.e)) hs) ∧ (o ≠ none → bU (l.map (·.e)) hs)}) (fun o => rfV o.1) (fun o => [Ch.rall (rfD v A l.length c hs o.1)]) := by
 refine bx (args := [.agg (iM v A l.length c).toArray, .slice Q hs.length qc]) 83 Tryz.func16 rfl rfl rfl (fun w0 => ?_)
 refine ar ?_
 refine ai ?_
 refine cv rfl rfl rfl (fun b1 => ?_)
 refine au (ao rfl) rfl rfl ?_
 refine au (ao rfl) rfl rfl ?_
 refine ah ?_
 refine aq ?_
 refine ar ?_
 refine ai ?_
 refine au (a6 0 dh rfl rfl rfl rfl) rfl rfl ?_
 refine bp rfl ent_62 rfl (eO _ _ _ _ hok (by omega)) (fun w hw => (aO (bJ 0 rfl hw) (aO (bJ 1 rfl hw) bd))) ?_
 refine au (ao rfl) rfl rfl ?_
 refine ah ?_
 refine aq ?_
 refine ar ?_
 refine ar ?_
 refine ai ?_
 refine au (ap rfl) rfl rfl ?_
 refine au (bX rfl rfl) rfl rfl ?_
 refine dJ (t := 14) rfl (by omega) ?_
 refine ah ?_
 refine aq ?_
 refine aC rfl ?_
 refine aS ?_
 refine aq ?_
 refine ar ?_
 refine ar ?_
 refine ai ?_
 refine au (ao rfl) rfl rfl ?_
 refine ah ?_
 refine aq ?_
 refine aW ?_
 refine bV (σ := Nat) [4, 5, 7, 8, 9, 10, 16, 17, 18, 19, 20, 21, 22, 23, 24, 25, 26, 27, 28, 29, 30, 31, 32, 33, 34, 35, 36, 37, 38, 39, 40, 41, 42, 43, 44, 45, 46, 47, 48, 49, 50, 51, 52, 53, 54, 55, 56, 57, 58, 59, 60, 61, 62, 63, 64, 65, 66, 67, 68, 69, 70, 71, 72, 73, 74, 75, 76] (fun i => i ≤ hs.length ∧ HkN (l.map (·.e)) hs i) (fun i => hs.length - i) (fun i => [(7, .int .i64 i)]) (0) ?_ ⟨rfl, trivial⟩ (fun i hI => ?_)
 exact ⟨Nat.zero_le _, nofun⟩
 refine ar ?_
 refine ar ?_
 refine ai ?_
 refine au (ap rfl) rfl rfl ?_
 refine au (ap rfl) rfl rfl ?_
 refine au (bg Tryz.underlying25 rfl) rfl rfl ?_
 refine au (bI rfl rfl) rfl rfl ?_
 refine aB (t := 19) rfl (fun h5_3 => ?_) (fun h5_3 => ?_)
 have hi : i < hs.length := by omega
 have hp9 := bA (d := dG) hi
 have hpl := (hhh _ hp9).1
 have hpa := (hhh _ hp9).2
 refine ah ?_
 refine aq ?_
 refine aA rfl ?_
 refine aS ?_
 refine aq ?_
 refine ar ?_
 refine aW ?_
 refine g3 (σ := {r : Option Le // FE l (hs.getD i dG).host r} × Nat) (fun g => [(8, .pointer (some ⟨g.2, 0, none⟩)), (9, .bool g.1.1.isSome)]) (fun g => [Ch.row g.2 (dB (g.1.1.getD br)) 34]) (fun g => ?_) (fun J7 => ?_)
 refine ar ?_
 refine ar ?_
 obtain ⟨⟨rb, hrb⟩, qb⟩ := g
 refine ai ?_
 refine au (ap rfl) rfl rfl ?_
 refine bD (t := 32) rfl (fun h8_0 => ?_) (fun h8_0 => ?_)
 refine au (bC rfl) rfl rfl ?_
 refine au (ap rfl) rfl rfl ?_
 refine az rfl rfl ?_
 refine au (aD ea rfl) rfl rfl ?_
 refine az rfl rfl ?_
 refine au (aM 0 de rfl rfl rfl) rfl rfl ?_
 refine az rfl rfl ?_
 refine au (bX rfl rfl) rfl rfl ?_
 refine aB (t := 37) rfl (fun h8_5 => ?_) (fun h8_5 => ?_)
 refine au (aI rfl rfl) rfl rfl ?_
 refine au (ap rfl) rfl rfl ?_
 refine ax rfl rfl rfl rfl ?_
 refine ax rfl rfl rfl rfl ?_
 refine ax rfl rfl rfl rfl ?_
 refine ax rfl rfl rfl rfl ?_
 refine ax rfl rfl rfl rfl ?_
 refine ax rfl rfl rfl rfl ?_
 refine ax rfl rfl rfl rfl ?_
 refine au (aG rfl rfl) rfl rfl ?_
 refine ah ?_
 refine aq ?_
 refine aA rfl ?_
 refine ar ?_
 refine ai ?_
 refine au (ao rfl) rfl rfl ?_
 refine au (ao rfl) rfl rfl ?_
 refine ah ?_
 refine aq ?_
 refine aQ ?_
 refine ay ?_
 refine aK ?_
 refine ay ?_
 refine a9 ?_
 refine aK ?_
 refine ay ?_
 refine aV (ts := [4, 5]) rfl rfl rfl (fun w hw => ?_)
 focus first
   | (have hno : ¬ bU (l.map (·.e)) hs := fun H => fe_no hrb (by first | exact .inl h8_0 | exact .inr (.inl h8_5) | exact .inr (.inr h8_14)) (H i hi)
      exact ⟨⟨none, fun _ => hno, nofun⟩, rfl, hw.base, ((hw.weak (List.nil_sublist _) (fun s hs => hs)).rall0).toNews⟩)
   | (have hno : ¬ bU (l.map (·.e)) hs := fun H => by
        have h9 := jF H hj hi
        focus first | exact h9.1 ((dP (eI h13_10).1 (eI h13_10).2).1 h13_10) | exact h9.2 h13_22
      exact ⟨⟨none, fun _ => hno, nofun⟩, rfl, hw.base, ((hw.weak (List.nil_sublist _) (fun s hs => hs)).rall0).toNews⟩)
   | (trace_state; fail)
 refine au (aI rfl rfl) rfl rfl ?_
 refine au (ap rfl) rfl rfl ?_
 refine az rfl rfl ?_
 refine au (ap rfl) rfl rfl ?_
 refine az rfl rfl ?_
 refine au (ap rfl) rfl rfl ?_
 refine az rfl rfl ?_
 refine au (bz  Tryz.underlying25 e7 rfl rfl (bE 2 rfl) rfl (by omega)) rfl rfl ?_
 refine az rfl rfl ?_
 refine au (aD eb rfl) rfl rfl ?_
 refine az rfl rfl ?_
 refine au (y_ldsm 1 eU dG bu rfl (bE 2 rfl) (by omega) rfl rfl rfl) rfl rfl ?_
 refine az rfl rfl ?_
 refine bb rfl ent_79 (gw _ hpa) rfl ?_
 refine az rfl rfl ?_
 refine au (bX rfl rfl) rfl rfl ?_
 refine aB (t := 46) rfl (fun h8_14 => ?_) (fun h8_14 => ?_)
 refine au (aI rfl rfl) rfl rfl ?_
 refine ah ?_
 refine aq ?_
 refine aA rfl ?_
 refine ar ?_
 refine ai ?_
 refine au (ao rfl) rfl rfl ?_
 refine au (ao rfl) rfl rfl ?_
 refine ah ?_
 refine aq ?_
 refine aQ ?_
 refine ay ?_
 refine aK ?_
 refine ay ?_
 refine a9 ?_
 refine aK ?_
 refine ay ?_
 refine aV (ts := [4, 5]) rfl rfl rfl (fun w hw => ?_)
 focus first
   | (have hno : ¬ bU (l.map (·.e)) hs := fun H => fe_no hrb (by first | exact .inl h8_0 | exact .inr (.inl h8_5) | exact .inr (.inr h8_14)) (H i hi)
      exact ⟨⟨none, fun _ => hno, nofun⟩, rfl, hw.base, ((hw.weak (List.nil_sublist _) (fun s hs => hs)).rall0).toNews⟩)
   | (have hno : ¬ bU (l.map (·.e)) hs := fun H => by
        have h9 := jF H hj hi
        focus first | exact h9.1 ((dP (eI h13_10).1 (eI h13_10).2).1 h13_10) | exact h9.2 h13_22
      exact ⟨⟨none, fun _ => hno, nofun⟩, rfl, hw.base, ((hw.weak (List.nil_sublist _) (fun s hs => hs)).rall0).toNews⟩)
   | (trace_state; fail)
 refine au (aI rfl rfl) rfl rfl ?_
 refine ah ?_
 refine aq ?_
 refine aC rfl ?_
 refine aS ?_
 refine aq ?_
 refine ar ?_
 have hOw : OwN (l.map (·.e)) (hs.getD i dG) := fe_yes hrb h8_0 (Decidable.not_not.1 h8_5) (Decidable.not_not.1 h8_14)
 have hHi := hI.2
 refine ai ?_
 refine au (ao rfl) rfl rfl ?_
 refine ah ?_
 refine aq ?_
 refine aW ?_
 refine bV (σ := Nat) [4, 5, 10, 48, 49, 50, 51, 52, 53, 54, 55, 56, 57, 58, 59, 60, 61, 62, 63, 64, 65, 66, 67, 68, 69, 70, 71, 72, 73, 74, 75, 76] (fun j => j ≤ i ∧ FrN hs i j) (fun j => i - j) (fun j => [(10, .int .i64 j)]) (0) ?_ ⟨rfl, trivial⟩ (fun j hI => ?_)
 exact ⟨Nat.zero_le _, nofun⟩
 refine ar ?_
 refine ar ?_
 refine ai ?_
 refine au (ap rfl) rfl rfl ?_
 refine au (ap rfl) rfl rfl ?_
 refine au (bI rfl rfl) rfl rfl ?_
 refine aB (t := 50) rfl (fun h11_2 => ?_) (fun h11_2 => ?_)
 have hj : j < i := by omega
 have hq9 := bA (d := dG) (show j < hs.length by omega)
 have hql := (hhh _ hq9).1
 refine ah ?_
 refine aq ?_
 refine aA rfl ?_
 refine aS ?_
 refine aq ?_
 refine ar ?_
 refine aW ?_
 refine ar ?_
 refine dO 24 rfl cu ?_
 refine a2 (i := 0) rfl aj (ap rfl) aE aE rfl (aa (ae (aa (ak (ae (ae (aa (ak (ae (aa av)))))))))) (by kernel_rfl) rfl ?_
 refine a2 (i := 1) rfl aj (ap rfl) aE aE rfl (aa (ae (aa (ak (ae (ae (aa (ak (ae (aa av)))))))))) (by kernel_rfl) rfl ?_
 refine a2 (i := 2) rfl aj (bz  Tryz.underlying25 e7 rfl rfl (bE 2 rfl) rfl (by omega)) aE aE rfl (aa (ae (aa (ak (ae (ae (aa (ak (ae (aa av)))))))))) (by kernel_rfl) rfl ?_
 refine a2 (i := 3) rfl aj (aD fC rfl) aE aE rfl (aa (ae (aa (ak (ae (ae (aa (ak (ae (aa av)))))))))) (by kernel_rfl) rfl ?_
 refine a2 (i := 4) rfl aj (cf eU dG bN rfl (bE 2 rfl) (by omega) rfl rfl) aE aE rfl (aa (ae (aa (ak (ae (ae (aa (ak (ae (aa av)))))))))) (by kernel_rfl) rfl ?_
 refine a2 (i := 5) rfl aj (ap rfl) aE aE rfl (aa (ae (aa (ak (ae (ae (aa (ak (ae (aa av)))))))))) (by kernel_rfl) rfl ?_
 refine a2 (i := 6) rfl aj (ap rfl) aE aE rfl (aa (ae (aa (ak (ae (ae (aa (ak (ae (aa av)))))))))) (by kernel_rfl) rfl ?_
 refine a2 (i := 7) rfl aj (bz  Tryz.underlying25 e7 rfl rfl (bE 2 rfl) rfl (by omega)) aE aE rfl (aa (ae (aa (ak (ae (ae (aa (ak (ae (aa av)))))))))) (by kernel_rfl) rfl ?_
 refine a2 (i := 8) rfl aj (aD fC rfl) aE aE rfl (aa (ae (aa (ak (ae (ae (aa (ak (ae (aa av)))))))))) (by kernel_rfl) rfl ?_
 refine a2 (i := 9) rfl aj (cf eU dG bN rfl (bE 2 rfl) (by omega) rfl rfl) aE aE rfl (aa (ae (aa (ak (ae (ae (aa (ak (ae (aa av)))))))))) (by kernel_rfl) rfl ?_
 refine bk (i := 10) rfl rfl rfl (bm rfl ent_46) (by kernel_rfl) rfl ?_
 refine bb rfl ent_46 (fU _ _ (by omega) (by omega)) rfl ?_
 refine ah ?_
 refine bv aE ?_
 refine wu_splitb (t := 63) rfl (fun h13_10 => ?_) (fun h13_10 => ?_)
 refine a2 (i := 11) rfl aj (ap rfl) aE aE rfl (aa (ae (aa (ak (ae (ae (aa (ak (ae (aa av)))))))))) (by kernel_rfl) rfl ?_
 refine f8 (i := 12) rfl (aw rfl rfl rfl) aE rfl (aa (ae (aa (ak (ae (ae (aa (ak (ae (aa av)))))))))) (by kernel_rfl) rfl ?_
 refine f8 (i := 13) rfl (aw rfl rfl rfl) aE rfl (aa (ae (aa (ak (ae (ae (aa (ak (ae (aa av)))))))))) (by kernel_rfl) rfl ?_
 refine f8 (i := 14) rfl (aw rfl rfl rfl) aE rfl (aa (ae (aa (ak (ae (ae (aa (ak (ae (aa av)))))))))) (by kernel_rfl) rfl ?_
 refine f8 (i := 15) rfl (aw rfl rfl rfl) aE rfl (aa (ae (aa (ak (ae (ae (aa (ak (ae (aa av)))))))))) (by kernel_rfl) rfl ?_
 refine f8 (i := 16) rfl (aw rfl rfl rfl) aE rfl (aa (ae (aa (ak (ae (ae (aa (ak (ae (aa av)))))))))) (by kernel_rfl) rfl ?_
 refine f8 (i := 17) rfl (aw rfl rfl rfl) aE rfl (aa (ae (aa (ak (ae (ae (aa (ak (ae (aa av)))))))))) (by kernel_rfl) rfl ?_
 refine f8 (i := 18) rfl (aw rfl rfl rfl) aE rfl (aa (ae (aa (ak (ae (ae (aa (ak (ae (aa av)))))))))) (by kernel_rfl) rfl ?_
 refine f8 (i := 19) rfl (aw rfl rfl rfl) aE rfl (aa (ae (aa (ak (ae (ae (aa (ak (ae (aa av)))))))))) (by kernel_rfl) rfl ?_
 refine f8 (i := 20) rfl (aw rfl rfl rfl) aE rfl (aa (ae (aa (ak (ae (ae (aa (ak (ae (aa av)))))))))) (by kernel_rfl) rfl ?_
 refine f8 (i := 21) rfl (aw rfl rfl rfl) aE rfl (aa (ae (aa (ak (ae (ae (aa (ak (ae (aa av)))))))))) (by kernel_rfl) rfl ?_
 refine f8 (i := 22) rfl (aw rfl rfl rfl) aE rfl (aa (ae (aa (ak (ae (ae (aa (ak (ae (aa av)))))))))) (by kernel_rfl) rfl ?_
 refine a2 (i := 23) rfl aj (aG rfl rfl) aE aE rfl (aa (ae (aa (ak (ae (ae (aa (ak (ae (aa av)))))))))) (by kernel_rfl) rfl ?_
 refine bP (by kernel_rfl) ?_
 refine aq ?_
 refine aA rfl ?_
 refine ar ?_
 refine ai ?_
 refine au (ao rfl) rfl rfl ?_
 refine au (ao rfl) rfl rfl ?_
 refine ah ?_
 refine aq ?_
 refine aQ ?_
 refine aK ?_
 refine ay ?_
 refine a9 ?_
 refine aK ?_
 refine aK ?_
 refine ay ?_
 refine a9 ?_
 refine aK ?_
 refine ay ?_
 refine aV (ts := [4, 5]) rfl rfl rfl (fun w hw => ?_)
 focus first
   | (have hno : ¬ bU (l.map (·.e)) hs := fun H => fe_no hrb (by first | exact .inl h8_0 | exact .inr (.inl h8_5) | exact .inr (.inr h8_14)) (H i hi)
      exact ⟨⟨none, fun _ => hno, nofun⟩, rfl, hw.base, ((hw.weak (List.nil_sublist _) (fun s hs => hs)).rall0).toNews⟩)
   | (have hno : ¬ bU (l.map (·.e)) hs := fun H => by
        have h9 := jF H hj hi
        focus first | exact h9.1 ((dP (eI h13_10).1 (eI h13_10).2).1 h13_10) | exact h9.2 h13_22
      exact ⟨⟨none, fun _ => hno, nofun⟩, rfl, hw.base, ((hw.weak (List.nil_sublist _) (fun s hs => hs)).rall0).toNews⟩)
   | (trace_state; fail)
 refine a2 (i := 11) rfl aj (ap rfl) aE aE rfl (aa (ae (aa (ak (ae (ae (aa (ak (ae (aa av)))))))))) (by kernel_rfl) rfl ?_
 refine a2 (i := 12) rfl (aJ rfl rfl) (ap rfl) aE aE rfl (aa (ae (aa (ak (ae (ae (aa (ak (ae (aa av)))))))))) (by kernel_rfl) rfl ?_
 refine a2 (i := 13) rfl (aJ rfl rfl) (ap rfl) aE aE rfl (aa (ae (aa (ak (ae (ae (aa (ak (ae (aa av)))))))))) (by kernel_rfl) rfl ?_
 refine a2 (i := 14) rfl (aJ rfl rfl) (bz  Tryz.underlying25 e7 rfl rfl (bE 2 rfl) rfl (by omega)) aE aE rfl (aa (ae (aa (ak (ae (ae (aa (ak (ae (aa av)))))))))) (by kernel_rfl) rfl ?_
 refine a2 (i := 15) rfl (aJ rfl rfl) (aD eb rfl) aE aE rfl (aa (ae (aa (ak (ae (ae (aa (ak (ae (aa av)))))))))) (by kernel_rfl) rfl ?_
 refine a2 (i := 16) rfl (aJ rfl rfl) (y_ldsm 1 eU dG bu rfl (bE 2 rfl) (by omega) rfl rfl rfl) aE aE rfl (aa (ae (aa (ak (ae (ae (aa (ak (ae (aa av)))))))))) (by kernel_rfl) rfl ?_
 refine a2 (i := 17) rfl (aJ rfl rfl) (ap rfl) aE aE rfl (aa (ae (aa (ak (ae (ae (aa (ak (ae (aa av)))))))))) (by kernel_rfl) rfl ?_
 refine a2 (i := 18) rfl (aJ rfl rfl) (ap rfl) aE aE rfl (aa (ae (aa (ak (ae (ae (aa (ak (ae (aa av)))))))))) (by kernel_rfl) rfl ?_
 refine a2 (i := 19) rfl (aJ rfl rfl) (bz  Tryz.underlying25 e7 rfl rfl (bE 2 rfl) rfl (by omega)) aE aE rfl (aa (ae (aa (ak (ae (ae (aa (ak (ae (aa av)))))))))) (by kernel_rfl) rfl ?_
 refine a2 (i := 20) rfl (aJ rfl rfl) (aD eb rfl) aE aE rfl (aa (ae (aa (ak (ae (ae (aa (ak (ae (aa av)))))))))) (by kernel_rfl) rfl ?_
 refine a2 (i := 21) rfl (aJ rfl rfl) (y_ldsm 1 eU dG bu rfl (bE 2 rfl) (by omega) rfl rfl rfl) aE aE rfl (aa (ae (aa (ak (ae (ae (aa (ak (ae (aa av)))))))))) (by kernel_rfl) rfl ?_
 refine a2 (i := 22) rfl (aJ rfl rfl) (y_eqst (by kernel_rfl) rfl rfl (jg _ _) rfl) aE aE rfl (aa (ae (aa (ak (ae (ae (aa (ak (ae (aa av)))))))))) (by kernel_rfl) rfl ?_
 refine wu_splitp (t := 75) rfl (fun h13_22 => ?_) (fun h13_22 => ?_)
 refine a2 (i := 23) rfl aj (aI rfl rfl) aE aE rfl (aa (ae (aa (ak (ae (ae (aa (ak (ae (aa av)))))))))) (by kernel_rfl) rfl ?_
 refine bP (by kernel_rfl) ?_
 refine aq ?_
 refine aA rfl ?_
 refine ar ?_
 refine ai ?_
 refine au (ao rfl) rfl rfl ?_
 refine au (ao rfl) rfl rfl ?_
 refine ah ?_
 refine aq ?_
 refine aQ ?_
 refine aK ?_
 refine ay ?_
 refine a9 ?_
 refine aK ?_
 refine aK ?_
 refine ay ?_
 refine a9 ?_
 refine aK ?_
 refine ay ?_
 refine aV (ts := [4, 5]) rfl rfl rfl (fun w hw => ?_)
 focus first
   | (have hno : ¬ bU (l.map (·.e)) hs := fun H => fe_no hrb (by first | exact .inl h8_0 | exact .inr (.inl h8_5) | exact .inr (.inr h8_14)) (H i hi)
      exact ⟨⟨none, fun _ => hno, nofun⟩, rfl, hw.base, ((hw.weak (List.nil_sublist _) (fun s hs => hs)).rall0).toNews⟩)
   | (have hno : ¬ bU (l.map (·.e)) hs := fun H => by
        have h9 := jF H hj hi
        focus first | exact h9.1 ((dP (eI h13_10).1 (eI h13_10).2).1 h13_10) | exact h9.2 h13_22
      exact ⟨⟨none, fun _ => hno, nofun⟩, rfl, hw.base, ((hw.weak (List.nil_sublist _) (fun s hs => hs)).rall0).toNews⟩)
   | (trace_state; fail)
 refine a2 (i := 23) rfl aj (aI rfl rfl) aE aE rfl (aa (ae (aa (ak (ae (ae (aa (ak (ae (aa av)))))))))) (by kernel_rfl) rfl ?_
 refine bP (by kernel_rfl) ?_
 refine aq ?_
 refine aC rfl ?_
 refine aS ?_
 refine bo ?_
 refine aq ?_
 refine ai ?_
 refine au (ap rfl) rfl rfl ?_
 refine au (bl rfl rfl (by omega) (by omega)) rfl rfl ?_
 refine au (ao rfl) rfl rfl ?_
 refine ah ?_
 refine bq (j + 1) ?_ ?_ ⟨rfl, trivial⟩ (by repeat (first | exact trivial | refine ⟨rfl, ?_⟩)) aE
 exact ⟨by omega, fr_step hHi hOw hI.2 hj h13_10 h13_22⟩
 omega
 refine ah ?_
 refine aq ?_
 refine aC rfl ?_
 refine bw ?_
 refine aY ?_
 refine aZ ?_
 refine a7 ?_
 refine bo ?_
 refine aq ?_
 refine ai ?_
 refine au (ap rfl) rfl rfl ?_
 refine au (bl rfl rfl (by omega) (by omega)) rfl rfl ?_
 refine au (ao rfl) rfl rfl ?_
 refine ah ?_
 refine bq (i + 1) ?_ ?_ ⟨rfl, trivial⟩ (by repeat (first | exact trivial | refine ⟨rfl, ?_⟩)) (fun w h => h.weak (.cons _ (List.Sublist.refl _)) (fun s hs => hs))
 exact ⟨by omega, hk_step hHi hOw (fun q hq => hI.2 q (by omega)) hi⟩
 omega
 refine au (bC rfl) rfl rfl ?_
 refine au (ap rfl) rfl rfl ?_
 refine ax rfl rfl rfl rfl ?_
 refine ax rfl rfl rfl rfl ?_
 refine ax rfl rfl rfl rfl ?_
 refine au (aG rfl rfl) rfl rfl ?_
 refine au (ap rfl) rfl rfl ?_
 refine ax rfl rfl rfl rfl ?_
 refine ax rfl rfl rfl rfl ?_
 refine ax rfl rfl rfl rfl ?_
 refine ax rfl rfl rfl rfl ?_
 refine ax rfl rfl rfl rfl ?_
 refine ax rfl rfl rfl rfl ?_
 refine ax rfl rfl rfl rfl ?_
 refine au (aG rfl rfl) rfl rfl ?_
 refine ah ?_
 refine aq ?_
 refine aA rfl ?_
 refine ar ?_
 refine ai ?_
 refine au (ao rfl) rfl rfl ?_
 refine au (ao rfl) rfl rfl ?_
 refine ah ?_
 refine aq ?_
 refine aQ ?_
 refine ay ?_
 refine aK ?_
 refine ay ?_
 refine a9 ?_
 refine aK ?_
 refine ay ?_
 refine aV (ts := [4, 5]) rfl rfl rfl (fun w hw => ?_)
 focus first
   | (have hno : ¬ bU (l.map (·.e)) hs := fun H => fe_no hrb (by first | exact .inl h8_0 | exact .inr (.inl h8_5) | exact .inr (.inr h8_14)) (H i hi)
      exact ⟨⟨none, fun _ => hno, nofun⟩, rfl, hw.base, ((hw.weak (List.nil_sublist _) (fun s hs => hs)).rall0).toNews⟩)
   | (have hno : ¬ bU (l.map (·.e)) hs := fun H => by
        have h9 := jF H hj hi
        focus first | exact h9.1 ((dP (eI h13_10).1 (eI h13_10).2).1 h13_10) | exact h9.2 h13_22
      exact ⟨⟨none, fun _ => hno, nofun⟩, rfl, hw.base, ((hw.weak (List.nil_sublist _) (fun s hs => hs)).rall0).toNews⟩)
   | (trace_state; fail)
 refine ar ?_
 refine dO 11 rfl cu ?_
 refine a2 (i := 0) rfl aj (a6 0 dh rfl rfl rfl rfl) aE aE rfl (aa (ae (aa (ak (ae (aa av)))))) (by kernel_rfl) rfl ?_
 refine a2 (i := 1) rfl aj (ap rfl) aE aE rfl (aa (ae (aa (ak (ae (aa av)))))) (by kernel_rfl) rfl ?_
 refine a2 (i := 2) rfl aj (ap rfl) aE aE rfl (aa (ae (aa (ak (ae (aa av)))))) (by kernel_rfl) rfl ?_
 refine a2 (i := 3) rfl aj (bz  Tryz.underlying25 e7 rfl rfl (bE 2 rfl) rfl (by omega)) aE aE rfl (aa (ae (aa (ak (ae (aa av)))))) (by kernel_rfl) rfl ?_
 refine a2 (i := 4) rfl aj (aD fC rfl) aE aE rfl (aa (ae (aa (ak (ae (aa av)))))) (by kernel_rfl) rfl ?_
 refine a2 (i := 5) rfl aj (cf eU dG bN rfl (bE 2 rfl) (by omega) rfl rfl) aE aE rfl (aa (ae (aa (ak (ae (aa av)))))) (by kernel_rfl) rfl ?_
 refine cA (js := [6, 10]) (by kernel_rfl) rfl ?_
 refine bi (i := 6) rfl rfl rfl (bm rfl fc) rfl ?_ ?_
 refine eM rfl fc rfl (dV v l _ _ (hs.getD i dG).host hok (by omega) (by omega) h0) (fun w hw => (aO (bJ 0 rfl hw) (aO (bJ 1 rfl hw) bd))) (fun ⟨rb, hrb⟩ => ?_)
 refine ah ?_
 refine bv aE ?_
 refine a2 (i := 7) rfl aj (ap rfl) aE aE rfl (aa (ae (aa (ak (ae (aa av)))))) (by kernel_rfl) rfl ?_
 refine a2 (i := 8) rfl aj (aP rfl rfl) aE aE rfl (aa (ae (aa (ak (ae (aa av)))))) (by kernel_rfl) rfl ?_
 refine cA (js := [9, 10]) (by kernel_rfl) rfl ?_
 refine bi (i := 9) rfl rfl rfl (fun _ _ _ => aN (by kernel_rfl)) rfl ?_ ?_
 refine au (aP rfl rfl) rfl rfl ?_
 refine ah ?_
 refine bv aE ?_
 refine bk (i := 10) rfl rfl rfl (fun _ _ _ => aN (by kernel_rfl)) (by kernel_rfl) rfl ?_
 refine bj aR rfl rfl (fun b3 => ?_)
 refine ah ?_
 refine bv (fun w h => h.weak (.cons _ (List.Sublist.refl _)) (fun s hs => hs)) ?_
 refine bk (i := 11) rfl rfl rfl (fun _ _ _ => aN (by kernel_rfl)) (by kernel_rfl) rfl ?_
 refine a0 aR rfl rfl rfl .z rfl rfl rfl rfl ?_
 refine ah ?_
 refine a4 rfl ?_
 refine bk (i := 12) rfl rfl rfl (fun _ _ _ => aN (by kernel_rfl)) (by kernel_rfl) rfl ?_
 refine au (ao rfl) rfl rfl ?_
 refine ah ?_
 refine a4 rfl ?_
 refine bP (by kernel_rfl) ?_
 refine aq ?_
 refine bF (fun w h => h.weak (.cons_cons _ (List.Sublist.refl _)) (fun s hs => hs)) ?_
 exact J7 (⟨rb, hrb⟩, b3) _ (by repeat (first | exact trivial | refine ⟨rfl, ?_⟩))
 refine bi (i := 10) rfl rfl rfl (fun _ _ _ => aN (by kernel_rfl)) rfl ?_ ?_
 refine bj aR rfl rfl (fun b4 => ?_)
 refine ah ?_
 refine bv (fun w h => h.weak (.cons _ (List.Sublist.refl _)) (fun s hs => hs)) ?_
 refine cA (js := [9, 11]) (by kernel_rfl) rfl ?_
 refine bi (i := 9) rfl rfl rfl (fun _ _ _ => aN (by kernel_rfl)) rfl ?_ ?_
 refine au (aP rfl rfl) rfl rfl ?_
 refine ah ?_
 refine bv (fun w h => h.weak (.cons _ (List.Sublist.refl _)) (fun s hs => hs)) ?_
 refine bk (i := 11) rfl rfl rfl (fun _ _ _ => aN (by kernel_rfl)) (by kernel_rfl) rfl ?_
 refine a0 aR rfl rfl rfl .z rfl rfl rfl rfl ?_
 refine ah ?_
 refine a4 rfl ?_
 refine bk (i := 12) rfl rfl rfl (fun _ _ _ => aN (by kernel_rfl)) (by kernel_rfl) rfl ?_
 refine au (ao rfl) rfl rfl ?_
 refine ah ?_
 refine a4 rfl ?_
 refine bP (by kernel_rfl) ?_
 refine aq ?_
 refine bF (fun w h => h.weak (.cons_cons _ (List.Sublist.refl _)) (fun s hs => hs)) ?_
 exact J7 (⟨rb, hrb⟩, b4) _ (by repeat (first | exact trivial | refine ⟨rfl, ?_⟩))
 refine bi (i := 11) rfl rfl rfl (fun _ _ _ => aN (by kernel_rfl)) rfl ?_ ?_
 refine a0 aR rfl rfl rfl .z rfl rfl rfl rfl ?_
 refine ah ?_
 refine a4 rfl ?_
 refine bk (i := 9) rfl rfl rfl (fun _ _ _ => aN (by kernel_rfl)) (by kernel_rfl) rfl ?_
 refine au (aP rfl rfl) rfl rfl ?_
 refine ah ?_
 refine a4 rfl ?_
 refine bk (i := 12) rfl rfl rfl (fun _ _ _ => aN (by kernel_rfl)) (by kernel_rfl) rfl ?_
 refine au (ao rfl) rfl rfl ?_
 refine ah ?_
 refine a4 rfl ?_
 refine bP (by kernel_rfl) ?_
 refine aq ?_
 refine bF (fun w h => h.weak (.cons_cons _ (List.Sublist.refl _)) (fun s hs => hs)) ?_
 exact J7 (⟨rb, hrb⟩, b4) _ (by repeat (first | exact trivial | refine ⟨rfl, ?_⟩))
 exact ci
 exact ci
 refine bi (i := 10) rfl rfl rfl (fun _ _ _ => aN (by kernel_rfl)) rfl ?_ ?_
 refine bj aR rfl rfl (fun b5 => ?_)
 refine ah ?_
 refine bv (fun w h => h.weak (.cons _ (List.Sublist.refl _)) (fun s hs => hs)) ?_
 refine bk (i := 6) rfl rfl rfl (bm rfl fc) (by kernel_rfl) rfl ?_
 refine eM rfl fc rfl (dV v l _ _ (hs.getD i dG).host hok (by omega) (by omega) h0) (fun w hw => (aO (bJ 0 rfl hw) (aO (bJ 1 rfl hw) bd))) (fun ⟨rb, hrb⟩ => ?_)
 refine ah ?_
 refine bv (fun w h => h.weak (.cons _ (List.Sublist.refl _)) (fun s hs => hs)) ?_
 refine a2 (i := 7) rfl aj (ap rfl) (fun w h => h.weak (.cons _ (List.Sublist.refl _)) (fun s hs => hs)) aE rfl (aa (ae (aa (ak (ae (aa av)))))) (by kernel_rfl) rfl ?_
 refine a2 (i := 8) rfl aj (aP rfl rfl) (fun w h => h.weak (.cons _ (List.Sublist.refl _)) (fun s hs => hs)) aE rfl (aa (ae (aa (ak (ae (aa av)))))) (by kernel_rfl) rfl ?_
 refine cA (js := [9, 11]) (by kernel_rfl) rfl ?_
 refine bi (i := 9) rfl rfl rfl (fun _ _ _ => aN (by kernel_rfl)) rfl ?_ ?_
 refine au (aP rfl rfl) rfl rfl ?_
 refine ah ?_
 refine bv (fun w h => h.weak (.cons _ (List.Sublist.refl _)) (fun s hs => hs)) ?_
 refine bk (i := 11) rfl rfl rfl (fun _ _ _ => aN (by kernel_rfl)) (by kernel_rfl) rfl ?_
 refine a0 aR rfl rfl rfl .z rfl rfl rfl rfl ?_
 refine ah ?_
 refine a4 rfl ?_
 refine bk (i := 12) rfl rfl rfl (fun _ _ _ => aN (by kernel_rfl)) (by kernel_rfl) rfl ?_
 refine au (ao rfl) rfl rfl ?_
 refine ah ?_
 refine a4 rfl ?_
 refine bP (by kernel_rfl) ?_
 refine aq ?_
 refine bF (fun w h => h.weak (.cons_cons _ (List.Sublist.refl _)) (fun s hs => hs)) ?_
 exact J7 (⟨rb, hrb⟩, b5) _ (by repeat (first | exact trivial | refine ⟨rfl, ?_⟩))
 refine bi (i := 11) rfl rfl rfl (fun _ _ _ => aN (by kernel_rfl)) rfl ?_ ?_
 refine a0 aR rfl rfl rfl .z rfl rfl rfl rfl ?_
 refine ah ?_
 refine a4 rfl ?_
 refine bk (i := 9) rfl rfl rfl (fun _ _ _ => aN (by kernel_rfl)) (by kernel_rfl) rfl ?_
 refine au (aP rfl rfl) rfl rfl ?_
 refine ah ?_
 refine a4 rfl ?_
 refine bk (i := 12) rfl rfl rfl (fun _ _ _ => aN (by kernel_rfl)) (by kernel_rfl) rfl ?_
 refine au (ao rfl) rfl rfl ?_
 refine ah ?_
 refine a4 rfl ?_
 refine bP (by kernel_rfl) ?_
 refine aq ?_
 refine bF (fun w h => h.weak (.cons_cons _ (List.Sublist.refl _)) (fun s hs => hs)) ?_
 exact J7 (⟨rb, hrb⟩, b5) _ (by repeat (first | exact trivial | refine ⟨rfl, ?_⟩))
 exact ci
 exact ci
 refine ah ?_
 refine aq ?_
 refine aC rfl ?_
 refine bw ?_
 refine aY ?_
 refine aZ ?_
 refine a7 ?_
 refine aq ?_
 refine ar ?_
 refine dO 8 rfl cu ?_
 refine a2 (i := 0) rfl aj (a6 0 dh rfl rfl rfl rfl) aE aE rfl (aa av) (by kernel_rfl) rfl ?_
 refine a2 (i := 2) rfl aj (ap rfl) aE aE rfl (aa av) (by kernel_rfl) rfl ?_
 refine bk (i := 1) rfl rfl rfl (fun _ _ _ => aN (by kernel_rfl)) (by kernel_rfl) rfl ?_
 refine cD (vs := []) (([] : List Hd) : List (Hd)) eU Tryz.underlying25 e7 rfl rfl rfl rfl rfl rfl (fun As7 => ?_)
 refine ah ?_
 refine bv (fun w h => h.weak (.cons _ (List.Sublist.refl _)) (fun s hs => hs)) ?_
 refine bk (i := 3) rfl rfl rfl (fun _ _ _ => aN (by kernel_rfl)) (by kernel_rfl) rfl ?_
 refine cC (enc := hdC) (sz := 4) hs Tryz.underlying25 e7 rfl rfl rfl (fun A c => .z) (ic 2 Tryz.underlying25 rfl) (by simp only [List.length_cons, List.length_nil, Nat.zero_add]; omega) (by simp only [List.length_cons, List.length_nil, Nat.zero_add]; omega) rfl (fun A7 c7 => ?_)
 refine ah ?_
 refine bv (fun w h => h.weak (.cons _ (List.Sublist.refl _)) (fun s hs => hs)) ?_
 refine a2 (i := 4) rfl aj (dW rfl (bu_131_0_1 _ _ _ _ _ _ _)) (fun w h => h.weak (.cons _ (List.Sublist.refl _)) (fun s hs => hs)) aE rfl (aa av) (by kernel_rfl) rfl ?_
 refine bk (i := 5) rfl rfl rfl (fun _ _ _ => aN (by kernel_rfl)) (by kernel_rfl) rfl ?_
 refine cv rfl rfl rfl (fun b9 => ?_)
 refine ah ?_
 refine bv (fun w h => h.weak (.cons _ (.cons _ (List.Sublist.refl _))) (fun s hs => hs)) ?_
 refine a2 (i := 6) rfl aj (ao rfl) (fun w h => h.weak (.cons _ (.cons _ (List.Sublist.refl _))) (fun s hs => hs)) aE rfl (aa av) (by kernel_rfl) rfl ?_
 refine a2 (i := 7) rfl aj (ao rfl) (fun w h => h.weak (.cons _ (.cons _ (List.Sublist.refl _))) (fun s hs => hs)) aE rfl (aa av) (by kernel_rfl) rfl ?_
 refine bP (by kernel_rfl) ?_
 refine aq ?_
 refine aQ ?_
 refine aV (ts := [4, 5]) rfl rfl rfl (fun w hw => ?_)
 have hHk : bU (l.map (·.e)) hs := fun q hq => hI.2 q (by omega)
 exact ⟨⟨some (b9, A7, c7), nofun, fun _ => hHk⟩, rfl, hw.base, (Hp.toRall (M := rfD v A l.length c hs (some (b9, A7, c7))) hw (fun h9 => List.forall_mem_cons.2 ⟨h9 _ (.head _), List.forall_mem_cons.2 ⟨SlP.rs (h9 _ (.tail _ (.head _))), nofun⟩⟩) (List.forall_mem_cons.2 ⟨fun b hb => ⟨_, (.head _), hb⟩, List.forall_mem_cons.2 ⟨fun b hb => ⟨_, (.tail _ (.head _)), hb.2⟩, nofun⟩⟩)).toNews⟩

theorem of_held {l : List Le} {hs : List Hd} (H : bU (l.map (·.e)) hs) {p : Hd} (hp : p ∈ hs) {r : Option Le} (hr : FE l p.host r) : r.map (·.e) = ofE (l.map (·.e)) hs p.ad := by
  obtain ⟨⟨q1, ⟨e, q2, -⟩, -⟩, q3, -⟩ := held_at H hp
  rw [hr.e, ij, if_neg (fun q => q q1), ofE, hdAd, q3, Option.bind_some, q2]; rfl
theorem hdAd_none {hs : List Hd} {a : Ad} (h : ∀ q, q < hs.length → (hs.getD q dG).ad ≠ a) : hdAd hs a = none := by
  rw [hdAd, List.find?_eq_none]
  intro p hp
  obtain ⟨q, hq, rfl⟩ := List.mem_iff_getElem.1 hp
  have := h q hq
  rw [List.getD_eq_getElem?_getD, List.getElem?_eq_getElem hq] at this
  exact fun h => this (of_decide_eq_true h)
theorem ofE_hit {l : List Le} {hs : List Hd} {a : Ad} (hh : hdAd hs a = none) {i : Nat} (hi : i < l.length) (hno : ∀ q, q < i → a ∉ (l.getD q br).e.addrs) (ha : a ∈ (l.getD i br).e.addrs) : some (l.getD i br).e = ofE (l.map (·.e)) hs a := by
  have e9 : l.getD i br = l[i] := by rw [List.getD_eq_getElem?_getD, List.getElem?_eq_getElem hi]; rfl
  have h2 := i7 (F := fun y : Le => decide (a ∈ y.e.addrs)) hi (fun y hy => by
    obtain ⟨q, hq, rfl⟩ := List.mem_iff_getElem.1 hy
    have hq2 : q < i := by simp at hq; omega
    have := hno q hq2
    rw [List.getD_eq_getElem?_getD, List.getElem?_eq_getElem (by omega)] at this
    rw [List.getElem_take]
    exact decide_eq_false this) (by rw [e9] at ha; exact decide_eq_true ha)
  rw [ofE, hh, Option.bind_none, Option.none_or, List.find?_map, e9]
  exact (congrArg (Option.map (·.e)) h2).symm
theorem ofE_miss {l : List Le} {hs : List Hd} {a : Ad} (hh : hdAd hs a = none) (hno : ∀ q, q < l.length → a ∉ (l.getD q br).e.addrs) : none = ofE (l.map (·.e)) hs a := by
  rw [ofE, hh, Option.bind_none, Option.none_or]
  refine (List.find?_eq_none.2 fun e he => ?_).symm
  obtain ⟨y, hy, rfl⟩ := List.mem_map.1 he
  obtain ⟨q, hq, rfl⟩ := List.mem_iff_getElem.1 hy
  have := hno q hq
  rw [List.getD_eq_getElem?_getD, List.getElem?_eq_getElem hq] at this
  exact fun h => this (of_decide_eq_true h)
theorem no_step {l : List Le} {a : Ad} {i : Nat} (h : ∀ q, q < i → a ∉ (l.getD q br).e.addrs) (h2 : a ∉ (l.getD i br).e.addrs) : ∀ q, q < i + 1 → a ∉ (l.getD q br).e.addrs := fun q hq => by
  by_cases e : q = i
  · rw [e]; exact h2
  · exact h q (by omega)
theorem noh_step {hs : List Hd} {a : Ad} {i : Nat} (h : ∀ q, q < i → (hs.getD q dG).ad ≠ a) (h2 : (hs.getD i dG).ad ≠ a) : ∀ q, q < i + 1 → (hs.getD q dG).ad ≠ a := fun q hq => by
  by_cases e : q = i
  · rw [e]; exact h2
  · exact h q (by omega)
theorem notake_succ {l : List Ad} {k : Nat} {a : Ad} (hk : k < l.length) (h1 : a ∉ l.take k) (h2 : l.getD k eZ ≠ a) : a ∉ l.take (k + 1) := by
  rw [bK l eZ k hk, List.mem_append, List.mem_singleton]
  rintro (h | h)
  · exact h1 h
  · exact h2 h.symm
theorem fe_bnd {l : List Le} (hok : TbOk l) {y : Le} (hm : y ∈ br :: l) : EnB y.e := by
  have h1 : TbOk (br :: l) := fun x hx => by
    rcases List.mem_cons.1 hx with rfl | hx
    · exact smE_ok (by decide)
    · exact hok x hx
  obtain ⟨k, hk, rfl⟩ := List.mem_iff_getElem.1 hm
  have := h1.at hk
  rwa [List.getD_eq_getElem?_getD, List.getElem?_eq_getElem hk] at this
/-- What of the held is a host's. -/
def hdF (hs : List Hd) (n : bf) (i : Nat) : List Ad := ((hs.take i).filter fun h => dE h.host n).map (·.ad)
theorem hdF_step {hs : List Hd} {n : bf} {i : Nat} (hi : i < hs.length) : hdF hs n (i + 1) = hdF hs n i ++ if dE (hs.getD i dG).host n = true then [(hs.getD i dG).ad] else [] := by
  rw [hdF, hdF, bK hs dG i hi, List.filter_append, List.map_append, List.filter_cons]
  split <;> rfl
theorem hdF_len (hs : List Hd) (n : bf) (i : Nat) : (hdF hs n i).length ≤ hs.length := by
  rw [hdF, List.length_map]
  refine Nat.le_trans (List.length_filter_le _ _) ?_
  rw [List.length_take]; omega
theorem hdF_mem {hs : List Hd} {n : bf} {i : Nat} {a : Ad} (h : a ∈ hdF hs n i) : ∃ p ∈ hs, p.ad = a := by
  obtain ⟨p, hp, e⟩ := List.mem_map.1 h
  exact ⟨p, List.mem_of_mem_take (List.mem_filter.1 hp).1, e⟩
theorem filter_one {key : bf} : ∀ {hs : List Hd}, (hs.Pairwise fun a b => aX a.host ≠ aX b.host) → hs.filter (fun h => decide (aX h.host = key)) = (hs.find? fun h => decide (aX h.host = key)).toList
  | [], _ => rfl
  | p :: r, h => by
    rw [List.pairwise_cons] at h
    rw [List.filter_cons, List.find?_cons]
    by_cases e : aX p.host = key
    · rw [decide_eq_true e]
      have : r.filter (fun h => decide (aX h.host = key)) = [] := by
        rw [List.filter_eq_nil_iff]
        exact fun q hq hk => h.1 q hq (e.trans (of_decide_eq_true hk).symm)
      simp [this]
    · rw [decide_eq_false e]
      simpa using filter_one h.2
theorem hdF_all {es : List En} {hs : List Hd} (H : bU es hs) {n : bf} (hn : a8 n = 0) : hdF hs n hs.length = ((eC hs (aX n)).map (·.ad)).toList := by
  have h1 : hs.filter (fun h => dE h.host n) = hs.filter fun h => decide (aX h.host = aX n) := List.filter_congr fun p hp => by
    rw [Bool.eq_iff_iff, dP (held_at H hp).1.1 hn]; simp
  rw [hdF, List.take_length, h1, filter_one ((held_iff.1 H).2.imp fun h => h.1), eC]
  cases hs.find? fun h => decide (aX h.host = aX n) <;> rfl
theorem adsE_none {l : List Le} {hs : List Hd} {n : bf} {r : Option Le} (hr : FE l n r) (h : r.isSome = false) : adsE (l.map (·.e)) hs n = [] := by
  cases r with
  | none => rw [adsE, ← hr.e]; rfl
  | some y => cases h
theorem adsE_some {v : Int} {l : List Le} {hs : List Hd} (h0 : bO v l = 0) (H : bU (l.map (·.e)) hs) {n : bf} {r : Option Le} (hr : FE l n r) (h : r.isSome = true) : adsE (l.map (·.e)) hs n = di (r.getD br).e (hdF hs (r.getD br).e.host hs.length) := by
  cases r with
  | none => cases h
  | some y =>
    have hm := hr.mem
    have hn : a8 y.e.host = 0 := by
      have h1 := hr.e
      rw [ij] at h1
      split at h1
      · cases h1
      · exact (f5 h0).ck _ (jR h1.symm).1
    rw [adsE, ← hr.e]
    show di y.e _ = di y.e _
    exact congrArg (di y.e) (hdF_all H hn).symm

set_option maxRecDepth 100000 in
set_option maxHeartbeats 1000000 in
theorem c_ref18_Of (v : Int) (l : List Le) (A : Option Addr) (c : Nat) (b : Nat) (Q : Option Addr) (hs : List Hd) (qc : Nat) (a : Ad) (hok : TbOk l) (hlen : l.length ≤ 1000000000) (h0 : bO v l = 0) (H : bU (l.map (·.e)) hs) (hhl : hs.length ≤ 1000000) (hhh : ∀ h ∈ hs, h.host.length ≤ 1000 ∧ 0 ≤ h.ad.lo) : RC Tryz.prog 20 #[.pointer (some ⟨b, 0, none⟩), .agg (dT a).toArray] [Ch.row b (rfC v A l.length c Q hs.length qc) 131, Ch.rd A 7 dB l, Ch.rall (l.flatMap e6), Ch.rd Q 4 hdC hs] (α := {r : Option Le // r.map (·.e) = ofE (l.map (·.e)) hs a ∧ r.getD br ∈ br :: l}) (fun o => .tuple #[.agg (dB (o.1.getD br)).toArray, .bool o.1.isSome]) (fun o => []) := by
 refine bx (args := [.pointer (some ⟨b, 0, none⟩), .agg (dT a).toArray]) 78 Tryz.func20 rfl rfl rfl (fun w0 => ?_)
 refine ar ?_
 refine ai ?_
 refine cv rfl rfl rfl (fun b1 => ?_)
 refine bj aR rfl rfl (fun b2 => ?_)
 refine au (ao rfl) rfl rfl ?_
 refine ah ?_
 refine aq ?_
 refine ar ?_
 refine ar ?_
 refine ai ?_
 refine au (ao rfl) rfl rfl ?_
 refine ah ?_
 refine aq ?_
 refine aW ?_
 refine bV (σ := Nat) [5, 6, 10, 11, 12, 13, 14, 15, 16, 17, 18, 19, 20, 21, 22, 23, 24, 25, 26, 27, 28, 29, 30, 31, 32, 33, 34, 35, 36, 37, 38, 39, 40, 41, 42, 43] (fun i => i ≤ hs.length ∧ ∀ q, q < i → (hs.getD q dG).ad ≠ a) (fun i => hs.length - i) (fun i => [(6, .int .i64 i)]) (0) ?_ ⟨rfl, trivial⟩ (fun i hI => ?_)
 exact ⟨Nat.zero_le _, nofun⟩
 refine ar ?_
 refine ar ?_
 refine ai ?_
 refine au (ap rfl) rfl rfl ?_
 refine au (ap rfl) rfl rfl ?_
 refine au (bh rfl) rfl rfl ?_
 refine au (aD gS rfl) rfl rfl ?_
 refine au (cN 0 ty_25 rfl rfl rfl) rfl rfl ?_
 refine au (bg Tryz.underlying25 rfl) rfl rfl ?_
 refine au (bI rfl rfl) rfl rfl ?_
 refine aB (t := 16) rfl (fun h2_6 => ?_) (fun h2_6 => ?_)
 have hi : i < hs.length := by omega
 have hp9 := bA (d := dG) hi
 have hpl := (hhh _ hp9).1
 refine ah ?_
 refine aq ?_
 refine aA rfl ?_
 refine aS ?_
 refine aq ?_
 refine ar ?_
 refine aW ?_
 refine ar ?_
 refine dz 10 rfl cu ?_
 refine aF (i := 0) rfl aj (ap rfl) aE aE rfl (aa (ae (aa (ak (ae (aa av)))))) (by kernel_rfl) rfl ?_
 refine aF (i := 1) rfl aj (bh rfl) aE aE rfl (aa (ae (aa (ak (ae (aa av)))))) (by kernel_rfl) rfl ?_
 refine aF (i := 2) rfl aj (aD gS rfl) aE aE rfl (aa (ae (aa (ak (ae (aa av)))))) (by kernel_rfl) rfl ?_
 refine aF (i := 3) rfl aj (cN 0 ty_25 rfl rfl rfl) aE aE rfl (aa (ae (aa (ak (ae (aa av)))))) (by kernel_rfl) rfl ?_
 refine aF (i := 4) rfl aj (ap rfl) aE aE rfl (aa (ae (aa (ak (ae (aa av)))))) (by kernel_rfl) rfl ?_
 refine aF (i := 5) rfl aj (bz  Tryz.underlying25 e7 rfl rfl (bE 3 rfl) rfl (by omega)) aE aE rfl (aa (ae (aa (ak (ae (aa av)))))) (by kernel_rfl) rfl ?_
 refine aF (i := 6) rfl aj (aD eb rfl) aE aE rfl (aa (ae (aa (ak (ae (aa av)))))) (by kernel_rfl) rfl ?_
 refine aF (i := 7) rfl aj (y_ldsm 1 eU dG bu rfl (bE 3 rfl) (by omega) rfl rfl rfl) aE aE rfl (aa (ae (aa (ak (ae (aa av)))))) (by kernel_rfl) rfl ?_
 refine aF (i := 8) rfl aj (a6 1 bu rfl rfl rfl rfl) aE aE rfl (aa (ae (aa (ak (ae (aa av)))))) (by kernel_rfl) rfl ?_
 refine aF (i := 9) rfl aj (y_eqst (by kernel_rfl) rfl rfl (jg _ _) rfl) aE aE rfl (aa (ae (aa (ak (ae (aa av)))))) (by kernel_rfl) rfl ?_
 refine dn (t := 28) rfl (fun h4_9 => ?_) (fun h4_9 => ?_)
 refine cp (by kernel_rfl) ?_
 refine aq ?_
 refine aA rfl ?_
 refine ar ?_
 refine dz 15 rfl cu ?_
 refine aF (i := 0) rfl aj (ap rfl) aE aE rfl (aa (ae (aa (ak (ae (aa av)))))) (by kernel_rfl) rfl ?_
 refine aF (i := 1) rfl aj (bh rfl) aE aE rfl (aa (ae (aa (ak (ae (aa av)))))) (by kernel_rfl) rfl ?_
 refine aF (i := 2) rfl aj (aD eK rfl) aE aE rfl (aa (ae (aa (ak (ae (aa av)))))) (by kernel_rfl) rfl ?_
 refine aF (i := 3) rfl aj (iQ 0 dh rfl rfl rfl rfl) aE aE rfl (aa (ae (aa (ak (ae (aa av)))))) (by kernel_rfl) rfl ?_
 refine aF (i := 4) rfl aj (ap rfl) aE aE rfl (aa (ae (aa (ak (ae (aa av)))))) (by kernel_rfl) rfl ?_
 refine aF (i := 5) rfl aj (bh rfl) aE aE rfl (aa (ae (aa (ak (ae (aa av)))))) (by kernel_rfl) rfl ?_
 refine aF (i := 6) rfl aj (aD gS rfl) aE aE rfl (aa (ae (aa (ak (ae (aa av)))))) (by kernel_rfl) rfl ?_
 refine aF (i := 7) rfl aj (cN 0 ty_25 rfl rfl rfl) aE aE rfl (aa (ae (aa (ak (ae (aa av)))))) (by kernel_rfl) rfl ?_
 refine aF (i := 8) rfl aj (ap rfl) aE aE rfl (aa (ae (aa (ak (ae (aa av)))))) (by kernel_rfl) rfl ?_
 refine aF (i := 9) rfl aj (bz  Tryz.underlying25 e7 rfl rfl (bE 3 rfl) rfl (by omega)) aE aE rfl (aa (ae (aa (ak (ae (aa av)))))) (by kernel_rfl) rfl ?_
 refine aF (i := 10) rfl aj (aD fC rfl) aE aE rfl (aa (ae (aa (ak (ae (aa av)))))) (by kernel_rfl) rfl ?_
 refine aF (i := 11) rfl aj (cf eU dG bN rfl (bE 3 rfl) (by omega) rfl rfl) aE aE rfl (aa (ae (aa (ak (ae (aa av)))))) (by kernel_rfl) rfl ?_
 refine cy (i := 12) rfl rfl rfl (bm rfl fc) (by kernel_rfl) rfl ?_
 refine eM rfl fc rfl (dV v l _ _ (hs.getD i dG).host hok (by omega) (by omega) h0) (fun w hw => (aO (bJ 1 rfl hw) (aO (bJ 2 rfl hw) bd))) (fun ⟨rb, hrb⟩ => ?_)
 refine ah ?_
 refine cW aE ?_
 refine aF (i := 13) rfl aj (aP rfl rfl) aE aE rfl (aa (ae (aa (ak (ae (aa av)))))) (by kernel_rfl) rfl ?_
 refine aF (i := 14) rfl aj (aP rfl rfl) aE aE rfl (aa (ae (aa (ak (ae (aa av)))))) (by kernel_rfl) rfl ?_
 refine cy (i := 15) rfl rfl rfl (fun _ _ _ => aN (by kernel_rfl)) (by kernel_rfl) rfl ?_
 refine a0 aR rfl rfl rfl .z rfl rfl rfl rfl ?_
 refine ah ?_
 refine eE rfl ?_
 refine cy (i := 16) rfl rfl rfl (fun _ _ _ => aN (by kernel_rfl)) (by kernel_rfl) rfl ?_
 refine au (ao rfl) rfl rfl ?_
 refine ah ?_
 refine eE rfl ?_
 refine cp (by kernel_rfl) ?_
 refine aq ?_
 refine aQ ?_
 refine aK ?_
 refine ay ?_
 refine a9 ?_
 refine aK ?_
 refine ay ?_
 refine ed (rs := [.cell 4 34, .tmp 5]) rfl (cF 0 aR rfl rfl rfl rfl (dR rfl dp)) rfl (fun w hw => ?_)
 exact ⟨⟨rb, by rw [← h4_9]; exact of_held H hp9 hrb, hrb.mem⟩, rfl, hw.base, (hw.weak (List.nil_sublist _) (fun s hs => hs)).toNews⟩
 refine cp (by kernel_rfl) ?_
 refine aq ?_
 refine aC rfl ?_
 refine aS ?_
 refine bo ?_
 refine aq ?_
 refine ai ?_
 refine au (ap rfl) rfl rfl ?_
 refine au (bl rfl rfl (by omega) (by omega)) rfl rfl ?_
 refine au (ao rfl) rfl rfl ?_
 refine ah ?_
 refine bq (i + 1) ?_ ?_ ⟨rfl, trivial⟩ (by repeat (first | exact trivial | refine ⟨rfl, ?_⟩)) aE
 exact ⟨by omega, noh_step hI.2 h4_9⟩
 omega
 refine ah ?_
 refine aq ?_
 refine aC rfl ?_
 refine bw ?_
 refine aY ?_
 refine aZ ?_
 refine a7 ?_
 refine aq ?_
 refine ar ?_
 refine ar ?_
 have hHn := hdAd_none (fun q hq => hI.2 q (by omega))
 refine ai ?_
 refine au (ao rfl) rfl rfl ?_
 refine ah ?_
 refine aq ?_
 refine aW ?_
 refine bV (σ := Nat) [5, 7, 8, 9, 44, 45, 46, 47, 48, 49, 50, 51, 52, 53, 54, 55, 56, 57, 58, 59, 60, 61, 62, 63, 64, 65, 66, 67, 68, 69, 70, 71, 72, 73, 74, 75, 76] (fun j => j ≤ l.length ∧ ∀ q, q < j → a ∉ (l.getD q br).e.addrs) (fun j => l.length - j) (fun j => [(7, .int .i64 j)]) (0) ?_ ⟨rfl, trivial⟩ (fun j hI => ?_)
 exact ⟨Nat.zero_le _, nofun⟩
 have hJ9 := hI.2
 refine ar ?_
 refine ar ?_
 refine ai ?_
 refine au (ap rfl) rfl rfl ?_
 refine au (ap rfl) rfl rfl ?_
 refine au (bh rfl) rfl rfl ?_
 refine au (aD eK rfl) rfl rfl ?_
 refine au (aD cw rfl) rfl rfl ?_
 refine au (cN 0 bZ rfl rfl rfl) rfl rfl ?_
 refine au (bg Tryz.underlying22 rfl) rfl rfl ?_
 refine au (bI rfl rfl) rfl rfl ?_
 refine aB (t := 51) rfl (fun h7_7 => ?_) (fun h7_7 => ?_)
 have hj : j < l.length := by omega
 have hla9 := (hok.at hj).la
 refine ah ?_
 refine aq ?_
 refine aA rfl ?_
 refine aS ?_
 refine aq ?_
 refine ar ?_
 refine aW ?_
 refine ar ?_
 refine ai ?_
 refine au (ap rfl) rfl rfl ?_
 refine au (bh rfl) rfl rfl ?_
 refine au (aD eK rfl) rfl rfl ?_
 refine au (aD cw rfl) rfl rfl ?_
 refine au (cN 0 bZ rfl rfl rfl) rfl rfl ?_
 refine au (ap rfl) rfl rfl ?_
 refine au (bz  Tryz.underlying22 aR rfl rfl (bE 1 rfl) rfl (by omega)) rfl rfl ?_
 refine au (bW cj br aR rfl (bE 1 rfl) (by omega) rfl rfl rfl) rfl rfl ?_
 refine bj aR rfl rfl (fun b4 => ?_)
 refine a0 aR rfl rfl rfl .z rfl rfl rfl rfl ?_
 refine ah ?_
 refine aq ?_
 refine ar ?_
 refine ai ?_
 refine au (ao rfl) rfl rfl ?_
 refine ah ?_
 refine aq ?_
 refine aW ?_
 refine bV (σ := Nat) [5, 9, 62, 63, 64, 65, 66, 67, 68, 69, 70, 71, 72, 73, 74, 75, 76] (fun k => k ≤ (l.getD j br).e.addrs.length ∧ a ∉ (l.getD j br).e.addrs.take k) (fun k => (l.getD j br).e.addrs.length - k) (fun k => [(9, .int .i64 k)]) (0) ?_ ⟨rfl, trivial⟩ (fun k hI => ?_)
 exact ⟨Nat.zero_le _, by simp⟩
 refine ar ?_
 refine ar ?_
 refine ai ?_
 refine au (ap rfl) rfl rfl ?_
 refine au (aD cH rfl) rfl rfl ?_
 refine au (aM 0 dN rfl rfl rfl) rfl rfl ?_
 refine au (bg Tryz.underlying30 rfl) rfl rfl ?_
 refine au (bI rfl rfl) rfl rfl ?_
 refine aB (t := 66) rfl (fun h11_4 => ?_) (fun h11_4 => ?_)
 have hk : k < (l.getD j br).e.addrs.length := by omega
 refine ah ?_
 refine aq ?_
 refine aA rfl ?_
 refine aS ?_
 refine aq ?_
 refine ar ?_
 refine aW ?_
 refine ar ?_
 refine dz 7 rfl cu ?_
 refine aF (i := 0) rfl aj (aD cH rfl) aE aE rfl (aa (ae (aa (ak (ae (ae (aa (ak (ae (aa av)))))))))) (by kernel_rfl) rfl ?_
 refine aF (i := 1) rfl aj (aM 0 dN rfl rfl rfl) aE aE rfl (aa (ae (aa (ak (ae (ae (aa (ak (ae (aa av)))))))))) (by kernel_rfl) rfl ?_
 refine aF (i := 2) rfl aj (ap rfl) aE aE rfl (aa (ae (aa (ak (ae (ae (aa (ak (ae (aa av)))))))))) (by kernel_rfl) rfl ?_
 refine aF (i := 3) rfl aj (bz  Tryz.underlying30 bu rfl rfl (fun w hw => (bG (bJ 2 rfl hw) (bL (bA (by omega)) _ (gD _))).1) rfl (by omega)) aE aE rfl (aa (ae (aa (ak (ae (ae (aa (ak (ae (aa av)))))))))) (by kernel_rfl) rfl ?_
 refine aF (i := 4) rfl aj (bW dI eZ bu rfl (fun w hw => (bG (bJ 2 rfl hw) (bL (bA (by omega)) _ (gD _))).1) (by omega) rfl rfl rfl) aE aE rfl (aa (ae (aa (ak (ae (ae (aa (ak (ae (aa av)))))))))) (by kernel_rfl) rfl ?_
 refine aF (i := 5) rfl aj (a6 2 bu rfl rfl rfl rfl) aE aE rfl (aa (ae (aa (ak (ae (ae (aa (ak (ae (aa av)))))))))) (by kernel_rfl) rfl ?_
 refine aF (i := 6) rfl aj (y_eqst (by kernel_rfl) rfl rfl (jg _ _) rfl) aE aE rfl (aa (ae (aa (ak (ae (ae (aa (ak (ae (aa av)))))))))) (by kernel_rfl) rfl ?_
 refine dn (t := 75) rfl (fun h13_6 => ?_) (fun h13_6 => ?_)
 refine cp (by kernel_rfl) ?_
 refine aq ?_
 refine aA rfl ?_
 refine ar ?_
 refine ai ?_
 refine au (a6 0 aR rfl rfl rfl rfl) rfl rfl ?_
 refine a0 aR rfl rfl rfl (.s (.z)) rfl rfl rfl rfl ?_
 refine au (ao rfl) rfl rfl ?_
 refine ah ?_
 refine aq ?_
 refine aQ ?_
 refine aK ?_
 refine ay ?_
 refine a9 ?_
 refine aK ?_
 refine aK ?_
 refine ay ?_
 refine a9 ?_
 refine aK ?_
 refine ay ?_
 refine ed (rs := [.cell 4 34, .tmp 5]) rfl (cF 1 aR rfl rfl rfl rfl (dR rfl dp)) rfl (fun w hw => ?_)
 exact ⟨⟨some (l.getD j br), ofE_hit hHn hj hJ9 (h13_6 ▸ bA (d := eZ) hk), .tail _ (bA hj)⟩, rfl, hw.base, (hw.weak (List.nil_sublist _) (fun s hs => hs)).toNews⟩
 refine cp (by kernel_rfl) ?_
 refine aq ?_
 refine aC rfl ?_
 refine aS ?_
 refine bo ?_
 refine aq ?_
 have hJ8 := hI.2
 refine ai ?_
 refine au (ap rfl) rfl rfl ?_
 refine au (bl rfl rfl (by omega) (by omega)) rfl rfl ?_
 refine au (ao rfl) rfl rfl ?_
 refine ah ?_
 refine bq (k + 1) ?_ ?_ ⟨rfl, trivial⟩ (by repeat (first | exact trivial | refine ⟨rfl, ?_⟩)) aE
 exact ⟨by omega, notake_succ hk hI.2 h13_6⟩
 omega
 refine ah ?_
 refine aq ?_
 refine aC rfl ?_
 refine bw ?_
 refine aY ?_
 refine aZ ?_
 refine a7 ?_
 refine bo ?_
 refine aq ?_
 refine ai ?_
 refine au (ap rfl) rfl rfl ?_
 refine au (bl rfl rfl (by omega) (by omega)) rfl rfl ?_
 refine au (ao rfl) rfl rfl ?_
 refine ah ?_
 refine bq (j + 1) ?_ ?_ ⟨rfl, trivial⟩ (by repeat (first | exact trivial | refine ⟨rfl, ?_⟩)) (fun w h => h.weak (.cons _ (List.Sublist.refl _)) (fun s hs => hs))
 exact ⟨by omega, no_step hJ9 (by have := hI.2; rwa [List.take_of_length_le (by omega)] at this)⟩
 omega
 refine ah ?_
 refine aq ?_
 refine aC rfl ?_
 refine bw ?_
 refine aY ?_
 refine aZ ?_
 refine a7 ?_
 refine aq ?_
 refine ar ?_
 refine ai ?_
 refine au (dW rfl (bu_34)) rfl rfl ?_
 refine a0 aR rfl rfl rfl .z rfl rfl rfl rfl ?_
 refine au (ao rfl) rfl rfl ?_
 refine ah ?_
 refine aq ?_
 refine aQ ?_
 refine ed (rs := [.cell 4 34, .tmp 5]) rfl (cF 0 aR rfl rfl rfl rfl (dR rfl dp)) rfl (fun w hw => ?_)
 exact ⟨⟨none, ofE_miss hHn (fun q hq => hI.2 q (by omega)), .head _⟩, rfl, hw.base, (hw.weak (List.nil_sublist _) (fun s hs => hs)).toNews⟩

set_option maxRecDepth 100000 in
set_option maxHeartbeats 1000000 in
theorem i0 (v : Int) (l : List Le) (A : Option Addr) (c : Nat) (b : Nat) (Q : Option Addr) (hs : List Hd) (qc : Nat) (y : Le) (hyl : y.e.host.length ≤ 1000) (hok : TbOk l) (hlen : l.length ≤ 1000000000) (h0 : bO v l = 0) (H : bU (l.map (·.e)) hs) (hhl : hs.length ≤ 1000000) (hhh : ∀ h ∈ hs, h.host.length ≤ 1000 ∧ 0 ≤ h.ad.lo) : RC Tryz.prog 25 #[.pointer (some ⟨b, 0, none⟩), .agg (dB y).toArray] [Ch.row b (rfC v A l.length c Q hs.length qc) 131, Ch.rd A 7 dB l, Ch.rall (l.flatMap e6), Ch.rd Q 4 hdC hs] (α := Option Addr × Nat) (fun p => .slice p.1 (adsE (l.map (·.e)) hs y.e.host).length p.2) (fun p => [Ch.ls p.1 p.2 29 3 dT (adsE (l.map (·.e)) hs y.e.host)]) := by
 refine bx (args := [.pointer (some ⟨b, 0, none⟩), .agg (dB y).toArray]) 55 Tryz.func25 rfl rfl rfl (fun w0 => ?_)
 refine ar ?_
 refine ai ?_
 refine cv rfl rfl rfl (fun b1 => ?_)
 refine au (ao rfl) rfl rfl ?_
 refine ah ?_
 refine aq ?_
 refine g3 (σ := {r : Option Le // FE l y.e.host r} × Nat) (fun g => [(5, .pointer (some ⟨g.2, 0, none⟩)), (6, .bool g.1.1.isSome)]) (fun g => [Ch.row g.2 (dB (g.1.1.getD br)) 34]) (fun g => ?_) (fun J1 => ?_)
 refine ar ?_
 refine ar ?_
 obtain ⟨⟨rb, hrb⟩, qb⟩ := g
 have hb9 := fe_bnd hok hrb.mem
 have hbl := hb9.h
 refine ai ?_
 refine au (ap rfl) rfl rfl ?_
 refine bD (t := 19) rfl (fun h2_0 => ?_) (fun h2_0 => ?_)
 refine au (bC rfl) rfl rfl ?_
 refine ah ?_
 refine aq ?_
 refine aC rfl ?_
 refine aS ?_
 refine aq ?_
 refine ar ?_
 refine ai ?_
 refine au (ao rfl) rfl rfl ?_
 refine ah ?_
 refine aq ?_
 refine ar ?_
 refine ar ?_
 refine ai ?_
 refine au (ao rfl) rfl rfl ?_
 refine ah ?_
 refine aq ?_
 refine aW ?_
 refine bF (fun w h => h.nilsl 29 3) ?_
 refine cP (σ := Nat × Option Addr × Nat) [7, 8, 21, 22, 23, 24, 25, 26, 27, 28, 29, 30, 31, 32, 33, 34, 35, 36, 37, 38, 39, 40, 41, 42, 43, 44, 45, 46, 47, 48, 49, 50, 51] (fun q => q.1 ≤ hs.length) (fun q => hs.length - q.1) (fun q => [(8, .int .i64 q.1), (7, .slice q.2.1 (hdF hs (rb.getD br).e.host q.1).length q.2.2)]) (fun q => Ch.ls q.2.1 q.2.2 29 3 dT (hdF hs (rb.getD br).e.host q.1)) ((0, none, 0)) ?_ ⟨rfl, rfl, trivial⟩ rfl (fun q hI => ?_)
 exact Nat.zero_le _
 obtain ⟨i, Aq, cq⟩ := q
 dsimp only at hI ⊢
 refine ar ?_
 refine ar ?_
 refine ai ?_
 refine au (ap rfl) rfl rfl ?_
 refine au (ap rfl) rfl rfl ?_
 refine au (bh rfl) rfl rfl ?_
 refine au (aD gS rfl) rfl rfl ?_
 refine au (cN 0 ty_25 rfl rfl rfl) rfl rfl ?_
 refine au (bg Tryz.underlying25 rfl) rfl rfl ?_
 refine au (bI rfl rfl) rfl rfl ?_
 refine aB (t := 27) rfl (fun h6_6 => ?_) (fun h6_6 => ?_)
 have hi : i < hs.length := by omega
 have hp9 := bA (d := dG) hi
 have hpl := (hhh _ hp9).1
 have hfl := hdF_len hs (rb.getD br).e.host i
 refine ah ?_
 refine aq ?_
 refine aA rfl ?_
 refine aS ?_
 refine aq ?_
 refine ar ?_
 refine aW ?_
 refine ar ?_
 refine dO 11 rfl cu ?_
 refine a2 (i := 0) rfl aj (ap rfl) aE aE rfl (aa (ae (aa (ak (ae (aa av)))))) (by kernel_rfl) rfl ?_
 refine a2 (i := 1) rfl aj (bh rfl) aE aE rfl (aa (ae (aa (ak (ae (aa av)))))) (by kernel_rfl) rfl ?_
 refine a2 (i := 2) rfl aj (aD gS rfl) aE aE rfl (aa (ae (aa (ak (ae (aa av)))))) (by kernel_rfl) rfl ?_
 refine a2 (i := 3) rfl aj (cN 0 ty_25 rfl rfl rfl) aE aE rfl (aa (ae (aa (ak (ae (aa av)))))) (by kernel_rfl) rfl ?_
 refine a2 (i := 4) rfl aj (ap rfl) aE aE rfl (aa (ae (aa (ak (ae (aa av)))))) (by kernel_rfl) rfl ?_
 refine a2 (i := 5) rfl aj (bz  Tryz.underlying25 e7 rfl rfl (bE 3 rfl) rfl (by omega)) aE aE rfl (aa (ae (aa (ak (ae (aa av)))))) (by kernel_rfl) rfl ?_
 refine a2 (i := 6) rfl aj (aD fC rfl) aE aE rfl (aa (ae (aa (ak (ae (aa av)))))) (by kernel_rfl) rfl ?_
 refine a2 (i := 7) rfl aj (cf eU dG bN rfl (bE 3 rfl) (by omega) rfl rfl) aE aE rfl (aa (ae (aa (ak (ae (aa av)))))) (by kernel_rfl) rfl ?_
 refine a2 (i := 8) rfl aj (aD cQ rfl) aE aE rfl (aa (ae (aa (ak (ae (aa av)))))) (by kernel_rfl) rfl ?_
 refine a2 (i := 9) rfl aj (aM 1 bN rfl rfl rfl) aE aE rfl (aa (ae (aa (ak (ae (aa av)))))) (by kernel_rfl) rfl ?_
 refine bk (i := 10) rfl rfl rfl (bm rfl ent_46) (by kernel_rfl) rfl ?_
 refine bb rfl ent_46 (fU _ _ (by omega) (by omega)) rfl ?_
 refine ah ?_
 refine bv aE ?_
 refine wu_splitb (t := 40) rfl (fun h8_10 => ?_) (fun h8_10 => ?_)
 refine bP (by kernel_rfl) ?_
 refine aq ?_
 refine aA rfl ?_
 refine ai ?_
 refine au (ap rfl) rfl rfl ?_
 refine au (ap rfl) rfl rfl ?_
 refine au (bh rfl) rfl rfl ?_
 refine au (aD gS rfl) rfl rfl ?_
 refine au (cN 0 ty_25 rfl rfl rfl) rfl rfl ?_
 refine au (ap rfl) rfl rfl ?_
 refine au (bz  Tryz.underlying25 e7 rfl rfl (bE 3 rfl) rfl (by omega)) rfl rfl ?_
 refine au (aD eb rfl) rfl rfl ?_
 refine au (y_ldsm 1 eU dG bu rfl (bE 3 rfl) (by omega) rfl rfl rfl) rfl rfl ?_
 refine cD (vs := [_]) ([(hs.getD i dG).ad] : List (Ad)) dI Tryz.underlying30 bu rfl rfl rfl rfl rfl rfl (fun As2 => ?_)
 refine cC (enc := dT) (sz := 3) [(hs.getD i dG).ad] Tryz.underlying30 bu rfl rfl rfl (fun A c => (.s (.z))) (d5 0 Tryz.underlying30 rfl) (by simp only [List.length_cons, List.length_nil, Nat.zero_add]; omega) (by simp only [List.length_cons, List.length_nil, Nat.zero_add]; omega) rfl (fun A2 c2 => ?_)
 refine au (ao rfl) rfl rfl ?_
 refine ah ?_
 refine bo ?_
 refine aq ?_
 refine ai ?_
 refine au (ap rfl) rfl rfl ?_
 refine au (bl rfl rfl (by omega) (by omega)) rfl rfl ?_
 refine au (ao rfl) rfl rfl ?_
 refine ah ?_
 have hfs : hdF hs (rb.getD br).e.host (i + 1) = (hdF hs (rb.getD br).e.host i) ++ [(hs.getD i dG).ad] := by rw [hdF_step hi, h8_10]; simp
 refine bq ((i + 1, A2, c2)) ?_ ?_ ⟨rfl, lk rfl (by rw [hfs]), trivial⟩ (by repeat (first | exact trivial | refine ⟨rfl, ?_⟩)) (fun w h => by show Hp _ _ (Ch.ls _ _ _ _ _ (hdF hs (rb.getD br).e.host (i + 1)) :: _) _ _; rw [hfs]; exact h.weak (.cons _ (.cons_cons _ (.cons_cons _ (.cons_cons _ (List.Sublist.refl _))))) (fun s hs => hs))
 (show i + 1 ≤ hs.length; omega)
 show hs.length - (i + 1) < hs.length - i
 omega
 refine bP (by kernel_rfl) ?_
 refine aq ?_
 refine aC rfl ?_
 refine aS ?_
 refine bo ?_
 refine aq ?_
 refine ai ?_
 refine au (ap rfl) rfl rfl ?_
 refine au (bl rfl rfl (by omega) (by omega)) rfl rfl ?_
 refine au (ao rfl) rfl rfl ?_
 refine ah ?_
 have hfs : hdF hs (rb.getD br).e.host (i + 1) = (hdF hs (rb.getD br).e.host i) := by rw [hdF_step hi, h8_10]; simp
 refine bq ((i + 1, Aq, cq)) ?_ ?_ ⟨rfl, lk rfl (by rw [hfs]), trivial⟩ (by repeat (first | exact trivial | refine ⟨rfl, ?_⟩)) (fun w h => by show Hp _ _ (Ch.ls _ _ _ _ _ (hdF hs (rb.getD br).e.host (i + 1)) :: _) _ _; rw [hfs]; exact h.weak (.cons_cons _ (.cons_cons _ (.cons_cons _ (List.Sublist.refl _)))) (fun s hs => hs))
 (show i + 1 ≤ hs.length; omega)
 show hs.length - (i + 1) < hs.length - i
 omega
 refine ah ?_
 refine aq ?_
 refine aC rfl ?_
 refine bw ?_
 refine aY ?_
 refine aZ ?_
 refine a7 ?_
 refine aq ?_
 refine ar ?_
 obtain rfl : i = hs.length := by omega
 have hwh9 : ∀ a ∈ hdF hs (rb.getD br).e.host hs.length, 0 ≤ a.lo := fun a ha => by
   obtain ⟨p, hp, e⟩ := hdF_mem ha
   rw [← e]; exact (hhh _ hp).2
 have hfl9 := hdF_len hs (rb.getD br).e.host hs.length
 refine ai ?_
 refine au (a6 1 aR rfl rfl rfl rfl) rfl rfl ?_
 refine au (ap rfl) rfl rfl ?_
 refine bM rfl ent_88 rfl (c_ref16_Addrs (rb.getD br).e (rb.getD br).A (rb.getD br).B (rb.getD br).c (rb.getD br).d _ _ (hdF hs (rb.getD br).e.host hs.length) hwh9 (by omega) hb9.wa (by have := hb9.la; omega) (by have := hb9.lp; omega) hb9.k) (fun w hw => (aO ((rd_fe (bJ 2 rfl hw) hrb.mem).1) (aO ((rd_fe (bJ 2 rfl hw) hrb.mem).2) (aO (dD 0 rfl hw) bd)))) (fun ⟨A3, c3⟩ => ?_)
 refine au (ao rfl) rfl rfl ?_
 refine ah ?_
 refine aq ?_
 refine aQ ?_
 refine aV (ts := [4]) rfl rfl rfl (fun w hw => ?_)
 rw [adsE_some h0 H hrb h2_0]
 exact ⟨(A3, c3), rfl, hw.base, (hw.weak (.cons_cons _ (.cons _ (.cons _ (.cons _ .slnil)))) (fun s hs => hs)).toNews⟩
 refine au (bC rfl) rfl rfl ?_
 refine ah ?_
 refine aq ?_
 refine aA rfl ?_
 refine ar ?_
 refine ai ?_
 refine au (ao rfl) rfl rfl ?_
 refine ah ?_
 refine aq ?_
 refine aQ ?_
 refine ay ?_
 refine aV (ts := [4]) rfl rfl rfl (fun w hw => ?_)
 rw [adsE_none hrb h2_0]
 exact ⟨(none, 0), rfl, hw.base, ((hw.weak (List.nil_sublist _) (fun s hs => hs)).nilsl 29 3).toNews⟩
 refine ar ?_
 refine dO 11 rfl cu ?_
 refine a2 (i := 0) rfl aj (ap rfl) aE aE rfl (aa av) (by kernel_rfl) rfl ?_
 refine a2 (i := 1) rfl aj (bh rfl) aE aE rfl (aa av) (by kernel_rfl) rfl ?_
 refine a2 (i := 2) rfl aj (aD eK rfl) aE aE rfl (aa av) (by kernel_rfl) rfl ?_
 refine a2 (i := 3) rfl aj (iQ 0 dh rfl rfl rfl rfl) aE aE rfl (aa av) (by kernel_rfl) rfl ?_
 refine a2 (i := 4) rfl aj (aD cQ rfl) aE aE rfl (aa av) (by kernel_rfl) rfl ?_
 refine a2 (i := 5) rfl aj (aM 0 bN rfl rfl rfl) aE aE rfl (aa av) (by kernel_rfl) rfl ?_
 refine cA (js := [6, 10]) (by kernel_rfl) rfl ?_
 refine bi (i := 6) rfl rfl rfl (bm rfl fc) rfl ?_ ?_
 refine eM rfl fc rfl (dV v l _ _ y.e.host hok (by omega) (by omega) h0) (fun w hw => (aO (bJ 1 rfl hw) (aO (bJ 2 rfl hw) bd))) (fun ⟨rb, hrb⟩ => ?_)
 refine ah ?_
 refine bv aE ?_
 refine a2 (i := 7) rfl aj (ap rfl) aE aE rfl (aa av) (by kernel_rfl) rfl ?_
 refine a2 (i := 8) rfl aj (aP rfl rfl) aE aE rfl (aa av) (by kernel_rfl) rfl ?_
 refine cA (js := [9, 10]) (by kernel_rfl) rfl ?_
 refine bi (i := 9) rfl rfl rfl (fun _ _ _ => aN (by kernel_rfl)) rfl ?_ ?_
 refine au (aP rfl rfl) rfl rfl ?_
 refine ah ?_
 refine bv aE ?_
 refine bk (i := 10) rfl rfl rfl (fun _ _ _ => aN (by kernel_rfl)) (by kernel_rfl) rfl ?_
 refine bj aR rfl rfl (fun b6 => ?_)
 refine ah ?_
 refine bv (fun w h => h.weak (.cons _ (List.Sublist.refl _)) (fun s hs => hs)) ?_
 refine bk (i := 11) rfl rfl rfl (fun _ _ _ => aN (by kernel_rfl)) (by kernel_rfl) rfl ?_
 refine a0 aR rfl rfl rfl .z rfl rfl rfl rfl ?_
 refine ah ?_
 refine a4 rfl ?_
 refine bk (i := 12) rfl rfl rfl (fun _ _ _ => aN (by kernel_rfl)) (by kernel_rfl) rfl ?_
 refine au (ao rfl) rfl rfl ?_
 refine ah ?_
 refine a4 rfl ?_
 refine bP (by kernel_rfl) ?_
 refine aq ?_
 refine bF (fun w h => h.weak (.cons_cons _ (List.Sublist.refl _)) (fun s hs => hs)) ?_
 exact J1 (⟨rb, hrb⟩, b6) _ (by repeat (first | exact trivial | refine ⟨rfl, ?_⟩))
 refine bi (i := 10) rfl rfl rfl (fun _ _ _ => aN (by kernel_rfl)) rfl ?_ ?_
 refine bj aR rfl rfl (fun b7 => ?_)
 refine ah ?_
 refine bv (fun w h => h.weak (.cons _ (List.Sublist.refl _)) (fun s hs => hs)) ?_
 refine cA (js := [9, 11]) (by kernel_rfl) rfl ?_
 refine bi (i := 9) rfl rfl rfl (fun _ _ _ => aN (by kernel_rfl)) rfl ?_ ?_
 refine au (aP rfl rfl) rfl rfl ?_
 refine ah ?_
 refine bv (fun w h => h.weak (.cons _ (List.Sublist.refl _)) (fun s hs => hs)) ?_
 refine bk (i := 11) rfl rfl rfl (fun _ _ _ => aN (by kernel_rfl)) (by kernel_rfl) rfl ?_
 refine a0 aR rfl rfl rfl .z rfl rfl rfl rfl ?_
 refine ah ?_
 refine a4 rfl ?_
 refine bk (i := 12) rfl rfl rfl (fun _ _ _ => aN (by kernel_rfl)) (by kernel_rfl) rfl ?_
 refine au (ao rfl) rfl rfl ?_
 refine ah ?_
 refine a4 rfl ?_
 refine bP (by kernel_rfl) ?_
 refine aq ?_
 refine bF (fun w h => h.weak (.cons_cons _ (List.Sublist.refl _)) (fun s hs => hs)) ?_
 exact J1 (⟨rb, hrb⟩, b7) _ (by repeat (first | exact trivial | refine ⟨rfl, ?_⟩))
 refine bi (i := 11) rfl rfl rfl (fun _ _ _ => aN (by kernel_rfl)) rfl ?_ ?_
 refine a0 aR rfl rfl rfl .z rfl rfl rfl rfl ?_
 refine ah ?_
 refine a4 rfl ?_
 refine bk (i := 9) rfl rfl rfl (fun _ _ _ => aN (by kernel_rfl)) (by kernel_rfl) rfl ?_
 refine au (aP rfl rfl) rfl rfl ?_
 refine ah ?_
 refine a4 rfl ?_
 refine bk (i := 12) rfl rfl rfl (fun _ _ _ => aN (by kernel_rfl)) (by kernel_rfl) rfl ?_
 refine au (ao rfl) rfl rfl ?_
 refine ah ?_
 refine a4 rfl ?_
 refine bP (by kernel_rfl) ?_
 refine aq ?_
 refine bF (fun w h => h.weak (.cons_cons _ (List.Sublist.refl _)) (fun s hs => hs)) ?_
 exact J1 (⟨rb, hrb⟩, b7) _ (by repeat (first | exact trivial | refine ⟨rfl, ?_⟩))
 exact ci
 exact ci
 refine bi (i := 10) rfl rfl rfl (fun _ _ _ => aN (by kernel_rfl)) rfl ?_ ?_
 refine bj aR rfl rfl (fun b8 => ?_)
 refine ah ?_
 refine bv (fun w h => h.weak (.cons _ (List.Sublist.refl _)) (fun s hs => hs)) ?_
 refine bk (i := 6) rfl rfl rfl (bm rfl fc) (by kernel_rfl) rfl ?_
 refine eM rfl fc rfl (dV v l _ _ y.e.host hok (by omega) (by omega) h0) (fun w hw => (aO (bJ 1 rfl hw) (aO (bJ 2 rfl hw) bd))) (fun ⟨rb, hrb⟩ => ?_)
 refine ah ?_
 refine bv (fun w h => h.weak (.cons _ (List.Sublist.refl _)) (fun s hs => hs)) ?_
 refine a2 (i := 7) rfl aj (ap rfl) (fun w h => h.weak (.cons _ (List.Sublist.refl _)) (fun s hs => hs)) aE rfl (aa av) (by kernel_rfl) rfl ?_
 refine a2 (i := 8) rfl aj (aP rfl rfl) (fun w h => h.weak (.cons _ (List.Sublist.refl _)) (fun s hs => hs)) aE rfl (aa av) (by kernel_rfl) rfl ?_
 refine cA (js := [9, 11]) (by kernel_rfl) rfl ?_
 refine bi (i := 9) rfl rfl rfl (fun _ _ _ => aN (by kernel_rfl)) rfl ?_ ?_
 refine au (aP rfl rfl) rfl rfl ?_
 refine ah ?_
 refine bv (fun w h => h.weak (.cons _ (List.Sublist.refl _)) (fun s hs => hs)) ?_
 refine bk (i := 11) rfl rfl rfl (fun _ _ _ => aN (by kernel_rfl)) (by kernel_rfl) rfl ?_
 refine a0 aR rfl rfl rfl .z rfl rfl rfl rfl ?_
 refine ah ?_
 refine a4 rfl ?_
 refine bk (i := 12) rfl rfl rfl (fun _ _ _ => aN (by kernel_rfl)) (by kernel_rfl) rfl ?_
 refine au (ao rfl) rfl rfl ?_
 refine ah ?_
 refine a4 rfl ?_
 refine bP (by kernel_rfl) ?_
 refine aq ?_
 refine bF (fun w h => h.weak (.cons_cons _ (List.Sublist.refl _)) (fun s hs => hs)) ?_
 exact J1 (⟨rb, hrb⟩, b8) _ (by repeat (first | exact trivial | refine ⟨rfl, ?_⟩))
 refine bi (i := 11) rfl rfl rfl (fun _ _ _ => aN (by kernel_rfl)) rfl ?_ ?_
 refine a0 aR rfl rfl rfl .z rfl rfl rfl rfl ?_
 refine ah ?_
 refine a4 rfl ?_
 refine bk (i := 9) rfl rfl rfl (fun _ _ _ => aN (by kernel_rfl)) (by kernel_rfl) rfl ?_
 refine au (aP rfl rfl) rfl rfl ?_
 refine ah ?_
 refine a4 rfl ?_
 refine bk (i := 12) rfl rfl rfl (fun _ _ _ => aN (by kernel_rfl)) (by kernel_rfl) rfl ?_
 refine au (ao rfl) rfl rfl ?_
 refine ah ?_
 refine a4 rfl ?_
 refine bP (by kernel_rfl) ?_
 refine aq ?_
 refine bF (fun w h => h.weak (.cons_cons _ (List.Sublist.refl _)) (fun s hs => hs)) ?_
 exact J1 (⟨rb, hrb⟩, b8) _ (by repeat (first | exact trivial | refine ⟨rfl, ?_⟩))
 exact ci
 exact ci
end Go.Proofs.YtnpdgmoeoidppaaGreat
