import Derived.Test.YtnpdgmoeoidppaaGreatLrQa
/- an index made with what is held -/
namespace Go.Proofs.YtnpdgmoeoidppaaGreat
open Go.RowKit Go.Shelf
set_option linter.unusedVariables false
set_option linter.unusedSimpArgs false

theorem ent_76 : Enters Tryz.prog 76 := enters_of Tryz.func76 (by kernel_rfl) rfl
theorem io : FA Tryz.prog 122 2 2 := fun b o w => by kernel_rfl
theorem fC : FA Tryz.prog 46 0 0 := fun b o w => by kernel_rfl
theorem eb : FA Tryz.prog 46 1 1 := fun b o w => by kernel_rfl
theorem ty_118 : TyI Tryz.prog 118 false 1 8 (.map none) := TyI.mk' (by kernel_rfl) (fun _ => by kernel_rfl)

theorem c_put_d (m : List (bf × Ad)) (r : Nat) (k : bf) (x : Ad) : UC Tryz.prog 76 #[.map (some r), .string (ba k), .agg (dT x).toArray] [] (Ch.mp r fL eY m) (α := Unit) (fun _ => .bool (!(bT m k).isSome)) (fun _ => Ch.mp r fL eY (fM m k x)) := by
 refine fR (args := [.map (some r), .string (ba k), .agg (dT x).toArray]) 19 Tryz.func76 rfl rfl rfl (fun w0 => ?_)
 refine ar ?_
 refine ai ?_
 refine cv rfl rfl rfl (fun b1 => ?_)
 refine au (ao rfl) rfl rfl ?_
 refine ah ?_
 refine aq ?_
 refine ar ?_
 refine ar ?_
 refine ai ?_
 refine au (ap rfl) rfl rfl ?_
 refine au (ap rfl) rfl rfl ?_
 refine au (fW Tryz.underlying118 (eN Tryz.underlying26) bu rfl rfl (fun w hw => hw.own _ (List.mem_of_getElem? (i := 1) rfl))) rfl rfl ?_
 refine cU (t := 12) (.tuple #[.agg (dT ((bT m k).getD eZ)).toArray, .bool (bT m k).isSome]) rfl (by cases bT m k <;> rfl) ?_
 refine au (ap rfl) rfl rfl ?_
 refine au (aP rfl rfl) rfl rfl ?_
 refine au (aP rfl rfl) rfl rfl ?_
 refine bD (t := 14) rfl (fun h1_5 => ?_) (fun h1_5 => ?_)
 refine bj bu rfl rfl (fun b2 => ?_)
 refine a0 bu rfl rfl rfl .z rfl rfl rfl rfl ?_
 refine au (ao rfl) rfl rfl ?_
 refine ah ?_
 refine aq ?_
 refine ar ?_
 refine ai ?_
 refine au (ap rfl) rfl rfl ?_
 refine ah ?_
 refine aq ?_
 refine aA rfl ?_
 refine ar ?_
 refine ai ?_
 refine au (ao rfl) rfl rfl ?_
 refine ah ?_
 refine aq ?_
 refine aQ ?_
 refine ay ?_
 refine aV (ts := [6]) rfl rfl rfl (fun w hw => ?_)
 obtain ⟨h1, h2, h3⟩ := (hw.weak (.cons _ (.cons _ (.cons_cons _ .slnil))) (fun s hs => hs)).uc
 have hs : (bT m k).isSome = true := h1_5
 rw [putF_old hs]
 exact ⟨(), by rw [hs]; rfl, h1, h2, h3⟩
 refine bj bu rfl rfl (fun b3 => ?_)
 refine a0 bu rfl rfl rfl .z rfl rfl rfl rfl ?_
 refine au (ao rfl) rfl rfl ?_
 refine ah ?_
 refine aq ?_
 refine ar ?_
 refine ai ?_
 refine au (ap rfl) rfl rfl ?_
 refine ah ?_
 refine aq ?_
 refine aC rfl ?_
 refine aS ?_
 refine aq ?_
 refine ar ?_
 refine ai ?_
 refine au (ap rfl) rfl rfl ?_
 refine au (ap rfl) rfl rfl ?_
 refine au (a6 1 bu rfl rfl rfl rfl) rfl rfl ?_
 refine gU (encK := fL) (encV := eY) (v := x) Tryz.underlying118 (eN Tryz.underlying26) rfl rfl rfl (.s (.s (.z))) ?_
 refine ah ?_
 refine aq ?_
 refine ar ?_
 refine ai ?_
 refine au (ao rfl) rfl rfl ?_
 refine ah ?_
 refine aq ?_
 refine aQ ?_
 refine aV (ts := [6]) rfl rfl rfl (fun w hw => ?_)
 obtain ⟨h1, h2, h3⟩ := (hw.weak (.cons _ (.cons _ (.cons_cons _ .slnil))) (fun s hs => hs)).uc
 have hs : (bT m k).isSome = false := h1_5
 rw [putF_new hs]
 exact ⟨(), by rw [hs]; rfl, h1, h2, h3⟩

def okH (es : List En) (pre : List Hd) (h : Hd) : Prop := a8 h.host = 0 ∧ (∃ e, ee es (aX h.host) = some e ∧ e.kind = 2) ∧ cz h.ad = 0 ∧ (∀ p ∈ pre, aX p.host ≠ aX h.host) ∧ ∀ p ∈ pre, p.ad ≠ h.ad
/-- What may be held. -/
def bU (es : List En) (hs : List Hd) : Prop := ∀ i, i < hs.length → okH es (hs.take i) (hs.getD i dG)
def DmOk (m : List (bf × Ad)) (hs : List Hd) : Prop := ∀ key, bT m key = (hs.find? fun h => decide (aX h.host = key)).map (·.ad)
def jX (m : List (Ad × Le)) (hm : List (bf × Le)) (hs : List Hd) : Prop := ∀ a, bT m a = (hs.find? fun h => decide (h.ad = a)).bind fun h => bT hm (aX h.host)
structure IxOk2 (l : List Le) (hs : List Hd) (x : Ixd) : Prop where
  ix : IxOk l x
  dm : DmOk x.dm hs
  am : ∀ a, bT x.am a = ((hs.find? fun h => decide (h.ad = a)).bind fun h => bT x.hm (aX h.host)).or (x.l.find? fun y => decide (a ∈ y.e.addrs))
theorem jW {m : List (bf × Le)} {lc : List Le} (h : HmOk m lc) {key : bf} (hs : (bT m key).isSome = true) : (bT m key).getD br ∈ lc ∧ aX ((bT m key).getD br).e.host = key := by
  cases hl : bT m key with
  | none => rw [hl] at hs; cases hs
  | some y =>
    rw [h key] at hl
    exact ⟨List.mem_of_find?_eq_some hl, by have := List.find?_some hl; simpa using this⟩
theorem TbOk.mem' {l : List Le} (h : TbOk l) {z : Le} (hz : z ∈ l) : EnB z.e := by
  obtain ⟨h1, h2⟩ := h z hz
  have h3 := iA h2
  exact ⟨h1.lo, by omega, by omega, h1.2.1, by omega, by omega⟩
theorem es_bnd {l lc : List Le} (he : lc.map (·.e) = l.map (·.e)) (hok : TbOk l) {y : Le} (hy : y ∈ lc) : EnB y.e := by
  have : y.e ∈ l.map (·.e) := by rw [← he]; exact List.mem_map.2 ⟨y, hy, rfl⟩
  obtain ⟨z, hz, e⟩ := List.mem_map.1 this
  exact (hok.mem' hz).eq e.symm
theorem lk_E {m : List (bf × Le)} {l lc : List Le} (h : HmOk m lc) (he : lc.map (·.e) = l.map (·.e)) (key : bf) : (bT m key).map (·.e) = ee (l.map (·.e)) key := by rw [← he]; exact hm_look h key
theorem iJ {m : List (bf × Le)} {l lc : List Le} (h : HmOk m lc) (he : lc.map (·.e) = l.map (·.e)) {key : bf} (hs : (bT m key).isSome = true) : ee (l.map (·.e)) key = some ((bT m key).getD br).e := by
  rw [← lk_E h he]
  cases hl : bT m key with
  | none => rw [hl] at hs; cases hs
  | some y => rfl
theorem dm_nil : DmOk [] [] := fun _ => rfl
theorem dm_put {m : List (bf × Ad)} {pre : List Hd} (h : DmOk m pre) (x : Hd) : DmOk (fM m (aX x.host) x.ad) (pre ++ [x]) := fun key => by
  rw [jG, List.find?_append, h key]
  have e : ∀ o p : Option Hd, (o.or p).map (·.ad) = (o.map (·.ad)).or (p.map (·.ad)) := fun o p => by cases o <;> rfl
  rw [e]; congr 1
  by_cases e2 : key = aX x.host
  · subst e2; simp
  · rw [if_neg e2, List.find?_cons_of_neg (by simpa using fun q => e2 q.symm)]; rfl
theorem am_nil (hm : List (bf × Le)) : jX [] hm [] := fun _ => rfl
theorem am_put {m : List (Ad × Le)} {hm : List (bf × Le)} {pre : List Hd} (h : jX m hm pre) (hp : ∀ p ∈ pre, (bT hm (aX p.host)).isSome = true) (x : Hd) (hx : (bT hm (aX x.host)).isSome = true) : jX (fM m x.ad ((bT hm (aX x.host)).getD br)) hm (pre ++ [x]) := fun a => by
  rw [jG, List.find?_append, h a]
  cases hf : pre.find? fun h => decide (h.ad = a) with
  | some z =>
    have := hp z (List.mem_of_find?_eq_some hf)
    show (bT hm (aX z.host)).or _ = bT hm (aX z.host)
    cases hz : bT hm (aX z.host) with
    | none => rw [hz] at this; cases this
    | some y => rfl
  | none =>
    by_cases e2 : a = x.ad
    · rw [if_pos e2, List.find?_cons_of_pos (by simpa using e2.symm)]
      have h9 : some ((bT hm (aX x.host)).getD br) = bT hm (aX x.host) := by
        cases hz : bT hm (aX x.host) with
        | none => rw [hz] at hx; cases hx
        | some y => rfl
      exact h9
    · rw [if_neg e2, List.find?_cons_of_neg (by simpa using fun q => e2 q.symm)]; rfl
theorem held_step {es : List En} {hs : List Hd} {k : Nat} (h : ∀ i, i < k → okH es (hs.take i) (hs.getD i dG)) (hk : okH es (hs.take k) (hs.getD k dG)) : ∀ i, i < k + 1 → okH es (hs.take i) (hs.getD i dG) := eH h hk
theorem held_pre {es : List En} {hs : List Hd} {k : Nat} (h : ∀ i, i < k → okH es (hs.take i) (hs.getD i dG)) (hk : k ≤ hs.length) : ∀ p ∈ hs.take k, ∃ e, ee es (aX p.host) = some e ∧ e.kind = 2 := fun p hp => by
  obtain ⟨i, hi, rfl⟩ := List.mem_iff_getElem.1 hp
  have hi2 : i < k := by simp at hi; omega
  have := (h i hi2).2.1
  rw [List.getD_eq_getElem?_getD, List.getElem?_eq_getElem (by omega)] at this
  rw [List.getElem_take]; exact this
theorem dm_no {m : List (bf × Ad)} {pre : List Hd} (h : DmOk m pre) {key : bf} (hn : (bT m key).isSome = false) : ∀ p ∈ pre, aX p.host ≠ key := fun p hp e => by
  rw [h key] at hn
  cases hf : pre.find? fun h => decide (aX h.host = key) with
  | some z => rw [hf] at hn; cases hn
  | none => have := List.find?_eq_none.1 hf p hp; simp [e] at this
theorem dm_yes {m : List (bf × Ad)} {pre : List Hd} (h : DmOk m pre) {key : bf} (hn : (bT m key).isSome = true) : ∃ p ∈ pre, aX p.host = key := by
  rw [h key] at hn
  cases hf : pre.find? fun h => decide (aX h.host = key) with
  | none => rw [hf] at hn; cases hn
  | some z => exact ⟨z, List.mem_of_find?_eq_some hf, by have := List.find?_some hf; simpa using this⟩
theorem am_no {m : List (Ad × Le)} {hm : List (bf × Le)} {pre : List Hd} (h : jX m hm pre) (hp : ∀ p ∈ pre, (bT hm (aX p.host)).isSome = true) {a : Ad} (hn : (bT m a).isSome = false) : ∀ p ∈ pre, p.ad ≠ a := fun p hpp e => by
  rw [h a] at hn
  cases hf : pre.find? fun h => decide (h.ad = a) with
  | some z => rw [hf] at hn; have := hp z (List.mem_of_find?_eq_some hf); rw [Option.bind_some, this] at hn; cases hn
  | none => have := List.find?_eq_none.1 hf p hpp; simp [e] at this
theorem am_yes {m : List (Ad × Le)} {hm : List (bf × Le)} {pre : List Hd} (h : jX m hm pre) {a : Ad} (hn : (bT m a).isSome = true) : ∃ p ∈ pre, p.ad = a := by
  rw [h a] at hn
  cases hf : pre.find? fun h => decide (h.ad = a) with
  | none => rw [hf] at hn; cases hn
  | some z => exact ⟨z, List.mem_of_find?_eq_some hf, by have := List.find?_some hf; simpa using this⟩
theorem adp_step {m : List (Ad × Le)} {am : List (Ad × Le)} {y : Le} {l : List Ad} {j : Nat} (h : ∀ a, bT m a = (bT am a).or (if a ∈ l.take j then some y else none)) (hj : j < l.length) : ∀ a, bT (fM m (l.getD j eZ) y) a = (bT am a).or (if a ∈ l.take (j + 1) then some y else none) := fun a => by
  rw [jG, h a, bK l eZ j hj]
  cases bT am a with
  | some z => rfl
  | none =>
    by_cases e1 : a ∈ l.take j
    · rw [if_pos e1, if_pos (List.mem_append_left _ e1)]; rfl
    · rw [if_neg e1]
      by_cases e2 : a = l.getD j eZ
      · rw [if_pos e2, if_pos (by rw [e2]; simp)]; rfl
      · rw [if_neg e2, if_neg (fun q => (List.mem_append.1 q).elim e1 (fun q => e2 (List.mem_singleton.1 q)))]; rfl
theorem en_step {m am am0 : List (Ad × Le)} {l : List Le} {k : Nat} (h : ∀ a, bT am a = (bT am0 a).or ((l.take k).find? fun y => decide (a ∈ y.e.addrs))) (hk : k < l.length) (h2 : ∀ a, bT m a = (bT am a).or (if a ∈ (l.getD k br).e.addrs.take (l.getD k br).e.addrs.length then some (l.getD k br) else none)) : ∀ a, bT m a = (bT am0 a).or ((l.take (k + 1)).find? fun y => decide (a ∈ y.e.addrs)) := fun a => by
  rw [h2 a, h a, bK l br k hk, List.find?_append, Option.or_assoc, List.take_length]
  congr 2
  by_cases e : a ∈ (l.getD k br).e.addrs
  · rw [if_pos e, List.find?_cons_of_pos (by simpa using e)]
  · rw [if_neg e, List.find?_cons_of_neg (by simpa using e)]; rfl
/-- What an index holds, all of it. -/
def ixR3 (x : Ixd) : List Ch := Ch.row x.b (ixC x) 122 :: Ch.mp x.rh fL fh x.hm :: Ch.mp x.rd fL eY x.dm :: Ch.mp x.ra eY fh x.am :: Ch.rd x.A 7 dB x.l :: (br :: x.l).flatMap e6
theorem Hp.ixOpen3 {ok0 : Nat → Prop} {w0 w : World} {x : Ixd} {L S : List Ch} (h : Hp ok0 w0 (Ch.rall (ixR x) :: L) S w) : Hp ok0 w0 (Ch.rall (ixR3 x) :: L) S w :=
  h.turn (c' := Ch.rall (ixR3 x)) .z (fun hp d hd => by
    have h6 : (Ch.rall (x.l.flatMap e6)).P w := hp _ (.tail _ (.tail _ (.tail _ (.tail _ (.tail _ (.head _))))))
    simp only [ixR3, List.mem_cons] at hd
    rcases hd with rfl | rfl | rfl | rfl | rfl | hd
    · exact hp _ (.head _)
    · exact hp _ (.tail _ (.tail _ (.head _)))
    · exact hp _ (.tail _ (.tail _ (.tail _ (.head _))))
    · exact hp _ (.tail _ (.tail _ (.tail _ (.tail _ (.head _)))))
    · exact hp _ (.tail _ (.head _))
    rw [List.flatMap_cons] at hd
    rcases List.mem_append.1 hd with hd | hd
    · exact (elR0 d hd w).1
    · exact h6 d hd) (fun b hb => by
    obtain ⟨d, hd, hdb⟩ := hb
    simp only [ixR3, List.mem_cons] at hd
    rcases hd with rfl | rfl | rfl | rfl | rfl | hd
    · exact ⟨_, .head _, hdb⟩
    · exact ⟨_, .tail _ (.tail _ (.head _)), hdb⟩
    · exact ⟨_, .tail _ (.tail _ (.tail _ (.head _))), hdb⟩
    · exact ⟨_, .tail _ (.tail _ (.tail _ (.tail _ (.head _)))), hdb⟩
    · exact ⟨_, .tail _ (.head _), hdb⟩
    rw [List.flatMap_cons] at hd
    rcases List.mem_append.1 hd with hd | hd
    · simp only [e6, List.mem_cons, List.not_mem_nil, or_false] at hd
      rcases hd with rfl | rfl <;> exact absurd hdb.1 (by simp [br, en0])
    · exact ⟨Ch.rall (x.l.flatMap e6), .tail _ (.tail _ (.tail _ (.tail _ (.tail _ (.head _))))), d, hd, hdb⟩)
def ixV : Option Ixd → Value
  | some x => .tuple #[.pointer (some ⟨x.b, 0, none⟩), .int .i64 0]
  | none => .tuple #[.pointer none, .int .i64 2]
def ixD : Option Ixd → List Ch
  | some x => ixR3 x
  | none => []

set_option maxRecDepth 100000 in
set_option maxHeartbeats 2000000 in
theorem c_index_NewH (v : Int) (l : List Le) (A : Option Addr) (c : Nat) (Q : Option Addr) (hs : List Hd) (qc : Nat) (hok : TbOk l) (hlen : l.length ≤ 1000000000) (h0 : bO v l = 0) (hhl : hs.length ≤ 1000000) (hhh : ∀ h ∈ hs, h.host.length ≤ 1000 ∧ 0 ≤ h.ad.lo) : RC Tryz.prog 13 #[.agg (iM v A l.length c).toArray, .slice Q hs.length qc] [Ch.rd A 7 dB l, Ch.rall (l.flatMap e6), Ch.rd Q 4 hdC hs] (α := {o : Option Ixd // (o = none → ¬ bU (l.map (·.e)) hs) ∧ ∀ x, o = some x → bU (l.map (·.e)) hs ∧ IxOk2 l hs x}) (fun o => ixV o.1) (fun o => [Ch.rall (ixD o.1)]) := by
 refine bx (args := [.agg (iM v A l.length c).toArray, .slice Q hs.length qc]) 142 Tryz.func13 rfl rfl rfl (fun w0 => ?_)
 refine ar ?_
 refine ai ?_
 refine cv rfl rfl rfl (fun b1 => ?_)
 refine au (ao rfl) rfl rfl ?_
 refine au (ao rfl) rfl rfl ?_
 refine ah ?_
 refine aq ?_
 refine ar ?_
 refine ar ?_
 refine ai ?_
 refine au (a6 0 dh rfl rfl rfl rfl) rfl rfl ?_
 refine bp rfl ent_61 rfl (gz _ _ _ _ hok (by omega)) (fun w hw => (aO (bJ 0 rfl hw) (aO (bJ 1 rfl hw) bd))) ?_
 refine au (ao rfl) rfl rfl ?_
 refine ah ?_
 refine aq ?_
 refine ar ?_
 refine ai ?_
 refine au (ap rfl) rfl rfl ?_
 refine au (bX rfl rfl) rfl rfl ?_
 refine dJ (t := 21) rfl (by omega) ?_
 refine ah ?_
 refine aq ?_
 refine aC rfl ?_
 refine aS ?_
 refine aq ?_
 refine ar ?_
 refine ai ?_
 refine eo fL fh rfl (fun r1 => ?_)
 refine eo fL eY rfl (fun r2 => ?_)
 refine eo eY fh rfl (fun r3 => ?_)
 refine au (dW rfl (jM _ _ _)) rfl rfl ?_
 refine cv rfl rfl rfl (fun b5 => ?_)
 refine au (ao rfl) rfl rfl ?_
 refine ah ?_
 refine aq ?_
 refine ar ?_
 refine ar ?_
 refine ai ?_
 refine au (aD cw rfl) rfl rfl ?_
 refine au (aM 4 bZ rfl rfl rfl) rfl rfl ?_
 refine au (bg Tryz.underlying22 rfl) rfl rfl ?_
 refine au (ap rfl) rfl rfl ?_
 refine ah ?_
 refine aq ?_
 refine aW ?_
 refine bF (fun w h => h.nilsl 34 7) ?_
 refine bF (fun w h => h.rall0) ?_
 refine w_loopL (σ := Nat × List Le × Option Addr × Nat × List (bf × Le)) [9, 31, 32, 33, 34, 35, 36, 37, 38, 39, 40, 41, 42, 43, 44, 45, 46, 47, 48, 49, 50, 51, 52, 53, 54, 55] (fun q => q.1 ≤ l.length ∧ q.2.1.map (·.e) = (l.take q.1).map (·.e) ∧ HmOk q.2.2.2.2 q.2.1) (fun q => l.length - q.1) (fun q => [(31, .int .i64 q.1)]) (fun q => [Ch.rall (q.2.1.flatMap e6), Ch.ls q.2.2.1 q.2.2.2.1 34 7 dB q.2.1, Ch.row b5 [.slice q.2.2.1 q.2.1.length q.2.2.2.1, .map (some r1), .map (some r2), .map (some r3)] 122, Ch.mp r3 eY fh [], Ch.mp r2 fL eY [], Ch.mp r1 fL fh q.2.2.2.2]) ((0, [], none, 0, [])) ?_ ⟨rfl, trivial⟩ rfl (fun q hI => ?_)
 ·exact ⟨Nat.zero_le _, rfl, hm_nil⟩
 obtain ⟨k, lc, Ax, cx, hm⟩ := q
 dsimp only at hI ⊢
 refine ar ?_
 refine ai ?_
 refine au (bI rfl rfl) rfl rfl ?_
 refine aB (t := 32) rfl (fun h6_0 => ?_) (fun h6_0 => ?_)
 ·skip
  have hk : k < l.length := by omega
  have hb9 := hok.at hk
  have hlc := fG hI.2.1
  refine ah ?_
  refine aq ?_
  refine ar ?_
  refine aA rfl ?_
  refine aS ?_
  refine aq ?_
  refine ar ?_
  refine aW ?_
  refine ar ?_
  refine ai ?_
  refine au (bz  Tryz.underlying22 aR rfl rfl (bE 0 rfl) rfl (by omega)) rfl rfl ?_
  refine au (bW cj br aR rfl (bE 0 rfl) (by omega) rfl rfl rfl) rfl rfl ?_
  refine bj aR rfl rfl (fun b6 => ?_)
  refine a0 aR rfl rfl rfl .z rfl rfl rfl rfl ?_
  refine ah ?_
  refine aq ?_
  refine ar ?_
  refine ai ?_
  refine au (a6 0 aR rfl rfl rfl rfl) rfl rfl ?_
  refine gH rfl ent_69 rfl (jn _ _ _ _ _ (by have := hb9.la; omega) (by have := hb9.lp; omega)) (fun w hw => (aO (bG (bJ 1 rfl hw) (bL (bA (by omega)) _ (gD _))) (aO (bG (bJ 1 rfl hw) (bL (bA (by omega)) _ (jA _))) bd))) (fun ⟨A6, c6, B6, d6⟩ => ?_)
  refine a0 aR rfl rfl rfl (.s (.s (.z))) rfl rfl rfl rfl ?_
  refine ah ?_
  refine aq ?_
  refine ar ?_
  refine gp 7 cu ?_
  refine aL (i := 1) rfl aj (ap rfl) aE aE rfl (aa (ae (aa (ak (ae (aa av)))))) (by kernel_rfl) rfl ?_
  refine aL (i := 2) rfl aj (bh rfl) aE aE rfl (aa (ae (aa (ak (ae (aa av)))))) (by kernel_rfl) rfl ?_
  refine aL (i := 3) rfl aj (aD dZ rfl) aE aE rfl (aa (ae (aa (ak (ae (aa av)))))) (by kernel_rfl) rfl ?_
  refine aL (i := 4) rfl aj (aM 5 bZ rfl rfl rfl) aE aE rfl (aa (ae (aa (ak (ae (aa av)))))) (by kernel_rfl) rfl ?_
  refine aL (i := 5) rfl aj (a6 2 aR rfl rfl rfl rfl) aE aE rfl (aa (ae (aa (ak (ae (aa av)))))) (by kernel_rfl) rfl ?_
  refine f6 (js := [0, 6]) (by kernel_rfl) rfl ?_
  refine cV (i := 0) rfl rfl ?_ ?_
  ·skip
   refine au (ap rfl) rfl rfl ?_
   refine ah ?_
   refine bR aE ?_
   refine bQ (i := 6) rfl (by kernel_rfl) rfl ?_
   refine cD (vs := [_]) ([(⟨(l.getD k br).e, A6, c6, B6, d6⟩ : Le)] : List (Le)) cj Tryz.underlying22 aR rfl rfl rfl rfl rfl rfl (fun As8 => ?_)
   refine ah ?_
   refine bR (fun w h => h.weak (.cons _ (List.Sublist.refl _)) (fun s hs => hs)) ?_
   refine bQ (i := 7) rfl (by kernel_rfl) rfl ?_
   refine cC (enc := dB) (sz := 7) [(⟨(l.getD k br).e, A6, c6, B6, d6⟩ : Le)] Tryz.underlying22 aR rfl rfl rfl (fun A c => (.s (.s (.s (.s (.s (.z))))))) (d5 0 Tryz.underlying22 rfl) (by simp only [List.length_cons, List.length_nil, Nat.zero_add]; omega) (by simp only [List.length_cons, List.length_nil, Nat.zero_add]; omega) rfl (fun A8 c8 => ?_)
   refine ah ?_
   refine bY rfl ?_
   refine bQ (i := 8) rfl (by kernel_rfl) rfl ?_
   refine au (bh rfl) rfl rfl ?_
   refine ah ?_
   refine bY rfl ?_
   refine bQ (i := 9) rfl (by kernel_rfl) rfl ?_
   refine au (aD dZ rfl) rfl rfl ?_
   refine ah ?_
   refine bY rfl ?_
   refine bQ (i := 10) rfl (by kernel_rfl) rfl ?_
   refine a0 bZ rfl rfl rfl (.s (.s (.s (.s (.s (.s (.z))))))) rfl rfl rfl rfl ?_
   refine ah ?_
   refine bY rfl ?_
   refine cr (by kernel_rfl) ?_
   refine aq ?_
   refine gp 7 cu ?_
   refine aL (i := 0) rfl aj (ap rfl) aE aE rfl (ae (aa (ak (ae (aa av))))) (by kernel_rfl) rfl ?_
   refine aL (i := 1) rfl aj (bh rfl) aE aE rfl (ae (aa (ak (ae (aa av))))) (by kernel_rfl) rfl ?_
   refine aL (i := 2) rfl aj (aD eL rfl) aE aE rfl (ae (aa (ak (ae (aa av))))) (by kernel_rfl) rfl ?_
   refine aL (i := 3) rfl aj (aM 6 gA rfl rfl rfl) aE aE rfl (ae (aa (ak (ae (aa av))))) (by kernel_rfl) rfl ?_
   refine aL (i := 4) rfl aj (a6 3 aR rfl rfl rfl rfl) aE aE rfl (ae (aa (ak (ae (aa av))))) (by kernel_rfl) rfl ?_
   refine aL (i := 6) rfl aj (a6 3 aR rfl rfl rfl rfl) aE aE rfl (ae (aa (ak (ae (aa av))))) (by kernel_rfl) rfl ?_
   refine bQ (i := 5) rfl (by kernel_rfl) rfl ?_
   refine bb rfl dM (cI _ _ _ _ _ (by have := hb9.h; omega)) rfl ?_
   refine ah ?_
   refine bR aE ?_
   refine bQ (i := 7) rfl (by kernel_rfl) rfl ?_
   refine dr rfl hX rfl (iN hm r1 _ (⟨(l.getD k br).e, A6, c6, B6, d6⟩ : Le)) (fun o => (.s (.s (.s (.s (.s (.s (.s (.s (.s (.z))))))))))) (List.mem_of_getElem? (i := 9) rfl) (fun s hs => nomatch hs) (fun o9 => ?_)
   refine ah ?_
   refine bY rfl ?_
   refine cr (by kernel_rfl) ?_
   refine bo ?_
   refine aq ?_
   refine ai ?_
   refine au (bl rfl rfl (by omega) (by omega)) rfl rfl ?_
   refine au (ap rfl) rfl rfl ?_
   refine ah ?_
   refine bq ((k + 1, lc ++ [(⟨(l.getD k br).e, A6, c6, B6, d6⟩ : Le)], A8, c8, fM hm (aX (l.getD k br).e.host) (⟨(l.getD k br).e, A6, c6, B6, d6⟩ : Le))) ?_ ?_ ⟨rfl, trivial⟩ (by repeat (first | exact trivial | refine ⟨rfl, ?_⟩)) (fun w h => by
  have h2 := (h.weak (.cons _ (.cons_cons _ (.cons_cons _ (.cons _ (List.Sublist.refl _))))) (fun s hs => hs)).intoE
  show Hp _ _ (Ch.rall ((lc ++ [_]).flatMap e6) :: _) _ _
  rw [List.flatMap_append, List.flatMap_singleton]
  exact h2)
   ·exact ⟨by show k + 1 ≤ _; omega, by show (lc ++ [_]).map _ = (l.take (k + 1)).map _; rw [List.map_append, hI.2.1, bK l br k hk, List.map_append]; rfl, hm_put hI.2.2 (⟨(l.getD k br).e, A6, c6, B6, d6⟩ : Le)⟩
   ·show l.length - (k + 1) < l.length - k
    omega
  refine cV (i := 6) rfl rfl ?_ ?_
  ·skip
   refine cD (vs := [_]) ([(⟨(l.getD k br).e, A6, c6, B6, d6⟩ : Le)] : List (Le)) cj Tryz.underlying22 aR rfl rfl rfl rfl rfl rfl (fun As11 => ?_)
   refine ah ?_
   refine bR (fun w h => h.weak (.cons _ (List.Sublist.refl _)) (fun s hs => hs)) ?_
   refine f6 (js := [0, 7]) (by kernel_rfl) rfl ?_
   refine cV (i := 0) rfl rfl ?_ ?_
   ·skip
    refine au (ap rfl) rfl rfl ?_
    refine ah ?_
    refine bR (fun w h => h.weak (.cons _ (List.Sublist.refl _)) (fun s hs => hs)) ?_
    refine bQ (i := 7) rfl (by kernel_rfl) rfl ?_
    refine cC (enc := dB) (sz := 7) [(⟨(l.getD k br).e, A6, c6, B6, d6⟩ : Le)] Tryz.underlying22 aR rfl rfl rfl (fun A c => (.s (.s (.s (.s (.s (.z))))))) (d5 0 Tryz.underlying22 rfl) (by simp only [List.length_cons, List.length_nil, Nat.zero_add]; omega) (by simp only [List.length_cons, List.length_nil, Nat.zero_add]; omega) rfl (fun A11 c11 => ?_)
    refine ah ?_
    refine bY rfl ?_
    refine bQ (i := 8) rfl (by kernel_rfl) rfl ?_
    refine au (bh rfl) rfl rfl ?_
    refine ah ?_
    refine bY rfl ?_
    refine bQ (i := 9) rfl (by kernel_rfl) rfl ?_
    refine au (aD dZ rfl) rfl rfl ?_
    refine ah ?_
    refine bY rfl ?_
    refine bQ (i := 10) rfl (by kernel_rfl) rfl ?_
    refine a0 bZ rfl rfl rfl (.s (.s (.s (.s (.s (.s (.z))))))) rfl rfl rfl rfl ?_
    refine ah ?_
    refine bY rfl ?_
    refine cr (by kernel_rfl) ?_
    refine aq ?_
    refine gp 7 cu ?_
    refine aL (i := 0) rfl aj (ap rfl) aE aE rfl (ae (aa (ak (ae (aa av))))) (by kernel_rfl) rfl ?_
    refine aL (i := 1) rfl aj (bh rfl) aE aE rfl (ae (aa (ak (ae (aa av))))) (by kernel_rfl) rfl ?_
    refine aL (i := 2) rfl aj (aD eL rfl) aE aE rfl (ae (aa (ak (ae (aa av))))) (by kernel_rfl) rfl ?_
    refine aL (i := 3) rfl aj (aM 6 gA rfl rfl rfl) aE aE rfl (ae (aa (ak (ae (aa av))))) (by kernel_rfl) rfl ?_
    refine aL (i := 4) rfl aj (a6 3 aR rfl rfl rfl rfl) aE aE rfl (ae (aa (ak (ae (aa av))))) (by kernel_rfl) rfl ?_
    refine aL (i := 6) rfl aj (a6 3 aR rfl rfl rfl rfl) aE aE rfl (ae (aa (ak (ae (aa av))))) (by kernel_rfl) rfl ?_
    refine bQ (i := 5) rfl (by kernel_rfl) rfl ?_
    refine bb rfl dM (cI _ _ _ _ _ (by have := hb9.h; omega)) rfl ?_
    refine ah ?_
    refine bR aE ?_
    refine bQ (i := 7) rfl (by kernel_rfl) rfl ?_
    refine dr rfl hX rfl (iN hm r1 _ (⟨(l.getD k br).e, A6, c6, B6, d6⟩ : Le)) (fun o => (.s (.s (.s (.s (.s (.s (.s (.s (.s (.z))))))))))) (List.mem_of_getElem? (i := 9) rfl) (fun s hs => nomatch hs) (fun o12 => ?_)
    refine ah ?_
    refine bY rfl ?_
    refine cr (by kernel_rfl) ?_
    refine bo ?_
    refine aq ?_
    refine ai ?_
    refine au (bl rfl rfl (by omega) (by omega)) rfl rfl ?_
    refine au (ap rfl) rfl rfl ?_
    refine ah ?_
    refine bq ((k + 1, lc ++ [(⟨(l.getD k br).e, A6, c6, B6, d6⟩ : Le)], A11, c11, fM hm (aX (l.getD k br).e.host) (⟨(l.getD k br).e, A6, c6, B6, d6⟩ : Le))) ?_ ?_ ⟨rfl, trivial⟩ (by repeat (first | exact trivial | refine ⟨rfl, ?_⟩)) (fun w h => by
  have h2 := (h.weak (.cons _ (.cons_cons _ (.cons_cons _ (.cons _ (List.Sublist.refl _))))) (fun s hs => hs)).intoE
  show Hp _ _ (Ch.rall ((lc ++ [_]).flatMap e6) :: _) _ _
  rw [List.flatMap_append, List.flatMap_singleton]
  exact h2)
    ·exact ⟨by show k + 1 ≤ _; omega, by show (lc ++ [_]).map _ = (l.take (k + 1)).map _; rw [List.map_append, hI.2.1, bK l br k hk, List.map_append]; rfl, hm_put hI.2.2 (⟨(l.getD k br).e, A6, c6, B6, d6⟩ : Le)⟩
    ·show l.length - (k + 1) < l.length - k
     omega
   refine cV (i := 7) rfl rfl ?_ ?_
   ·skip
    refine cC (enc := dB) (sz := 7) [(⟨(l.getD k br).e, A6, c6, B6, d6⟩ : Le)] Tryz.underlying22 aR rfl rfl rfl (fun A c => (.s (.s (.s (.s (.s (.z))))))) (d5 0 Tryz.underlying22 rfl) (by simp only [List.length_cons, List.length_nil, Nat.zero_add]; omega) (by simp only [List.length_cons, List.length_nil, Nat.zero_add]; omega) rfl (fun A13 c13 => ?_)
    refine ah ?_
    refine bY rfl ?_
    refine bQ (i := 0) rfl (by kernel_rfl) rfl ?_
    refine au (ap rfl) rfl rfl ?_
    refine ah ?_
    refine bY rfl ?_
    refine bQ (i := 8) rfl (by kernel_rfl) rfl ?_
    refine au (bh rfl) rfl rfl ?_
    refine ah ?_
    refine bY rfl ?_
    refine bQ (i := 9) rfl (by kernel_rfl) rfl ?_
    refine au (aD dZ rfl) rfl rfl ?_
    refine ah ?_
    refine bY rfl ?_
    refine bQ (i := 10) rfl (by kernel_rfl) rfl ?_
    refine a0 bZ rfl rfl rfl (.s (.s (.s (.s (.s (.s (.z))))))) rfl rfl rfl rfl ?_
    refine ah ?_
    refine bY rfl ?_
    refine cr (by kernel_rfl) ?_
    refine aq ?_
    refine gp 7 cu ?_
    refine aL (i := 0) rfl aj (ap rfl) aE aE rfl (ae (aa (ak (ae (aa av))))) (by kernel_rfl) rfl ?_
    refine aL (i := 1) rfl aj (bh rfl) aE aE rfl (ae (aa (ak (ae (aa av))))) (by kernel_rfl) rfl ?_
    refine aL (i := 2) rfl aj (aD eL rfl) aE aE rfl (ae (aa (ak (ae (aa av))))) (by kernel_rfl) rfl ?_
    refine aL (i := 3) rfl aj (aM 6 gA rfl rfl rfl) aE aE rfl (ae (aa (ak (ae (aa av))))) (by kernel_rfl) rfl ?_
    refine aL (i := 4) rfl aj (a6 3 aR rfl rfl rfl rfl) aE aE rfl (ae (aa (ak (ae (aa av))))) (by kernel_rfl) rfl ?_
    refine aL (i := 6) rfl aj (a6 3 aR rfl rfl rfl rfl) aE aE rfl (ae (aa (ak (ae (aa av))))) (by kernel_rfl) rfl ?_
    refine bQ (i := 5) rfl (by kernel_rfl) rfl ?_
    refine bb rfl dM (cI _ _ _ _ _ (by have := hb9.h; omega)) rfl ?_
    refine ah ?_
    refine bR aE ?_
    refine bQ (i := 7) rfl (by kernel_rfl) rfl ?_
    refine dr rfl hX rfl (iN hm r1 _ (⟨(l.getD k br).e, A6, c6, B6, d6⟩ : Le)) (fun o => (.s (.s (.s (.s (.s (.s (.s (.s (.s (.z))))))))))) (List.mem_of_getElem? (i := 9) rfl) (fun s hs => nomatch hs) (fun o14 => ?_)
    refine ah ?_
    refine bY rfl ?_
    refine cr (by kernel_rfl) ?_
    refine bo ?_
    refine aq ?_
    refine ai ?_
    refine au (bl rfl rfl (by omega) (by omega)) rfl rfl ?_
    refine au (ap rfl) rfl rfl ?_
    refine ah ?_
    refine bq ((k + 1, lc ++ [(⟨(l.getD k br).e, A6, c6, B6, d6⟩ : Le)], A13, c13, fM hm (aX (l.getD k br).e.host) (⟨(l.getD k br).e, A6, c6, B6, d6⟩ : Le))) ?_ ?_ ⟨rfl, trivial⟩ (by repeat (first | exact trivial | refine ⟨rfl, ?_⟩)) (fun w h => by
  have h2 := (h.weak (.cons _ (.cons_cons _ (.cons_cons _ (.cons _ (List.Sublist.refl _))))) (fun s hs => hs)).intoE
  show Hp _ _ (Ch.rall ((lc ++ [_]).flatMap e6) :: _) _ _
  rw [List.flatMap_append, List.flatMap_singleton]
  exact h2)
    ·exact ⟨by show k + 1 ≤ _; omega, by show (lc ++ [_]).map _ = (l.take (k + 1)).map _; rw [List.map_append, hI.2.1, bK l br k hk, List.map_append]; rfl, hm_put hI.2.2 (⟨(l.getD k br).e, A6, c6, B6, d6⟩ : Le)⟩
    ·show l.length - (k + 1) < l.length - k
     omega
   exact ff
  exact ff
 ·skip
  refine ah ?_
  refine aq ?_
  refine ar ?_
  refine aC rfl ?_
  refine bw ?_
  refine aY ?_
  refine aZ ?_
  refine a7 ?_
  refine aq ?_
  refine ar ?_
  refine ar ?_
  have hkl : k = l.length := by omega
  subst hkl
  have hI9 : lc.map (·.e) = l.map (·.e) := by rw [hI.2.1, List.take_length]
  have hI8 := hI.2.2
  have hlc := fG hI.2.1
  refine ai ?_
  refine au (ap rfl) rfl rfl ?_
  refine au (bg Tryz.underlying25 rfl) rfl rfl ?_
  refine au (ap rfl) rfl rfl ?_
  refine ah ?_
  refine aq ?_
  refine aW ?_
  refine bF (fun w h => h.f4) ?_
  refine bF (fun w h => h.f4) ?_
  refine w_loop2 (σ := Nat × List (bf × Ad) × List (Ad × Le)) [4, 5, 11, 12, 13, 58, 59, 60, 61, 62, 63, 64, 65, 66, 67, 68, 69, 70, 71, 72, 73, 74, 75, 76, 77, 78, 79, 80, 81, 82, 83, 84, 85, 86, 87, 88, 89, 90, 91, 92, 93, 94, 95, 96, 97, 98, 99, 100, 101, 102, 103, 104, 105, 106, 107, 108, 109, 110, 111, 112, 113, 114, 115] (fun q => q.1 ≤ hs.length ∧ (∀ i, i < q.1 → okH (l.map (·.e)) (hs.take i) (hs.getD i dG)) ∧ DmOk q.2.1 (hs.take q.1) ∧ jX q.2.2 hm (hs.take q.1)) (fun q => hs.length - q.1) (fun q => [(58, .int .i64 q.1)]) (fun q => Ch.mp r3 eY fh q.2.2) (fun q => Ch.mp r2 fL eY q.2.1) ((0, [], [])) ?_ ⟨rfl, trivial⟩ rfl rfl (fun q hI => ?_)
  ·exact ⟨Nat.zero_le _, nofun, dm_nil, am_nil hm⟩
  obtain ⟨i, dm, am⟩ := q
  dsimp only at hI ⊢
  refine ar ?_
  refine ai ?_
  refine au (bI rfl rfl) rfl rfl ?_
  refine aB (t := 59) rfl (fun h13_0 => ?_) (fun h13_0 => ?_)
  ·skip
   have hi : i < hs.length := by omega
   have hih := hhh _ (bA (d := dG) hi)
   have hil := hih.1
   refine ah ?_
   refine aq ?_
   refine ar ?_
   refine aA rfl ?_
   refine aS ?_
   refine aq ?_
   refine ar ?_
   refine aW ?_
   refine ar ?_
   refine ai ?_
   refine au (bz  Tryz.underlying25 e7 rfl rfl (bE 2 rfl) rfl (by omega)) rfl rfl ?_
   refine au (bW eU dG e7 rfl (bE 2 rfl) (by omega) rfl rfl rfl) rfl rfl ?_
   refine bj e7 rfl rfl (fun b16 => ?_)
   refine a0 e7 rfl rfl rfl .z rfl rfl rfl rfl ?_
   refine ah ?_
   refine aq ?_
   refine ar ?_
   refine gp 13 cu ?_
   refine aL (i := 0) rfl aj (ap rfl) aE aE rfl (aa (ae (aa (ak (ae (aa av)))))) (by kernel_rfl) rfl ?_
   refine aL (i := 1) rfl aj (bh rfl) aE aE rfl (aa (ae (aa (ak (ae (aa av)))))) (by kernel_rfl) rfl ?_
   refine aL (i := 2) rfl aj (aD eL rfl) aE aE rfl (aa (ae (aa (ak (ae (aa av)))))) (by kernel_rfl) rfl ?_
   refine aL (i := 3) rfl aj (aM 5 gA rfl rfl rfl) aE aE rfl (aa (ae (aa (ak (ae (aa av)))))) (by kernel_rfl) rfl ?_
   refine aL (i := 4) rfl aj (aD fC rfl) aE aE rfl (aa (ae (aa (ak (ae (aa av)))))) (by kernel_rfl) rfl ?_
   refine aL (i := 5) rfl aj (aM 0 bN rfl rfl rfl) aE aE rfl (aa (ae (aa (ak (ae (aa av)))))) (by kernel_rfl) rfl ?_
   refine f6 (js := [6, 11]) (by kernel_rfl) rfl ?_
   refine cV (i := 6) rfl rfl ?_ ?_
   ·skip
    refine bb rfl il (eW _ (by omega)) rfl ?_
    refine ah ?_
    refine bR aE ?_
    refine f6 (js := [7, 11]) (by kernel_rfl) rfl ?_
    refine cV (i := 7) rfl rfl ?_ ?_
    ·skip
     refine bp rfl eA rfl (fy hm r1 _) (fun w hw => (aO (dC 6 rfl hw) bd)) ?_
     refine ah ?_
     refine bR aE ?_
     refine aL (i := 8) rfl aj (ap rfl) aE aE rfl (aa (ae (aa (ak (ae (aa av)))))) (by kernel_rfl) rfl ?_
     refine aL (i := 9) rfl aj (aP rfl rfl) aE aE rfl (aa (ae (aa (ak (ae (aa av)))))) (by kernel_rfl) rfl ?_
     refine aL (i := 10) rfl aj (aP rfl rfl) aE aE rfl (aa (ae (aa (ak (ae (aa av)))))) (by kernel_rfl) rfl ?_
     refine ew (t := 72) rfl (fun h15_10 => ?_) (fun h15_10 => ?_)
     ·skip
      have hfm := jW hI8 h15_10
      have hbf := es_bnd hI9 hok hfm.1
      refine bQ (i := 11) rfl (by kernel_rfl) rfl ?_
      refine bj aR rfl rfl (fun b17 => ?_)
      refine ah ?_
      refine bR (fun w h => h.weak (.cons _ (List.Sublist.refl _)) (fun s hs => hs)) ?_
      refine bQ (i := 12) rfl (by kernel_rfl) rfl ?_
      refine a0 aR rfl rfl rfl .z rfl rfl rfl rfl ?_
      refine ah ?_
      refine bR (fun w h => h.weak (.cons _ (List.Sublist.refl _)) (fun s hs => hs)) ?_
      refine bQ (i := 13) rfl (by kernel_rfl) rfl ?_
      refine au (ao rfl) rfl rfl ?_
      refine ah ?_
      refine bY rfl ?_
      refine cr (by kernel_rfl) ?_
      refine aq ?_
      refine ar ?_
      refine gl 42 cu (fun w h => ((h.anymp (.s (.s (.s (.z))))).anymp (.s (.s (.z))))) ?_
      refine aL (i := 0) rfl aj (ap rfl) (fun w h => ((h.anymp (.s (.s (.s (.z))))).anymp (.s (.s (.z))))) aE rfl (aa (ae (aa (ak (ae (aa av)))))) (by kernel_rfl) rfl ?_
      refine aL (i := 1) rfl aj (bC rfl) (fun w h => ((h.anymp (.s (.s (.s (.z))))).anymp (.s (.s (.z))))) aE rfl (aa (ae (aa (ak (ae (aa av)))))) (by kernel_rfl) rfl ?_
      refine aL (i := 2) rfl aj (ap rfl) (fun w h => ((h.anymp (.s (.s (.s (.z))))).anymp (.s (.s (.z))))) aE rfl (aa (ae (aa (ak (ae (aa av)))))) (by kernel_rfl) rfl ?_
      refine aL (i := 3) rfl (aJ rfl rfl) (aD fC rfl) (fun w h => ((h.anymp (.s (.s (.s (.z))))).anymp (.s (.s (.z))))) aE rfl (aa (ae (aa (ak (ae (aa av)))))) (by kernel_rfl) rfl ?_
      refine aL (i := 4) rfl (aJ rfl rfl) (aM 1 bN rfl rfl rfl) (fun w h => ((h.anymp (.s (.s (.s (.z))))).anymp (.s (.s (.z))))) aE rfl (aa (ae (aa (ak (ae (aa av)))))) (by kernel_rfl) rfl ?_
      refine bQ (i := 5) rfl (by kernel_rfl) rfl ?_
      refine az rfl rfl ?_
      refine bb rfl fK (cX _) rfl ?_
      refine ah ?_
      refine bR (fun w h => ((h.anymp (.s (.s (.s (.z))))).anymp (.s (.s (.z))))) ?_
      refine aL (i := 6) rfl (aJ rfl rfl) (bX rfl rfl) (fun w h => ((h.anymp (.s (.s (.s (.z))))).anymp (.s (.s (.z))))) aE rfl (aa (ae (aa (ak (ae (aa av)))))) (by kernel_rfl) rfl ?_
      refine eu (t := 79) rfl (fun h16_6 => ?_) (fun h16_6 => ?_)
      ·skip
       refine aL (i := 7) rfl aj (aI rfl rfl) (fun w h => ((h.anymp (.s (.s (.s (.z))))).anymp (.s (.s (.z))))) aE rfl (aa (ae (aa (ak (ae (aa av)))))) (by kernel_rfl) rfl ?_
       refine aL (i := 8) rfl aj (ap rfl) (fun w h => ((h.anymp (.s (.s (.s (.z))))).anymp (.s (.s (.z))))) aE rfl (aa (ae (aa (ak (ae (aa av)))))) (by kernel_rfl) rfl ?_
       refine aH (i := 9) rfl (aw rfl rfl rfl) (fun w h => ((h.anymp (.s (.s (.s (.z))))).anymp (.s (.s (.z))))) rfl (aa (ae (aa (ak (ae (aa av)))))) (by kernel_rfl) rfl ?_
       refine aH (i := 10) rfl (aw rfl rfl rfl) (fun w h => ((h.anymp (.s (.s (.s (.z))))).anymp (.s (.s (.z))))) rfl (aa (ae (aa (ak (ae (aa av)))))) (by kernel_rfl) rfl ?_
       refine aH (i := 11) rfl (aw rfl rfl rfl) (fun w h => ((h.anymp (.s (.s (.s (.z))))).anymp (.s (.s (.z))))) rfl (aa (ae (aa (ak (ae (aa av)))))) (by kernel_rfl) rfl ?_
       refine aL (i := 12) rfl aj (aG rfl rfl) (fun w h => ((h.anymp (.s (.s (.s (.z))))).anymp (.s (.s (.z))))) aE rfl (aa (ae (aa (ak (ae (aa av)))))) (by kernel_rfl) rfl ?_
       refine aL (i := 13) rfl aj (ap rfl) (fun w h => ((h.anymp (.s (.s (.s (.z))))).anymp (.s (.s (.z))))) aE rfl (aa (ae (aa (ak (ae (aa av)))))) (by kernel_rfl) rfl ?_
       refine aH (i := 14) rfl (aw rfl rfl rfl) (fun w h => ((h.anymp (.s (.s (.s (.z))))).anymp (.s (.s (.z))))) rfl (aa (ae (aa (ak (ae (aa av)))))) (by kernel_rfl) rfl ?_
       refine aH (i := 15) rfl (aw rfl rfl rfl) (fun w h => ((h.anymp (.s (.s (.s (.z))))).anymp (.s (.s (.z))))) rfl (aa (ae (aa (ak (ae (aa av)))))) (by kernel_rfl) rfl ?_
       refine aH (i := 16) rfl (aw rfl rfl rfl) (fun w h => ((h.anymp (.s (.s (.s (.z))))).anymp (.s (.s (.z))))) rfl (aa (ae (aa (ak (ae (aa av)))))) (by kernel_rfl) rfl ?_
       refine aH (i := 17) rfl (aw rfl rfl rfl) (fun w h => ((h.anymp (.s (.s (.s (.z))))).anymp (.s (.s (.z))))) rfl (aa (ae (aa (ak (ae (aa av)))))) (by kernel_rfl) rfl ?_
       refine aL (i := 18) rfl aj (aG rfl rfl) (fun w h => ((h.anymp (.s (.s (.s (.z))))).anymp (.s (.s (.z))))) aE rfl (aa (ae (aa (ak (ae (aa av)))))) (by kernel_rfl) rfl ?_
       refine aL (i := 19) rfl aj (ap rfl) (fun w h => ((h.anymp (.s (.s (.s (.z))))).anymp (.s (.s (.z))))) aE rfl (aa (ae (aa (ak (ae (aa av)))))) (by kernel_rfl) rfl ?_
       refine aH (i := 20) rfl (aw rfl rfl rfl) (fun w h => ((h.anymp (.s (.s (.s (.z))))).anymp (.s (.s (.z))))) rfl (aa (ae (aa (ak (ae (aa av)))))) (by kernel_rfl) rfl ?_
       refine aH (i := 21) rfl (aw rfl rfl rfl) (fun w h => ((h.anymp (.s (.s (.s (.z))))).anymp (.s (.s (.z))))) rfl (aa (ae (aa (ak (ae (aa av)))))) (by kernel_rfl) rfl ?_
       refine aH (i := 22) rfl (aw rfl rfl rfl) (fun w h => ((h.anymp (.s (.s (.s (.z))))).anymp (.s (.s (.z))))) rfl (aa (ae (aa (ak (ae (aa av)))))) (by kernel_rfl) rfl ?_
       refine aH (i := 23) rfl (aw rfl rfl rfl) (fun w h => ((h.anymp (.s (.s (.s (.z))))).anymp (.s (.s (.z))))) rfl (aa (ae (aa (ak (ae (aa av)))))) (by kernel_rfl) rfl ?_
       refine aH (i := 24) rfl (aw rfl rfl rfl) (fun w h => ((h.anymp (.s (.s (.s (.z))))).anymp (.s (.s (.z))))) rfl (aa (ae (aa (ak (ae (aa av)))))) (by kernel_rfl) rfl ?_
       refine aH (i := 26) rfl (aw rfl rfl rfl) (fun w h => ((h.anymp (.s (.s (.s (.z))))).anymp (.s (.s (.z))))) rfl (aa (ae (aa (ak (ae (aa av)))))) (by kernel_rfl) rfl ?_
       refine aH (i := 27) rfl (aw rfl rfl rfl) (fun w h => ((h.anymp (.s (.s (.s (.z))))).anymp (.s (.s (.z))))) rfl (aa (ae (aa (ak (ae (aa av)))))) (by kernel_rfl) rfl ?_
       refine aH (i := 25) rfl (aw rfl rfl rfl) (fun w h => ((h.anymp (.s (.s (.s (.z))))).anymp (.s (.s (.z))))) rfl (aa (ae (aa (ak (ae (aa av)))))) (by kernel_rfl) rfl ?_
       refine aH (i := 28) rfl (aw rfl rfl rfl) (fun w h => ((h.anymp (.s (.s (.s (.z))))).anymp (.s (.s (.z))))) rfl (aa (ae (aa (ak (ae (aa av)))))) (by kernel_rfl) rfl ?_
       refine aH (i := 29) rfl (aw rfl rfl rfl) (fun w h => ((h.anymp (.s (.s (.s (.z))))).anymp (.s (.s (.z))))) rfl (aa (ae (aa (ak (ae (aa av)))))) (by kernel_rfl) rfl ?_
       refine aL (i := 30) rfl aj (aG rfl rfl) (fun w h => ((h.anymp (.s (.s (.s (.z))))).anymp (.s (.s (.z))))) aE rfl (aa (ae (aa (ak (ae (aa av)))))) (by kernel_rfl) rfl ?_
       refine aL (i := 31) rfl aj (ap rfl) (fun w h => ((h.anymp (.s (.s (.s (.z))))).anymp (.s (.s (.z))))) aE rfl (aa (ae (aa (ak (ae (aa av)))))) (by kernel_rfl) rfl ?_
       refine aH (i := 32) rfl (aw rfl rfl rfl) (fun w h => ((h.anymp (.s (.s (.s (.z))))).anymp (.s (.s (.z))))) rfl (aa (ae (aa (ak (ae (aa av)))))) (by kernel_rfl) rfl ?_
       refine aH (i := 33) rfl (aw rfl rfl rfl) (fun w h => ((h.anymp (.s (.s (.s (.z))))).anymp (.s (.s (.z))))) rfl (aa (ae (aa (ak (ae (aa av)))))) (by kernel_rfl) rfl ?_
       refine aH (i := 34) rfl (aw rfl rfl rfl) (fun w h => ((h.anymp (.s (.s (.s (.z))))).anymp (.s (.s (.z))))) rfl (aa (ae (aa (ak (ae (aa av)))))) (by kernel_rfl) rfl ?_
       refine aH (i := 35) rfl (aw rfl rfl rfl) (fun w h => ((h.anymp (.s (.s (.s (.z))))).anymp (.s (.s (.z))))) rfl (aa (ae (aa (ak (ae (aa av)))))) (by kernel_rfl) rfl ?_
       refine aH (i := 36) rfl (aw rfl rfl rfl) (fun w h => ((h.anymp (.s (.s (.s (.z))))).anymp (.s (.s (.z))))) rfl (aa (ae (aa (ak (ae (aa av)))))) (by kernel_rfl) rfl ?_
       refine aH (i := 37) rfl (aw rfl rfl rfl) (fun w h => ((h.anymp (.s (.s (.s (.z))))).anymp (.s (.s (.z))))) rfl (aa (ae (aa (ak (ae (aa av)))))) (by kernel_rfl) rfl ?_
       refine aH (i := 38) rfl (aw rfl rfl rfl) (fun w h => ((h.anymp (.s (.s (.s (.z))))).anymp (.s (.s (.z))))) rfl (aa (ae (aa (ak (ae (aa av)))))) (by kernel_rfl) rfl ?_
       refine aH (i := 39) rfl (aw rfl rfl rfl) (fun w h => ((h.anymp (.s (.s (.s (.z))))).anymp (.s (.s (.z))))) rfl (aa (ae (aa (ak (ae (aa av)))))) (by kernel_rfl) rfl ?_
       refine aH (i := 40) rfl (aw rfl rfl rfl) (fun w h => ((h.anymp (.s (.s (.s (.z))))).anymp (.s (.s (.z))))) rfl (aa (ae (aa (ak (ae (aa av)))))) (by kernel_rfl) rfl ?_
       refine aL (i := 41) rfl aj (aG rfl rfl) (fun w h => ((h.anymp (.s (.s (.s (.z))))).anymp (.s (.s (.z))))) aE rfl (aa (ae (aa (ak (ae (aa av)))))) (by kernel_rfl) rfl ?_
       refine cr (by kernel_rfl) ?_
       refine aq ?_
       refine aA rfl ?_
       refine ar ?_
       refine ai ?_
       refine au (ao rfl) rfl rfl ?_
       refine au (ao rfl) rfl rfl ?_
       refine ah ?_
       refine aq ?_
       refine aQ ?_
       refine aK ?_
       refine ay ?_
       refine a9 ?_
       refine aK ?_
       refine ay ?_
       refine aV (ts := [4, 5]) rfl rfl rfl (fun w hw => ?_)
       have hno : ¬ bU (l.map (·.e)) hs := fun H => by
         obtain ⟨q1, ⟨e, q2, q3⟩, q4, q5, q6⟩ := H i hi
         exact h16_6 q1
       exact ⟨⟨none, fun _ => hno, nofun⟩, rfl, hw.base, ((hw.weak (List.nil_sublist _) (fun s hs => hs)).rall0).toNews⟩
      ·skip
       refine aL (i := 7) rfl aj (aI rfl rfl) (fun w h => ((h.anymp (.s (.s (.s (.z))))).anymp (.s (.s (.z))))) aE rfl (aa (ae (aa (ak (ae (aa av)))))) (by kernel_rfl) rfl ?_
       refine aL (i := 8) rfl aj (ap rfl) (fun w h => ((h.anymp (.s (.s (.s (.z))))).anymp (.s (.s (.z))))) aE rfl (aa (ae (aa (ak (ae (aa av)))))) (by kernel_rfl) rfl ?_
       refine aL (i := 9) rfl (aJ rfl rfl) (aD ea rfl) (fun w h => ((h.anymp (.s (.s (.s (.z))))).anymp (.s (.s (.z))))) aE rfl (aa (ae (aa (ak (ae (aa av)))))) (by kernel_rfl) rfl ?_
       refine aL (i := 10) rfl (aJ rfl rfl) (aM 0 de rfl rfl rfl) (fun w h => ((h.anymp (.s (.s (.s (.z))))).anymp (.s (.s (.z))))) aE rfl (aa (ae (aa (ak (ae (aa av)))))) (by kernel_rfl) rfl ?_
       refine aL (i := 11) rfl (aJ rfl rfl) (bX rfl rfl) (fun w h => ((h.anymp (.s (.s (.s (.z))))).anymp (.s (.s (.z))))) aE rfl (aa (ae (aa (ak (ae (aa av)))))) (by kernel_rfl) rfl ?_
       refine eu (t := 84) rfl (fun h16_11 => ?_) (fun h16_11 => ?_)
       ·skip
        refine aL (i := 12) rfl aj (aI rfl rfl) (fun w h => ((h.anymp (.s (.s (.s (.z))))).anymp (.s (.s (.z))))) aE rfl (aa (ae (aa (ak (ae (aa av)))))) (by kernel_rfl) rfl ?_
        refine aL (i := 13) rfl aj (ap rfl) (fun w h => ((h.anymp (.s (.s (.s (.z))))).anymp (.s (.s (.z))))) aE rfl (aa (ae (aa (ak (ae (aa av)))))) (by kernel_rfl) rfl ?_
        refine aH (i := 14) rfl (aw rfl rfl rfl) (fun w h => ((h.anymp (.s (.s (.s (.z))))).anymp (.s (.s (.z))))) rfl (aa (ae (aa (ak (ae (aa av)))))) (by kernel_rfl) rfl ?_
        refine aH (i := 15) rfl (aw rfl rfl rfl) (fun w h => ((h.anymp (.s (.s (.s (.z))))).anymp (.s (.s (.z))))) rfl (aa (ae (aa (ak (ae (aa av)))))) (by kernel_rfl) rfl ?_
        refine aH (i := 16) rfl (aw rfl rfl rfl) (fun w h => ((h.anymp (.s (.s (.s (.z))))).anymp (.s (.s (.z))))) rfl (aa (ae (aa (ak (ae (aa av)))))) (by kernel_rfl) rfl ?_
        refine aH (i := 17) rfl (aw rfl rfl rfl) (fun w h => ((h.anymp (.s (.s (.s (.z))))).anymp (.s (.s (.z))))) rfl (aa (ae (aa (ak (ae (aa av)))))) (by kernel_rfl) rfl ?_
        refine aL (i := 18) rfl aj (aG rfl rfl) (fun w h => ((h.anymp (.s (.s (.s (.z))))).anymp (.s (.s (.z))))) aE rfl (aa (ae (aa (ak (ae (aa av)))))) (by kernel_rfl) rfl ?_
        refine aL (i := 19) rfl aj (ap rfl) (fun w h => ((h.anymp (.s (.s (.s (.z))))).anymp (.s (.s (.z))))) aE rfl (aa (ae (aa (ak (ae (aa av)))))) (by kernel_rfl) rfl ?_
        refine aH (i := 20) rfl (aw rfl rfl rfl) (fun w h => ((h.anymp (.s (.s (.s (.z))))).anymp (.s (.s (.z))))) rfl (aa (ae (aa (ak (ae (aa av)))))) (by kernel_rfl) rfl ?_
        refine aH (i := 21) rfl (aw rfl rfl rfl) (fun w h => ((h.anymp (.s (.s (.s (.z))))).anymp (.s (.s (.z))))) rfl (aa (ae (aa (ak (ae (aa av)))))) (by kernel_rfl) rfl ?_
        refine aH (i := 22) rfl (aw rfl rfl rfl) (fun w h => ((h.anymp (.s (.s (.s (.z))))).anymp (.s (.s (.z))))) rfl (aa (ae (aa (ak (ae (aa av)))))) (by kernel_rfl) rfl ?_
        refine aH (i := 23) rfl (aw rfl rfl rfl) (fun w h => ((h.anymp (.s (.s (.s (.z))))).anymp (.s (.s (.z))))) rfl (aa (ae (aa (ak (ae (aa av)))))) (by kernel_rfl) rfl ?_
        refine aH (i := 24) rfl (aw rfl rfl rfl) (fun w h => ((h.anymp (.s (.s (.s (.z))))).anymp (.s (.s (.z))))) rfl (aa (ae (aa (ak (ae (aa av)))))) (by kernel_rfl) rfl ?_
        refine aH (i := 26) rfl (aw rfl rfl rfl) (fun w h => ((h.anymp (.s (.s (.s (.z))))).anymp (.s (.s (.z))))) rfl (aa (ae (aa (ak (ae (aa av)))))) (by kernel_rfl) rfl ?_
        refine aH (i := 27) rfl (aw rfl rfl rfl) (fun w h => ((h.anymp (.s (.s (.s (.z))))).anymp (.s (.s (.z))))) rfl (aa (ae (aa (ak (ae (aa av)))))) (by kernel_rfl) rfl ?_
        refine aH (i := 25) rfl (aw rfl rfl rfl) (fun w h => ((h.anymp (.s (.s (.s (.z))))).anymp (.s (.s (.z))))) rfl (aa (ae (aa (ak (ae (aa av)))))) (by kernel_rfl) rfl ?_
        refine aH (i := 28) rfl (aw rfl rfl rfl) (fun w h => ((h.anymp (.s (.s (.s (.z))))).anymp (.s (.s (.z))))) rfl (aa (ae (aa (ak (ae (aa av)))))) (by kernel_rfl) rfl ?_
        refine aH (i := 29) rfl (aw rfl rfl rfl) (fun w h => ((h.anymp (.s (.s (.s (.z))))).anymp (.s (.s (.z))))) rfl (aa (ae (aa (ak (ae (aa av)))))) (by kernel_rfl) rfl ?_
        refine aL (i := 30) rfl aj (aG rfl rfl) (fun w h => ((h.anymp (.s (.s (.s (.z))))).anymp (.s (.s (.z))))) aE rfl (aa (ae (aa (ak (ae (aa av)))))) (by kernel_rfl) rfl ?_
        refine aL (i := 31) rfl aj (ap rfl) (fun w h => ((h.anymp (.s (.s (.s (.z))))).anymp (.s (.s (.z))))) aE rfl (aa (ae (aa (ak (ae (aa av)))))) (by kernel_rfl) rfl ?_
        refine aH (i := 32) rfl (aw rfl rfl rfl) (fun w h => ((h.anymp (.s (.s (.s (.z))))).anymp (.s (.s (.z))))) rfl (aa (ae (aa (ak (ae (aa av)))))) (by kernel_rfl) rfl ?_
        refine aH (i := 33) rfl (aw rfl rfl rfl) (fun w h => ((h.anymp (.s (.s (.s (.z))))).anymp (.s (.s (.z))))) rfl (aa (ae (aa (ak (ae (aa av)))))) (by kernel_rfl) rfl ?_
        refine aH (i := 34) rfl (aw rfl rfl rfl) (fun w h => ((h.anymp (.s (.s (.s (.z))))).anymp (.s (.s (.z))))) rfl (aa (ae (aa (ak (ae (aa av)))))) (by kernel_rfl) rfl ?_
        refine aH (i := 35) rfl (aw rfl rfl rfl) (fun w h => ((h.anymp (.s (.s (.s (.z))))).anymp (.s (.s (.z))))) rfl (aa (ae (aa (ak (ae (aa av)))))) (by kernel_rfl) rfl ?_
        refine aH (i := 36) rfl (aw rfl rfl rfl) (fun w h => ((h.anymp (.s (.s (.s (.z))))).anymp (.s (.s (.z))))) rfl (aa (ae (aa (ak (ae (aa av)))))) (by kernel_rfl) rfl ?_
        refine aH (i := 37) rfl (aw rfl rfl rfl) (fun w h => ((h.anymp (.s (.s (.s (.z))))).anymp (.s (.s (.z))))) rfl (aa (ae (aa (ak (ae (aa av)))))) (by kernel_rfl) rfl ?_
        refine aH (i := 38) rfl (aw rfl rfl rfl) (fun w h => ((h.anymp (.s (.s (.s (.z))))).anymp (.s (.s (.z))))) rfl (aa (ae (aa (ak (ae (aa av)))))) (by kernel_rfl) rfl ?_
        refine aH (i := 39) rfl (aw rfl rfl rfl) (fun w h => ((h.anymp (.s (.s (.s (.z))))).anymp (.s (.s (.z))))) rfl (aa (ae (aa (ak (ae (aa av)))))) (by kernel_rfl) rfl ?_
        refine aH (i := 40) rfl (aw rfl rfl rfl) (fun w h => ((h.anymp (.s (.s (.s (.z))))).anymp (.s (.s (.z))))) rfl (aa (ae (aa (ak (ae (aa av)))))) (by kernel_rfl) rfl ?_
        refine aL (i := 41) rfl aj (aG rfl rfl) (fun w h => ((h.anymp (.s (.s (.s (.z))))).anymp (.s (.s (.z))))) aE rfl (aa (ae (aa (ak (ae (aa av)))))) (by kernel_rfl) rfl ?_
        refine cr (by kernel_rfl) ?_
        refine aq ?_
        refine aA rfl ?_
        refine ar ?_
        refine ai ?_
        refine au (ao rfl) rfl rfl ?_
        refine au (ao rfl) rfl rfl ?_
        refine ah ?_
        refine aq ?_
        refine aQ ?_
        refine aK ?_
        refine ay ?_
        refine a9 ?_
        refine aK ?_
        refine ay ?_
        refine aV (ts := [4, 5]) rfl rfl rfl (fun w hw => ?_)
        have hno : ¬ bU (l.map (·.e)) hs := fun H => by
          obtain ⟨q1, ⟨e, q2, q3⟩, q4, q5, q6⟩ := H i hi
          rw [iJ hI8 hI9 h15_10] at q2; rw [← Option.some.inj q2] at q3; exact h16_11 q3
        exact ⟨⟨none, fun _ => hno, nofun⟩, rfl, hw.base, ((hw.weak (List.nil_sublist _) (fun s hs => hs)).rall0).toNews⟩
       ·skip
        refine aL (i := 12) rfl aj (aI rfl rfl) (fun w h => ((h.anymp (.s (.s (.s (.z))))).anymp (.s (.s (.z))))) aE rfl (aa (ae (aa (ak (ae (aa av)))))) (by kernel_rfl) rfl ?_
        refine aL (i := 13) rfl aj (ap rfl) (fun w h => ((h.anymp (.s (.s (.s (.z))))).anymp (.s (.s (.z))))) aE rfl (aa (ae (aa (ak (ae (aa av)))))) (by kernel_rfl) rfl ?_
        refine aL (i := 14) rfl (aJ rfl rfl) (aD eb rfl) (fun w h => ((h.anymp (.s (.s (.s (.z))))).anymp (.s (.s (.z))))) aE rfl (aa (ae (aa (ak (ae (aa av)))))) (by kernel_rfl) rfl ?_
        refine aL (i := 15) rfl (aJ rfl rfl) (a6 1 bu rfl rfl rfl rfl) (fun w h => ((h.anymp (.s (.s (.s (.z))))).anymp (.s (.s (.z))))) aE rfl (aa (ae (aa (ak (ae (aa av)))))) (by kernel_rfl) rfl ?_
        refine bQ (i := 16) rfl (by kernel_rfl) rfl ?_
        refine az rfl rfl ?_
        refine bb rfl ent_75 (fd _ hih.2) rfl ?_
        refine ah ?_
        refine bR (fun w h => ((h.anymp (.s (.s (.s (.z))))).anymp (.s (.s (.z))))) ?_
        refine aL (i := 17) rfl (aJ rfl rfl) (bX rfl rfl) (fun w h => ((h.anymp (.s (.s (.s (.z))))).anymp (.s (.s (.z))))) aE rfl (aa (ae (aa (ak (ae (aa av)))))) (by kernel_rfl) rfl ?_
        refine eu (t := 90) rfl (fun h16_17 => ?_) (fun h16_17 => ?_)
        ·skip
         refine aL (i := 18) rfl aj (aI rfl rfl) (fun w h => ((h.anymp (.s (.s (.s (.z))))).anymp (.s (.s (.z))))) aE rfl (aa (ae (aa (ak (ae (aa av)))))) (by kernel_rfl) rfl ?_
         refine aL (i := 19) rfl aj (ap rfl) (fun w h => ((h.anymp (.s (.s (.s (.z))))).anymp (.s (.s (.z))))) aE rfl (aa (ae (aa (ak (ae (aa av)))))) (by kernel_rfl) rfl ?_
         refine aH (i := 20) rfl (aw rfl rfl rfl) (fun w h => ((h.anymp (.s (.s (.s (.z))))).anymp (.s (.s (.z))))) rfl (aa (ae (aa (ak (ae (aa av)))))) (by kernel_rfl) rfl ?_
         refine aH (i := 21) rfl (aw rfl rfl rfl) (fun w h => ((h.anymp (.s (.s (.s (.z))))).anymp (.s (.s (.z))))) rfl (aa (ae (aa (ak (ae (aa av)))))) (by kernel_rfl) rfl ?_
         refine aH (i := 22) rfl (aw rfl rfl rfl) (fun w h => ((h.anymp (.s (.s (.s (.z))))).anymp (.s (.s (.z))))) rfl (aa (ae (aa (ak (ae (aa av)))))) (by kernel_rfl) rfl ?_
         refine aH (i := 23) rfl (aw rfl rfl rfl) (fun w h => ((h.anymp (.s (.s (.s (.z))))).anymp (.s (.s (.z))))) rfl (aa (ae (aa (ak (ae (aa av)))))) (by kernel_rfl) rfl ?_
         refine aH (i := 24) rfl (aw rfl rfl rfl) (fun w h => ((h.anymp (.s (.s (.s (.z))))).anymp (.s (.s (.z))))) rfl (aa (ae (aa (ak (ae (aa av)))))) (by kernel_rfl) rfl ?_
         refine aH (i := 26) rfl (aw rfl rfl rfl) (fun w h => ((h.anymp (.s (.s (.s (.z))))).anymp (.s (.s (.z))))) rfl (aa (ae (aa (ak (ae (aa av)))))) (by kernel_rfl) rfl ?_
         refine aH (i := 27) rfl (aw rfl rfl rfl) (fun w h => ((h.anymp (.s (.s (.s (.z))))).anymp (.s (.s (.z))))) rfl (aa (ae (aa (ak (ae (aa av)))))) (by kernel_rfl) rfl ?_
         refine aH (i := 25) rfl (aw rfl rfl rfl) (fun w h => ((h.anymp (.s (.s (.s (.z))))).anymp (.s (.s (.z))))) rfl (aa (ae (aa (ak (ae (aa av)))))) (by kernel_rfl) rfl ?_
         refine aH (i := 28) rfl (aw rfl rfl rfl) (fun w h => ((h.anymp (.s (.s (.s (.z))))).anymp (.s (.s (.z))))) rfl (aa (ae (aa (ak (ae (aa av)))))) (by kernel_rfl) rfl ?_
         refine aH (i := 29) rfl (aw rfl rfl rfl) (fun w h => ((h.anymp (.s (.s (.s (.z))))).anymp (.s (.s (.z))))) rfl (aa (ae (aa (ak (ae (aa av)))))) (by kernel_rfl) rfl ?_
         refine aL (i := 30) rfl aj (aG rfl rfl) (fun w h => ((h.anymp (.s (.s (.s (.z))))).anymp (.s (.s (.z))))) aE rfl (aa (ae (aa (ak (ae (aa av)))))) (by kernel_rfl) rfl ?_
         refine aL (i := 31) rfl aj (ap rfl) (fun w h => ((h.anymp (.s (.s (.s (.z))))).anymp (.s (.s (.z))))) aE rfl (aa (ae (aa (ak (ae (aa av)))))) (by kernel_rfl) rfl ?_
         refine aH (i := 32) rfl (aw rfl rfl rfl) (fun w h => ((h.anymp (.s (.s (.s (.z))))).anymp (.s (.s (.z))))) rfl (aa (ae (aa (ak (ae (aa av)))))) (by kernel_rfl) rfl ?_
         refine aH (i := 33) rfl (aw rfl rfl rfl) (fun w h => ((h.anymp (.s (.s (.s (.z))))).anymp (.s (.s (.z))))) rfl (aa (ae (aa (ak (ae (aa av)))))) (by kernel_rfl) rfl ?_
         refine aH (i := 34) rfl (aw rfl rfl rfl) (fun w h => ((h.anymp (.s (.s (.s (.z))))).anymp (.s (.s (.z))))) rfl (aa (ae (aa (ak (ae (aa av)))))) (by kernel_rfl) rfl ?_
         refine aH (i := 35) rfl (aw rfl rfl rfl) (fun w h => ((h.anymp (.s (.s (.s (.z))))).anymp (.s (.s (.z))))) rfl (aa (ae (aa (ak (ae (aa av)))))) (by kernel_rfl) rfl ?_
         refine aH (i := 36) rfl (aw rfl rfl rfl) (fun w h => ((h.anymp (.s (.s (.s (.z))))).anymp (.s (.s (.z))))) rfl (aa (ae (aa (ak (ae (aa av)))))) (by kernel_rfl) rfl ?_
         refine aH (i := 37) rfl (aw rfl rfl rfl) (fun w h => ((h.anymp (.s (.s (.s (.z))))).anymp (.s (.s (.z))))) rfl (aa (ae (aa (ak (ae (aa av)))))) (by kernel_rfl) rfl ?_
         refine aH (i := 38) rfl (aw rfl rfl rfl) (fun w h => ((h.anymp (.s (.s (.s (.z))))).anymp (.s (.s (.z))))) rfl (aa (ae (aa (ak (ae (aa av)))))) (by kernel_rfl) rfl ?_
         refine aH (i := 39) rfl (aw rfl rfl rfl) (fun w h => ((h.anymp (.s (.s (.s (.z))))).anymp (.s (.s (.z))))) rfl (aa (ae (aa (ak (ae (aa av)))))) (by kernel_rfl) rfl ?_
         refine aH (i := 40) rfl (aw rfl rfl rfl) (fun w h => ((h.anymp (.s (.s (.s (.z))))).anymp (.s (.s (.z))))) rfl (aa (ae (aa (ak (ae (aa av)))))) (by kernel_rfl) rfl ?_
         refine aL (i := 41) rfl aj (aG rfl rfl) (fun w h => ((h.anymp (.s (.s (.s (.z))))).anymp (.s (.s (.z))))) aE rfl (aa (ae (aa (ak (ae (aa av)))))) (by kernel_rfl) rfl ?_
         refine cr (by kernel_rfl) ?_
         refine aq ?_
         refine aA rfl ?_
         refine ar ?_
         refine ai ?_
         refine au (ao rfl) rfl rfl ?_
         refine au (ao rfl) rfl rfl ?_
         refine ah ?_
         refine aq ?_
         refine aQ ?_
         refine aK ?_
         refine ay ?_
         refine a9 ?_
         refine aK ?_
         refine ay ?_
         refine aV (ts := [4, 5]) rfl rfl rfl (fun w hw => ?_)
         have hno : ¬ bU (l.map (·.e)) hs := fun H => by
           obtain ⟨q1, ⟨e, q2, q3⟩, q4, q5, q6⟩ := H i hi
           exact h16_17 q4
         exact ⟨⟨none, fun _ => hno, nofun⟩, rfl, hw.base, ((hw.weak (List.nil_sublist _) (fun s hs => hs)).rall0).toNews⟩
        ·skip
         refine aL (i := 18) rfl aj (aI rfl rfl) (fun w h => ((h.anymp (.s (.s (.s (.z))))).anymp (.s (.s (.z))))) aE rfl (aa (ae (aa (ak (ae (aa av)))))) (by kernel_rfl) rfl ?_
         refine aL (i := 19) rfl aj (ap rfl) (fun w h => ((h.anymp (.s (.s (.s (.z))))).anymp (.s (.s (.z))))) aE rfl (aa (ae (aa (ak (ae (aa av)))))) (by kernel_rfl) rfl ?_
         refine aL (i := 20) rfl (aJ rfl rfl) (ap rfl) (fun w h => ((h.anymp (.s (.s (.s (.z))))).anymp (.s (.s (.z))))) aE rfl (aa (ae (aa (ak (ae (aa av)))))) (by kernel_rfl) rfl ?_
         refine aL (i := 21) rfl (aJ rfl rfl) (bh rfl) (fun w h => ((h.anymp (.s (.s (.s (.z))))).anymp (.s (.s (.z))))) aE rfl (aa (ae (aa (ak (ae (aa av)))))) (by kernel_rfl) rfl ?_
         refine aL (i := 22) rfl (aJ rfl rfl) (aD io rfl) (fun w h => ((h.anymp (.s (.s (.s (.z))))).anymp (.s (.s (.z))))) aE rfl (aa (ae (aa (ak (ae (aa av)))))) (by kernel_rfl) rfl ?_
         refine aL (i := 23) rfl (aJ rfl rfl) (aM 6 ty_118 rfl rfl rfl) (fun w h => ((h.anymp (.s (.s (.s (.z))))).anymp (.s (.s (.z))))) aE rfl (aa (ae (aa (ak (ae (aa av)))))) (by kernel_rfl) rfl ?_
         refine aL (i := 24) rfl (aJ rfl rfl) (a6 0 aR rfl rfl rfl rfl) (fun w h => ((h.anymp (.s (.s (.s (.z))))).anymp (.s (.s (.z))))) aE rfl (aa (ae (aa (ak (ae (aa av)))))) (by kernel_rfl) rfl ?_
         refine aL (i := 26) rfl (aJ rfl rfl) (aD eb rfl) (fun w h => ((h.anymp (.s (.s (.s (.z))))).anymp (.s (.s (.z))))) aE rfl (aa (ae (aa (ak (ae (aa av)))))) (by kernel_rfl) rfl ?_
         refine aL (i := 27) rfl (aJ rfl rfl) (a6 1 bu rfl rfl rfl rfl) (fun w h => ((h.anymp (.s (.s (.s (.z))))).anymp (.s (.s (.z))))) aE rfl (aa (ae (aa (ak (ae (aa av)))))) (by kernel_rfl) rfl ?_
         refine bQ (i := 25) rfl (by kernel_rfl) rfl ?_
         refine az rfl rfl ?_
         refine bb rfl dM (cI _ _ _ _ _ (by have := hbf.h; omega)) rfl ?_
         refine ah ?_
         refine bR (fun w h => ((h.anymp (.s (.s (.s (.z))))).anymp (.s (.s (.z))))) ?_
         refine wv_as (t := 98) (.string (ba (aX (hs.getD i dG).host))) rfl (by rw [hfm.2]) ?_
         refine bQ (i := 28) rfl (by kernel_rfl) rfl ?_
         refine az rfl rfl ?_
         refine dr rfl ent_76 rfl (c_put_d dm r2 (aX (hs.getD i dG).host) (hs.getD i dG).ad) (fun o => (.s (.s (.s (.z))))) (List.mem_of_getElem? (i := 3) rfl) (fun s hs => nomatch hs) (fun o17 => ?_)
         refine ah ?_
         refine bR (fun w h => ((h.anymp (.s (.s (.s (.z))))).anymp (.s (.s (.z))))) ?_
         refine ew (t := 101) rfl (fun h16_28 => ?_) (fun h16_28 => ?_)
         ·skip
          refine aL (i := 29) rfl (aJ rfl rfl) (bC rfl) (fun w h => ((h.anymp (.s (.s (.s (.z))))).anymp (.s (.s (.z))))) aE rfl (aa (ae (aa (ak (ae (aa av)))))) (by kernel_rfl) rfl ?_
          refine aL (i := 30) rfl aj (aI rfl rfl) (fun w h => ((h.anymp (.s (.s (.s (.z))))).anymp (.s (.s (.z))))) aE rfl (aa (ae (aa (ak (ae (aa av)))))) (by kernel_rfl) rfl ?_
          refine aL (i := 31) rfl aj (ap rfl) (fun w h => ((h.anymp (.s (.s (.s (.z))))).anymp (.s (.s (.z))))) aE rfl (aa (ae (aa (ak (ae (aa av)))))) (by kernel_rfl) rfl ?_
          refine aL (i := 32) rfl (aJ rfl rfl) (ap rfl) (fun w h => ((h.anymp (.s (.s (.s (.z))))).anymp (.s (.s (.z))))) aE rfl (aa (ae (aa (ak (ae (aa av)))))) (by kernel_rfl) rfl ?_
          refine aL (i := 33) rfl (aJ rfl rfl) (bh rfl) (fun w h => ((h.anymp (.s (.s (.s (.z))))).anymp (.s (.s (.z))))) aE rfl (aa (ae (aa (ak (ae (aa av)))))) (by kernel_rfl) rfl ?_
          refine aL (i := 34) rfl (aJ rfl rfl) (aD gJ rfl) (fun w h => ((h.anymp (.s (.s (.s (.z))))).anymp (.s (.s (.z))))) aE rfl (aa (ae (aa (ak (ae (aa av)))))) (by kernel_rfl) rfl ?_
          refine aL (i := 35) rfl (aJ rfl rfl) (aM 6 ty_120 rfl rfl rfl) (fun w h => ((h.anymp (.s (.s (.s (.z))))).anymp (.s (.s (.z))))) aE rfl (aa (ae (aa (ak (ae (aa av)))))) (by kernel_rfl) rfl ?_
          refine aL (i := 36) rfl (aJ rfl rfl) (aD eb rfl) (fun w h => ((h.anymp (.s (.s (.s (.z))))).anymp (.s (.s (.z))))) aE rfl (aa (ae (aa (ak (ae (aa av)))))) (by kernel_rfl) rfl ?_
          refine aL (i := 37) rfl (aJ rfl rfl) (a6 1 bu rfl rfl rfl rfl) (fun w h => ((h.anymp (.s (.s (.s (.z))))).anymp (.s (.s (.z))))) aE rfl (aa (ae (aa (ak (ae (aa av)))))) (by kernel_rfl) rfl ?_
          refine aL (i := 38) rfl (aJ rfl rfl) (a6 0 aR rfl rfl rfl rfl) (fun w h => ((h.anymp (.s (.s (.s (.z))))).anymp (.s (.s (.z))))) aE rfl (aa (ae (aa (ak (ae (aa av)))))) (by kernel_rfl) rfl ?_
          refine bQ (i := 39) rfl (by kernel_rfl) rfl ?_
          refine az rfl rfl ?_
          refine dr rfl ent_77 rfl (jJ am r3 (hs.getD i dG).ad ((bT hm (aX (hs.getD i dG).host)).getD br)) (fun o => (.s (.s (.z)))) (List.mem_of_getElem? (i := 2) rfl) (fun s hs => nomatch hs) (fun o18 => ?_)
          refine ah ?_
          refine bR (fun w h => ((h.anymp (.s (.s (.s (.z))))).anymp (.s (.s (.z))))) ?_
          refine ew (t := 112) rfl (fun h16_39 => ?_) (fun h16_39 => ?_)
          ·skip
           refine aL (i := 40) rfl (aJ rfl rfl) (bC rfl) (fun w h => ((h.anymp (.s (.s (.s (.z))))).anymp (.s (.s (.z))))) aE rfl (aa (ae (aa (ak (ae (aa av)))))) (by kernel_rfl) rfl ?_
           refine aL (i := 41) rfl aj (aI rfl rfl) (fun w h => ((h.anymp (.s (.s (.s (.z))))).anymp (.s (.s (.z))))) aE rfl (aa (ae (aa (ak (ae (aa av)))))) (by kernel_rfl) rfl ?_
           refine cr (by kernel_rfl) ?_
           refine aq ?_
           refine aC rfl ?_
           refine aS ?_
           refine bo ?_
           refine aq ?_
           refine ai ?_
           refine au (bl rfl rfl (by omega) (by omega)) rfl rfl ?_
           refine au (ap rfl) rfl rfl ?_
           refine ah ?_
           have hps : ∀ p ∈ hs.take i, (bT hm (aX p.host)).isSome = true := fun p hp => by
             obtain ⟨e, he, _⟩ := held_pre hI.2.1 hI.1 p hp
             rw [← lk_E hI8 hI9] at he
             cases hz : bT hm (aX p.host) with
             | none => rw [hz] at he; cases he
             | some y => rfl
           have hokh : okH (l.map (·.e)) (hs.take i) (hs.getD i dG) := ⟨by omega, ⟨_, iJ hI8 hI9 h15_10, by omega⟩, by omega, dm_no hI.2.2.1 (by simpa using h16_28), am_no hI.2.2.2 hps (by simpa using h16_39)⟩
           refine bq ((i + 1, fM dm (aX (hs.getD i dG).host) (hs.getD i dG).ad, fM am (hs.getD i dG).ad ((bT hm (aX (hs.getD i dG).host)).getD br))) ?_ ?_ ⟨rfl, trivial⟩ (by repeat (first | exact trivial | refine ⟨rfl, ?_⟩)) (fun w h => h.weak (.cons _ (.cons _ (List.Sublist.refl _))) (fun s hs => hs))
           ·refine ⟨by show i + 1 ≤ _; omega, held_step hI.2.1 hokh, ?_, ?_⟩
            · show DmOk _ (hs.take (i + 1))
              rw [bK hs dG i hi]; exact dm_put hI.2.2.1 _
            · show jX _ hm (hs.take (i + 1))
              rw [bK hs dG i hi]; exact am_put hI.2.2.2 hps _ h15_10
           ·show hs.length - (i + 1) < hs.length - i
            omega
          ·skip
           refine aL (i := 40) rfl (aJ rfl rfl) (bC rfl) (fun w h => ((h.anymp (.s (.s (.s (.z))))).anymp (.s (.s (.z))))) aE rfl (aa (ae (aa (ak (ae (aa av)))))) (by kernel_rfl) rfl ?_
           refine aL (i := 41) rfl aj (aI rfl rfl) (fun w h => ((h.anymp (.s (.s (.s (.z))))).anymp (.s (.s (.z))))) aE rfl (aa (ae (aa (ak (ae (aa av)))))) (by kernel_rfl) rfl ?_
           refine cr (by kernel_rfl) ?_
           refine aq ?_
           refine aA rfl ?_
           refine ar ?_
           refine ai ?_
           refine au (ao rfl) rfl rfl ?_
           refine au (ao rfl) rfl rfl ?_
           refine ah ?_
           refine aq ?_
           refine aQ ?_
           refine aK ?_
           refine ay ?_
           refine a9 ?_
           refine aK ?_
           refine ay ?_
           refine aV (ts := [4, 5]) rfl rfl rfl (fun w hw => ?_)
           have hno : ¬ bU (l.map (·.e)) hs := fun H => by
             obtain ⟨q1, ⟨e, q2, q3⟩, q4, q5, q6⟩ := H i hi
             obtain ⟨p, hp, e9⟩ := am_yes hI.2.2.2 (by simpa using h16_39); exact q6 p hp e9
           exact ⟨⟨none, fun _ => hno, nofun⟩, rfl, hw.base, ((hw.weak (List.nil_sublist _) (fun s hs => hs)).rall0).toNews⟩
         ·skip
          refine aL (i := 29) rfl (aJ rfl rfl) (bC rfl) (fun w h => ((h.anymp (.s (.s (.s (.z))))).anymp (.s (.s (.z))))) aE rfl (aa (ae (aa (ak (ae (aa av)))))) (by kernel_rfl) rfl ?_
          refine aL (i := 30) rfl aj (aI rfl rfl) (fun w h => ((h.anymp (.s (.s (.s (.z))))).anymp (.s (.s (.z))))) aE rfl (aa (ae (aa (ak (ae (aa av)))))) (by kernel_rfl) rfl ?_
          refine aL (i := 31) rfl aj (ap rfl) (fun w h => ((h.anymp (.s (.s (.s (.z))))).anymp (.s (.s (.z))))) aE rfl (aa (ae (aa (ak (ae (aa av)))))) (by kernel_rfl) rfl ?_
          refine aH (i := 32) rfl (aw rfl rfl rfl) (fun w h => ((h.anymp (.s (.s (.s (.z))))).anymp (.s (.s (.z))))) rfl (aa (ae (aa (ak (ae (aa av)))))) (by kernel_rfl) rfl ?_
          refine aH (i := 33) rfl (aw rfl rfl rfl) (fun w h => ((h.anymp (.s (.s (.s (.z))))).anymp (.s (.s (.z))))) rfl (aa (ae (aa (ak (ae (aa av)))))) (by kernel_rfl) rfl ?_
          refine aH (i := 34) rfl (aw rfl rfl rfl) (fun w h => ((h.anymp (.s (.s (.s (.z))))).anymp (.s (.s (.z))))) rfl (aa (ae (aa (ak (ae (aa av)))))) (by kernel_rfl) rfl ?_
          refine aH (i := 35) rfl (aw rfl rfl rfl) (fun w h => ((h.anymp (.s (.s (.s (.z))))).anymp (.s (.s (.z))))) rfl (aa (ae (aa (ak (ae (aa av)))))) (by kernel_rfl) rfl ?_
          refine aH (i := 36) rfl (aw rfl rfl rfl) (fun w h => ((h.anymp (.s (.s (.s (.z))))).anymp (.s (.s (.z))))) rfl (aa (ae (aa (ak (ae (aa av)))))) (by kernel_rfl) rfl ?_
          refine aH (i := 37) rfl (aw rfl rfl rfl) (fun w h => ((h.anymp (.s (.s (.s (.z))))).anymp (.s (.s (.z))))) rfl (aa (ae (aa (ak (ae (aa av)))))) (by kernel_rfl) rfl ?_
          refine aH (i := 38) rfl (aw rfl rfl rfl) (fun w h => ((h.anymp (.s (.s (.s (.z))))).anymp (.s (.s (.z))))) rfl (aa (ae (aa (ak (ae (aa av)))))) (by kernel_rfl) rfl ?_
          refine aH (i := 39) rfl (aw rfl rfl rfl) (fun w h => ((h.anymp (.s (.s (.s (.z))))).anymp (.s (.s (.z))))) rfl (aa (ae (aa (ak (ae (aa av)))))) (by kernel_rfl) rfl ?_
          refine aH (i := 40) rfl (aw rfl rfl rfl) (fun w h => ((h.anymp (.s (.s (.s (.z))))).anymp (.s (.s (.z))))) rfl (aa (ae (aa (ak (ae (aa av)))))) (by kernel_rfl) rfl ?_
          refine aL (i := 41) rfl aj (aG rfl rfl) (fun w h => ((h.anymp (.s (.s (.s (.z))))).anymp (.s (.s (.z))))) aE rfl (aa (ae (aa (ak (ae (aa av)))))) (by kernel_rfl) rfl ?_
          refine cr (by kernel_rfl) ?_
          refine aq ?_
          refine aA rfl ?_
          refine ar ?_
          refine ai ?_
          refine au (ao rfl) rfl rfl ?_
          refine au (ao rfl) rfl rfl ?_
          refine ah ?_
          refine aq ?_
          refine aQ ?_
          refine aK ?_
          refine ay ?_
          refine a9 ?_
          refine aK ?_
          refine ay ?_
          refine aV (ts := [4, 5]) rfl rfl rfl (fun w hw => ?_)
          have hno : ¬ bU (l.map (·.e)) hs := fun H => by
            obtain ⟨q1, ⟨e, q2, q3⟩, q4, q5, q6⟩ := H i hi
            obtain ⟨p, hp, e9⟩ := dm_yes hI.2.2.1 (by simpa using h16_28); exact q5 p hp e9
          exact ⟨⟨none, fun _ => hno, nofun⟩, rfl, hw.base, ((hw.weak (List.nil_sublist _) (fun s hs => hs)).rall0).toNews⟩
     ·skip
      refine bQ (i := 11) rfl (by kernel_rfl) rfl ?_
      refine bj aR rfl rfl (fun b20 => ?_)
      refine ah ?_
      refine bR (fun w h => h.weak (.cons _ (List.Sublist.refl _)) (fun s hs => hs)) ?_
      refine bQ (i := 12) rfl (by kernel_rfl) rfl ?_
      refine a0 aR rfl rfl rfl .z rfl rfl rfl rfl ?_
      refine ah ?_
      refine bR (fun w h => h.weak (.cons _ (List.Sublist.refl _)) (fun s hs => hs)) ?_
      refine bQ (i := 13) rfl (by kernel_rfl) rfl ?_
      refine au (ao rfl) rfl rfl ?_
      refine ah ?_
      refine bY rfl ?_
      refine cr (by kernel_rfl) ?_
      refine aq ?_
      refine ar ?_
      refine gl 42 cu (fun w h => ((h.anymp (.s (.s (.s (.z))))).anymp (.s (.s (.z))))) ?_
      refine aL (i := 0) rfl aj (ap rfl) (fun w h => ((h.anymp (.s (.s (.s (.z))))).anymp (.s (.s (.z))))) aE rfl (aa (ae (aa (ak (ae (aa av)))))) (by kernel_rfl) rfl ?_
      refine aL (i := 1) rfl aj (bC rfl) (fun w h => ((h.anymp (.s (.s (.s (.z))))).anymp (.s (.s (.z))))) aE rfl (aa (ae (aa (ak (ae (aa av)))))) (by kernel_rfl) rfl ?_
      refine aL (i := 2) rfl aj (ap rfl) (fun w h => ((h.anymp (.s (.s (.s (.z))))).anymp (.s (.s (.z))))) aE rfl (aa (ae (aa (ak (ae (aa av)))))) (by kernel_rfl) rfl ?_
      refine aH (i := 3) rfl (aw rfl rfl rfl) (fun w h => ((h.anymp (.s (.s (.s (.z))))).anymp (.s (.s (.z))))) rfl (aa (ae (aa (ak (ae (aa av)))))) (by kernel_rfl) rfl ?_
      refine aH (i := 4) rfl (aw rfl rfl rfl) (fun w h => ((h.anymp (.s (.s (.s (.z))))).anymp (.s (.s (.z))))) rfl (aa (ae (aa (ak (ae (aa av)))))) (by kernel_rfl) rfl ?_
      refine aH (i := 5) rfl (aw rfl rfl rfl) (fun w h => ((h.anymp (.s (.s (.s (.z))))).anymp (.s (.s (.z))))) rfl (aa (ae (aa (ak (ae (aa av)))))) (by kernel_rfl) rfl ?_
      refine aH (i := 6) rfl (aw rfl rfl rfl) (fun w h => ((h.anymp (.s (.s (.s (.z))))).anymp (.s (.s (.z))))) rfl (aa (ae (aa (ak (ae (aa av)))))) (by kernel_rfl) rfl ?_
      refine aL (i := 7) rfl aj (aG rfl rfl) (fun w h => ((h.anymp (.s (.s (.s (.z))))).anymp (.s (.s (.z))))) aE rfl (aa (ae (aa (ak (ae (aa av)))))) (by kernel_rfl) rfl ?_
      refine aL (i := 8) rfl aj (ap rfl) (fun w h => ((h.anymp (.s (.s (.s (.z))))).anymp (.s (.s (.z))))) aE rfl (aa (ae (aa (ak (ae (aa av)))))) (by kernel_rfl) rfl ?_
      refine aH (i := 9) rfl (aw rfl rfl rfl) (fun w h => ((h.anymp (.s (.s (.s (.z))))).anymp (.s (.s (.z))))) rfl (aa (ae (aa (ak (ae (aa av)))))) (by kernel_rfl) rfl ?_
      refine aH (i := 10) rfl (aw rfl rfl rfl) (fun w h => ((h.anymp (.s (.s (.s (.z))))).anymp (.s (.s (.z))))) rfl (aa (ae (aa (ak (ae (aa av)))))) (by kernel_rfl) rfl ?_
      refine aH (i := 11) rfl (aw rfl rfl rfl) (fun w h => ((h.anymp (.s (.s (.s (.z))))).anymp (.s (.s (.z))))) rfl (aa (ae (aa (ak (ae (aa av)))))) (by kernel_rfl) rfl ?_
      refine aL (i := 12) rfl aj (aG rfl rfl) (fun w h => ((h.anymp (.s (.s (.s (.z))))).anymp (.s (.s (.z))))) aE rfl (aa (ae (aa (ak (ae (aa av)))))) (by kernel_rfl) rfl ?_
      refine aL (i := 13) rfl aj (ap rfl) (fun w h => ((h.anymp (.s (.s (.s (.z))))).anymp (.s (.s (.z))))) aE rfl (aa (ae (aa (ak (ae (aa av)))))) (by kernel_rfl) rfl ?_
      refine aH (i := 14) rfl (aw rfl rfl rfl) (fun w h => ((h.anymp (.s (.s (.s (.z))))).anymp (.s (.s (.z))))) rfl (aa (ae (aa (ak (ae (aa av)))))) (by kernel_rfl) rfl ?_
      refine aH (i := 15) rfl (aw rfl rfl rfl) (fun w h => ((h.anymp (.s (.s (.s (.z))))).anymp (.s (.s (.z))))) rfl (aa (ae (aa (ak (ae (aa av)))))) (by kernel_rfl) rfl ?_
      refine aH (i := 16) rfl (aw rfl rfl rfl) (fun w h => ((h.anymp (.s (.s (.s (.z))))).anymp (.s (.s (.z))))) rfl (aa (ae (aa (ak (ae (aa av)))))) (by kernel_rfl) rfl ?_
      refine aH (i := 17) rfl (aw rfl rfl rfl) (fun w h => ((h.anymp (.s (.s (.s (.z))))).anymp (.s (.s (.z))))) rfl (aa (ae (aa (ak (ae (aa av)))))) (by kernel_rfl) rfl ?_
      refine aL (i := 18) rfl aj (aG rfl rfl) (fun w h => ((h.anymp (.s (.s (.s (.z))))).anymp (.s (.s (.z))))) aE rfl (aa (ae (aa (ak (ae (aa av)))))) (by kernel_rfl) rfl ?_
      refine aL (i := 19) rfl aj (ap rfl) (fun w h => ((h.anymp (.s (.s (.s (.z))))).anymp (.s (.s (.z))))) aE rfl (aa (ae (aa (ak (ae (aa av)))))) (by kernel_rfl) rfl ?_
      refine aH (i := 20) rfl (aw rfl rfl rfl) (fun w h => ((h.anymp (.s (.s (.s (.z))))).anymp (.s (.s (.z))))) rfl (aa (ae (aa (ak (ae (aa av)))))) (by kernel_rfl) rfl ?_
      refine aH (i := 21) rfl (aw rfl rfl rfl) (fun w h => ((h.anymp (.s (.s (.s (.z))))).anymp (.s (.s (.z))))) rfl (aa (ae (aa (ak (ae (aa av)))))) (by kernel_rfl) rfl ?_
      refine aH (i := 22) rfl (aw rfl rfl rfl) (fun w h => ((h.anymp (.s (.s (.s (.z))))).anymp (.s (.s (.z))))) rfl (aa (ae (aa (ak (ae (aa av)))))) (by kernel_rfl) rfl ?_
      refine aH (i := 23) rfl (aw rfl rfl rfl) (fun w h => ((h.anymp (.s (.s (.s (.z))))).anymp (.s (.s (.z))))) rfl (aa (ae (aa (ak (ae (aa av)))))) (by kernel_rfl) rfl ?_
      refine aH (i := 24) rfl (aw rfl rfl rfl) (fun w h => ((h.anymp (.s (.s (.s (.z))))).anymp (.s (.s (.z))))) rfl (aa (ae (aa (ak (ae (aa av)))))) (by kernel_rfl) rfl ?_
      refine aH (i := 26) rfl (aw rfl rfl rfl) (fun w h => ((h.anymp (.s (.s (.s (.z))))).anymp (.s (.s (.z))))) rfl (aa (ae (aa (ak (ae (aa av)))))) (by kernel_rfl) rfl ?_
      refine aH (i := 27) rfl (aw rfl rfl rfl) (fun w h => ((h.anymp (.s (.s (.s (.z))))).anymp (.s (.s (.z))))) rfl (aa (ae (aa (ak (ae (aa av)))))) (by kernel_rfl) rfl ?_
      refine aH (i := 25) rfl (aw rfl rfl rfl) (fun w h => ((h.anymp (.s (.s (.s (.z))))).anymp (.s (.s (.z))))) rfl (aa (ae (aa (ak (ae (aa av)))))) (by kernel_rfl) rfl ?_
      refine aH (i := 28) rfl (aw rfl rfl rfl) (fun w h => ((h.anymp (.s (.s (.s (.z))))).anymp (.s (.s (.z))))) rfl (aa (ae (aa (ak (ae (aa av)))))) (by kernel_rfl) rfl ?_
      refine aH (i := 29) rfl (aw rfl rfl rfl) (fun w h => ((h.anymp (.s (.s (.s (.z))))).anymp (.s (.s (.z))))) rfl (aa (ae (aa (ak (ae (aa av)))))) (by kernel_rfl) rfl ?_
      refine aL (i := 30) rfl aj (aG rfl rfl) (fun w h => ((h.anymp (.s (.s (.s (.z))))).anymp (.s (.s (.z))))) aE rfl (aa (ae (aa (ak (ae (aa av)))))) (by kernel_rfl) rfl ?_
      refine aL (i := 31) rfl aj (ap rfl) (fun w h => ((h.anymp (.s (.s (.s (.z))))).anymp (.s (.s (.z))))) aE rfl (aa (ae (aa (ak (ae (aa av)))))) (by kernel_rfl) rfl ?_
      refine aH (i := 32) rfl (aw rfl rfl rfl) (fun w h => ((h.anymp (.s (.s (.s (.z))))).anymp (.s (.s (.z))))) rfl (aa (ae (aa (ak (ae (aa av)))))) (by kernel_rfl) rfl ?_
      refine aH (i := 33) rfl (aw rfl rfl rfl) (fun w h => ((h.anymp (.s (.s (.s (.z))))).anymp (.s (.s (.z))))) rfl (aa (ae (aa (ak (ae (aa av)))))) (by kernel_rfl) rfl ?_
      refine aH (i := 34) rfl (aw rfl rfl rfl) (fun w h => ((h.anymp (.s (.s (.s (.z))))).anymp (.s (.s (.z))))) rfl (aa (ae (aa (ak (ae (aa av)))))) (by kernel_rfl) rfl ?_
      refine aH (i := 35) rfl (aw rfl rfl rfl) (fun w h => ((h.anymp (.s (.s (.s (.z))))).anymp (.s (.s (.z))))) rfl (aa (ae (aa (ak (ae (aa av)))))) (by kernel_rfl) rfl ?_
      refine aH (i := 36) rfl (aw rfl rfl rfl) (fun w h => ((h.anymp (.s (.s (.s (.z))))).anymp (.s (.s (.z))))) rfl (aa (ae (aa (ak (ae (aa av)))))) (by kernel_rfl) rfl ?_
      refine aH (i := 37) rfl (aw rfl rfl rfl) (fun w h => ((h.anymp (.s (.s (.s (.z))))).anymp (.s (.s (.z))))) rfl (aa (ae (aa (ak (ae (aa av)))))) (by kernel_rfl) rfl ?_
      refine aH (i := 38) rfl (aw rfl rfl rfl) (fun w h => ((h.anymp (.s (.s (.s (.z))))).anymp (.s (.s (.z))))) rfl (aa (ae (aa (ak (ae (aa av)))))) (by kernel_rfl) rfl ?_
      refine aH (i := 39) rfl (aw rfl rfl rfl) (fun w h => ((h.anymp (.s (.s (.s (.z))))).anymp (.s (.s (.z))))) rfl (aa (ae (aa (ak (ae (aa av)))))) (by kernel_rfl) rfl ?_
      refine aH (i := 40) rfl (aw rfl rfl rfl) (fun w h => ((h.anymp (.s (.s (.s (.z))))).anymp (.s (.s (.z))))) rfl (aa (ae (aa (ak (ae (aa av)))))) (by kernel_rfl) rfl ?_
      refine aL (i := 41) rfl aj (aG rfl rfl) (fun w h => ((h.anymp (.s (.s (.s (.z))))).anymp (.s (.s (.z))))) aE rfl (aa (ae (aa (ak (ae (aa av)))))) (by kernel_rfl) rfl ?_
      refine cr (by kernel_rfl) ?_
      refine aq ?_
      refine aA rfl ?_
      refine ar ?_
      refine ai ?_
      refine au (ao rfl) rfl rfl ?_
      refine au (ao rfl) rfl rfl ?_
      refine ah ?_
      refine aq ?_
      refine aQ ?_
      refine aK ?_
      refine ay ?_
      refine a9 ?_
      refine aK ?_
      refine ay ?_
      refine aV (ts := [4, 5]) rfl rfl rfl (fun w hw => ?_)
      have hno : ¬ bU (l.map (·.e)) hs := fun H => by
        obtain ⟨q1, ⟨e, q2, q3⟩, q4, q5, q6⟩ := H i hi
        rw [← lk_E hI8 hI9, iD h15_10] at q2; cases q2
      exact ⟨⟨none, fun _ => hno, nofun⟩, rfl, hw.base, ((hw.weak (List.nil_sublist _) (fun s hs => hs)).rall0).toNews⟩
    refine cV (i := 11) rfl rfl ?_ ?_
    ·skip
     refine bj aR rfl rfl (fun b21 => ?_)
     refine ah ?_
     refine bR (fun w h => h.weak (.cons _ (List.Sublist.refl _)) (fun s hs => hs)) ?_
     refine bQ (i := 7) rfl (by kernel_rfl) rfl ?_
     refine bp rfl eA rfl (fy hm r1 _) (fun w hw => (aO (dC 7 rfl hw) bd)) ?_
     refine ah ?_
     refine bR (fun w h => h.weak (.cons _ (List.Sublist.refl _)) (fun s hs => hs)) ?_
     refine aL (i := 8) rfl aj (ap rfl) (fun w h => h.weak (.cons _ (List.Sublist.refl _)) (fun s hs => hs)) aE rfl (aa (ae (aa (ak (ae (aa av)))))) (by kernel_rfl) rfl ?_
     refine aL (i := 9) rfl aj (aP rfl rfl) (fun w h => h.weak (.cons _ (List.Sublist.refl _)) (fun s hs => hs)) aE rfl (aa (ae (aa (ak (ae (aa av)))))) (by kernel_rfl) rfl ?_
     refine aL (i := 10) rfl aj (aP rfl rfl) (fun w h => h.weak (.cons _ (List.Sublist.refl _)) (fun s hs => hs)) aE rfl (aa (ae (aa (ak (ae (aa av)))))) (by kernel_rfl) rfl ?_
     refine ew (t := 72) rfl (fun h15_10 => ?_) (fun h15_10 => ?_)
     ·skip
      have hfm := jW hI8 h15_10
      have hbf := es_bnd hI9 hok hfm.1
      refine bQ (i := 12) rfl (by kernel_rfl) rfl ?_
      refine a0 aR rfl rfl rfl .z rfl rfl rfl rfl ?_
      refine ah ?_
      refine bR (fun w h => h.weak (.cons _ (List.Sublist.refl _)) (fun s hs => hs)) ?_
      refine bQ (i := 13) rfl (by kernel_rfl) rfl ?_
      refine au (ao rfl) rfl rfl ?_
      refine ah ?_
      refine bY rfl ?_
      refine cr (by kernel_rfl) ?_
      refine aq ?_
      refine ar ?_
      refine gl 42 cu (fun w h => ((h.anymp (.s (.s (.s (.z))))).anymp (.s (.s (.z))))) ?_
      refine aL (i := 0) rfl aj (ap rfl) (fun w h => ((h.anymp (.s (.s (.s (.z))))).anymp (.s (.s (.z))))) aE rfl (aa (ae (aa (ak (ae (aa av)))))) (by kernel_rfl) rfl ?_
      refine aL (i := 1) rfl aj (bC rfl) (fun w h => ((h.anymp (.s (.s (.s (.z))))).anymp (.s (.s (.z))))) aE rfl (aa (ae (aa (ak (ae (aa av)))))) (by kernel_rfl) rfl ?_
      refine aL (i := 2) rfl aj (ap rfl) (fun w h => ((h.anymp (.s (.s (.s (.z))))).anymp (.s (.s (.z))))) aE rfl (aa (ae (aa (ak (ae (aa av)))))) (by kernel_rfl) rfl ?_
      refine aL (i := 3) rfl (aJ rfl rfl) (aD fC rfl) (fun w h => ((h.anymp (.s (.s (.s (.z))))).anymp (.s (.s (.z))))) aE rfl (aa (ae (aa (ak (ae (aa av)))))) (by kernel_rfl) rfl ?_
      refine aL (i := 4) rfl (aJ rfl rfl) (aM 1 bN rfl rfl rfl) (fun w h => ((h.anymp (.s (.s (.s (.z))))).anymp (.s (.s (.z))))) aE rfl (aa (ae (aa (ak (ae (aa av)))))) (by kernel_rfl) rfl ?_
      refine bQ (i := 5) rfl (by kernel_rfl) rfl ?_
      refine az rfl rfl ?_
      refine bb rfl fK (cX _) rfl ?_
      refine ah ?_
      refine bR (fun w h => ((h.anymp (.s (.s (.s (.z))))).anymp (.s (.s (.z))))) ?_
      refine aL (i := 6) rfl (aJ rfl rfl) (bX rfl rfl) (fun w h => ((h.anymp (.s (.s (.s (.z))))).anymp (.s (.s (.z))))) aE rfl (aa (ae (aa (ak (ae (aa av)))))) (by kernel_rfl) rfl ?_
      refine eu (t := 79) rfl (fun h16_6 => ?_) (fun h16_6 => ?_)
      ·skip
       refine aL (i := 7) rfl aj (aI rfl rfl) (fun w h => ((h.anymp (.s (.s (.s (.z))))).anymp (.s (.s (.z))))) aE rfl (aa (ae (aa (ak (ae (aa av)))))) (by kernel_rfl) rfl ?_
       refine aL (i := 8) rfl aj (ap rfl) (fun w h => ((h.anymp (.s (.s (.s (.z))))).anymp (.s (.s (.z))))) aE rfl (aa (ae (aa (ak (ae (aa av)))))) (by kernel_rfl) rfl ?_
       refine aH (i := 9) rfl (aw rfl rfl rfl) (fun w h => ((h.anymp (.s (.s (.s (.z))))).anymp (.s (.s (.z))))) rfl (aa (ae (aa (ak (ae (aa av)))))) (by kernel_rfl) rfl ?_
       refine aH (i := 10) rfl (aw rfl rfl rfl) (fun w h => ((h.anymp (.s (.s (.s (.z))))).anymp (.s (.s (.z))))) rfl (aa (ae (aa (ak (ae (aa av)))))) (by kernel_rfl) rfl ?_
       refine aH (i := 11) rfl (aw rfl rfl rfl) (fun w h => ((h.anymp (.s (.s (.s (.z))))).anymp (.s (.s (.z))))) rfl (aa (ae (aa (ak (ae (aa av)))))) (by kernel_rfl) rfl ?_
       refine aL (i := 12) rfl aj (aG rfl rfl) (fun w h => ((h.anymp (.s (.s (.s (.z))))).anymp (.s (.s (.z))))) aE rfl (aa (ae (aa (ak (ae (aa av)))))) (by kernel_rfl) rfl ?_
       refine aL (i := 13) rfl aj (ap rfl) (fun w h => ((h.anymp (.s (.s (.s (.z))))).anymp (.s (.s (.z))))) aE rfl (aa (ae (aa (ak (ae (aa av)))))) (by kernel_rfl) rfl ?_
       refine aH (i := 14) rfl (aw rfl rfl rfl) (fun w h => ((h.anymp (.s (.s (.s (.z))))).anymp (.s (.s (.z))))) rfl (aa (ae (aa (ak (ae (aa av)))))) (by kernel_rfl) rfl ?_
       refine aH (i := 15) rfl (aw rfl rfl rfl) (fun w h => ((h.anymp (.s (.s (.s (.z))))).anymp (.s (.s (.z))))) rfl (aa (ae (aa (ak (ae (aa av)))))) (by kernel_rfl) rfl ?_
       refine aH (i := 16) rfl (aw rfl rfl rfl) (fun w h => ((h.anymp (.s (.s (.s (.z))))).anymp (.s (.s (.z))))) rfl (aa (ae (aa (ak (ae (aa av)))))) (by kernel_rfl) rfl ?_
       refine aH (i := 17) rfl (aw rfl rfl rfl) (fun w h => ((h.anymp (.s (.s (.s (.z))))).anymp (.s (.s (.z))))) rfl (aa (ae (aa (ak (ae (aa av)))))) (by kernel_rfl) rfl ?_
       refine aL (i := 18) rfl aj (aG rfl rfl) (fun w h => ((h.anymp (.s (.s (.s (.z))))).anymp (.s (.s (.z))))) aE rfl (aa (ae (aa (ak (ae (aa av)))))) (by kernel_rfl) rfl ?_
       refine aL (i := 19) rfl aj (ap rfl) (fun w h => ((h.anymp (.s (.s (.s (.z))))).anymp (.s (.s (.z))))) aE rfl (aa (ae (aa (ak (ae (aa av)))))) (by kernel_rfl) rfl ?_
       refine aH (i := 20) rfl (aw rfl rfl rfl) (fun w h => ((h.anymp (.s (.s (.s (.z))))).anymp (.s (.s (.z))))) rfl (aa (ae (aa (ak (ae (aa av)))))) (by kernel_rfl) rfl ?_
       refine aH (i := 21) rfl (aw rfl rfl rfl) (fun w h => ((h.anymp (.s (.s (.s (.z))))).anymp (.s (.s (.z))))) rfl (aa (ae (aa (ak (ae (aa av)))))) (by kernel_rfl) rfl ?_
       refine aH (i := 22) rfl (aw rfl rfl rfl) (fun w h => ((h.anymp (.s (.s (.s (.z))))).anymp (.s (.s (.z))))) rfl (aa (ae (aa (ak (ae (aa av)))))) (by kernel_rfl) rfl ?_
       refine aH (i := 23) rfl (aw rfl rfl rfl) (fun w h => ((h.anymp (.s (.s (.s (.z))))).anymp (.s (.s (.z))))) rfl (aa (ae (aa (ak (ae (aa av)))))) (by kernel_rfl) rfl ?_
       refine aH (i := 24) rfl (aw rfl rfl rfl) (fun w h => ((h.anymp (.s (.s (.s (.z))))).anymp (.s (.s (.z))))) rfl (aa (ae (aa (ak (ae (aa av)))))) (by kernel_rfl) rfl ?_
       refine aH (i := 26) rfl (aw rfl rfl rfl) (fun w h => ((h.anymp (.s (.s (.s (.z))))).anymp (.s (.s (.z))))) rfl (aa (ae (aa (ak (ae (aa av)))))) (by kernel_rfl) rfl ?_
       refine aH (i := 27) rfl (aw rfl rfl rfl) (fun w h => ((h.anymp (.s (.s (.s (.z))))).anymp (.s (.s (.z))))) rfl (aa (ae (aa (ak (ae (aa av)))))) (by kernel_rfl) rfl ?_
       refine aH (i := 25) rfl (aw rfl rfl rfl) (fun w h => ((h.anymp (.s (.s (.s (.z))))).anymp (.s (.s (.z))))) rfl (aa (ae (aa (ak (ae (aa av)))))) (by kernel_rfl) rfl ?_
       refine aH (i := 28) rfl (aw rfl rfl rfl) (fun w h => ((h.anymp (.s (.s (.s (.z))))).anymp (.s (.s (.z))))) rfl (aa (ae (aa (ak (ae (aa av)))))) (by kernel_rfl) rfl ?_
       refine aH (i := 29) rfl (aw rfl rfl rfl) (fun w h => ((h.anymp (.s (.s (.s (.z))))).anymp (.s (.s (.z))))) rfl (aa (ae (aa (ak (ae (aa av)))))) (by kernel_rfl) rfl ?_
       refine aL (i := 30) rfl aj (aG rfl rfl) (fun w h => ((h.anymp (.s (.s (.s (.z))))).anymp (.s (.s (.z))))) aE rfl (aa (ae (aa (ak (ae (aa av)))))) (by kernel_rfl) rfl ?_
       refine aL (i := 31) rfl aj (ap rfl) (fun w h => ((h.anymp (.s (.s (.s (.z))))).anymp (.s (.s (.z))))) aE rfl (aa (ae (aa (ak (ae (aa av)))))) (by kernel_rfl) rfl ?_
       refine aH (i := 32) rfl (aw rfl rfl rfl) (fun w h => ((h.anymp (.s (.s (.s (.z))))).anymp (.s (.s (.z))))) rfl (aa (ae (aa (ak (ae (aa av)))))) (by kernel_rfl) rfl ?_
       refine aH (i := 33) rfl (aw rfl rfl rfl) (fun w h => ((h.anymp (.s (.s (.s (.z))))).anymp (.s (.s (.z))))) rfl (aa (ae (aa (ak (ae (aa av)))))) (by kernel_rfl) rfl ?_
       refine aH (i := 34) rfl (aw rfl rfl rfl) (fun w h => ((h.anymp (.s (.s (.s (.z))))).anymp (.s (.s (.z))))) rfl (aa (ae (aa (ak (ae (aa av)))))) (by kernel_rfl) rfl ?_
       refine aH (i := 35) rfl (aw rfl rfl rfl) (fun w h => ((h.anymp (.s (.s (.s (.z))))).anymp (.s (.s (.z))))) rfl (aa (ae (aa (ak (ae (aa av)))))) (by kernel_rfl) rfl ?_
       refine aH (i := 36) rfl (aw rfl rfl rfl) (fun w h => ((h.anymp (.s (.s (.s (.z))))).anymp (.s (.s (.z))))) rfl (aa (ae (aa (ak (ae (aa av)))))) (by kernel_rfl) rfl ?_
       refine aH (i := 37) rfl (aw rfl rfl rfl) (fun w h => ((h.anymp (.s (.s (.s (.z))))).anymp (.s (.s (.z))))) rfl (aa (ae (aa (ak (ae (aa av)))))) (by kernel_rfl) rfl ?_
       refine aH (i := 38) rfl (aw rfl rfl rfl) (fun w h => ((h.anymp (.s (.s (.s (.z))))).anymp (.s (.s (.z))))) rfl (aa (ae (aa (ak (ae (aa av)))))) (by kernel_rfl) rfl ?_
       refine aH (i := 39) rfl (aw rfl rfl rfl) (fun w h => ((h.anymp (.s (.s (.s (.z))))).anymp (.s (.s (.z))))) rfl (aa (ae (aa (ak (ae (aa av)))))) (by kernel_rfl) rfl ?_
       refine aH (i := 40) rfl (aw rfl rfl rfl) (fun w h => ((h.anymp (.s (.s (.s (.z))))).anymp (.s (.s (.z))))) rfl (aa (ae (aa (ak (ae (aa av)))))) (by kernel_rfl) rfl ?_
       refine aL (i := 41) rfl aj (aG rfl rfl) (fun w h => ((h.anymp (.s (.s (.s (.z))))).anymp (.s (.s (.z))))) aE rfl (aa (ae (aa (ak (ae (aa av)))))) (by kernel_rfl) rfl ?_
       refine cr (by kernel_rfl) ?_
       refine aq ?_
       refine aA rfl ?_
       refine ar ?_
       refine ai ?_
       refine au (ao rfl) rfl rfl ?_
       refine au (ao rfl) rfl rfl ?_
       refine ah ?_
       refine aq ?_
       refine aQ ?_
       refine aK ?_
       refine ay ?_
       refine a9 ?_
       refine aK ?_
       refine ay ?_
       refine aV (ts := [4, 5]) rfl rfl rfl (fun w hw => ?_)
       have hno : ¬ bU (l.map (·.e)) hs := fun H => by
         obtain ⟨q1, ⟨e, q2, q3⟩, q4, q5, q6⟩ := H i hi
         exact h16_6 q1
       exact ⟨⟨none, fun _ => hno, nofun⟩, rfl, hw.base, ((hw.weak (List.nil_sublist _) (fun s hs => hs)).rall0).toNews⟩
      ·skip
       refine aL (i := 7) rfl aj (aI rfl rfl) (fun w h => ((h.anymp (.s (.s (.s (.z))))).anymp (.s (.s (.z))))) aE rfl (aa (ae (aa (ak (ae (aa av)))))) (by kernel_rfl) rfl ?_
       refine aL (i := 8) rfl aj (ap rfl) (fun w h => ((h.anymp (.s (.s (.s (.z))))).anymp (.s (.s (.z))))) aE rfl (aa (ae (aa (ak (ae (aa av)))))) (by kernel_rfl) rfl ?_
       refine aL (i := 9) rfl (aJ rfl rfl) (aD ea rfl) (fun w h => ((h.anymp (.s (.s (.s (.z))))).anymp (.s (.s (.z))))) aE rfl (aa (ae (aa (ak (ae (aa av)))))) (by kernel_rfl) rfl ?_
       refine aL (i := 10) rfl (aJ rfl rfl) (aM 0 de rfl rfl rfl) (fun w h => ((h.anymp (.s (.s (.s (.z))))).anymp (.s (.s (.z))))) aE rfl (aa (ae (aa (ak (ae (aa av)))))) (by kernel_rfl) rfl ?_
       refine aL (i := 11) rfl (aJ rfl rfl) (bX rfl rfl) (fun w h => ((h.anymp (.s (.s (.s (.z))))).anymp (.s (.s (.z))))) aE rfl (aa (ae (aa (ak (ae (aa av)))))) (by kernel_rfl) rfl ?_
       refine eu (t := 84) rfl (fun h16_11 => ?_) (fun h16_11 => ?_)
       ·skip
        refine aL (i := 12) rfl aj (aI rfl rfl) (fun w h => ((h.anymp (.s (.s (.s (.z))))).anymp (.s (.s (.z))))) aE rfl (aa (ae (aa (ak (ae (aa av)))))) (by kernel_rfl) rfl ?_
        refine aL (i := 13) rfl aj (ap rfl) (fun w h => ((h.anymp (.s (.s (.s (.z))))).anymp (.s (.s (.z))))) aE rfl (aa (ae (aa (ak (ae (aa av)))))) (by kernel_rfl) rfl ?_
        refine aH (i := 14) rfl (aw rfl rfl rfl) (fun w h => ((h.anymp (.s (.s (.s (.z))))).anymp (.s (.s (.z))))) rfl (aa (ae (aa (ak (ae (aa av)))))) (by kernel_rfl) rfl ?_
        refine aH (i := 15) rfl (aw rfl rfl rfl) (fun w h => ((h.anymp (.s (.s (.s (.z))))).anymp (.s (.s (.z))))) rfl (aa (ae (aa (ak (ae (aa av)))))) (by kernel_rfl) rfl ?_
        refine aH (i := 16) rfl (aw rfl rfl rfl) (fun w h => ((h.anymp (.s (.s (.s (.z))))).anymp (.s (.s (.z))))) rfl (aa (ae (aa (ak (ae (aa av)))))) (by kernel_rfl) rfl ?_
        refine aH (i := 17) rfl (aw rfl rfl rfl) (fun w h => ((h.anymp (.s (.s (.s (.z))))).anymp (.s (.s (.z))))) rfl (aa (ae (aa (ak (ae (aa av)))))) (by kernel_rfl) rfl ?_
        refine aL (i := 18) rfl aj (aG rfl rfl) (fun w h => ((h.anymp (.s (.s (.s (.z))))).anymp (.s (.s (.z))))) aE rfl (aa (ae (aa (ak (ae (aa av)))))) (by kernel_rfl) rfl ?_
        refine aL (i := 19) rfl aj (ap rfl) (fun w h => ((h.anymp (.s (.s (.s (.z))))).anymp (.s (.s (.z))))) aE rfl (aa (ae (aa (ak (ae (aa av)))))) (by kernel_rfl) rfl ?_
        refine aH (i := 20) rfl (aw rfl rfl rfl) (fun w h => ((h.anymp (.s (.s (.s (.z))))).anymp (.s (.s (.z))))) rfl (aa (ae (aa (ak (ae (aa av)))))) (by kernel_rfl) rfl ?_
        refine aH (i := 21) rfl (aw rfl rfl rfl) (fun w h => ((h.anymp (.s (.s (.s (.z))))).anymp (.s (.s (.z))))) rfl (aa (ae (aa (ak (ae (aa av)))))) (by kernel_rfl) rfl ?_
        refine aH (i := 22) rfl (aw rfl rfl rfl) (fun w h => ((h.anymp (.s (.s (.s (.z))))).anymp (.s (.s (.z))))) rfl (aa (ae (aa (ak (ae (aa av)))))) (by kernel_rfl) rfl ?_
        refine aH (i := 23) rfl (aw rfl rfl rfl) (fun w h => ((h.anymp (.s (.s (.s (.z))))).anymp (.s (.s (.z))))) rfl (aa (ae (aa (ak (ae (aa av)))))) (by kernel_rfl) rfl ?_
        refine aH (i := 24) rfl (aw rfl rfl rfl) (fun w h => ((h.anymp (.s (.s (.s (.z))))).anymp (.s (.s (.z))))) rfl (aa (ae (aa (ak (ae (aa av)))))) (by kernel_rfl) rfl ?_
        refine aH (i := 26) rfl (aw rfl rfl rfl) (fun w h => ((h.anymp (.s (.s (.s (.z))))).anymp (.s (.s (.z))))) rfl (aa (ae (aa (ak (ae (aa av)))))) (by kernel_rfl) rfl ?_
        refine aH (i := 27) rfl (aw rfl rfl rfl) (fun w h => ((h.anymp (.s (.s (.s (.z))))).anymp (.s (.s (.z))))) rfl (aa (ae (aa (ak (ae (aa av)))))) (by kernel_rfl) rfl ?_
        refine aH (i := 25) rfl (aw rfl rfl rfl) (fun w h => ((h.anymp (.s (.s (.s (.z))))).anymp (.s (.s (.z))))) rfl (aa (ae (aa (ak (ae (aa av)))))) (by kernel_rfl) rfl ?_
        refine aH (i := 28) rfl (aw rfl rfl rfl) (fun w h => ((h.anymp (.s (.s (.s (.z))))).anymp (.s (.s (.z))))) rfl (aa (ae (aa (ak (ae (aa av)))))) (by kernel_rfl) rfl ?_
        refine aH (i := 29) rfl (aw rfl rfl rfl) (fun w h => ((h.anymp (.s (.s (.s (.z))))).anymp (.s (.s (.z))))) rfl (aa (ae (aa (ak (ae (aa av)))))) (by kernel_rfl) rfl ?_
        refine aL (i := 30) rfl aj (aG rfl rfl) (fun w h => ((h.anymp (.s (.s (.s (.z))))).anymp (.s (.s (.z))))) aE rfl (aa (ae (aa (ak (ae (aa av)))))) (by kernel_rfl) rfl ?_
        refine aL (i := 31) rfl aj (ap rfl) (fun w h => ((h.anymp (.s (.s (.s (.z))))).anymp (.s (.s (.z))))) aE rfl (aa (ae (aa (ak (ae (aa av)))))) (by kernel_rfl) rfl ?_
        refine aH (i := 32) rfl (aw rfl rfl rfl) (fun w h => ((h.anymp (.s (.s (.s (.z))))).anymp (.s (.s (.z))))) rfl (aa (ae (aa (ak (ae (aa av)))))) (by kernel_rfl) rfl ?_
        refine aH (i := 33) rfl (aw rfl rfl rfl) (fun w h => ((h.anymp (.s (.s (.s (.z))))).anymp (.s (.s (.z))))) rfl (aa (ae (aa (ak (ae (aa av)))))) (by kernel_rfl) rfl ?_
        refine aH (i := 34) rfl (aw rfl rfl rfl) (fun w h => ((h.anymp (.s (.s (.s (.z))))).anymp (.s (.s (.z))))) rfl (aa (ae (aa (ak (ae (aa av)))))) (by kernel_rfl) rfl ?_
        refine aH (i := 35) rfl (aw rfl rfl rfl) (fun w h => ((h.anymp (.s (.s (.s (.z))))).anymp (.s (.s (.z))))) rfl (aa (ae (aa (ak (ae (aa av)))))) (by kernel_rfl) rfl ?_
        refine aH (i := 36) rfl (aw rfl rfl rfl) (fun w h => ((h.anymp (.s (.s (.s (.z))))).anymp (.s (.s (.z))))) rfl (aa (ae (aa (ak (ae (aa av)))))) (by kernel_rfl) rfl ?_
        refine aH (i := 37) rfl (aw rfl rfl rfl) (fun w h => ((h.anymp (.s (.s (.s (.z))))).anymp (.s (.s (.z))))) rfl (aa (ae (aa (ak (ae (aa av)))))) (by kernel_rfl) rfl ?_
        refine aH (i := 38) rfl (aw rfl rfl rfl) (fun w h => ((h.anymp (.s (.s (.s (.z))))).anymp (.s (.s (.z))))) rfl (aa (ae (aa (ak (ae (aa av)))))) (by kernel_rfl) rfl ?_
        refine aH (i := 39) rfl (aw rfl rfl rfl) (fun w h => ((h.anymp (.s (.s (.s (.z))))).anymp (.s (.s (.z))))) rfl (aa (ae (aa (ak (ae (aa av)))))) (by kernel_rfl) rfl ?_
        refine aH (i := 40) rfl (aw rfl rfl rfl) (fun w h => ((h.anymp (.s (.s (.s (.z))))).anymp (.s (.s (.z))))) rfl (aa (ae (aa (ak (ae (aa av)))))) (by kernel_rfl) rfl ?_
        refine aL (i := 41) rfl aj (aG rfl rfl) (fun w h => ((h.anymp (.s (.s (.s (.z))))).anymp (.s (.s (.z))))) aE rfl (aa (ae (aa (ak (ae (aa av)))))) (by kernel_rfl) rfl ?_
        refine cr (by kernel_rfl) ?_
        refine aq ?_
        refine aA rfl ?_
        refine ar ?_
        refine ai ?_
        refine au (ao rfl) rfl rfl ?_
        refine au (ao rfl) rfl rfl ?_
        refine ah ?_
        refine aq ?_
        refine aQ ?_
        refine aK ?_
        refine ay ?_
        refine a9 ?_
        refine aK ?_
        refine ay ?_
        refine aV (ts := [4, 5]) rfl rfl rfl (fun w hw => ?_)
        have hno : ¬ bU (l.map (·.e)) hs := fun H => by
          obtain ⟨q1, ⟨e, q2, q3⟩, q4, q5, q6⟩ := H i hi
          rw [iJ hI8 hI9 h15_10] at q2; rw [← Option.some.inj q2] at q3; exact h16_11 q3
        exact ⟨⟨none, fun _ => hno, nofun⟩, rfl, hw.base, ((hw.weak (List.nil_sublist _) (fun s hs => hs)).rall0).toNews⟩
       ·skip
        refine aL (i := 12) rfl aj (aI rfl rfl) (fun w h => ((h.anymp (.s (.s (.s (.z))))).anymp (.s (.s (.z))))) aE rfl (aa (ae (aa (ak (ae (aa av)))))) (by kernel_rfl) rfl ?_
        refine aL (i := 13) rfl aj (ap rfl) (fun w h => ((h.anymp (.s (.s (.s (.z))))).anymp (.s (.s (.z))))) aE rfl (aa (ae (aa (ak (ae (aa av)))))) (by kernel_rfl) rfl ?_
        refine aL (i := 14) rfl (aJ rfl rfl) (aD eb rfl) (fun w h => ((h.anymp (.s (.s (.s (.z))))).anymp (.s (.s (.z))))) aE rfl (aa (ae (aa (ak (ae (aa av)))))) (by kernel_rfl) rfl ?_
        refine aL (i := 15) rfl (aJ rfl rfl) (a6 1 bu rfl rfl rfl rfl) (fun w h => ((h.anymp (.s (.s (.s (.z))))).anymp (.s (.s (.z))))) aE rfl (aa (ae (aa (ak (ae (aa av)))))) (by kernel_rfl) rfl ?_
        refine bQ (i := 16) rfl (by kernel_rfl) rfl ?_
        refine az rfl rfl ?_
        refine bb rfl ent_75 (fd _ hih.2) rfl ?_
        refine ah ?_
        refine bR (fun w h => ((h.anymp (.s (.s (.s (.z))))).anymp (.s (.s (.z))))) ?_
        refine aL (i := 17) rfl (aJ rfl rfl) (bX rfl rfl) (fun w h => ((h.anymp (.s (.s (.s (.z))))).anymp (.s (.s (.z))))) aE rfl (aa (ae (aa (ak (ae (aa av)))))) (by kernel_rfl) rfl ?_
        refine eu (t := 90) rfl (fun h16_17 => ?_) (fun h16_17 => ?_)
        ·skip
         refine aL (i := 18) rfl aj (aI rfl rfl) (fun w h => ((h.anymp (.s (.s (.s (.z))))).anymp (.s (.s (.z))))) aE rfl (aa (ae (aa (ak (ae (aa av)))))) (by kernel_rfl) rfl ?_
         refine aL (i := 19) rfl aj (ap rfl) (fun w h => ((h.anymp (.s (.s (.s (.z))))).anymp (.s (.s (.z))))) aE rfl (aa (ae (aa (ak (ae (aa av)))))) (by kernel_rfl) rfl ?_
         refine aH (i := 20) rfl (aw rfl rfl rfl) (fun w h => ((h.anymp (.s (.s (.s (.z))))).anymp (.s (.s (.z))))) rfl (aa (ae (aa (ak (ae (aa av)))))) (by kernel_rfl) rfl ?_
         refine aH (i := 21) rfl (aw rfl rfl rfl) (fun w h => ((h.anymp (.s (.s (.s (.z))))).anymp (.s (.s (.z))))) rfl (aa (ae (aa (ak (ae (aa av)))))) (by kernel_rfl) rfl ?_
         refine aH (i := 22) rfl (aw rfl rfl rfl) (fun w h => ((h.anymp (.s (.s (.s (.z))))).anymp (.s (.s (.z))))) rfl (aa (ae (aa (ak (ae (aa av)))))) (by kernel_rfl) rfl ?_
         refine aH (i := 23) rfl (aw rfl rfl rfl) (fun w h => ((h.anymp (.s (.s (.s (.z))))).anymp (.s (.s (.z))))) rfl (aa (ae (aa (ak (ae (aa av)))))) (by kernel_rfl) rfl ?_
         refine aH (i := 24) rfl (aw rfl rfl rfl) (fun w h => ((h.anymp (.s (.s (.s (.z))))).anymp (.s (.s (.z))))) rfl (aa (ae (aa (ak (ae (aa av)))))) (by kernel_rfl) rfl ?_
         refine aH (i := 26) rfl (aw rfl rfl rfl) (fun w h => ((h.anymp (.s (.s (.s (.z))))).anymp (.s (.s (.z))))) rfl (aa (ae (aa (ak (ae (aa av)))))) (by kernel_rfl) rfl ?_
         refine aH (i := 27) rfl (aw rfl rfl rfl) (fun w h => ((h.anymp (.s (.s (.s (.z))))).anymp (.s (.s (.z))))) rfl (aa (ae (aa (ak (ae (aa av)))))) (by kernel_rfl) rfl ?_
         refine aH (i := 25) rfl (aw rfl rfl rfl) (fun w h => ((h.anymp (.s (.s (.s (.z))))).anymp (.s (.s (.z))))) rfl (aa (ae (aa (ak (ae (aa av)))))) (by kernel_rfl) rfl ?_
         refine aH (i := 28) rfl (aw rfl rfl rfl) (fun w h => ((h.anymp (.s (.s (.s (.z))))).anymp (.s (.s (.z))))) rfl (aa (ae (aa (ak (ae (aa av)))))) (by kernel_rfl) rfl ?_
         refine aH (i := 29) rfl (aw rfl rfl rfl) (fun w h => ((h.anymp (.s (.s (.s (.z))))).anymp (.s (.s (.z))))) rfl (aa (ae (aa (ak (ae (aa av)))))) (by kernel_rfl) rfl ?_
         refine aL (i := 30) rfl aj (aG rfl rfl) (fun w h => ((h.anymp (.s (.s (.s (.z))))).anymp (.s (.s (.z))))) aE rfl (aa (ae (aa (ak (ae (aa av)))))) (by kernel_rfl) rfl ?_
         refine aL (i := 31) rfl aj (ap rfl) (fun w h => ((h.anymp (.s (.s (.s (.z))))).anymp (.s (.s (.z))))) aE rfl (aa (ae (aa (ak (ae (aa av)))))) (by kernel_rfl) rfl ?_
         refine aH (i := 32) rfl (aw rfl rfl rfl) (fun w h => ((h.anymp (.s (.s (.s (.z))))).anymp (.s (.s (.z))))) rfl (aa (ae (aa (ak (ae (aa av)))))) (by kernel_rfl) rfl ?_
         refine aH (i := 33) rfl (aw rfl rfl rfl) (fun w h => ((h.anymp (.s (.s (.s (.z))))).anymp (.s (.s (.z))))) rfl (aa (ae (aa (ak (ae (aa av)))))) (by kernel_rfl) rfl ?_
         refine aH (i := 34) rfl (aw rfl rfl rfl) (fun w h => ((h.anymp (.s (.s (.s (.z))))).anymp (.s (.s (.z))))) rfl (aa (ae (aa (ak (ae (aa av)))))) (by kernel_rfl) rfl ?_
         refine aH (i := 35) rfl (aw rfl rfl rfl) (fun w h => ((h.anymp (.s (.s (.s (.z))))).anymp (.s (.s (.z))))) rfl (aa (ae (aa (ak (ae (aa av)))))) (by kernel_rfl) rfl ?_
         refine aH (i := 36) rfl (aw rfl rfl rfl) (fun w h => ((h.anymp (.s (.s (.s (.z))))).anymp (.s (.s (.z))))) rfl (aa (ae (aa (ak (ae (aa av)))))) (by kernel_rfl) rfl ?_
         refine aH (i := 37) rfl (aw rfl rfl rfl) (fun w h => ((h.anymp (.s (.s (.s (.z))))).anymp (.s (.s (.z))))) rfl (aa (ae (aa (ak (ae (aa av)))))) (by kernel_rfl) rfl ?_
         refine aH (i := 38) rfl (aw rfl rfl rfl) (fun w h => ((h.anymp (.s (.s (.s (.z))))).anymp (.s (.s (.z))))) rfl (aa (ae (aa (ak (ae (aa av)))))) (by kernel_rfl) rfl ?_
         refine aH (i := 39) rfl (aw rfl rfl rfl) (fun w h => ((h.anymp (.s (.s (.s (.z))))).anymp (.s (.s (.z))))) rfl (aa (ae (aa (ak (ae (aa av)))))) (by kernel_rfl) rfl ?_
         refine aH (i := 40) rfl (aw rfl rfl rfl) (fun w h => ((h.anymp (.s (.s (.s (.z))))).anymp (.s (.s (.z))))) rfl (aa (ae (aa (ak (ae (aa av)))))) (by kernel_rfl) rfl ?_
         refine aL (i := 41) rfl aj (aG rfl rfl) (fun w h => ((h.anymp (.s (.s (.s (.z))))).anymp (.s (.s (.z))))) aE rfl (aa (ae (aa (ak (ae (aa av)))))) (by kernel_rfl) rfl ?_
         refine cr (by kernel_rfl) ?_
         refine aq ?_
         refine aA rfl ?_
         refine ar ?_
         refine ai ?_
         refine au (ao rfl) rfl rfl ?_
         refine au (ao rfl) rfl rfl ?_
         refine ah ?_
         refine aq ?_
         refine aQ ?_
         refine aK ?_
         refine ay ?_
         refine a9 ?_
         refine aK ?_
         refine ay ?_
         refine aV (ts := [4, 5]) rfl rfl rfl (fun w hw => ?_)
         have hno : ¬ bU (l.map (·.e)) hs := fun H => by
           obtain ⟨q1, ⟨e, q2, q3⟩, q4, q5, q6⟩ := H i hi
           exact h16_17 q4
         exact ⟨⟨none, fun _ => hno, nofun⟩, rfl, hw.base, ((hw.weak (List.nil_sublist _) (fun s hs => hs)).rall0).toNews⟩
        ·skip
         refine aL (i := 18) rfl aj (aI rfl rfl) (fun w h => ((h.anymp (.s (.s (.s (.z))))).anymp (.s (.s (.z))))) aE rfl (aa (ae (aa (ak (ae (aa av)))))) (by kernel_rfl) rfl ?_
         refine aL (i := 19) rfl aj (ap rfl) (fun w h => ((h.anymp (.s (.s (.s (.z))))).anymp (.s (.s (.z))))) aE rfl (aa (ae (aa (ak (ae (aa av)))))) (by kernel_rfl) rfl ?_
         refine aL (i := 20) rfl (aJ rfl rfl) (ap rfl) (fun w h => ((h.anymp (.s (.s (.s (.z))))).anymp (.s (.s (.z))))) aE rfl (aa (ae (aa (ak (ae (aa av)))))) (by kernel_rfl) rfl ?_
         refine aL (i := 21) rfl (aJ rfl rfl) (bh rfl) (fun w h => ((h.anymp (.s (.s (.s (.z))))).anymp (.s (.s (.z))))) aE rfl (aa (ae (aa (ak (ae (aa av)))))) (by kernel_rfl) rfl ?_
         refine aL (i := 22) rfl (aJ rfl rfl) (aD io rfl) (fun w h => ((h.anymp (.s (.s (.s (.z))))).anymp (.s (.s (.z))))) aE rfl (aa (ae (aa (ak (ae (aa av)))))) (by kernel_rfl) rfl ?_
         refine aL (i := 23) rfl (aJ rfl rfl) (aM 6 ty_118 rfl rfl rfl) (fun w h => ((h.anymp (.s (.s (.s (.z))))).anymp (.s (.s (.z))))) aE rfl (aa (ae (aa (ak (ae (aa av)))))) (by kernel_rfl) rfl ?_
         refine aL (i := 24) rfl (aJ rfl rfl) (a6 0 aR rfl rfl rfl rfl) (fun w h => ((h.anymp (.s (.s (.s (.z))))).anymp (.s (.s (.z))))) aE rfl (aa (ae (aa (ak (ae (aa av)))))) (by kernel_rfl) rfl ?_
         refine aL (i := 26) rfl (aJ rfl rfl) (aD eb rfl) (fun w h => ((h.anymp (.s (.s (.s (.z))))).anymp (.s (.s (.z))))) aE rfl (aa (ae (aa (ak (ae (aa av)))))) (by kernel_rfl) rfl ?_
         refine aL (i := 27) rfl (aJ rfl rfl) (a6 1 bu rfl rfl rfl rfl) (fun w h => ((h.anymp (.s (.s (.s (.z))))).anymp (.s (.s (.z))))) aE rfl (aa (ae (aa (ak (ae (aa av)))))) (by kernel_rfl) rfl ?_
         refine bQ (i := 25) rfl (by kernel_rfl) rfl ?_
         refine az rfl rfl ?_
         refine bb rfl dM (cI _ _ _ _ _ (by have := hbf.h; omega)) rfl ?_
         refine ah ?_
         refine bR (fun w h => ((h.anymp (.s (.s (.s (.z))))).anymp (.s (.s (.z))))) ?_
         refine wv_as (t := 98) (.string (ba (aX (hs.getD i dG).host))) rfl (by rw [hfm.2]) ?_
         refine bQ (i := 28) rfl (by kernel_rfl) rfl ?_
         refine az rfl rfl ?_
         refine dr rfl ent_76 rfl (c_put_d dm r2 (aX (hs.getD i dG).host) (hs.getD i dG).ad) (fun o => (.s (.s (.s (.z))))) (List.mem_of_getElem? (i := 3) rfl) (fun s hs => nomatch hs) (fun o21 => ?_)
         refine ah ?_
         refine bR (fun w h => ((h.anymp (.s (.s (.s (.z))))).anymp (.s (.s (.z))))) ?_
         refine ew (t := 101) rfl (fun h16_28 => ?_) (fun h16_28 => ?_)
         ·skip
          refine aL (i := 29) rfl (aJ rfl rfl) (bC rfl) (fun w h => ((h.anymp (.s (.s (.s (.z))))).anymp (.s (.s (.z))))) aE rfl (aa (ae (aa (ak (ae (aa av)))))) (by kernel_rfl) rfl ?_
          refine aL (i := 30) rfl aj (aI rfl rfl) (fun w h => ((h.anymp (.s (.s (.s (.z))))).anymp (.s (.s (.z))))) aE rfl (aa (ae (aa (ak (ae (aa av)))))) (by kernel_rfl) rfl ?_
          refine aL (i := 31) rfl aj (ap rfl) (fun w h => ((h.anymp (.s (.s (.s (.z))))).anymp (.s (.s (.z))))) aE rfl (aa (ae (aa (ak (ae (aa av)))))) (by kernel_rfl) rfl ?_
          refine aL (i := 32) rfl (aJ rfl rfl) (ap rfl) (fun w h => ((h.anymp (.s (.s (.s (.z))))).anymp (.s (.s (.z))))) aE rfl (aa (ae (aa (ak (ae (aa av)))))) (by kernel_rfl) rfl ?_
          refine aL (i := 33) rfl (aJ rfl rfl) (bh rfl) (fun w h => ((h.anymp (.s (.s (.s (.z))))).anymp (.s (.s (.z))))) aE rfl (aa (ae (aa (ak (ae (aa av)))))) (by kernel_rfl) rfl ?_
          refine aL (i := 34) rfl (aJ rfl rfl) (aD gJ rfl) (fun w h => ((h.anymp (.s (.s (.s (.z))))).anymp (.s (.s (.z))))) aE rfl (aa (ae (aa (ak (ae (aa av)))))) (by kernel_rfl) rfl ?_
          refine aL (i := 35) rfl (aJ rfl rfl) (aM 6 ty_120 rfl rfl rfl) (fun w h => ((h.anymp (.s (.s (.s (.z))))).anymp (.s (.s (.z))))) aE rfl (aa (ae (aa (ak (ae (aa av)))))) (by kernel_rfl) rfl ?_
          refine aL (i := 36) rfl (aJ rfl rfl) (aD eb rfl) (fun w h => ((h.anymp (.s (.s (.s (.z))))).anymp (.s (.s (.z))))) aE rfl (aa (ae (aa (ak (ae (aa av)))))) (by kernel_rfl) rfl ?_
          refine aL (i := 37) rfl (aJ rfl rfl) (a6 1 bu rfl rfl rfl rfl) (fun w h => ((h.anymp (.s (.s (.s (.z))))).anymp (.s (.s (.z))))) aE rfl (aa (ae (aa (ak (ae (aa av)))))) (by kernel_rfl) rfl ?_
          refine aL (i := 38) rfl (aJ rfl rfl) (a6 0 aR rfl rfl rfl rfl) (fun w h => ((h.anymp (.s (.s (.s (.z))))).anymp (.s (.s (.z))))) aE rfl (aa (ae (aa (ak (ae (aa av)))))) (by kernel_rfl) rfl ?_
          refine bQ (i := 39) rfl (by kernel_rfl) rfl ?_
          refine az rfl rfl ?_
          refine dr rfl ent_77 rfl (jJ am r3 (hs.getD i dG).ad ((bT hm (aX (hs.getD i dG).host)).getD br)) (fun o => (.s (.s (.z)))) (List.mem_of_getElem? (i := 2) rfl) (fun s hs => nomatch hs) (fun o22 => ?_)
          refine ah ?_
          refine bR (fun w h => ((h.anymp (.s (.s (.s (.z))))).anymp (.s (.s (.z))))) ?_
          refine ew (t := 112) rfl (fun h16_39 => ?_) (fun h16_39 => ?_)
          ·skip
           refine aL (i := 40) rfl (aJ rfl rfl) (bC rfl) (fun w h => ((h.anymp (.s (.s (.s (.z))))).anymp (.s (.s (.z))))) aE rfl (aa (ae (aa (ak (ae (aa av)))))) (by kernel_rfl) rfl ?_
           refine aL (i := 41) rfl aj (aI rfl rfl) (fun w h => ((h.anymp (.s (.s (.s (.z))))).anymp (.s (.s (.z))))) aE rfl (aa (ae (aa (ak (ae (aa av)))))) (by kernel_rfl) rfl ?_
           refine cr (by kernel_rfl) ?_
           refine aq ?_
           refine aC rfl ?_
           refine aS ?_
           refine bo ?_
           refine aq ?_
           refine ai ?_
           refine au (bl rfl rfl (by omega) (by omega)) rfl rfl ?_
           refine au (ap rfl) rfl rfl ?_
           refine ah ?_
           have hps : ∀ p ∈ hs.take i, (bT hm (aX p.host)).isSome = true := fun p hp => by
             obtain ⟨e, he, _⟩ := held_pre hI.2.1 hI.1 p hp
             rw [← lk_E hI8 hI9] at he
             cases hz : bT hm (aX p.host) with
             | none => rw [hz] at he; cases he
             | some y => rfl
           have hokh : okH (l.map (·.e)) (hs.take i) (hs.getD i dG) := ⟨by omega, ⟨_, iJ hI8 hI9 h15_10, by omega⟩, by omega, dm_no hI.2.2.1 (by simpa using h16_28), am_no hI.2.2.2 hps (by simpa using h16_39)⟩
           refine bq ((i + 1, fM dm (aX (hs.getD i dG).host) (hs.getD i dG).ad, fM am (hs.getD i dG).ad ((bT hm (aX (hs.getD i dG).host)).getD br))) ?_ ?_ ⟨rfl, trivial⟩ (by repeat (first | exact trivial | refine ⟨rfl, ?_⟩)) (fun w h => h.weak (.cons _ (.cons _ (List.Sublist.refl _))) (fun s hs => hs))
           ·refine ⟨by show i + 1 ≤ _; omega, held_step hI.2.1 hokh, ?_, ?_⟩
            · show DmOk _ (hs.take (i + 1))
              rw [bK hs dG i hi]; exact dm_put hI.2.2.1 _
            · show jX _ hm (hs.take (i + 1))
              rw [bK hs dG i hi]; exact am_put hI.2.2.2 hps _ h15_10
           ·show hs.length - (i + 1) < hs.length - i
            omega
          ·skip
           refine aL (i := 40) rfl (aJ rfl rfl) (bC rfl) (fun w h => ((h.anymp (.s (.s (.s (.z))))).anymp (.s (.s (.z))))) aE rfl (aa (ae (aa (ak (ae (aa av)))))) (by kernel_rfl) rfl ?_
           refine aL (i := 41) rfl aj (aI rfl rfl) (fun w h => ((h.anymp (.s (.s (.s (.z))))).anymp (.s (.s (.z))))) aE rfl (aa (ae (aa (ak (ae (aa av)))))) (by kernel_rfl) rfl ?_
           refine cr (by kernel_rfl) ?_
           refine aq ?_
           refine aA rfl ?_
           refine ar ?_
           refine ai ?_
           refine au (ao rfl) rfl rfl ?_
           refine au (ao rfl) rfl rfl ?_
           refine ah ?_
           refine aq ?_
           refine aQ ?_
           refine aK ?_
           refine ay ?_
           refine a9 ?_
           refine aK ?_
           refine ay ?_
           refine aV (ts := [4, 5]) rfl rfl rfl (fun w hw => ?_)
           have hno : ¬ bU (l.map (·.e)) hs := fun H => by
             obtain ⟨q1, ⟨e, q2, q3⟩, q4, q5, q6⟩ := H i hi
             obtain ⟨p, hp, e9⟩ := am_yes hI.2.2.2 (by simpa using h16_39); exact q6 p hp e9
           exact ⟨⟨none, fun _ => hno, nofun⟩, rfl, hw.base, ((hw.weak (List.nil_sublist _) (fun s hs => hs)).rall0).toNews⟩
         ·skip
          refine aL (i := 29) rfl (aJ rfl rfl) (bC rfl) (fun w h => ((h.anymp (.s (.s (.s (.z))))).anymp (.s (.s (.z))))) aE rfl (aa (ae (aa (ak (ae (aa av)))))) (by kernel_rfl) rfl ?_
          refine aL (i := 30) rfl aj (aI rfl rfl) (fun w h => ((h.anymp (.s (.s (.s (.z))))).anymp (.s (.s (.z))))) aE rfl (aa (ae (aa (ak (ae (aa av)))))) (by kernel_rfl) rfl ?_
          refine aL (i := 31) rfl aj (ap rfl) (fun w h => ((h.anymp (.s (.s (.s (.z))))).anymp (.s (.s (.z))))) aE rfl (aa (ae (aa (ak (ae (aa av)))))) (by kernel_rfl) rfl ?_
          refine aH (i := 32) rfl (aw rfl rfl rfl) (fun w h => ((h.anymp (.s (.s (.s (.z))))).anymp (.s (.s (.z))))) rfl (aa (ae (aa (ak (ae (aa av)))))) (by kernel_rfl) rfl ?_
          refine aH (i := 33) rfl (aw rfl rfl rfl) (fun w h => ((h.anymp (.s (.s (.s (.z))))).anymp (.s (.s (.z))))) rfl (aa (ae (aa (ak (ae (aa av)))))) (by kernel_rfl) rfl ?_
          refine aH (i := 34) rfl (aw rfl rfl rfl) (fun w h => ((h.anymp (.s (.s (.s (.z))))).anymp (.s (.s (.z))))) rfl (aa (ae (aa (ak (ae (aa av)))))) (by kernel_rfl) rfl ?_
          refine aH (i := 35) rfl (aw rfl rfl rfl) (fun w h => ((h.anymp (.s (.s (.s (.z))))).anymp (.s (.s (.z))))) rfl (aa (ae (aa (ak (ae (aa av)))))) (by kernel_rfl) rfl ?_
          refine aH (i := 36) rfl (aw rfl rfl rfl) (fun w h => ((h.anymp (.s (.s (.s (.z))))).anymp (.s (.s (.z))))) rfl (aa (ae (aa (ak (ae (aa av)))))) (by kernel_rfl) rfl ?_
          refine aH (i := 37) rfl (aw rfl rfl rfl) (fun w h => ((h.anymp (.s (.s (.s (.z))))).anymp (.s (.s (.z))))) rfl (aa (ae (aa (ak (ae (aa av)))))) (by kernel_rfl) rfl ?_
          refine aH (i := 38) rfl (aw rfl rfl rfl) (fun w h => ((h.anymp (.s (.s (.s (.z))))).anymp (.s (.s (.z))))) rfl (aa (ae (aa (ak (ae (aa av)))))) (by kernel_rfl) rfl ?_
          refine aH (i := 39) rfl (aw rfl rfl rfl) (fun w h => ((h.anymp (.s (.s (.s (.z))))).anymp (.s (.s (.z))))) rfl (aa (ae (aa (ak (ae (aa av)))))) (by kernel_rfl) rfl ?_
          refine aH (i := 40) rfl (aw rfl rfl rfl) (fun w h => ((h.anymp (.s (.s (.s (.z))))).anymp (.s (.s (.z))))) rfl (aa (ae (aa (ak (ae (aa av)))))) (by kernel_rfl) rfl ?_
          refine aL (i := 41) rfl aj (aG rfl rfl) (fun w h => ((h.anymp (.s (.s (.s (.z))))).anymp (.s (.s (.z))))) aE rfl (aa (ae (aa (ak (ae (aa av)))))) (by kernel_rfl) rfl ?_
          refine cr (by kernel_rfl) ?_
          refine aq ?_
          refine aA rfl ?_
          refine ar ?_
          refine ai ?_
          refine au (ao rfl) rfl rfl ?_
          refine au (ao rfl) rfl rfl ?_
          refine ah ?_
          refine aq ?_
          refine aQ ?_
          refine aK ?_
          refine ay ?_
          refine a9 ?_
          refine aK ?_
          refine ay ?_
          refine aV (ts := [4, 5]) rfl rfl rfl (fun w hw => ?_)
          have hno : ¬ bU (l.map (·.e)) hs := fun H => by
            obtain ⟨q1, ⟨e, q2, q3⟩, q4, q5, q6⟩ := H i hi
            obtain ⟨p, hp, e9⟩ := dm_yes hI.2.2.1 (by simpa using h16_28); exact q5 p hp e9
          exact ⟨⟨none, fun _ => hno, nofun⟩, rfl, hw.base, ((hw.weak (List.nil_sublist _) (fun s hs => hs)).rall0).toNews⟩
     ·skip
      refine bQ (i := 12) rfl (by kernel_rfl) rfl ?_
      refine a0 aR rfl rfl rfl .z rfl rfl rfl rfl ?_
      refine ah ?_
      refine bR (fun w h => h.weak (.cons _ (List.Sublist.refl _)) (fun s hs => hs)) ?_
      refine bQ (i := 13) rfl (by kernel_rfl) rfl ?_
      refine au (ao rfl) rfl rfl ?_
      refine ah ?_
      refine bY rfl ?_
      refine cr (by kernel_rfl) ?_
      refine aq ?_
      refine ar ?_
      refine gl 42 cu (fun w h => ((h.anymp (.s (.s (.s (.z))))).anymp (.s (.s (.z))))) ?_
      refine aL (i := 0) rfl aj (ap rfl) (fun w h => ((h.anymp (.s (.s (.s (.z))))).anymp (.s (.s (.z))))) aE rfl (aa (ae (aa (ak (ae (aa av)))))) (by kernel_rfl) rfl ?_
      refine aL (i := 1) rfl aj (bC rfl) (fun w h => ((h.anymp (.s (.s (.s (.z))))).anymp (.s (.s (.z))))) aE rfl (aa (ae (aa (ak (ae (aa av)))))) (by kernel_rfl) rfl ?_
      refine aL (i := 2) rfl aj (ap rfl) (fun w h => ((h.anymp (.s (.s (.s (.z))))).anymp (.s (.s (.z))))) aE rfl (aa (ae (aa (ak (ae (aa av)))))) (by kernel_rfl) rfl ?_
      refine aH (i := 3) rfl (aw rfl rfl rfl) (fun w h => ((h.anymp (.s (.s (.s (.z))))).anymp (.s (.s (.z))))) rfl (aa (ae (aa (ak (ae (aa av)))))) (by kernel_rfl) rfl ?_
      refine aH (i := 4) rfl (aw rfl rfl rfl) (fun w h => ((h.anymp (.s (.s (.s (.z))))).anymp (.s (.s (.z))))) rfl (aa (ae (aa (ak (ae (aa av)))))) (by kernel_rfl) rfl ?_
      refine aH (i := 5) rfl (aw rfl rfl rfl) (fun w h => ((h.anymp (.s (.s (.s (.z))))).anymp (.s (.s (.z))))) rfl (aa (ae (aa (ak (ae (aa av)))))) (by kernel_rfl) rfl ?_
      refine aH (i := 6) rfl (aw rfl rfl rfl) (fun w h => ((h.anymp (.s (.s (.s (.z))))).anymp (.s (.s (.z))))) rfl (aa (ae (aa (ak (ae (aa av)))))) (by kernel_rfl) rfl ?_
      refine aL (i := 7) rfl aj (aG rfl rfl) (fun w h => ((h.anymp (.s (.s (.s (.z))))).anymp (.s (.s (.z))))) aE rfl (aa (ae (aa (ak (ae (aa av)))))) (by kernel_rfl) rfl ?_
      refine aL (i := 8) rfl aj (ap rfl) (fun w h => ((h.anymp (.s (.s (.s (.z))))).anymp (.s (.s (.z))))) aE rfl (aa (ae (aa (ak (ae (aa av)))))) (by kernel_rfl) rfl ?_
      refine aH (i := 9) rfl (aw rfl rfl rfl) (fun w h => ((h.anymp (.s (.s (.s (.z))))).anymp (.s (.s (.z))))) rfl (aa (ae (aa (ak (ae (aa av)))))) (by kernel_rfl) rfl ?_
      refine aH (i := 10) rfl (aw rfl rfl rfl) (fun w h => ((h.anymp (.s (.s (.s (.z))))).anymp (.s (.s (.z))))) rfl (aa (ae (aa (ak (ae (aa av)))))) (by kernel_rfl) rfl ?_
      refine aH (i := 11) rfl (aw rfl rfl rfl) (fun w h => ((h.anymp (.s (.s (.s (.z))))).anymp (.s (.s (.z))))) rfl (aa (ae (aa (ak (ae (aa av)))))) (by kernel_rfl) rfl ?_
      refine aL (i := 12) rfl aj (aG rfl rfl) (fun w h => ((h.anymp (.s (.s (.s (.z))))).anymp (.s (.s (.z))))) aE rfl (aa (ae (aa (ak (ae (aa av)))))) (by kernel_rfl) rfl ?_
      refine aL (i := 13) rfl aj (ap rfl) (fun w h => ((h.anymp (.s (.s (.s (.z))))).anymp (.s (.s (.z))))) aE rfl (aa (ae (aa (ak (ae (aa av)))))) (by kernel_rfl) rfl ?_
      refine aH (i := 14) rfl (aw rfl rfl rfl) (fun w h => ((h.anymp (.s (.s (.s (.z))))).anymp (.s (.s (.z))))) rfl (aa (ae (aa (ak (ae (aa av)))))) (by kernel_rfl) rfl ?_
      refine aH (i := 15) rfl (aw rfl rfl rfl) (fun w h => ((h.anymp (.s (.s (.s (.z))))).anymp (.s (.s (.z))))) rfl (aa (ae (aa (ak (ae (aa av)))))) (by kernel_rfl) rfl ?_
      refine aH (i := 16) rfl (aw rfl rfl rfl) (fun w h => ((h.anymp (.s (.s (.s (.z))))).anymp (.s (.s (.z))))) rfl (aa (ae (aa (ak (ae (aa av)))))) (by kernel_rfl) rfl ?_
      refine aH (i := 17) rfl (aw rfl rfl rfl) (fun w h => ((h.anymp (.s (.s (.s (.z))))).anymp (.s (.s (.z))))) rfl (aa (ae (aa (ak (ae (aa av)))))) (by kernel_rfl) rfl ?_
      refine aL (i := 18) rfl aj (aG rfl rfl) (fun w h => ((h.anymp (.s (.s (.s (.z))))).anymp (.s (.s (.z))))) aE rfl (aa (ae (aa (ak (ae (aa av)))))) (by kernel_rfl) rfl ?_
      refine aL (i := 19) rfl aj (ap rfl) (fun w h => ((h.anymp (.s (.s (.s (.z))))).anymp (.s (.s (.z))))) aE rfl (aa (ae (aa (ak (ae (aa av)))))) (by kernel_rfl) rfl ?_
      refine aH (i := 20) rfl (aw rfl rfl rfl) (fun w h => ((h.anymp (.s (.s (.s (.z))))).anymp (.s (.s (.z))))) rfl (aa (ae (aa (ak (ae (aa av)))))) (by kernel_rfl) rfl ?_
      refine aH (i := 21) rfl (aw rfl rfl rfl) (fun w h => ((h.anymp (.s (.s (.s (.z))))).anymp (.s (.s (.z))))) rfl (aa (ae (aa (ak (ae (aa av)))))) (by kernel_rfl) rfl ?_
      refine aH (i := 22) rfl (aw rfl rfl rfl) (fun w h => ((h.anymp (.s (.s (.s (.z))))).anymp (.s (.s (.z))))) rfl (aa (ae (aa (ak (ae (aa av)))))) (by kernel_rfl) rfl ?_
      refine aH (i := 23) rfl (aw rfl rfl rfl) (fun w h => ((h.anymp (.s (.s (.s (.z))))).anymp (.s (.s (.z))))) rfl (aa (ae (aa (ak (ae (aa av)))))) (by kernel_rfl) rfl ?_
      refine aH (i := 24) rfl (aw rfl rfl rfl) (fun w h => ((h.anymp (.s (.s (.s (.z))))).anymp (.s (.s (.z))))) rfl (aa (ae (aa (ak (ae (aa av)))))) (by kernel_rfl) rfl ?_
      refine aH (i := 26) rfl (aw rfl rfl rfl) (fun w h => ((h.anymp (.s (.s (.s (.z))))).anymp (.s (.s (.z))))) rfl (aa (ae (aa (ak (ae (aa av)))))) (by kernel_rfl) rfl ?_
      refine aH (i := 27) rfl (aw rfl rfl rfl) (fun w h => ((h.anymp (.s (.s (.s (.z))))).anymp (.s (.s (.z))))) rfl (aa (ae (aa (ak (ae (aa av)))))) (by kernel_rfl) rfl ?_
      refine aH (i := 25) rfl (aw rfl rfl rfl) (fun w h => ((h.anymp (.s (.s (.s (.z))))).anymp (.s (.s (.z))))) rfl (aa (ae (aa (ak (ae (aa av)))))) (by kernel_rfl) rfl ?_
      refine aH (i := 28) rfl (aw rfl rfl rfl) (fun w h => ((h.anymp (.s (.s (.s (.z))))).anymp (.s (.s (.z))))) rfl (aa (ae (aa (ak (ae (aa av)))))) (by kernel_rfl) rfl ?_
      refine aH (i := 29) rfl (aw rfl rfl rfl) (fun w h => ((h.anymp (.s (.s (.s (.z))))).anymp (.s (.s (.z))))) rfl (aa (ae (aa (ak (ae (aa av)))))) (by kernel_rfl) rfl ?_
      refine aL (i := 30) rfl aj (aG rfl rfl) (fun w h => ((h.anymp (.s (.s (.s (.z))))).anymp (.s (.s (.z))))) aE rfl (aa (ae (aa (ak (ae (aa av)))))) (by kernel_rfl) rfl ?_
      refine aL (i := 31) rfl aj (ap rfl) (fun w h => ((h.anymp (.s (.s (.s (.z))))).anymp (.s (.s (.z))))) aE rfl (aa (ae (aa (ak (ae (aa av)))))) (by kernel_rfl) rfl ?_
      refine aH (i := 32) rfl (aw rfl rfl rfl) (fun w h => ((h.anymp (.s (.s (.s (.z))))).anymp (.s (.s (.z))))) rfl (aa (ae (aa (ak (ae (aa av)))))) (by kernel_rfl) rfl ?_
      refine aH (i := 33) rfl (aw rfl rfl rfl) (fun w h => ((h.anymp (.s (.s (.s (.z))))).anymp (.s (.s (.z))))) rfl (aa (ae (aa (ak (ae (aa av)))))) (by kernel_rfl) rfl ?_
      refine aH (i := 34) rfl (aw rfl rfl rfl) (fun w h => ((h.anymp (.s (.s (.s (.z))))).anymp (.s (.s (.z))))) rfl (aa (ae (aa (ak (ae (aa av)))))) (by kernel_rfl) rfl ?_
      refine aH (i := 35) rfl (aw rfl rfl rfl) (fun w h => ((h.anymp (.s (.s (.s (.z))))).anymp (.s (.s (.z))))) rfl (aa (ae (aa (ak (ae (aa av)))))) (by kernel_rfl) rfl ?_
      refine aH (i := 36) rfl (aw rfl rfl rfl) (fun w h => ((h.anymp (.s (.s (.s (.z))))).anymp (.s (.s (.z))))) rfl (aa (ae (aa (ak (ae (aa av)))))) (by kernel_rfl) rfl ?_
      refine aH (i := 37) rfl (aw rfl rfl rfl) (fun w h => ((h.anymp (.s (.s (.s (.z))))).anymp (.s (.s (.z))))) rfl (aa (ae (aa (ak (ae (aa av)))))) (by kernel_rfl) rfl ?_
      refine aH (i := 38) rfl (aw rfl rfl rfl) (fun w h => ((h.anymp (.s (.s (.s (.z))))).anymp (.s (.s (.z))))) rfl (aa (ae (aa (ak (ae (aa av)))))) (by kernel_rfl) rfl ?_
      refine aH (i := 39) rfl (aw rfl rfl rfl) (fun w h => ((h.anymp (.s (.s (.s (.z))))).anymp (.s (.s (.z))))) rfl (aa (ae (aa (ak (ae (aa av)))))) (by kernel_rfl) rfl ?_
      refine aH (i := 40) rfl (aw rfl rfl rfl) (fun w h => ((h.anymp (.s (.s (.s (.z))))).anymp (.s (.s (.z))))) rfl (aa (ae (aa (ak (ae (aa av)))))) (by kernel_rfl) rfl ?_
      refine aL (i := 41) rfl aj (aG rfl rfl) (fun w h => ((h.anymp (.s (.s (.s (.z))))).anymp (.s (.s (.z))))) aE rfl (aa (ae (aa (ak (ae (aa av)))))) (by kernel_rfl) rfl ?_
      refine cr (by kernel_rfl) ?_
      refine aq ?_
      refine aA rfl ?_
      refine ar ?_
      refine ai ?_
      refine au (ao rfl) rfl rfl ?_
      refine au (ao rfl) rfl rfl ?_
      refine ah ?_
      refine aq ?_
      refine aQ ?_
      refine aK ?_
      refine ay ?_
      refine a9 ?_
      refine aK ?_
      refine ay ?_
      refine aV (ts := [4, 5]) rfl rfl rfl (fun w hw => ?_)
      have hno : ¬ bU (l.map (·.e)) hs := fun H => by
        obtain ⟨q1, ⟨e, q2, q3⟩, q4, q5, q6⟩ := H i hi
        rw [← lk_E hI8 hI9, iD h15_10] at q2; cases q2
      exact ⟨⟨none, fun _ => hno, nofun⟩, rfl, hw.base, ((hw.weak (List.nil_sublist _) (fun s hs => hs)).rall0).toNews⟩
    exact ff
   refine cV (i := 11) rfl rfl ?_ ?_
   ·skip
    refine bj aR rfl rfl (fun b24 => ?_)
    refine ah ?_
    refine bR (fun w h => h.weak (.cons _ (List.Sublist.refl _)) (fun s hs => hs)) ?_
    refine bQ (i := 6) rfl (by kernel_rfl) rfl ?_
    refine bb rfl il (eW _ (by omega)) rfl ?_
    refine ah ?_
    refine bR (fun w h => h.weak (.cons _ (List.Sublist.refl _)) (fun s hs => hs)) ?_
    refine bQ (i := 7) rfl (by kernel_rfl) rfl ?_
    refine bp rfl eA rfl (fy hm r1 _) (fun w hw => (aO (dC 7 rfl hw) bd)) ?_
    refine ah ?_
    refine bR (fun w h => h.weak (.cons _ (List.Sublist.refl _)) (fun s hs => hs)) ?_
    refine aL (i := 8) rfl aj (ap rfl) (fun w h => h.weak (.cons _ (List.Sublist.refl _)) (fun s hs => hs)) aE rfl (aa (ae (aa (ak (ae (aa av)))))) (by kernel_rfl) rfl ?_
    refine aL (i := 9) rfl aj (aP rfl rfl) (fun w h => h.weak (.cons _ (List.Sublist.refl _)) (fun s hs => hs)) aE rfl (aa (ae (aa (ak (ae (aa av)))))) (by kernel_rfl) rfl ?_
    refine aL (i := 10) rfl aj (aP rfl rfl) (fun w h => h.weak (.cons _ (List.Sublist.refl _)) (fun s hs => hs)) aE rfl (aa (ae (aa (ak (ae (aa av)))))) (by kernel_rfl) rfl ?_
    refine ew (t := 72) rfl (fun h15_10 => ?_) (fun h15_10 => ?_)
    ·skip
     have hfm := jW hI8 h15_10
     have hbf := es_bnd hI9 hok hfm.1
     refine bQ (i := 12) rfl (by kernel_rfl) rfl ?_
     refine a0 aR rfl rfl rfl .z rfl rfl rfl rfl ?_
     refine ah ?_
     refine bR (fun w h => h.weak (.cons _ (List.Sublist.refl _)) (fun s hs => hs)) ?_
     refine bQ (i := 13) rfl (by kernel_rfl) rfl ?_
     refine au (ao rfl) rfl rfl ?_
     refine ah ?_
     refine bY rfl ?_
     refine cr (by kernel_rfl) ?_
     refine aq ?_
     refine ar ?_
     refine gl 42 cu (fun w h => ((h.anymp (.s (.s (.s (.z))))).anymp (.s (.s (.z))))) ?_
     refine aL (i := 0) rfl aj (ap rfl) (fun w h => ((h.anymp (.s (.s (.s (.z))))).anymp (.s (.s (.z))))) aE rfl (aa (ae (aa (ak (ae (aa av)))))) (by kernel_rfl) rfl ?_
     refine aL (i := 1) rfl aj (bC rfl) (fun w h => ((h.anymp (.s (.s (.s (.z))))).anymp (.s (.s (.z))))) aE rfl (aa (ae (aa (ak (ae (aa av)))))) (by kernel_rfl) rfl ?_
     refine aL (i := 2) rfl aj (ap rfl) (fun w h => ((h.anymp (.s (.s (.s (.z))))).anymp (.s (.s (.z))))) aE rfl (aa (ae (aa (ak (ae (aa av)))))) (by kernel_rfl) rfl ?_
     refine aL (i := 3) rfl (aJ rfl rfl) (aD fC rfl) (fun w h => ((h.anymp (.s (.s (.s (.z))))).anymp (.s (.s (.z))))) aE rfl (aa (ae (aa (ak (ae (aa av)))))) (by kernel_rfl) rfl ?_
     refine aL (i := 4) rfl (aJ rfl rfl) (aM 1 bN rfl rfl rfl) (fun w h => ((h.anymp (.s (.s (.s (.z))))).anymp (.s (.s (.z))))) aE rfl (aa (ae (aa (ak (ae (aa av)))))) (by kernel_rfl) rfl ?_
     refine bQ (i := 5) rfl (by kernel_rfl) rfl ?_
     refine az rfl rfl ?_
     refine bb rfl fK (cX _) rfl ?_
     refine ah ?_
     refine bR (fun w h => ((h.anymp (.s (.s (.s (.z))))).anymp (.s (.s (.z))))) ?_
     refine aL (i := 6) rfl (aJ rfl rfl) (bX rfl rfl) (fun w h => ((h.anymp (.s (.s (.s (.z))))).anymp (.s (.s (.z))))) aE rfl (aa (ae (aa (ak (ae (aa av)))))) (by kernel_rfl) rfl ?_
     refine eu (t := 79) rfl (fun h16_6 => ?_) (fun h16_6 => ?_)
     ·skip
      refine aL (i := 7) rfl aj (aI rfl rfl) (fun w h => ((h.anymp (.s (.s (.s (.z))))).anymp (.s (.s (.z))))) aE rfl (aa (ae (aa (ak (ae (aa av)))))) (by kernel_rfl) rfl ?_
      refine aL (i := 8) rfl aj (ap rfl) (fun w h => ((h.anymp (.s (.s (.s (.z))))).anymp (.s (.s (.z))))) aE rfl (aa (ae (aa (ak (ae (aa av)))))) (by kernel_rfl) rfl ?_
      refine aH (i := 9) rfl (aw rfl rfl rfl) (fun w h => ((h.anymp (.s (.s (.s (.z))))).anymp (.s (.s (.z))))) rfl (aa (ae (aa (ak (ae (aa av)))))) (by kernel_rfl) rfl ?_
      refine aH (i := 10) rfl (aw rfl rfl rfl) (fun w h => ((h.anymp (.s (.s (.s (.z))))).anymp (.s (.s (.z))))) rfl (aa (ae (aa (ak (ae (aa av)))))) (by kernel_rfl) rfl ?_
      refine aH (i := 11) rfl (aw rfl rfl rfl) (fun w h => ((h.anymp (.s (.s (.s (.z))))).anymp (.s (.s (.z))))) rfl (aa (ae (aa (ak (ae (aa av)))))) (by kernel_rfl) rfl ?_
      refine aL (i := 12) rfl aj (aG rfl rfl) (fun w h => ((h.anymp (.s (.s (.s (.z))))).anymp (.s (.s (.z))))) aE rfl (aa (ae (aa (ak (ae (aa av)))))) (by kernel_rfl) rfl ?_
      refine aL (i := 13) rfl aj (ap rfl) (fun w h => ((h.anymp (.s (.s (.s (.z))))).anymp (.s (.s (.z))))) aE rfl (aa (ae (aa (ak (ae (aa av)))))) (by kernel_rfl) rfl ?_
      refine aH (i := 14) rfl (aw rfl rfl rfl) (fun w h => ((h.anymp (.s (.s (.s (.z))))).anymp (.s (.s (.z))))) rfl (aa (ae (aa (ak (ae (aa av)))))) (by kernel_rfl) rfl ?_
      refine aH (i := 15) rfl (aw rfl rfl rfl) (fun w h => ((h.anymp (.s (.s (.s (.z))))).anymp (.s (.s (.z))))) rfl (aa (ae (aa (ak (ae (aa av)))))) (by kernel_rfl) rfl ?_
      refine aH (i := 16) rfl (aw rfl rfl rfl) (fun w h => ((h.anymp (.s (.s (.s (.z))))).anymp (.s (.s (.z))))) rfl (aa (ae (aa (ak (ae (aa av)))))) (by kernel_rfl) rfl ?_
      refine aH (i := 17) rfl (aw rfl rfl rfl) (fun w h => ((h.anymp (.s (.s (.s (.z))))).anymp (.s (.s (.z))))) rfl (aa (ae (aa (ak (ae (aa av)))))) (by kernel_rfl) rfl ?_
      refine aL (i := 18) rfl aj (aG rfl rfl) (fun w h => ((h.anymp (.s (.s (.s (.z))))).anymp (.s (.s (.z))))) aE rfl (aa (ae (aa (ak (ae (aa av)))))) (by kernel_rfl) rfl ?_
      refine aL (i := 19) rfl aj (ap rfl) (fun w h => ((h.anymp (.s (.s (.s (.z))))).anymp (.s (.s (.z))))) aE rfl (aa (ae (aa (ak (ae (aa av)))))) (by kernel_rfl) rfl ?_
      refine aH (i := 20) rfl (aw rfl rfl rfl) (fun w h => ((h.anymp (.s (.s (.s (.z))))).anymp (.s (.s (.z))))) rfl (aa (ae (aa (ak (ae (aa av)))))) (by kernel_rfl) rfl ?_
      refine aH (i := 21) rfl (aw rfl rfl rfl) (fun w h => ((h.anymp (.s (.s (.s (.z))))).anymp (.s (.s (.z))))) rfl (aa (ae (aa (ak (ae (aa av)))))) (by kernel_rfl) rfl ?_
      refine aH (i := 22) rfl (aw rfl rfl rfl) (fun w h => ((h.anymp (.s (.s (.s (.z))))).anymp (.s (.s (.z))))) rfl (aa (ae (aa (ak (ae (aa av)))))) (by kernel_rfl) rfl ?_
      refine aH (i := 23) rfl (aw rfl rfl rfl) (fun w h => ((h.anymp (.s (.s (.s (.z))))).anymp (.s (.s (.z))))) rfl (aa (ae (aa (ak (ae (aa av)))))) (by kernel_rfl) rfl ?_
      refine aH (i := 24) rfl (aw rfl rfl rfl) (fun w h => ((h.anymp (.s (.s (.s (.z))))).anymp (.s (.s (.z))))) rfl (aa (ae (aa (ak (ae (aa av)))))) (by kernel_rfl) rfl ?_
      refine aH (i := 26) rfl (aw rfl rfl rfl) (fun w h => ((h.anymp (.s (.s (.s (.z))))).anymp (.s (.s (.z))))) rfl (aa (ae (aa (ak (ae (aa av)))))) (by kernel_rfl) rfl ?_
      refine aH (i := 27) rfl (aw rfl rfl rfl) (fun w h => ((h.anymp (.s (.s (.s (.z))))).anymp (.s (.s (.z))))) rfl (aa (ae (aa (ak (ae (aa av)))))) (by kernel_rfl) rfl ?_
      refine aH (i := 25) rfl (aw rfl rfl rfl) (fun w h => ((h.anymp (.s (.s (.s (.z))))).anymp (.s (.s (.z))))) rfl (aa (ae (aa (ak (ae (aa av)))))) (by kernel_rfl) rfl ?_
      refine aH (i := 28) rfl (aw rfl rfl rfl) (fun w h => ((h.anymp (.s (.s (.s (.z))))).anymp (.s (.s (.z))))) rfl (aa (ae (aa (ak (ae (aa av)))))) (by kernel_rfl) rfl ?_
      refine aH (i := 29) rfl (aw rfl rfl rfl) (fun w h => ((h.anymp (.s (.s (.s (.z))))).anymp (.s (.s (.z))))) rfl (aa (ae (aa (ak (ae (aa av)))))) (by kernel_rfl) rfl ?_
      refine aL (i := 30) rfl aj (aG rfl rfl) (fun w h => ((h.anymp (.s (.s (.s (.z))))).anymp (.s (.s (.z))))) aE rfl (aa (ae (aa (ak (ae (aa av)))))) (by kernel_rfl) rfl ?_
      refine aL (i := 31) rfl aj (ap rfl) (fun w h => ((h.anymp (.s (.s (.s (.z))))).anymp (.s (.s (.z))))) aE rfl (aa (ae (aa (ak (ae (aa av)))))) (by kernel_rfl) rfl ?_
      refine aH (i := 32) rfl (aw rfl rfl rfl) (fun w h => ((h.anymp (.s (.s (.s (.z))))).anymp (.s (.s (.z))))) rfl (aa (ae (aa (ak (ae (aa av)))))) (by kernel_rfl) rfl ?_
      refine aH (i := 33) rfl (aw rfl rfl rfl) (fun w h => ((h.anymp (.s (.s (.s (.z))))).anymp (.s (.s (.z))))) rfl (aa (ae (aa (ak (ae (aa av)))))) (by kernel_rfl) rfl ?_
      refine aH (i := 34) rfl (aw rfl rfl rfl) (fun w h => ((h.anymp (.s (.s (.s (.z))))).anymp (.s (.s (.z))))) rfl (aa (ae (aa (ak (ae (aa av)))))) (by kernel_rfl) rfl ?_
      refine aH (i := 35) rfl (aw rfl rfl rfl) (fun w h => ((h.anymp (.s (.s (.s (.z))))).anymp (.s (.s (.z))))) rfl (aa (ae (aa (ak (ae (aa av)))))) (by kernel_rfl) rfl ?_
      refine aH (i := 36) rfl (aw rfl rfl rfl) (fun w h => ((h.anymp (.s (.s (.s (.z))))).anymp (.s (.s (.z))))) rfl (aa (ae (aa (ak (ae (aa av)))))) (by kernel_rfl) rfl ?_
      refine aH (i := 37) rfl (aw rfl rfl rfl) (fun w h => ((h.anymp (.s (.s (.s (.z))))).anymp (.s (.s (.z))))) rfl (aa (ae (aa (ak (ae (aa av)))))) (by kernel_rfl) rfl ?_
      refine aH (i := 38) rfl (aw rfl rfl rfl) (fun w h => ((h.anymp (.s (.s (.s (.z))))).anymp (.s (.s (.z))))) rfl (aa (ae (aa (ak (ae (aa av)))))) (by kernel_rfl) rfl ?_
      refine aH (i := 39) rfl (aw rfl rfl rfl) (fun w h => ((h.anymp (.s (.s (.s (.z))))).anymp (.s (.s (.z))))) rfl (aa (ae (aa (ak (ae (aa av)))))) (by kernel_rfl) rfl ?_
      refine aH (i := 40) rfl (aw rfl rfl rfl) (fun w h => ((h.anymp (.s (.s (.s (.z))))).anymp (.s (.s (.z))))) rfl (aa (ae (aa (ak (ae (aa av)))))) (by kernel_rfl) rfl ?_
      refine aL (i := 41) rfl aj (aG rfl rfl) (fun w h => ((h.anymp (.s (.s (.s (.z))))).anymp (.s (.s (.z))))) aE rfl (aa (ae (aa (ak (ae (aa av)))))) (by kernel_rfl) rfl ?_
      refine cr (by kernel_rfl) ?_
      refine aq ?_
      refine aA rfl ?_
      refine ar ?_
      refine ai ?_
      refine au (ao rfl) rfl rfl ?_
      refine au (ao rfl) rfl rfl ?_
      refine ah ?_
      refine aq ?_
      refine aQ ?_
      refine aK ?_
      refine ay ?_
      refine a9 ?_
      refine aK ?_
      refine ay ?_
      refine aV (ts := [4, 5]) rfl rfl rfl (fun w hw => ?_)
      have hno : ¬ bU (l.map (·.e)) hs := fun H => by
        obtain ⟨q1, ⟨e, q2, q3⟩, q4, q5, q6⟩ := H i hi
        exact h16_6 q1
      exact ⟨⟨none, fun _ => hno, nofun⟩, rfl, hw.base, ((hw.weak (List.nil_sublist _) (fun s hs => hs)).rall0).toNews⟩
     ·skip
      refine aL (i := 7) rfl aj (aI rfl rfl) (fun w h => ((h.anymp (.s (.s (.s (.z))))).anymp (.s (.s (.z))))) aE rfl (aa (ae (aa (ak (ae (aa av)))))) (by kernel_rfl) rfl ?_
      refine aL (i := 8) rfl aj (ap rfl) (fun w h => ((h.anymp (.s (.s (.s (.z))))).anymp (.s (.s (.z))))) aE rfl (aa (ae (aa (ak (ae (aa av)))))) (by kernel_rfl) rfl ?_
      refine aL (i := 9) rfl (aJ rfl rfl) (aD ea rfl) (fun w h => ((h.anymp (.s (.s (.s (.z))))).anymp (.s (.s (.z))))) aE rfl (aa (ae (aa (ak (ae (aa av)))))) (by kernel_rfl) rfl ?_
      refine aL (i := 10) rfl (aJ rfl rfl) (aM 0 de rfl rfl rfl) (fun w h => ((h.anymp (.s (.s (.s (.z))))).anymp (.s (.s (.z))))) aE rfl (aa (ae (aa (ak (ae (aa av)))))) (by kernel_rfl) rfl ?_
      refine aL (i := 11) rfl (aJ rfl rfl) (bX rfl rfl) (fun w h => ((h.anymp (.s (.s (.s (.z))))).anymp (.s (.s (.z))))) aE rfl (aa (ae (aa (ak (ae (aa av)))))) (by kernel_rfl) rfl ?_
      refine eu (t := 84) rfl (fun h16_11 => ?_) (fun h16_11 => ?_)
      ·skip
       refine aL (i := 12) rfl aj (aI rfl rfl) (fun w h => ((h.anymp (.s (.s (.s (.z))))).anymp (.s (.s (.z))))) aE rfl (aa (ae (aa (ak (ae (aa av)))))) (by kernel_rfl) rfl ?_
       refine aL (i := 13) rfl aj (ap rfl) (fun w h => ((h.anymp (.s (.s (.s (.z))))).anymp (.s (.s (.z))))) aE rfl (aa (ae (aa (ak (ae (aa av)))))) (by kernel_rfl) rfl ?_
       refine aH (i := 14) rfl (aw rfl rfl rfl) (fun w h => ((h.anymp (.s (.s (.s (.z))))).anymp (.s (.s (.z))))) rfl (aa (ae (aa (ak (ae (aa av)))))) (by kernel_rfl) rfl ?_
       refine aH (i := 15) rfl (aw rfl rfl rfl) (fun w h => ((h.anymp (.s (.s (.s (.z))))).anymp (.s (.s (.z))))) rfl (aa (ae (aa (ak (ae (aa av)))))) (by kernel_rfl) rfl ?_
       refine aH (i := 16) rfl (aw rfl rfl rfl) (fun w h => ((h.anymp (.s (.s (.s (.z))))).anymp (.s (.s (.z))))) rfl (aa (ae (aa (ak (ae (aa av)))))) (by kernel_rfl) rfl ?_
       refine aH (i := 17) rfl (aw rfl rfl rfl) (fun w h => ((h.anymp (.s (.s (.s (.z))))).anymp (.s (.s (.z))))) rfl (aa (ae (aa (ak (ae (aa av)))))) (by kernel_rfl) rfl ?_
       refine aL (i := 18) rfl aj (aG rfl rfl) (fun w h => ((h.anymp (.s (.s (.s (.z))))).anymp (.s (.s (.z))))) aE rfl (aa (ae (aa (ak (ae (aa av)))))) (by kernel_rfl) rfl ?_
       refine aL (i := 19) rfl aj (ap rfl) (fun w h => ((h.anymp (.s (.s (.s (.z))))).anymp (.s (.s (.z))))) aE rfl (aa (ae (aa (ak (ae (aa av)))))) (by kernel_rfl) rfl ?_
       refine aH (i := 20) rfl (aw rfl rfl rfl) (fun w h => ((h.anymp (.s (.s (.s (.z))))).anymp (.s (.s (.z))))) rfl (aa (ae (aa (ak (ae (aa av)))))) (by kernel_rfl) rfl ?_
       refine aH (i := 21) rfl (aw rfl rfl rfl) (fun w h => ((h.anymp (.s (.s (.s (.z))))).anymp (.s (.s (.z))))) rfl (aa (ae (aa (ak (ae (aa av)))))) (by kernel_rfl) rfl ?_
       refine aH (i := 22) rfl (aw rfl rfl rfl) (fun w h => ((h.anymp (.s (.s (.s (.z))))).anymp (.s (.s (.z))))) rfl (aa (ae (aa (ak (ae (aa av)))))) (by kernel_rfl) rfl ?_
       refine aH (i := 23) rfl (aw rfl rfl rfl) (fun w h => ((h.anymp (.s (.s (.s (.z))))).anymp (.s (.s (.z))))) rfl (aa (ae (aa (ak (ae (aa av)))))) (by kernel_rfl) rfl ?_
       refine aH (i := 24) rfl (aw rfl rfl rfl) (fun w h => ((h.anymp (.s (.s (.s (.z))))).anymp (.s (.s (.z))))) rfl (aa (ae (aa (ak (ae (aa av)))))) (by kernel_rfl) rfl ?_
       refine aH (i := 26) rfl (aw rfl rfl rfl) (fun w h => ((h.anymp (.s (.s (.s (.z))))).anymp (.s (.s (.z))))) rfl (aa (ae (aa (ak (ae (aa av)))))) (by kernel_rfl) rfl ?_
       refine aH (i := 27) rfl (aw rfl rfl rfl) (fun w h => ((h.anymp (.s (.s (.s (.z))))).anymp (.s (.s (.z))))) rfl (aa (ae (aa (ak (ae (aa av)))))) (by kernel_rfl) rfl ?_
       refine aH (i := 25) rfl (aw rfl rfl rfl) (fun w h => ((h.anymp (.s (.s (.s (.z))))).anymp (.s (.s (.z))))) rfl (aa (ae (aa (ak (ae (aa av)))))) (by kernel_rfl) rfl ?_
       refine aH (i := 28) rfl (aw rfl rfl rfl) (fun w h => ((h.anymp (.s (.s (.s (.z))))).anymp (.s (.s (.z))))) rfl (aa (ae (aa (ak (ae (aa av)))))) (by kernel_rfl) rfl ?_
       refine aH (i := 29) rfl (aw rfl rfl rfl) (fun w h => ((h.anymp (.s (.s (.s (.z))))).anymp (.s (.s (.z))))) rfl (aa (ae (aa (ak (ae (aa av)))))) (by kernel_rfl) rfl ?_
       refine aL (i := 30) rfl aj (aG rfl rfl) (fun w h => ((h.anymp (.s (.s (.s (.z))))).anymp (.s (.s (.z))))) aE rfl (aa (ae (aa (ak (ae (aa av)))))) (by kernel_rfl) rfl ?_
       refine aL (i := 31) rfl aj (ap rfl) (fun w h => ((h.anymp (.s (.s (.s (.z))))).anymp (.s (.s (.z))))) aE rfl (aa (ae (aa (ak (ae (aa av)))))) (by kernel_rfl) rfl ?_
       refine aH (i := 32) rfl (aw rfl rfl rfl) (fun w h => ((h.anymp (.s (.s (.s (.z))))).anymp (.s (.s (.z))))) rfl (aa (ae (aa (ak (ae (aa av)))))) (by kernel_rfl) rfl ?_
       refine aH (i := 33) rfl (aw rfl rfl rfl) (fun w h => ((h.anymp (.s (.s (.s (.z))))).anymp (.s (.s (.z))))) rfl (aa (ae (aa (ak (ae (aa av)))))) (by kernel_rfl) rfl ?_
       refine aH (i := 34) rfl (aw rfl rfl rfl) (fun w h => ((h.anymp (.s (.s (.s (.z))))).anymp (.s (.s (.z))))) rfl (aa (ae (aa (ak (ae (aa av)))))) (by kernel_rfl) rfl ?_
       refine aH (i := 35) rfl (aw rfl rfl rfl) (fun w h => ((h.anymp (.s (.s (.s (.z))))).anymp (.s (.s (.z))))) rfl (aa (ae (aa (ak (ae (aa av)))))) (by kernel_rfl) rfl ?_
       refine aH (i := 36) rfl (aw rfl rfl rfl) (fun w h => ((h.anymp (.s (.s (.s (.z))))).anymp (.s (.s (.z))))) rfl (aa (ae (aa (ak (ae (aa av)))))) (by kernel_rfl) rfl ?_
       refine aH (i := 37) rfl (aw rfl rfl rfl) (fun w h => ((h.anymp (.s (.s (.s (.z))))).anymp (.s (.s (.z))))) rfl (aa (ae (aa (ak (ae (aa av)))))) (by kernel_rfl) rfl ?_
       refine aH (i := 38) rfl (aw rfl rfl rfl) (fun w h => ((h.anymp (.s (.s (.s (.z))))).anymp (.s (.s (.z))))) rfl (aa (ae (aa (ak (ae (aa av)))))) (by kernel_rfl) rfl ?_
       refine aH (i := 39) rfl (aw rfl rfl rfl) (fun w h => ((h.anymp (.s (.s (.s (.z))))).anymp (.s (.s (.z))))) rfl (aa (ae (aa (ak (ae (aa av)))))) (by kernel_rfl) rfl ?_
       refine aH (i := 40) rfl (aw rfl rfl rfl) (fun w h => ((h.anymp (.s (.s (.s (.z))))).anymp (.s (.s (.z))))) rfl (aa (ae (aa (ak (ae (aa av)))))) (by kernel_rfl) rfl ?_
       refine aL (i := 41) rfl aj (aG rfl rfl) (fun w h => ((h.anymp (.s (.s (.s (.z))))).anymp (.s (.s (.z))))) aE rfl (aa (ae (aa (ak (ae (aa av)))))) (by kernel_rfl) rfl ?_
       refine cr (by kernel_rfl) ?_
       refine aq ?_
       refine aA rfl ?_
       refine ar ?_
       refine ai ?_
       refine au (ao rfl) rfl rfl ?_
       refine au (ao rfl) rfl rfl ?_
       refine ah ?_
       refine aq ?_
       refine aQ ?_
       refine aK ?_
       refine ay ?_
       refine a9 ?_
       refine aK ?_
       refine ay ?_
       refine aV (ts := [4, 5]) rfl rfl rfl (fun w hw => ?_)
       have hno : ¬ bU (l.map (·.e)) hs := fun H => by
         obtain ⟨q1, ⟨e, q2, q3⟩, q4, q5, q6⟩ := H i hi
         rw [iJ hI8 hI9 h15_10] at q2; rw [← Option.some.inj q2] at q3; exact h16_11 q3
       exact ⟨⟨none, fun _ => hno, nofun⟩, rfl, hw.base, ((hw.weak (List.nil_sublist _) (fun s hs => hs)).rall0).toNews⟩
      ·skip
       refine aL (i := 12) rfl aj (aI rfl rfl) (fun w h => ((h.anymp (.s (.s (.s (.z))))).anymp (.s (.s (.z))))) aE rfl (aa (ae (aa (ak (ae (aa av)))))) (by kernel_rfl) rfl ?_
       refine aL (i := 13) rfl aj (ap rfl) (fun w h => ((h.anymp (.s (.s (.s (.z))))).anymp (.s (.s (.z))))) aE rfl (aa (ae (aa (ak (ae (aa av)))))) (by kernel_rfl) rfl ?_
       refine aL (i := 14) rfl (aJ rfl rfl) (aD eb rfl) (fun w h => ((h.anymp (.s (.s (.s (.z))))).anymp (.s (.s (.z))))) aE rfl (aa (ae (aa (ak (ae (aa av)))))) (by kernel_rfl) rfl ?_
       refine aL (i := 15) rfl (aJ rfl rfl) (a6 1 bu rfl rfl rfl rfl) (fun w h => ((h.anymp (.s (.s (.s (.z))))).anymp (.s (.s (.z))))) aE rfl (aa (ae (aa (ak (ae (aa av)))))) (by kernel_rfl) rfl ?_
       refine bQ (i := 16) rfl (by kernel_rfl) rfl ?_
       refine az rfl rfl ?_
       refine bb rfl ent_75 (fd _ hih.2) rfl ?_
       refine ah ?_
       refine bR (fun w h => ((h.anymp (.s (.s (.s (.z))))).anymp (.s (.s (.z))))) ?_
       refine aL (i := 17) rfl (aJ rfl rfl) (bX rfl rfl) (fun w h => ((h.anymp (.s (.s (.s (.z))))).anymp (.s (.s (.z))))) aE rfl (aa (ae (aa (ak (ae (aa av)))))) (by kernel_rfl) rfl ?_
       refine eu (t := 90) rfl (fun h16_17 => ?_) (fun h16_17 => ?_)
       ·skip
        refine aL (i := 18) rfl aj (aI rfl rfl) (fun w h => ((h.anymp (.s (.s (.s (.z))))).anymp (.s (.s (.z))))) aE rfl (aa (ae (aa (ak (ae (aa av)))))) (by kernel_rfl) rfl ?_
        refine aL (i := 19) rfl aj (ap rfl) (fun w h => ((h.anymp (.s (.s (.s (.z))))).anymp (.s (.s (.z))))) aE rfl (aa (ae (aa (ak (ae (aa av)))))) (by kernel_rfl) rfl ?_
        refine aH (i := 20) rfl (aw rfl rfl rfl) (fun w h => ((h.anymp (.s (.s (.s (.z))))).anymp (.s (.s (.z))))) rfl (aa (ae (aa (ak (ae (aa av)))))) (by kernel_rfl) rfl ?_
        refine aH (i := 21) rfl (aw rfl rfl rfl) (fun w h => ((h.anymp (.s (.s (.s (.z))))).anymp (.s (.s (.z))))) rfl (aa (ae (aa (ak (ae (aa av)))))) (by kernel_rfl) rfl ?_
        refine aH (i := 22) rfl (aw rfl rfl rfl) (fun w h => ((h.anymp (.s (.s (.s (.z))))).anymp (.s (.s (.z))))) rfl (aa (ae (aa (ak (ae (aa av)))))) (by kernel_rfl) rfl ?_
        refine aH (i := 23) rfl (aw rfl rfl rfl) (fun w h => ((h.anymp (.s (.s (.s (.z))))).anymp (.s (.s (.z))))) rfl (aa (ae (aa (ak (ae (aa av)))))) (by kernel_rfl) rfl ?_
        refine aH (i := 24) rfl (aw rfl rfl rfl) (fun w h => ((h.anymp (.s (.s (.s (.z))))).anymp (.s (.s (.z))))) rfl (aa (ae (aa (ak (ae (aa av)))))) (by kernel_rfl) rfl ?_
        refine aH (i := 26) rfl (aw rfl rfl rfl) (fun w h => ((h.anymp (.s (.s (.s (.z))))).anymp (.s (.s (.z))))) rfl (aa (ae (aa (ak (ae (aa av)))))) (by kernel_rfl) rfl ?_
        refine aH (i := 27) rfl (aw rfl rfl rfl) (fun w h => ((h.anymp (.s (.s (.s (.z))))).anymp (.s (.s (.z))))) rfl (aa (ae (aa (ak (ae (aa av)))))) (by kernel_rfl) rfl ?_
        refine aH (i := 25) rfl (aw rfl rfl rfl) (fun w h => ((h.anymp (.s (.s (.s (.z))))).anymp (.s (.s (.z))))) rfl (aa (ae (aa (ak (ae (aa av)))))) (by kernel_rfl) rfl ?_
        refine aH (i := 28) rfl (aw rfl rfl rfl) (fun w h => ((h.anymp (.s (.s (.s (.z))))).anymp (.s (.s (.z))))) rfl (aa (ae (aa (ak (ae (aa av)))))) (by kernel_rfl) rfl ?_
        refine aH (i := 29) rfl (aw rfl rfl rfl) (fun w h => ((h.anymp (.s (.s (.s (.z))))).anymp (.s (.s (.z))))) rfl (aa (ae (aa (ak (ae (aa av)))))) (by kernel_rfl) rfl ?_
        refine aL (i := 30) rfl aj (aG rfl rfl) (fun w h => ((h.anymp (.s (.s (.s (.z))))).anymp (.s (.s (.z))))) aE rfl (aa (ae (aa (ak (ae (aa av)))))) (by kernel_rfl) rfl ?_
        refine aL (i := 31) rfl aj (ap rfl) (fun w h => ((h.anymp (.s (.s (.s (.z))))).anymp (.s (.s (.z))))) aE rfl (aa (ae (aa (ak (ae (aa av)))))) (by kernel_rfl) rfl ?_
        refine aH (i := 32) rfl (aw rfl rfl rfl) (fun w h => ((h.anymp (.s (.s (.s (.z))))).anymp (.s (.s (.z))))) rfl (aa (ae (aa (ak (ae (aa av)))))) (by kernel_rfl) rfl ?_
        refine aH (i := 33) rfl (aw rfl rfl rfl) (fun w h => ((h.anymp (.s (.s (.s (.z))))).anymp (.s (.s (.z))))) rfl (aa (ae (aa (ak (ae (aa av)))))) (by kernel_rfl) rfl ?_
        refine aH (i := 34) rfl (aw rfl rfl rfl) (fun w h => ((h.anymp (.s (.s (.s (.z))))).anymp (.s (.s (.z))))) rfl (aa (ae (aa (ak (ae (aa av)))))) (by kernel_rfl) rfl ?_
        refine aH (i := 35) rfl (aw rfl rfl rfl) (fun w h => ((h.anymp (.s (.s (.s (.z))))).anymp (.s (.s (.z))))) rfl (aa (ae (aa (ak (ae (aa av)))))) (by kernel_rfl) rfl ?_
        refine aH (i := 36) rfl (aw rfl rfl rfl) (fun w h => ((h.anymp (.s (.s (.s (.z))))).anymp (.s (.s (.z))))) rfl (aa (ae (aa (ak (ae (aa av)))))) (by kernel_rfl) rfl ?_
        refine aH (i := 37) rfl (aw rfl rfl rfl) (fun w h => ((h.anymp (.s (.s (.s (.z))))).anymp (.s (.s (.z))))) rfl (aa (ae (aa (ak (ae (aa av)))))) (by kernel_rfl) rfl ?_
        refine aH (i := 38) rfl (aw rfl rfl rfl) (fun w h => ((h.anymp (.s (.s (.s (.z))))).anymp (.s (.s (.z))))) rfl (aa (ae (aa (ak (ae (aa av)))))) (by kernel_rfl) rfl ?_
        refine aH (i := 39) rfl (aw rfl rfl rfl) (fun w h => ((h.anymp (.s (.s (.s (.z))))).anymp (.s (.s (.z))))) rfl (aa (ae (aa (ak (ae (aa av)))))) (by kernel_rfl) rfl ?_
        refine aH (i := 40) rfl (aw rfl rfl rfl) (fun w h => ((h.anymp (.s (.s (.s (.z))))).anymp (.s (.s (.z))))) rfl (aa (ae (aa (ak (ae (aa av)))))) (by kernel_rfl) rfl ?_
        refine aL (i := 41) rfl aj (aG rfl rfl) (fun w h => ((h.anymp (.s (.s (.s (.z))))).anymp (.s (.s (.z))))) aE rfl (aa (ae (aa (ak (ae (aa av)))))) (by kernel_rfl) rfl ?_
        refine cr (by kernel_rfl) ?_
        refine aq ?_
        refine aA rfl ?_
        refine ar ?_
        refine ai ?_
        refine au (ao rfl) rfl rfl ?_
        refine au (ao rfl) rfl rfl ?_
        refine ah ?_
        refine aq ?_
        refine aQ ?_
        refine aK ?_
        refine ay ?_
        refine a9 ?_
        refine aK ?_
        refine ay ?_
        refine aV (ts := [4, 5]) rfl rfl rfl (fun w hw => ?_)
        have hno : ¬ bU (l.map (·.e)) hs := fun H => by
          obtain ⟨q1, ⟨e, q2, q3⟩, q4, q5, q6⟩ := H i hi
          exact h16_17 q4
        exact ⟨⟨none, fun _ => hno, nofun⟩, rfl, hw.base, ((hw.weak (List.nil_sublist _) (fun s hs => hs)).rall0).toNews⟩
       ·skip
        refine aL (i := 18) rfl aj (aI rfl rfl) (fun w h => ((h.anymp (.s (.s (.s (.z))))).anymp (.s (.s (.z))))) aE rfl (aa (ae (aa (ak (ae (aa av)))))) (by kernel_rfl) rfl ?_
        refine aL (i := 19) rfl aj (ap rfl) (fun w h => ((h.anymp (.s (.s (.s (.z))))).anymp (.s (.s (.z))))) aE rfl (aa (ae (aa (ak (ae (aa av)))))) (by kernel_rfl) rfl ?_
        refine aL (i := 20) rfl (aJ rfl rfl) (ap rfl) (fun w h => ((h.anymp (.s (.s (.s (.z))))).anymp (.s (.s (.z))))) aE rfl (aa (ae (aa (ak (ae (aa av)))))) (by kernel_rfl) rfl ?_
        refine aL (i := 21) rfl (aJ rfl rfl) (bh rfl) (fun w h => ((h.anymp (.s (.s (.s (.z))))).anymp (.s (.s (.z))))) aE rfl (aa (ae (aa (ak (ae (aa av)))))) (by kernel_rfl) rfl ?_
        refine aL (i := 22) rfl (aJ rfl rfl) (aD io rfl) (fun w h => ((h.anymp (.s (.s (.s (.z))))).anymp (.s (.s (.z))))) aE rfl (aa (ae (aa (ak (ae (aa av)))))) (by kernel_rfl) rfl ?_
        refine aL (i := 23) rfl (aJ rfl rfl) (aM 6 ty_118 rfl rfl rfl) (fun w h => ((h.anymp (.s (.s (.s (.z))))).anymp (.s (.s (.z))))) aE rfl (aa (ae (aa (ak (ae (aa av)))))) (by kernel_rfl) rfl ?_
        refine aL (i := 24) rfl (aJ rfl rfl) (a6 0 aR rfl rfl rfl rfl) (fun w h => ((h.anymp (.s (.s (.s (.z))))).anymp (.s (.s (.z))))) aE rfl (aa (ae (aa (ak (ae (aa av)))))) (by kernel_rfl) rfl ?_
        refine aL (i := 26) rfl (aJ rfl rfl) (aD eb rfl) (fun w h => ((h.anymp (.s (.s (.s (.z))))).anymp (.s (.s (.z))))) aE rfl (aa (ae (aa (ak (ae (aa av)))))) (by kernel_rfl) rfl ?_
        refine aL (i := 27) rfl (aJ rfl rfl) (a6 1 bu rfl rfl rfl rfl) (fun w h => ((h.anymp (.s (.s (.s (.z))))).anymp (.s (.s (.z))))) aE rfl (aa (ae (aa (ak (ae (aa av)))))) (by kernel_rfl) rfl ?_
        refine bQ (i := 25) rfl (by kernel_rfl) rfl ?_
        refine az rfl rfl ?_
        refine bb rfl dM (cI _ _ _ _ _ (by have := hbf.h; omega)) rfl ?_
        refine ah ?_
        refine bR (fun w h => ((h.anymp (.s (.s (.s (.z))))).anymp (.s (.s (.z))))) ?_
        refine wv_as (t := 98) (.string (ba (aX (hs.getD i dG).host))) rfl (by rw [hfm.2]) ?_
        refine bQ (i := 28) rfl (by kernel_rfl) rfl ?_
        refine az rfl rfl ?_
        refine dr rfl ent_76 rfl (c_put_d dm r2 (aX (hs.getD i dG).host) (hs.getD i dG).ad) (fun o => (.s (.s (.s (.z))))) (List.mem_of_getElem? (i := 3) rfl) (fun s hs => nomatch hs) (fun o24 => ?_)
        refine ah ?_
        refine bR (fun w h => ((h.anymp (.s (.s (.s (.z))))).anymp (.s (.s (.z))))) ?_
        refine ew (t := 101) rfl (fun h16_28 => ?_) (fun h16_28 => ?_)
        ·skip
         refine aL (i := 29) rfl (aJ rfl rfl) (bC rfl) (fun w h => ((h.anymp (.s (.s (.s (.z))))).anymp (.s (.s (.z))))) aE rfl (aa (ae (aa (ak (ae (aa av)))))) (by kernel_rfl) rfl ?_
         refine aL (i := 30) rfl aj (aI rfl rfl) (fun w h => ((h.anymp (.s (.s (.s (.z))))).anymp (.s (.s (.z))))) aE rfl (aa (ae (aa (ak (ae (aa av)))))) (by kernel_rfl) rfl ?_
         refine aL (i := 31) rfl aj (ap rfl) (fun w h => ((h.anymp (.s (.s (.s (.z))))).anymp (.s (.s (.z))))) aE rfl (aa (ae (aa (ak (ae (aa av)))))) (by kernel_rfl) rfl ?_
         refine aL (i := 32) rfl (aJ rfl rfl) (ap rfl) (fun w h => ((h.anymp (.s (.s (.s (.z))))).anymp (.s (.s (.z))))) aE rfl (aa (ae (aa (ak (ae (aa av)))))) (by kernel_rfl) rfl ?_
         refine aL (i := 33) rfl (aJ rfl rfl) (bh rfl) (fun w h => ((h.anymp (.s (.s (.s (.z))))).anymp (.s (.s (.z))))) aE rfl (aa (ae (aa (ak (ae (aa av)))))) (by kernel_rfl) rfl ?_
         refine aL (i := 34) rfl (aJ rfl rfl) (aD gJ rfl) (fun w h => ((h.anymp (.s (.s (.s (.z))))).anymp (.s (.s (.z))))) aE rfl (aa (ae (aa (ak (ae (aa av)))))) (by kernel_rfl) rfl ?_
         refine aL (i := 35) rfl (aJ rfl rfl) (aM 6 ty_120 rfl rfl rfl) (fun w h => ((h.anymp (.s (.s (.s (.z))))).anymp (.s (.s (.z))))) aE rfl (aa (ae (aa (ak (ae (aa av)))))) (by kernel_rfl) rfl ?_
         refine aL (i := 36) rfl (aJ rfl rfl) (aD eb rfl) (fun w h => ((h.anymp (.s (.s (.s (.z))))).anymp (.s (.s (.z))))) aE rfl (aa (ae (aa (ak (ae (aa av)))))) (by kernel_rfl) rfl ?_
         refine aL (i := 37) rfl (aJ rfl rfl) (a6 1 bu rfl rfl rfl rfl) (fun w h => ((h.anymp (.s (.s (.s (.z))))).anymp (.s (.s (.z))))) aE rfl (aa (ae (aa (ak (ae (aa av)))))) (by kernel_rfl) rfl ?_
         refine aL (i := 38) rfl (aJ rfl rfl) (a6 0 aR rfl rfl rfl rfl) (fun w h => ((h.anymp (.s (.s (.s (.z))))).anymp (.s (.s (.z))))) aE rfl (aa (ae (aa (ak (ae (aa av)))))) (by kernel_rfl) rfl ?_
         refine bQ (i := 39) rfl (by kernel_rfl) rfl ?_
         refine az rfl rfl ?_
         refine dr rfl ent_77 rfl (jJ am r3 (hs.getD i dG).ad ((bT hm (aX (hs.getD i dG).host)).getD br)) (fun o => (.s (.s (.z)))) (List.mem_of_getElem? (i := 2) rfl) (fun s hs => nomatch hs) (fun o25 => ?_)
         refine ah ?_
         refine bR (fun w h => ((h.anymp (.s (.s (.s (.z))))).anymp (.s (.s (.z))))) ?_
         refine ew (t := 112) rfl (fun h16_39 => ?_) (fun h16_39 => ?_)
         ·skip
          refine aL (i := 40) rfl (aJ rfl rfl) (bC rfl) (fun w h => ((h.anymp (.s (.s (.s (.z))))).anymp (.s (.s (.z))))) aE rfl (aa (ae (aa (ak (ae (aa av)))))) (by kernel_rfl) rfl ?_
          refine aL (i := 41) rfl aj (aI rfl rfl) (fun w h => ((h.anymp (.s (.s (.s (.z))))).anymp (.s (.s (.z))))) aE rfl (aa (ae (aa (ak (ae (aa av)))))) (by kernel_rfl) rfl ?_
          refine cr (by kernel_rfl) ?_
          refine aq ?_
          refine aC rfl ?_
          refine aS ?_
          refine bo ?_
          refine aq ?_
          refine ai ?_
          refine au (bl rfl rfl (by omega) (by omega)) rfl rfl ?_
          refine au (ap rfl) rfl rfl ?_
          refine ah ?_
          have hps : ∀ p ∈ hs.take i, (bT hm (aX p.host)).isSome = true := fun p hp => by
            obtain ⟨e, he, _⟩ := held_pre hI.2.1 hI.1 p hp
            rw [← lk_E hI8 hI9] at he
            cases hz : bT hm (aX p.host) with
            | none => rw [hz] at he; cases he
            | some y => rfl
          have hokh : okH (l.map (·.e)) (hs.take i) (hs.getD i dG) := ⟨by omega, ⟨_, iJ hI8 hI9 h15_10, by omega⟩, by omega, dm_no hI.2.2.1 (by simpa using h16_28), am_no hI.2.2.2 hps (by simpa using h16_39)⟩
          refine bq ((i + 1, fM dm (aX (hs.getD i dG).host) (hs.getD i dG).ad, fM am (hs.getD i dG).ad ((bT hm (aX (hs.getD i dG).host)).getD br))) ?_ ?_ ⟨rfl, trivial⟩ (by repeat (first | exact trivial | refine ⟨rfl, ?_⟩)) (fun w h => h.weak (.cons _ (.cons _ (List.Sublist.refl _))) (fun s hs => hs))
          ·refine ⟨by show i + 1 ≤ _; omega, held_step hI.2.1 hokh, ?_, ?_⟩
           · show DmOk _ (hs.take (i + 1))
             rw [bK hs dG i hi]; exact dm_put hI.2.2.1 _
           · show jX _ hm (hs.take (i + 1))
             rw [bK hs dG i hi]; exact am_put hI.2.2.2 hps _ h15_10
          ·show hs.length - (i + 1) < hs.length - i
           omega
         ·skip
          refine aL (i := 40) rfl (aJ rfl rfl) (bC rfl) (fun w h => ((h.anymp (.s (.s (.s (.z))))).anymp (.s (.s (.z))))) aE rfl (aa (ae (aa (ak (ae (aa av)))))) (by kernel_rfl) rfl ?_
          refine aL (i := 41) rfl aj (aI rfl rfl) (fun w h => ((h.anymp (.s (.s (.s (.z))))).anymp (.s (.s (.z))))) aE rfl (aa (ae (aa (ak (ae (aa av)))))) (by kernel_rfl) rfl ?_
          refine cr (by kernel_rfl) ?_
          refine aq ?_
          refine aA rfl ?_
          refine ar ?_
          refine ai ?_
          refine au (ao rfl) rfl rfl ?_
          refine au (ao rfl) rfl rfl ?_
          refine ah ?_
          refine aq ?_
          refine aQ ?_
          refine aK ?_
          refine ay ?_
          refine a9 ?_
          refine aK ?_
          refine ay ?_
          refine aV (ts := [4, 5]) rfl rfl rfl (fun w hw => ?_)
          have hno : ¬ bU (l.map (·.e)) hs := fun H => by
            obtain ⟨q1, ⟨e, q2, q3⟩, q4, q5, q6⟩ := H i hi
            obtain ⟨p, hp, e9⟩ := am_yes hI.2.2.2 (by simpa using h16_39); exact q6 p hp e9
          exact ⟨⟨none, fun _ => hno, nofun⟩, rfl, hw.base, ((hw.weak (List.nil_sublist _) (fun s hs => hs)).rall0).toNews⟩
        ·skip
         refine aL (i := 29) rfl (aJ rfl rfl) (bC rfl) (fun w h => ((h.anymp (.s (.s (.s (.z))))).anymp (.s (.s (.z))))) aE rfl (aa (ae (aa (ak (ae (aa av)))))) (by kernel_rfl) rfl ?_
         refine aL (i := 30) rfl aj (aI rfl rfl) (fun w h => ((h.anymp (.s (.s (.s (.z))))).anymp (.s (.s (.z))))) aE rfl (aa (ae (aa (ak (ae (aa av)))))) (by kernel_rfl) rfl ?_
         refine aL (i := 31) rfl aj (ap rfl) (fun w h => ((h.anymp (.s (.s (.s (.z))))).anymp (.s (.s (.z))))) aE rfl (aa (ae (aa (ak (ae (aa av)))))) (by kernel_rfl) rfl ?_
         refine aH (i := 32) rfl (aw rfl rfl rfl) (fun w h => ((h.anymp (.s (.s (.s (.z))))).anymp (.s (.s (.z))))) rfl (aa (ae (aa (ak (ae (aa av)))))) (by kernel_rfl) rfl ?_
         refine aH (i := 33) rfl (aw rfl rfl rfl) (fun w h => ((h.anymp (.s (.s (.s (.z))))).anymp (.s (.s (.z))))) rfl (aa (ae (aa (ak (ae (aa av)))))) (by kernel_rfl) rfl ?_
         refine aH (i := 34) rfl (aw rfl rfl rfl) (fun w h => ((h.anymp (.s (.s (.s (.z))))).anymp (.s (.s (.z))))) rfl (aa (ae (aa (ak (ae (aa av)))))) (by kernel_rfl) rfl ?_
         refine aH (i := 35) rfl (aw rfl rfl rfl) (fun w h => ((h.anymp (.s (.s (.s (.z))))).anymp (.s (.s (.z))))) rfl (aa (ae (aa (ak (ae (aa av)))))) (by kernel_rfl) rfl ?_
         refine aH (i := 36) rfl (aw rfl rfl rfl) (fun w h => ((h.anymp (.s (.s (.s (.z))))).anymp (.s (.s (.z))))) rfl (aa (ae (aa (ak (ae (aa av)))))) (by kernel_rfl) rfl ?_
         refine aH (i := 37) rfl (aw rfl rfl rfl) (fun w h => ((h.anymp (.s (.s (.s (.z))))).anymp (.s (.s (.z))))) rfl (aa (ae (aa (ak (ae (aa av)))))) (by kernel_rfl) rfl ?_
         refine aH (i := 38) rfl (aw rfl rfl rfl) (fun w h => ((h.anymp (.s (.s (.s (.z))))).anymp (.s (.s (.z))))) rfl (aa (ae (aa (ak (ae (aa av)))))) (by kernel_rfl) rfl ?_
         refine aH (i := 39) rfl (aw rfl rfl rfl) (fun w h => ((h.anymp (.s (.s (.s (.z))))).anymp (.s (.s (.z))))) rfl (aa (ae (aa (ak (ae (aa av)))))) (by kernel_rfl) rfl ?_
         refine aH (i := 40) rfl (aw rfl rfl rfl) (fun w h => ((h.anymp (.s (.s (.s (.z))))).anymp (.s (.s (.z))))) rfl (aa (ae (aa (ak (ae (aa av)))))) (by kernel_rfl) rfl ?_
         refine aL (i := 41) rfl aj (aG rfl rfl) (fun w h => ((h.anymp (.s (.s (.s (.z))))).anymp (.s (.s (.z))))) aE rfl (aa (ae (aa (ak (ae (aa av)))))) (by kernel_rfl) rfl ?_
         refine cr (by kernel_rfl) ?_
         refine aq ?_
         refine aA rfl ?_
         refine ar ?_
         refine ai ?_
         refine au (ao rfl) rfl rfl ?_
         refine au (ao rfl) rfl rfl ?_
         refine ah ?_
         refine aq ?_
         refine aQ ?_
         refine aK ?_
         refine ay ?_
         refine a9 ?_
         refine aK ?_
         refine ay ?_
         refine aV (ts := [4, 5]) rfl rfl rfl (fun w hw => ?_)
         have hno : ¬ bU (l.map (·.e)) hs := fun H => by
           obtain ⟨q1, ⟨e, q2, q3⟩, q4, q5, q6⟩ := H i hi
           obtain ⟨p, hp, e9⟩ := dm_yes hI.2.2.1 (by simpa using h16_28); exact q5 p hp e9
         exact ⟨⟨none, fun _ => hno, nofun⟩, rfl, hw.base, ((hw.weak (List.nil_sublist _) (fun s hs => hs)).rall0).toNews⟩
    ·skip
     refine bQ (i := 12) rfl (by kernel_rfl) rfl ?_
     refine a0 aR rfl rfl rfl .z rfl rfl rfl rfl ?_
     refine ah ?_
     refine bR (fun w h => h.weak (.cons _ (List.Sublist.refl _)) (fun s hs => hs)) ?_
     refine bQ (i := 13) rfl (by kernel_rfl) rfl ?_
     refine au (ao rfl) rfl rfl ?_
     refine ah ?_
     refine bY rfl ?_
     refine cr (by kernel_rfl) ?_
     refine aq ?_
     refine ar ?_
     refine gl 42 cu (fun w h => ((h.anymp (.s (.s (.s (.z))))).anymp (.s (.s (.z))))) ?_
     refine aL (i := 0) rfl aj (ap rfl) (fun w h => ((h.anymp (.s (.s (.s (.z))))).anymp (.s (.s (.z))))) aE rfl (aa (ae (aa (ak (ae (aa av)))))) (by kernel_rfl) rfl ?_
     refine aL (i := 1) rfl aj (bC rfl) (fun w h => ((h.anymp (.s (.s (.s (.z))))).anymp (.s (.s (.z))))) aE rfl (aa (ae (aa (ak (ae (aa av)))))) (by kernel_rfl) rfl ?_
     refine aL (i := 2) rfl aj (ap rfl) (fun w h => ((h.anymp (.s (.s (.s (.z))))).anymp (.s (.s (.z))))) aE rfl (aa (ae (aa (ak (ae (aa av)))))) (by kernel_rfl) rfl ?_
     refine aH (i := 3) rfl (aw rfl rfl rfl) (fun w h => ((h.anymp (.s (.s (.s (.z))))).anymp (.s (.s (.z))))) rfl (aa (ae (aa (ak (ae (aa av)))))) (by kernel_rfl) rfl ?_
     refine aH (i := 4) rfl (aw rfl rfl rfl) (fun w h => ((h.anymp (.s (.s (.s (.z))))).anymp (.s (.s (.z))))) rfl (aa (ae (aa (ak (ae (aa av)))))) (by kernel_rfl) rfl ?_
     refine aH (i := 5) rfl (aw rfl rfl rfl) (fun w h => ((h.anymp (.s (.s (.s (.z))))).anymp (.s (.s (.z))))) rfl (aa (ae (aa (ak (ae (aa av)))))) (by kernel_rfl) rfl ?_
     refine aH (i := 6) rfl (aw rfl rfl rfl) (fun w h => ((h.anymp (.s (.s (.s (.z))))).anymp (.s (.s (.z))))) rfl (aa (ae (aa (ak (ae (aa av)))))) (by kernel_rfl) rfl ?_
     refine aL (i := 7) rfl aj (aG rfl rfl) (fun w h => ((h.anymp (.s (.s (.s (.z))))).anymp (.s (.s (.z))))) aE rfl (aa (ae (aa (ak (ae (aa av)))))) (by kernel_rfl) rfl ?_
     refine aL (i := 8) rfl aj (ap rfl) (fun w h => ((h.anymp (.s (.s (.s (.z))))).anymp (.s (.s (.z))))) aE rfl (aa (ae (aa (ak (ae (aa av)))))) (by kernel_rfl) rfl ?_
     refine aH (i := 9) rfl (aw rfl rfl rfl) (fun w h => ((h.anymp (.s (.s (.s (.z))))).anymp (.s (.s (.z))))) rfl (aa (ae (aa (ak (ae (aa av)))))) (by kernel_rfl) rfl ?_
     refine aH (i := 10) rfl (aw rfl rfl rfl) (fun w h => ((h.anymp (.s (.s (.s (.z))))).anymp (.s (.s (.z))))) rfl (aa (ae (aa (ak (ae (aa av)))))) (by kernel_rfl) rfl ?_
     refine aH (i := 11) rfl (aw rfl rfl rfl) (fun w h => ((h.anymp (.s (.s (.s (.z))))).anymp (.s (.s (.z))))) rfl (aa (ae (aa (ak (ae (aa av)))))) (by kernel_rfl) rfl ?_
     refine aL (i := 12) rfl aj (aG rfl rfl) (fun w h => ((h.anymp (.s (.s (.s (.z))))).anymp (.s (.s (.z))))) aE rfl (aa (ae (aa (ak (ae (aa av)))))) (by kernel_rfl) rfl ?_
     refine aL (i := 13) rfl aj (ap rfl) (fun w h => ((h.anymp (.s (.s (.s (.z))))).anymp (.s (.s (.z))))) aE rfl (aa (ae (aa (ak (ae (aa av)))))) (by kernel_rfl) rfl ?_
     refine aH (i := 14) rfl (aw rfl rfl rfl) (fun w h => ((h.anymp (.s (.s (.s (.z))))).anymp (.s (.s (.z))))) rfl (aa (ae (aa (ak (ae (aa av)))))) (by kernel_rfl) rfl ?_
     refine aH (i := 15) rfl (aw rfl rfl rfl) (fun w h => ((h.anymp (.s (.s (.s (.z))))).anymp (.s (.s (.z))))) rfl (aa (ae (aa (ak (ae (aa av)))))) (by kernel_rfl) rfl ?_
     refine aH (i := 16) rfl (aw rfl rfl rfl) (fun w h => ((h.anymp (.s (.s (.s (.z))))).anymp (.s (.s (.z))))) rfl (aa (ae (aa (ak (ae (aa av)))))) (by kernel_rfl) rfl ?_
     refine aH (i := 17) rfl (aw rfl rfl rfl) (fun w h => ((h.anymp (.s (.s (.s (.z))))).anymp (.s (.s (.z))))) rfl (aa (ae (aa (ak (ae (aa av)))))) (by kernel_rfl) rfl ?_
     refine aL (i := 18) rfl aj (aG rfl rfl) (fun w h => ((h.anymp (.s (.s (.s (.z))))).anymp (.s (.s (.z))))) aE rfl (aa (ae (aa (ak (ae (aa av)))))) (by kernel_rfl) rfl ?_
     refine aL (i := 19) rfl aj (ap rfl) (fun w h => ((h.anymp (.s (.s (.s (.z))))).anymp (.s (.s (.z))))) aE rfl (aa (ae (aa (ak (ae (aa av)))))) (by kernel_rfl) rfl ?_
     refine aH (i := 20) rfl (aw rfl rfl rfl) (fun w h => ((h.anymp (.s (.s (.s (.z))))).anymp (.s (.s (.z))))) rfl (aa (ae (aa (ak (ae (aa av)))))) (by kernel_rfl) rfl ?_
     refine aH (i := 21) rfl (aw rfl rfl rfl) (fun w h => ((h.anymp (.s (.s (.s (.z))))).anymp (.s (.s (.z))))) rfl (aa (ae (aa (ak (ae (aa av)))))) (by kernel_rfl) rfl ?_
     refine aH (i := 22) rfl (aw rfl rfl rfl) (fun w h => ((h.anymp (.s (.s (.s (.z))))).anymp (.s (.s (.z))))) rfl (aa (ae (aa (ak (ae (aa av)))))) (by kernel_rfl) rfl ?_
     refine aH (i := 23) rfl (aw rfl rfl rfl) (fun w h => ((h.anymp (.s (.s (.s (.z))))).anymp (.s (.s (.z))))) rfl (aa (ae (aa (ak (ae (aa av)))))) (by kernel_rfl) rfl ?_
     refine aH (i := 24) rfl (aw rfl rfl rfl) (fun w h => ((h.anymp (.s (.s (.s (.z))))).anymp (.s (.s (.z))))) rfl (aa (ae (aa (ak (ae (aa av)))))) (by kernel_rfl) rfl ?_
     refine aH (i := 26) rfl (aw rfl rfl rfl) (fun w h => ((h.anymp (.s (.s (.s (.z))))).anymp (.s (.s (.z))))) rfl (aa (ae (aa (ak (ae (aa av)))))) (by kernel_rfl) rfl ?_
     refine aH (i := 27) rfl (aw rfl rfl rfl) (fun w h => ((h.anymp (.s (.s (.s (.z))))).anymp (.s (.s (.z))))) rfl (aa (ae (aa (ak (ae (aa av)))))) (by kernel_rfl) rfl ?_
     refine aH (i := 25) rfl (aw rfl rfl rfl) (fun w h => ((h.anymp (.s (.s (.s (.z))))).anymp (.s (.s (.z))))) rfl (aa (ae (aa (ak (ae (aa av)))))) (by kernel_rfl) rfl ?_
     refine aH (i := 28) rfl (aw rfl rfl rfl) (fun w h => ((h.anymp (.s (.s (.s (.z))))).anymp (.s (.s (.z))))) rfl (aa (ae (aa (ak (ae (aa av)))))) (by kernel_rfl) rfl ?_
     refine aH (i := 29) rfl (aw rfl rfl rfl) (fun w h => ((h.anymp (.s (.s (.s (.z))))).anymp (.s (.s (.z))))) rfl (aa (ae (aa (ak (ae (aa av)))))) (by kernel_rfl) rfl ?_
     refine aL (i := 30) rfl aj (aG rfl rfl) (fun w h => ((h.anymp (.s (.s (.s (.z))))).anymp (.s (.s (.z))))) aE rfl (aa (ae (aa (ak (ae (aa av)))))) (by kernel_rfl) rfl ?_
     refine aL (i := 31) rfl aj (ap rfl) (fun w h => ((h.anymp (.s (.s (.s (.z))))).anymp (.s (.s (.z))))) aE rfl (aa (ae (aa (ak (ae (aa av)))))) (by kernel_rfl) rfl ?_
     refine aH (i := 32) rfl (aw rfl rfl rfl) (fun w h => ((h.anymp (.s (.s (.s (.z))))).anymp (.s (.s (.z))))) rfl (aa (ae (aa (ak (ae (aa av)))))) (by kernel_rfl) rfl ?_
     refine aH (i := 33) rfl (aw rfl rfl rfl) (fun w h => ((h.anymp (.s (.s (.s (.z))))).anymp (.s (.s (.z))))) rfl (aa (ae (aa (ak (ae (aa av)))))) (by kernel_rfl) rfl ?_
     refine aH (i := 34) rfl (aw rfl rfl rfl) (fun w h => ((h.anymp (.s (.s (.s (.z))))).anymp (.s (.s (.z))))) rfl (aa (ae (aa (ak (ae (aa av)))))) (by kernel_rfl) rfl ?_
     refine aH (i := 35) rfl (aw rfl rfl rfl) (fun w h => ((h.anymp (.s (.s (.s (.z))))).anymp (.s (.s (.z))))) rfl (aa (ae (aa (ak (ae (aa av)))))) (by kernel_rfl) rfl ?_
     refine aH (i := 36) rfl (aw rfl rfl rfl) (fun w h => ((h.anymp (.s (.s (.s (.z))))).anymp (.s (.s (.z))))) rfl (aa (ae (aa (ak (ae (aa av)))))) (by kernel_rfl) rfl ?_
     refine aH (i := 37) rfl (aw rfl rfl rfl) (fun w h => ((h.anymp (.s (.s (.s (.z))))).anymp (.s (.s (.z))))) rfl (aa (ae (aa (ak (ae (aa av)))))) (by kernel_rfl) rfl ?_
     refine aH (i := 38) rfl (aw rfl rfl rfl) (fun w h => ((h.anymp (.s (.s (.s (.z))))).anymp (.s (.s (.z))))) rfl (aa (ae (aa (ak (ae (aa av)))))) (by kernel_rfl) rfl ?_
     refine aH (i := 39) rfl (aw rfl rfl rfl) (fun w h => ((h.anymp (.s (.s (.s (.z))))).anymp (.s (.s (.z))))) rfl (aa (ae (aa (ak (ae (aa av)))))) (by kernel_rfl) rfl ?_
     refine aH (i := 40) rfl (aw rfl rfl rfl) (fun w h => ((h.anymp (.s (.s (.s (.z))))).anymp (.s (.s (.z))))) rfl (aa (ae (aa (ak (ae (aa av)))))) (by kernel_rfl) rfl ?_
     refine aL (i := 41) rfl aj (aG rfl rfl) (fun w h => ((h.anymp (.s (.s (.s (.z))))).anymp (.s (.s (.z))))) aE rfl (aa (ae (aa (ak (ae (aa av)))))) (by kernel_rfl) rfl ?_
     refine cr (by kernel_rfl) ?_
     refine aq ?_
     refine aA rfl ?_
     refine ar ?_
     refine ai ?_
     refine au (ao rfl) rfl rfl ?_
     refine au (ao rfl) rfl rfl ?_
     refine ah ?_
     refine aq ?_
     refine aQ ?_
     refine aK ?_
     refine ay ?_
     refine a9 ?_
     refine aK ?_
     refine ay ?_
     refine aV (ts := [4, 5]) rfl rfl rfl (fun w hw => ?_)
     have hno : ¬ bU (l.map (·.e)) hs := fun H => by
       obtain ⟨q1, ⟨e, q2, q3⟩, q4, q5, q6⟩ := H i hi
       rw [← lk_E hI8 hI9, iD h15_10] at q2; cases q2
     exact ⟨⟨none, fun _ => hno, nofun⟩, rfl, hw.base, ((hw.weak (List.nil_sublist _) (fun s hs => hs)).rall0).toNews⟩
   exact ff
  ·skip
   refine ah ?_
   refine aq ?_
   refine ar ?_
   refine aC rfl ?_
   refine bw ?_
   refine aY ?_
   refine aZ ?_
   refine a7 ?_
   refine aq ?_
   refine ar ?_
   refine ar ?_
   have hil9 : i = hs.length := by omega
   subst hil9
   have hHk : bU (l.map (·.e)) hs := hI.2.1
   have hDm := hI.2.2.1
   have hAm := hI.2.2.2
   rw [List.take_length] at hDm hAm
   refine ai ?_
   refine au (ap rfl) rfl rfl ?_
   refine au (bh rfl) rfl rfl ?_
   refine au (aD dZ rfl) rfl rfl ?_
   refine au (aM 4 bZ rfl rfl rfl) rfl rfl ?_
   refine au (bg Tryz.underlying22 rfl) rfl rfl ?_
   refine au (ap rfl) rfl rfl ?_
   refine ah ?_
   refine aq ?_
   refine aW ?_
   refine cP (σ := Nat × List (Ad × Le)) [15, 17, 121, 122, 123, 124, 125, 126, 127, 128, 129, 130, 131, 132, 133, 134, 135, 136, 137, 138, 139, 140] (fun q => q.1 ≤ lc.length ∧ ∀ a, bT q.2 a = (bT am a).or ((lc.take q.1).find? fun y => decide (a ∈ y.e.addrs))) (fun q => lc.length - q.1) (fun q => [(121, .int .i64 q.1)]) (fun q => Ch.mp r3 eY fh q.2) ((0, am)) ?_ ⟨rfl, trivial⟩ rfl (fun q hI => ?_)
   ·exact ⟨Nat.zero_le _, fun a => by show _ = (bT am a).or none; cases bT am a <;> rfl⟩
   obtain ⟨k2, am1⟩ := q
   dsimp only at hI ⊢
   refine ar ?_
   refine ai ?_
   refine au (bI rfl rfl) rfl rfl ?_
   refine aB (t := 122) rfl (fun h20_0 => ?_) (fun h20_0 => ?_)
   ·skip
    have hk2 : k2 < lc.length := by omega
    have hb9 := EnB.eq (hok.at (k := k2) (by omega)) (iO hI9 k2)
    have hla9 := hb9.la
    refine ah ?_
    refine aq ?_
    refine ar ?_
    refine aA rfl ?_
    refine aS ?_
    refine aq ?_
    refine ar ?_
    refine aW ?_
    refine ar ?_
    refine ai ?_
    refine au (bz  Tryz.underlying22 aR rfl rfl (dg 3 rfl) rfl (by omega)) rfl rfl ?_
    refine au (bW cj br aR rfl (dg 3 rfl) (by omega) rfl rfl rfl) rfl rfl ?_
    refine bj aR rfl rfl (fun b27 => ?_)
    refine a0 aR rfl rfl rfl .z rfl rfl rfl rfl ?_
    refine ah ?_
    refine aq ?_
    refine ar ?_
    refine ai ?_
    refine au (aD cH rfl) rfl rfl ?_
    refine au (aM 0 dN rfl rfl rfl) rfl rfl ?_
    refine au (bg Tryz.underlying30 rfl) rfl rfl ?_
    refine au (ap rfl) rfl rfl ?_
    refine ah ?_
    refine aq ?_
    refine aW ?_
    have hIo := hI
    refine bF (fun w h => h.f1) ?_
    refine cP (σ := Nat × List (Ad × Le)) [17, 128, 129, 130, 131, 132, 133, 134, 135, 136, 137, 138, 139] (fun q => q.1 ≤ (lc.getD k2 br).e.addrs.length ∧ ∀ a, bT q.2 a = (bT am1 a).or (if a ∈ (lc.getD k2 br).e.addrs.take q.1 then some (lc.getD k2 br) else none)) (fun q => (lc.getD k2 br).e.addrs.length - q.1) (fun q => [(128, .int .i64 q.1)]) (fun q => Ch.mp r3 eY fh q.2) ((0, am1)) ?_ ⟨rfl, trivial⟩ rfl (fun q hI => ?_)
    ·exact ⟨Nat.zero_le _, fun a => by show _ = (bT am1 a).or none; cases bT am1 a <;> rfl⟩
    obtain ⟨j, am2⟩ := q
    dsimp only at hI ⊢
    refine ar ?_
    refine ai ?_
    refine au (bI rfl rfl) rfl rfl ?_
    refine aB (t := 129) rfl (fun h23_0 => ?_) (fun h23_0 => ?_)
    ·skip
     refine ah ?_
     refine aq ?_
     refine ar ?_
     refine aA rfl ?_
     refine aS ?_
     refine aq ?_
     refine ar ?_
     refine aW ?_
     refine ar ?_
     refine ai ?_
     refine au (bz  Tryz.underlying30 bu rfl rfl (fun w hw => (bG (dC 3 rfl hw) (bL (bA (by omega)) _ (gD _))).1) rfl (by omega)) rfl rfl ?_
     refine au (bW dI eZ bu rfl (fun w hw => (bG (dC 3 rfl hw) (bL (bA (by omega)) _ (gD _))).1) (by omega) rfl rfl rfl) rfl rfl ?_
     refine bj bu rfl rfl (fun b28 => ?_)
     refine a0 bu rfl rfl rfl .z rfl rfl rfl rfl ?_
     refine ah ?_
     refine aq ?_
     refine gp 6 cu ?_
     refine aL (i := 0) rfl aj (ap rfl) aE aE rfl (ae (aa (ak (ae (ae (aa (ak (ae (aa av))))))))) (by kernel_rfl) rfl ?_
     refine aL (i := 1) rfl aj (bh rfl) aE aE rfl (ae (aa (ak (ae (ae (aa (ak (ae (aa av))))))))) (by kernel_rfl) rfl ?_
     refine aL (i := 2) rfl aj (aD gJ rfl) aE aE rfl (ae (aa (ak (ae (ae (aa (ak (ae (aa av))))))))) (by kernel_rfl) rfl ?_
     refine aL (i := 3) rfl aj (aM 6 ty_120 rfl rfl rfl) aE aE rfl (ae (aa (ak (ae (ae (aa (ak (ae (aa av))))))))) (by kernel_rfl) rfl ?_
     refine aL (i := 4) rfl aj (a6 0 bu rfl rfl rfl rfl) aE aE rfl (ae (aa (ak (ae (ae (aa (ak (ae (aa av))))))))) (by kernel_rfl) rfl ?_
     refine aL (i := 5) rfl aj (a6 2 aR rfl rfl rfl rfl) aE aE rfl (ae (aa (ak (ae (ae (aa (ak (ae (aa av))))))))) (by kernel_rfl) rfl ?_
     refine bQ (i := 6) rfl (by kernel_rfl) rfl ?_
     refine dr rfl ent_77 rfl (jJ _ r3 _ (lc.getD k2 br)) (fun o => (.s (.z))) (List.mem_of_getElem? (i := 1) rfl) (fun s hs => nomatch hs) (fun o28 => ?_)
     refine ah ?_
     refine bY rfl ?_
     refine cr (by kernel_rfl) ?_
     refine bo ?_
     refine aq ?_
     refine ai ?_
     refine au (bl rfl rfl (by omega) (by omega)) rfl rfl ?_
     refine au (ap rfl) rfl rfl ?_
     refine ah ?_
     refine bq ((j + 1, fM am2 ((lc.getD k2 br).e.addrs.getD j eZ) (lc.getD k2 br))) ?_ ?_ ⟨rfl, trivial⟩ (by repeat (first | exact trivial | refine ⟨rfl, ?_⟩)) (fun w h => h.weak (.cons _ (List.Sublist.refl _)) (fun s hs => hs))
     ·exact ⟨by show j + 1 ≤ _; omega, adp_step hI.2 (by omega)⟩
     ·show (lc.getD k2 br).e.addrs.length - (j + 1) < (lc.getD k2 br).e.addrs.length - j
      omega
    ·skip
     refine ah ?_
     refine aq ?_
     refine ar ?_
     refine aC rfl ?_
     refine bw ?_
     refine aY ?_
     refine aZ ?_
     refine a7 ?_
     refine bo ?_
     refine aq ?_
     refine ai ?_
     refine au (bl rfl rfl (by omega) (by omega)) rfl rfl ?_
     refine au (ap rfl) rfl rfl ?_
     refine ah ?_
     have hj9 : j = (lc.getD k2 br).e.addrs.length := by omega
     subst hj9
     refine bq ((k2 + 1, am2)) ?_ ?_ ⟨rfl, trivial⟩ (by repeat (first | exact trivial | refine ⟨rfl, ?_⟩)) (fun w h => h.weak (.cons_cons _ (.cons _ (List.Sublist.refl _))) (fun s hs => hs))
     ·exact ⟨by show k2 + 1 ≤ _; omega, en_step hIo.2 hk2 hI.2⟩
     ·show lc.length - (k2 + 1) < lc.length - k2
      omega
   ·skip
    refine ah ?_
    refine aq ?_
    refine ar ?_
    refine aC rfl ?_
    refine bw ?_
    refine aY ?_
    refine aZ ?_
    refine a7 ?_
    refine aq ?_
    refine ar ?_
    have hAm2 := hI.2
    rw [List.take_of_length_le (by omega)] at hAm2
    refine ai ?_
    refine au (ap rfl) rfl rfl ?_
    refine au (ao rfl) rfl rfl ?_
    refine au (ao rfl) rfl rfl ?_
    refine ah ?_
    refine aq ?_
    refine aQ ?_
    refine aV (ts := [4, 5]) rfl rfl rfl (fun w hw => ?_)
    exact ⟨⟨some ⟨b5, Ax, cx, lc, r1, r2, r3, hm, dm, am1⟩, nofun, fun x hx => by cases hx; exact ⟨hHk, ⟨⟨hI9, hI8⟩, hDm, fun a => by rw [hAm2 a, hAm a]⟩⟩⟩, rfl, hw.base, ((Hp.toRall (M := ixR ⟨b5, Ax, cx, lc, r1, r2, r3, hm, dm, am1⟩) hw (fun h9 => (List.forall_mem_cons.2 ⟨h9 _ (.tail _ (.tail _ (.tail _ (.tail _ (.head _))))), (List.forall_mem_cons.2 ⟨SlP.rs (h9 _ (.tail _ (.tail _ (.tail _ (.head _))))), (List.forall_mem_cons.2 ⟨h9 _ (.tail _ (.tail _ (.tail _ (.tail _ (.tail _ (.head _)))))), (List.forall_mem_cons.2 ⟨h9 _ (.tail _ (.head _)), (List.forall_mem_cons.2 ⟨h9 _ (.head _), (List.forall_mem_cons.2 ⟨h9 _ (.tail _ (.tail _ (.head _))), nofun⟩)⟩)⟩)⟩)⟩)⟩)) (List.forall_mem_cons.2 ⟨fun b hb => ⟨_, (.tail _ (.tail _ (.tail _ (.tail _ (.head _))))), hb⟩, (List.forall_mem_cons.2 ⟨fun b hb => ⟨_, (.tail _ (.tail _ (.tail _ (.head _)))), hb.2⟩, (List.forall_mem_cons.2 ⟨fun b hb => ⟨_, (.tail _ (.tail _ (.tail _ (.tail _ (.tail _ (.head _)))))), hb⟩, (List.forall_mem_cons.2 ⟨fun b hb => ⟨_, (.tail _ (.head _)), hb⟩, (List.forall_mem_cons.2 ⟨fun b hb => ⟨_, (.head _), hb⟩, (List.forall_mem_cons.2 ⟨fun b hb => ⟨_, (.tail _ (.tail _ (.head _))), hb⟩, nofun⟩)⟩)⟩)⟩)⟩)⟩)).ixOpen3).toNews⟩
end Go.Proofs.YtnpdgmoeoidppaaGreat
