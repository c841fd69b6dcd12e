import Derived.Test.YtnpdgmoeoidppaaGreatTaQa
/- an index: made of a table, asked for names -/
namespace Go.Proofs.YtnpdgmoeoidppaaGreat
open Go.RowKit Go.Shelf
set_option linter.unusedVariables false
set_option linter.unusedSimpArgs false

theorem jM (x0 : Option Nat) (x1 : Option Nat) (x2 : Option Nat) : Tryz.prog.built 122 [(1, .map x0), (2, .map x1), (3, .map x2)] = some [.slice none 0 0, .map x0, .map x1, .map x2].toArray := by kernel_rfl
theorem ent_61 : Enters Tryz.prog 61 := enters_of Tryz.func61 (by kernel_rfl) rfl
theorem ent_69 : Enters Tryz.prog 69 := enters_of Tryz.func69 (by kernel_rfl) rfl
theorem hX : Enters Tryz.prog 70 := enters_of Tryz.func70 (by kernel_rfl) rfl
theorem dM : Enters Tryz.prog 71 := enters_of Tryz.func71 (by kernel_rfl) rfl
theorem ent_77 : Enters Tryz.prog 77 := enters_of Tryz.func77 (by kernel_rfl) rfl
theorem dZ : FA Tryz.prog 122 0 0 := fun b o w => by kernel_rfl
theorem eL : FA Tryz.prog 122 1 1 := fun b o w => by kernel_rfl
theorem gJ : FA Tryz.prog 122 3 3 := fun b o w => by kernel_rfl
theorem gA : TyI Tryz.prog 116 false 1 8 (.map none) := TyI.mk' (by kernel_rfl) (fun _ => by kernel_rfl)
theorem ty_120 : TyI Tryz.prog 120 false 1 8 (.map none) := TyI.mk' (by kernel_rfl) (fun _ => by kernel_rfl)
theorem dh : TyI Tryz.prog 24 true 2 32 (.agg #[.int .i64 0, .slice none 0 0]) := TyI.mk' (by kernel_rfl) (fun _ => by kernel_rfl)

abbrev fL : bf → Value := fun s => .string (ba s)
abbrev fh : Le → Value := fun x => .agg (dB x).toArray
abbrev eY : Ad → Value := fun a => .agg (dT a).toArray
/-- The first one stays. -/
def fM {α β : Type} [DecidableEq α] (m : List (α × β)) (k : α) (v : β) : List (α × β) := if (bT m k).isSome = true then m else upd m k v
theorem putF_old {α β : Type} [DecidableEq α] {m : List (α × β)} {k : α} {v : β} (h : (bT m k).isSome = true) : fM m k v = m := if_pos h
theorem putF_new {α β : Type} [DecidableEq α] {m : List (α × β)} {k : α} {v : β} (h : (bT m k).isSome = false) : fM m k v = upd m k v := if_neg (by rw [h]; decide)

theorem fy (m : List (bf × Le)) (r : Nat) (k : bf) : RC Tryz.prog 72 #[.map (some r), .string (ba k)] [Ch.mp r fL fh m] (α := Unit) (fun _ => .tuple #[.agg (dB ((bT m k).getD br)).toArray, .bool (bT m k).isSome]) (fun _ => []) := by
 refine bx (args := [.map (some r), .string (ba k)]) 16 Tryz.func72 rfl rfl rfl (fun w0 => ?_)
 refine ar ?_
 refine ai ?_
 refine bj aR rfl rfl (fun b1 => ?_)
 refine au (ao rfl) rfl rfl ?_
 refine ah ?_
 refine aq ?_
 refine ar ?_
 refine ai ?_
 refine au (ap rfl) rfl rfl ?_
 refine au (ap rfl) rfl rfl ?_
 refine au (fW Tryz.underlying116 (eN Tryz.underlying26) aR rfl rfl (fun w hw => hw.sh _ (List.mem_of_getElem? (i := 0) rfl))) rfl rfl ?_
 refine cU (t := 11) (.tuple #[.agg (dB ((bT m k).getD br)).toArray, .bool (bT m k).isSome]) rfl (by cases bT m k <;> rfl) ?_
 refine au (ap rfl) rfl rfl ?_
 refine au (aP rfl rfl) rfl rfl ?_
 refine au (aP rfl rfl) rfl rfl ?_
 refine bj aR rfl rfl (fun b2 => ?_)
 refine a0 aR rfl rfl rfl .z rfl rfl rfl rfl ?_
 refine au (ao rfl) rfl rfl ?_
 refine ah ?_
 refine aq ?_
 refine ar ?_
 refine ai ?_
 refine au (a6 0 aR rfl rfl rfl rfl) rfl rfl ?_
 refine au (ap rfl) rfl rfl ?_
 refine a0 aR rfl rfl rfl (.s (.z)) rfl rfl rfl rfl ?_
 refine au (ao rfl) rfl rfl ?_
 refine ah ?_
 refine aq ?_
 refine aQ ?_
 refine ed (rs := [.cell 4 34, .tmp 5]) rfl (cF 1 aR rfl rfl rfl rfl (dR rfl dp)) rfl (fun w hw => ?_)
 exact ⟨(), rfl, hw.base, (hw.weak (List.nil_sublist _) (fun s hs => hs)).toNews⟩

theorem iN (m : List (bf × Le)) (r : Nat) (k : bf) (x : Le) : UC Tryz.prog 70 #[.map (some r), .string (ba k), .agg (dB x).toArray] [] (Ch.mp r fL fh m) (α := Unit) (fun _ => .bool (!(bT m k).isSome)) (fun _ => Ch.mp r fL fh (fM m k x)) := by
 refine fR (args := [.map (some r), .string (ba k), .agg (dB x).toArray]) 19 Tryz.func70 rfl rfl rfl (fun w0 => ?_)
 refine ar ?_
 refine ai ?_
 refine cv rfl rfl rfl (fun b1 => ?_)
 refine au (ao rfl) rfl rfl ?_
 refine ah ?_
 refine aq ?_
 refine ar ?_
 refine ar ?_
 refine ai ?_
 refine au (ap rfl) rfl rfl ?_
 refine au (ap rfl) rfl rfl ?_
 refine au (fW Tryz.underlying116 (eN Tryz.underlying26) aR rfl rfl (fun w hw => hw.own _ (List.mem_of_getElem? (i := 1) rfl))) rfl rfl ?_
 refine cU (t := 12) (.tuple #[.agg (dB ((bT m k).getD br)).toArray, .bool (bT m k).isSome]) rfl (by cases bT m k <;> rfl) ?_
 refine au (ap rfl) rfl rfl ?_
 refine au (aP rfl rfl) rfl rfl ?_
 refine au (aP rfl rfl) rfl rfl ?_
 refine bD (t := 14) rfl (fun h1_5 => ?_) (fun h1_5 => ?_)
 refine bj aR rfl rfl (fun b2 => ?_)
 refine a0 aR rfl rfl rfl .z rfl rfl rfl rfl ?_
 refine au (ao rfl) rfl rfl ?_
 refine ah ?_
 refine aq ?_
 refine ar ?_
 refine ai ?_
 refine au (ap rfl) rfl rfl ?_
 refine ah ?_
 refine aq ?_
 refine aA rfl ?_
 refine ar ?_
 refine ai ?_
 refine au (ao rfl) rfl rfl ?_
 refine ah ?_
 refine aq ?_
 refine aQ ?_
 refine ay ?_
 refine aV (ts := [6]) rfl rfl rfl (fun w hw => ?_)
 obtain ⟨h1, h2, h3⟩ := (hw.weak (.cons _ (.cons _ (.cons_cons _ .slnil))) (fun s hs => hs)).uc
 have hs : (bT m k).isSome = true := h1_5
 rw [putF_old hs]
 exact ⟨(), by rw [hs]; rfl, h1, h2, h3⟩
 refine bj aR rfl rfl (fun b3 => ?_)
 refine a0 aR rfl rfl rfl .z rfl rfl rfl rfl ?_
 refine au (ao rfl) rfl rfl ?_
 refine ah ?_
 refine aq ?_
 refine ar ?_
 refine ai ?_
 refine au (ap rfl) rfl rfl ?_
 refine ah ?_
 refine aq ?_
 refine aC rfl ?_
 refine aS ?_
 refine aq ?_
 refine ar ?_
 refine ai ?_
 refine au (ap rfl) rfl rfl ?_
 refine au (ap rfl) rfl rfl ?_
 refine au (a6 1 aR rfl rfl rfl rfl) rfl rfl ?_
 refine gU (encK := fL) (encV := fh) (v := x) Tryz.underlying116 (eN Tryz.underlying26) rfl rfl rfl (.s (.s (.z))) ?_
 refine ah ?_
 refine aq ?_
 refine ar ?_
 refine ai ?_
 refine au (ao rfl) rfl rfl ?_
 refine ah ?_
 refine aq ?_
 refine aQ ?_
 refine aV (ts := [6]) rfl rfl rfl (fun w hw => ?_)
 obtain ⟨h1, h2, h3⟩ := (hw.weak (.cons _ (.cons _ (.cons_cons _ .slnil))) (fun s hs => hs)).uc
 have hs : (bT m k).isSome = false := h1_5
 rw [putF_new hs]
 exact ⟨(), by rw [hs]; rfl, h1, h2, h3⟩

theorem jJ (m : List (Ad × Le)) (r : Nat) (k : Ad) (x : Le) : UC Tryz.prog 77 #[.map (some r), .agg (dT k).toArray, .agg (dB x).toArray] [] (Ch.mp r eY fh m) (α := Unit) (fun _ => .bool (!(bT m k).isSome)) (fun _ => Ch.mp r eY fh (fM m k x)) := by
 refine fR (args := [.map (some r), .agg (dT k).toArray, .agg (dB x).toArray]) 19 Tryz.func77 rfl rfl rfl (fun w0 => ?_)
 refine ar ?_
 refine ai ?_
 refine cv rfl rfl rfl (fun b1 => ?_)
 refine cv rfl rfl rfl (fun b2 => ?_)
 refine au (ao rfl) rfl rfl ?_
 refine ah ?_
 refine aq ?_
 refine ar ?_
 refine ar ?_
 refine ai ?_
 refine au (ap rfl) rfl rfl ?_
 refine au (a6 1 bu rfl rfl rfl rfl) rfl rfl ?_
 refine au (fW Tryz.underlying120 jo aR rfl rfl (fun w hw => hw.own _ (List.mem_of_getElem? (i := 2) rfl))) rfl rfl ?_
 refine cU (t := 12) (.tuple #[.agg (dB ((bT m k).getD br)).toArray, .bool (bT m k).isSome]) rfl (by cases bT m k <;> rfl) ?_
 refine au (ap rfl) rfl rfl ?_
 refine au (aP rfl rfl) rfl rfl ?_
 refine au (aP rfl rfl) rfl rfl ?_
 refine bD (t := 14) rfl (fun h1_5 => ?_) (fun h1_5 => ?_)
 refine bj aR rfl rfl (fun b3 => ?_)
 refine a0 aR rfl rfl rfl .z rfl rfl rfl rfl ?_
 refine au (ao rfl) rfl rfl ?_
 refine ah ?_
 refine aq ?_
 refine ar ?_
 refine ai ?_
 refine au (ap rfl) rfl rfl ?_
 refine ah ?_
 refine aq ?_
 refine aA rfl ?_
 refine ar ?_
 refine ai ?_
 refine au (ao rfl) rfl rfl ?_
 refine ah ?_
 refine aq ?_
 refine aQ ?_
 refine ay ?_
 refine aV (ts := [6]) rfl rfl rfl (fun w hw => ?_)
 obtain ⟨h1, h2, h3⟩ := (hw.weak (.cons _ (.cons _ (.cons _ (.cons_cons _ .slnil)))) (fun s hs => hs)).uc
 have hs : (bT m k).isSome = true := h1_5
 rw [putF_old hs]
 exact ⟨(), by rw [hs]; rfl, h1, h2, h3⟩
 refine bj aR rfl rfl (fun b4 => ?_)
 refine a0 aR rfl rfl rfl .z rfl rfl rfl rfl ?_
 refine au (ao rfl) rfl rfl ?_
 refine ah ?_
 refine aq ?_
 refine ar ?_
 refine ai ?_
 refine au (ap rfl) rfl rfl ?_
 refine ah ?_
 refine aq ?_
 refine aC rfl ?_
 refine aS ?_
 refine aq ?_
 refine ar ?_
 refine ai ?_
 refine au (ap rfl) rfl rfl ?_
 refine au (a6 2 bu rfl rfl rfl rfl) rfl rfl ?_
 refine au (a6 1 aR rfl rfl rfl rfl) rfl rfl ?_
 refine gU (encK := eY) (encV := fh) (v := x) Tryz.underlying120 jo rfl rfl rfl (.s (.s (.s (.z)))) ?_
 refine ah ?_
 refine aq ?_
 refine ar ?_
 refine ai ?_
 refine au (ao rfl) rfl rfl ?_
 refine ah ?_
 refine aq ?_
 refine aQ ?_
 refine aV (ts := [6]) rfl rfl rfl (fun w hw => ?_)
 obtain ⟨h1, h2, h3⟩ := (hw.weak (.cons _ (.cons _ (.cons _ (.cons_cons _ .slnil)))) (fun s hs => hs)).uc
 have hs : (bT m k).isSome = false := h1_5
 rw [putF_new hs]
 exact ⟨(), by rw [hs]; rfl, h1, h2, h3⟩

/-- An index: where it lies, what it holds. -/
structure Ixd where
  b : Nat
  A : Option Addr
  c : Nat
  l : List Le
  rh : Nat
  rd : Nat
  ra : Nat
  hm : List (bf × Le)
  dm : List (bf × Ad)
  am : List (Ad × Le)
def ixC (x : Ixd) : List Value := [.slice x.A x.l.length x.c, .map (some x.rh), .map (some x.rd), .map (some x.ra)]
def ixR (x : Ixd) : List Ch := [Ch.row x.b (ixC x) 122, Ch.rd x.A 7 dB x.l, Ch.mp x.rh fL fh x.hm, Ch.mp x.rd fL eY x.dm, Ch.mp x.ra eY fh x.am, Ch.rall (x.l.flatMap e6)]
def HmOk (m : List (bf × Le)) (l : List Le) : Prop := ∀ key, bT m key = l.find? (fun x : Le => decide (aX x.e.host = key))
theorem jG {α β : Type} [DecidableEq α] (m : List (α × β)) (k a : α) (v : β) : bT (fM m k v) a = (bT m a).or (if a = k then some v else none) := by
  unfold fM
  split
  · rename_i h
    by_cases e : a = k
    · subst e
      cases h2 : bT m a with
      | none => rw [h2] at h; cases h
      | some q => rfl
    · rw [if_neg e]; simp
  · rename_i h
    rw [lkp_upd]
    by_cases e : a = k
    · subst e
      rw [if_pos rfl, if_pos rfl]
      cases h2 : bT m a with
      | none => rfl
      | some q => rw [h2] at h; exact absurd rfl h
    · rw [if_neg e, if_neg e]; simp
theorem hm_nil : HmOk [] [] := fun key => rfl
theorem hm_put {m : List (bf × Le)} {l : List Le} (h : HmOk m l) (x : Le) : HmOk (fM m (aX x.e.host) x) (l ++ [x]) := fun key => by
  rw [jG, List.find?_append, h key]
  congr 1
  by_cases e : key = aX x.e.host
  · subst e; simp
  · rw [if_neg e, List.find?_cons_of_neg (by simpa using fun q => e q.symm)]; rfl
/-- What a table's index is. -/
structure IxOk (l : List Le) (x : Ixd) : Prop where
  es : x.l.map (·.e) = l.map (·.e)
  hm : HmOk x.hm x.l

theorem fG {l : List Le} {lc : List Le} {k : Nat} (h : lc.map (·.e) = (l.take k).map (·.e)) : lc.length ≤ l.length := by
  have := congrArg List.length h; simp at this; omega
theorem iO {l lc : List Le} (h : lc.map (·.e) = l.map (·.e)) (k : Nat) : (lc.getD k br).e = (l.getD k br).e := by
  have h1 := congrArg (fun q : List En => q[k]?) h
  simp only [List.getElem?_map] at h1
  rw [List.getD_eq_getElem?_getD, List.getD_eq_getElem?_getD]
  cases h2 : lc[k]? <;> cases h3 : l[k]? <;> simp_all
theorem EnB.eq {e f : En} (h : EnB e) (q : f = e) : EnB f := q ▸ h

set_option maxRecDepth 100000 in
set_option maxHeartbeats 2000000 in
theorem c_index_New0 (v : Int) (l : List Le) (A : Option Addr) (c : Nat) (hok : TbOk l) (hlen : l.length ≤ 1000000000) (h0 : bO v l = 0) : RC Tryz.prog 13 #[.agg (iM v A l.length c).toArray, .slice none 0 0] [Ch.rd A 7 dB l, Ch.rall (l.flatMap e6)] (α := {x : Ixd // IxOk l x}) (fun o => .tuple #[.pointer (some ⟨o.1.b, 0, none⟩), .int .i64 0]) (fun o => [Ch.rall (ixR o.1)]) := by
 refine bx (args := [.agg (iM v A l.length c).toArray, .slice none 0 0]) 142 Tryz.func13 rfl rfl rfl (fun w0 => ?_)
 refine ar ?_
 refine ai ?_
 refine cv rfl rfl rfl (fun b1 => ?_)
 refine au (ao rfl) rfl rfl ?_
 refine au (ao rfl) rfl rfl ?_
 refine ah ?_
 refine aq ?_
 refine ar ?_
 refine ar ?_
 refine ai ?_
 refine au (a6 0 dh rfl rfl rfl rfl) rfl rfl ?_
 refine bp rfl ent_61 rfl (gz _ _ _ _ hok (by omega)) (fun w hw => (aO (bJ 0 rfl hw) (aO (bJ 1 rfl hw) bd))) ?_
 refine au (ao rfl) rfl rfl ?_
 refine ah ?_
 refine aq ?_
 refine ar ?_
 refine ai ?_
 refine au (ap rfl) rfl rfl ?_
 refine au (bX rfl rfl) rfl rfl ?_
 refine dJ (t := 21) rfl (by omega) ?_
 refine ah ?_
 refine aq ?_
 refine aC rfl ?_
 refine aS ?_
 refine aq ?_
 refine ar ?_
 refine ai ?_
 refine eo fL fh rfl (fun r1 => ?_)
 refine eo fL eY rfl (fun r2 => ?_)
 refine eo eY fh rfl (fun r3 => ?_)
 refine au (dW rfl (jM _ _ _)) rfl rfl ?_
 refine cv rfl rfl rfl (fun b5 => ?_)
 refine au (ao rfl) rfl rfl ?_
 refine ah ?_
 refine aq ?_
 refine ar ?_
 refine ar ?_
 refine ai ?_
 refine au (aD cw rfl) rfl rfl ?_
 refine au (aM 4 bZ rfl rfl rfl) rfl rfl ?_
 refine au (bg Tryz.underlying22 rfl) rfl rfl ?_
 refine au (ap rfl) rfl rfl ?_
 refine ah ?_
 refine aq ?_
 refine aW ?_
 refine bF (fun w h => h.nilsl 34 7) ?_
 refine bF (fun w h => h.rall0) ?_
 refine w_loopL (σ := Nat × List Le × Option Addr × Nat × List (bf × Le)) [9, 31, 32, 33, 34, 35, 36, 37, 38, 39, 40, 41, 42, 43, 44, 45, 46, 47, 48, 49, 50, 51, 52, 53, 54, 55] (fun q => q.1 ≤ l.length ∧ q.2.1.map (·.e) = (l.take q.1).map (·.e) ∧ HmOk q.2.2.2.2 q.2.1) (fun q => l.length - q.1) (fun q => [(31, .int .i64 q.1)]) (fun q => [Ch.rall (q.2.1.flatMap e6), Ch.ls q.2.2.1 q.2.2.2.1 34 7 dB q.2.1, Ch.row b5 [.slice q.2.2.1 q.2.1.length q.2.2.2.1, .map (some r1), .map (some r2), .map (some r3)] 122, Ch.mp r3 eY fh [], Ch.mp r2 fL eY [], Ch.mp r1 fL fh q.2.2.2.2]) ((0, [], none, 0, [])) ?_ ⟨rfl, trivial⟩ rfl (fun q hI => ?_)
 ·exact ⟨Nat.zero_le _, rfl, hm_nil⟩
 obtain ⟨k, lc, Ax, cx, hm⟩ := q
 dsimp only at hI ⊢
 refine ar ?_
 refine ai ?_
 refine au (bI rfl rfl) rfl rfl ?_
 refine aB (t := 32) rfl (fun h6_0 => ?_) (fun h6_0 => ?_)
 ·skip
  have hk : k < l.length := by omega
  have hb9 := hok.at hk
  have hlc := fG hI.2.1
  refine ah ?_
  refine aq ?_
  refine ar ?_
  refine aA rfl ?_
  refine aS ?_
  refine aq ?_
  refine ar ?_
  refine aW ?_
  refine ar ?_
  refine ai ?_
  refine au (bz  Tryz.underlying22 aR rfl rfl (bE 0 rfl) rfl (by omega)) rfl rfl ?_
  refine au (bW cj br aR rfl (bE 0 rfl) (by omega) rfl rfl rfl) rfl rfl ?_
  refine bj aR rfl rfl (fun b6 => ?_)
  refine a0 aR rfl rfl rfl .z rfl rfl rfl rfl ?_
  refine ah ?_
  refine aq ?_
  refine ar ?_
  refine ai ?_
  refine au (a6 0 aR rfl rfl rfl rfl) rfl rfl ?_
  refine gH rfl ent_69 rfl (jn _ _ _ _ _ (by have := hb9.la; omega) (by have := hb9.lp; omega)) (fun w hw => (aO (bG (bJ 1 rfl hw) (bL (bA (by omega)) _ (gD _))) (aO (bG (bJ 1 rfl hw) (bL (bA (by omega)) _ (jA _))) bd))) (fun ⟨A6, c6, B6, d6⟩ => ?_)
  refine a0 aR rfl rfl rfl (.s (.s (.z))) rfl rfl rfl rfl ?_
  refine ah ?_
  refine aq ?_
  refine ar ?_
  refine dO 7 rfl cu ?_
  refine a2 (i := 1) rfl aj (ap rfl) aE aE rfl (aa (ae (aa (ak (ae (aa av)))))) (by kernel_rfl) rfl ?_
  refine a2 (i := 2) rfl aj (bh rfl) aE aE rfl (aa (ae (aa (ak (ae (aa av)))))) (by kernel_rfl) rfl ?_
  refine a2 (i := 3) rfl aj (aD dZ rfl) aE aE rfl (aa (ae (aa (ak (ae (aa av)))))) (by kernel_rfl) rfl ?_
  refine a2 (i := 4) rfl aj (aM 5 bZ rfl rfl rfl) aE aE rfl (aa (ae (aa (ak (ae (aa av)))))) (by kernel_rfl) rfl ?_
  refine a2 (i := 5) rfl aj (a6 2 aR rfl rfl rfl rfl) aE aE rfl (aa (ae (aa (ak (ae (aa av)))))) (by kernel_rfl) rfl ?_
  refine cA (js := [0, 6]) (by kernel_rfl) rfl ?_
  refine bi (i := 0) rfl rfl rfl (fun _ _ _ => aN (by kernel_rfl)) rfl ?_ ?_
  ·skip
   refine au (ap rfl) rfl rfl ?_
   refine ah ?_
   refine bv aE ?_
   refine bk (i := 6) rfl rfl rfl (fun _ _ _ => aN (by kernel_rfl)) (by kernel_rfl) rfl ?_
   refine cD (vs := [_]) ([(⟨(l.getD k br).e, A6, c6, B6, d6⟩ : Le)] : List (Le)) cj Tryz.underlying22 aR rfl rfl rfl rfl rfl rfl (fun As8 => ?_)
   refine ah ?_
   refine bv (fun w h => h.weak (.cons _ (List.Sublist.refl _)) (fun s hs => hs)) ?_
   refine bk (i := 7) rfl rfl rfl (fun _ _ _ => aN (by kernel_rfl)) (by kernel_rfl) rfl ?_
   refine cC (enc := dB) (sz := 7) [(⟨(l.getD k br).e, A6, c6, B6, d6⟩ : Le)] Tryz.underlying22 aR rfl rfl rfl (fun A c => (.s (.s (.s (.s (.s (.z))))))) (d5 0 Tryz.underlying22 rfl) (by simp only [List.length_cons, List.length_nil, Nat.zero_add]; omega) (by simp only [List.length_cons, List.length_nil, Nat.zero_add]; omega) rfl (fun A8 c8 => ?_)
   refine ah ?_
   refine a4 rfl ?_
   refine bk (i := 8) rfl rfl rfl (tame_y (fun w => bh rfl)) (by kernel_rfl) rfl ?_
   refine au (bh rfl) rfl rfl ?_
   refine ah ?_
   refine a4 rfl ?_
   refine bk (i := 9) rfl rfl rfl (fun _ _ _ => aN (by kernel_rfl)) (by kernel_rfl) rfl ?_
   refine au (aD dZ rfl) rfl rfl ?_
   refine ah ?_
   refine a4 rfl ?_
   refine bk (i := 10) rfl rfl rfl (fun _ _ _ => aN (by kernel_rfl)) (by kernel_rfl) rfl ?_
   refine a0 bZ rfl rfl rfl (.s (.s (.s (.s (.s (.s (.z))))))) rfl rfl rfl rfl ?_
   refine ah ?_
   refine a4 rfl ?_
   refine bP (by kernel_rfl) ?_
   refine aq ?_
   refine dO 7 rfl cu ?_
   refine a2 (i := 0) rfl aj (ap rfl) aE aE rfl (ae (aa (ak (ae (aa av))))) (by kernel_rfl) rfl ?_
   refine a2 (i := 1) rfl aj (bh rfl) aE aE rfl (ae (aa (ak (ae (aa av))))) (by kernel_rfl) rfl ?_
   refine a2 (i := 2) rfl aj (aD eL rfl) aE aE rfl (ae (aa (ak (ae (aa av))))) (by kernel_rfl) rfl ?_
   refine a2 (i := 3) rfl aj (aM 6 gA rfl rfl rfl) aE aE rfl (ae (aa (ak (ae (aa av))))) (by kernel_rfl) rfl ?_
   refine a2 (i := 4) rfl aj (a6 3 aR rfl rfl rfl rfl) aE aE rfl (ae (aa (ak (ae (aa av))))) (by kernel_rfl) rfl ?_
   refine a2 (i := 6) rfl aj (a6 3 aR rfl rfl rfl rfl) aE aE rfl (ae (aa (ak (ae (aa av))))) (by kernel_rfl) rfl ?_
   refine bk (i := 5) rfl rfl rfl (bm rfl dM) (by kernel_rfl) rfl ?_
   refine bb rfl dM (cI _ _ _ _ _ (by have := hb9.h; omega)) rfl ?_
   refine ah ?_
   refine bv aE ?_
   refine bk (i := 7) rfl rfl rfl (bm rfl hX) (by kernel_rfl) rfl ?_
   refine dr rfl hX rfl (iN hm r1 _ (⟨(l.getD k br).e, A6, c6, B6, d6⟩ : Le)) (fun o => (.s (.s (.s (.s (.s (.s (.s (.s (.s (.z))))))))))) (List.mem_of_getElem? (i := 9) rfl) (fun s hs => nomatch hs) (fun o9 => ?_)
   refine ah ?_
   refine a4 rfl ?_
   refine bP (by kernel_rfl) ?_
   refine bo ?_
   refine aq ?_
   refine ai ?_
   refine au (bl rfl rfl (by omega) (by omega)) rfl rfl ?_
   refine au (ap rfl) rfl rfl ?_
   refine ah ?_
   refine bq ((k + 1, lc ++ [(⟨(l.getD k br).e, A6, c6, B6, d6⟩ : Le)], A8, c8, fM hm (aX (l.getD k br).e.host) (⟨(l.getD k br).e, A6, c6, B6, d6⟩ : Le))) ?_ ?_ ⟨rfl, trivial⟩ (by repeat (first | exact trivial | refine ⟨rfl, ?_⟩)) (fun w h => by
  have h2 := (h.weak (.cons _ (.cons_cons _ (.cons_cons _ (.cons _ (List.Sublist.refl _))))) (fun s hs => hs)).intoE
  show Hp _ _ (Ch.rall ((lc ++ [_]).flatMap e6) :: _) _ _
  rw [List.flatMap_append, List.flatMap_singleton]
  exact h2)
   ·exact ⟨by show k + 1 ≤ _; omega, by show (lc ++ [_]).map _ = (l.take (k + 1)).map _; rw [List.map_append, hI.2.1, bK l br k hk, List.map_append]; rfl, hm_put hI.2.2 (⟨(l.getD k br).e, A6, c6, B6, d6⟩ : Le)⟩
   ·show l.length - (k + 1) < l.length - k
    omega
  refine bi (i := 6) rfl rfl rfl (fun _ _ _ => aN (by kernel_rfl)) rfl ?_ ?_
  ·skip
   refine cD (vs := [_]) ([(⟨(l.getD k br).e, A6, c6, B6, d6⟩ : Le)] : List (Le)) cj Tryz.underlying22 aR rfl rfl rfl rfl rfl rfl (fun As11 => ?_)
   refine ah ?_
   refine bv (fun w h => h.weak (.cons _ (List.Sublist.refl _)) (fun s hs => hs)) ?_
   refine cA (js := [0, 7]) (by kernel_rfl) rfl ?_
   refine bi (i := 0) rfl rfl rfl (fun _ _ _ => aN (by kernel_rfl)) rfl ?_ ?_
   ·skip
    refine au (ap rfl) rfl rfl ?_
    refine ah ?_
    refine bv (fun w h => h.weak (.cons _ (List.Sublist.refl _)) (fun s hs => hs)) ?_
    refine bk (i := 7) rfl rfl rfl (fun _ _ _ => aN (by kernel_rfl)) (by kernel_rfl) rfl ?_
    refine cC (enc := dB) (sz := 7) [(⟨(l.getD k br).e, A6, c6, B6, d6⟩ : Le)] Tryz.underlying22 aR rfl rfl rfl (fun A c => (.s (.s (.s (.s (.s (.z))))))) (d5 0 Tryz.underlying22 rfl) (by simp only [List.length_cons, List.length_nil, Nat.zero_add]; omega) (by simp only [List.length_cons, List.length_nil, Nat.zero_add]; omega) rfl (fun A11 c11 => ?_)
    refine ah ?_
    refine a4 rfl ?_
    refine bk (i := 8) rfl rfl rfl (tame_y (fun w => bh rfl)) (by kernel_rfl) rfl ?_
    refine au (bh rfl) rfl rfl ?_
    refine ah ?_
    refine a4 rfl ?_
    refine bk (i := 9) rfl rfl rfl (fun _ _ _ => aN (by kernel_rfl)) (by kernel_rfl) rfl ?_
    refine au (aD dZ rfl) rfl rfl ?_
    refine ah ?_
    refine a4 rfl ?_
    refine bk (i := 10) rfl rfl rfl (fun _ _ _ => aN (by kernel_rfl)) (by kernel_rfl) rfl ?_
    refine a0 bZ rfl rfl rfl (.s (.s (.s (.s (.s (.s (.z))))))) rfl rfl rfl rfl ?_
    refine ah ?_
    refine a4 rfl ?_
    refine bP (by kernel_rfl) ?_
    refine aq ?_
    refine dO 7 rfl cu ?_
    refine a2 (i := 0) rfl aj (ap rfl) aE aE rfl (ae (aa (ak (ae (aa av))))) (by kernel_rfl) rfl ?_
    refine a2 (i := 1) rfl aj (bh rfl) aE aE rfl (ae (aa (ak (ae (aa av))))) (by kernel_rfl) rfl ?_
    refine a2 (i := 2) rfl aj (aD eL rfl) aE aE rfl (ae (aa (ak (ae (aa av))))) (by kernel_rfl) rfl ?_
    refine a2 (i := 3) rfl aj (aM 6 gA rfl rfl rfl) aE aE rfl (ae (aa (ak (ae (aa av))))) (by kernel_rfl) rfl ?_
    refine a2 (i := 4) rfl aj (a6 3 aR rfl rfl rfl rfl) aE aE rfl (ae (aa (ak (ae (aa av))))) (by kernel_rfl) rfl ?_
    refine a2 (i := 6) rfl aj (a6 3 aR rfl rfl rfl rfl) aE aE rfl (ae (aa (ak (ae (aa av))))) (by kernel_rfl) rfl ?_
    refine bk (i := 5) rfl rfl rfl (bm rfl dM) (by kernel_rfl) rfl ?_
    refine bb rfl dM (cI _ _ _ _ _ (by have := hb9.h; omega)) rfl ?_
    refine ah ?_
    refine bv aE ?_
    refine bk (i := 7) rfl rfl rfl (bm rfl hX) (by kernel_rfl) rfl ?_
    refine dr rfl hX rfl (iN hm r1 _ (⟨(l.getD k br).e, A6, c6, B6, d6⟩ : Le)) (fun o => (.s (.s (.s (.s (.s (.s (.s (.s (.s (.z))))))))))) (List.mem_of_getElem? (i := 9) rfl) (fun s hs => nomatch hs) (fun o12 => ?_)
    refine ah ?_
    refine a4 rfl ?_
    refine bP (by kernel_rfl) ?_
    refine bo ?_
    refine aq ?_
    refine ai ?_
    refine au (bl rfl rfl (by omega) (by omega)) rfl rfl ?_
    refine au (ap rfl) rfl rfl ?_
    refine ah ?_
    refine bq ((k + 1, lc ++ [(⟨(l.getD k br).e, A6, c6, B6, d6⟩ : Le)], A11, c11, fM hm (aX (l.getD k br).e.host) (⟨(l.getD k br).e, A6, c6, B6, d6⟩ : Le))) ?_ ?_ ⟨rfl, trivial⟩ (by repeat (first | exact trivial | refine ⟨rfl, ?_⟩)) (fun w h => by
  have h2 := (h.weak (.cons _ (.cons_cons _ (.cons_cons _ (.cons _ (List.Sublist.refl _))))) (fun s hs => hs)).intoE
  show Hp _ _ (Ch.rall ((lc ++ [_]).flatMap e6) :: _) _ _
  rw [List.flatMap_append, List.flatMap_singleton]
  exact h2)
    ·exact ⟨by show k + 1 ≤ _; omega, by show (lc ++ [_]).map _ = (l.take (k + 1)).map _; rw [List.map_append, hI.2.1, bK l br k hk, List.map_append]; rfl, hm_put hI.2.2 (⟨(l.getD k br).e, A6, c6, B6, d6⟩ : Le)⟩
    ·show l.length - (k + 1) < l.length - k
     omega
   refine bi (i := 7) rfl rfl rfl (fun _ _ _ => aN (by kernel_rfl)) rfl ?_ ?_
   ·skip
    refine cC (enc := dB) (sz := 7) [(⟨(l.getD k br).e, A6, c6, B6, d6⟩ : Le)] Tryz.underlying22 aR rfl rfl rfl (fun A c => (.s (.s (.s (.s (.s (.z))))))) (d5 0 Tryz.underlying22 rfl) (by simp only [List.length_cons, List.length_nil, Nat.zero_add]; omega) (by simp only [List.length_cons, List.length_nil, Nat.zero_add]; omega) rfl (fun A13 c13 => ?_)
    refine ah ?_
    refine a4 rfl ?_
    refine bk (i := 0) rfl rfl rfl (fun _ _ _ => aN (by kernel_rfl)) (by kernel_rfl) rfl ?_
    refine au (ap rfl) rfl rfl ?_
    refine ah ?_
    refine a4 rfl ?_
    refine bk (i := 8) rfl rfl rfl (tame_y (fun w => bh rfl)) (by kernel_rfl) rfl ?_
    refine au (bh rfl) rfl rfl ?_
    refine ah ?_
    refine a4 rfl ?_
    refine bk (i := 9) rfl rfl rfl (fun _ _ _ => aN (by kernel_rfl)) (by kernel_rfl) rfl ?_
    refine au (aD dZ rfl) rfl rfl ?_
    refine ah ?_
    refine a4 rfl ?_
    refine bk (i := 10) rfl rfl rfl (fun _ _ _ => aN (by kernel_rfl)) (by kernel_rfl) rfl ?_
    refine a0 bZ rfl rfl rfl (.s (.s (.s (.s (.s (.s (.z))))))) rfl rfl rfl rfl ?_
    refine ah ?_
    refine a4 rfl ?_
    refine bP (by kernel_rfl) ?_
    refine aq ?_
    refine dO 7 rfl cu ?_
    refine a2 (i := 0) rfl aj (ap rfl) aE aE rfl (ae (aa (ak (ae (aa av))))) (by kernel_rfl) rfl ?_
    refine a2 (i := 1) rfl aj (bh rfl) aE aE rfl (ae (aa (ak (ae (aa av))))) (by kernel_rfl) rfl ?_
    refine a2 (i := 2) rfl aj (aD eL rfl) aE aE rfl (ae (aa (ak (ae (aa av))))) (by kernel_rfl) rfl ?_
    refine a2 (i := 3) rfl aj (aM 6 gA rfl rfl rfl) aE aE rfl (ae (aa (ak (ae (aa av))))) (by kernel_rfl) rfl ?_
    refine a2 (i := 4) rfl aj (a6 3 aR rfl rfl rfl rfl) aE aE rfl (ae (aa (ak (ae (aa av))))) (by kernel_rfl) rfl ?_
    refine a2 (i := 6) rfl aj (a6 3 aR rfl rfl rfl rfl) aE aE rfl (ae (aa (ak (ae (aa av))))) (by kernel_rfl) rfl ?_
    refine bk (i := 5) rfl rfl rfl (bm rfl dM) (by kernel_rfl) rfl ?_
    refine bb rfl dM (cI _ _ _ _ _ (by have := hb9.h; omega)) rfl ?_
    refine ah ?_
    refine bv aE ?_
    refine bk (i := 7) rfl rfl rfl (bm rfl hX) (by kernel_rfl) rfl ?_
    refine dr rfl hX rfl (iN hm r1 _ (⟨(l.getD k br).e, A6, c6, B6, d6⟩ : Le)) (fun o => (.s (.s (.s (.s (.s (.s (.s (.s (.s (.z))))))))))) (List.mem_of_getElem? (i := 9) rfl) (fun s hs => nomatch hs) (fun o14 => ?_)
    refine ah ?_
    refine a4 rfl ?_
    refine bP (by kernel_rfl) ?_
    refine bo ?_
    refine aq ?_
    refine ai ?_
    refine au (bl rfl rfl (by omega) (by omega)) rfl rfl ?_
    refine au (ap rfl) rfl rfl ?_
    refine ah ?_
    refine bq ((k + 1, lc ++ [(⟨(l.getD k br).e, A6, c6, B6, d6⟩ : Le)], A13, c13, fM hm (aX (l.getD k br).e.host) (⟨(l.getD k br).e, A6, c6, B6, d6⟩ : Le))) ?_ ?_ ⟨rfl, trivial⟩ (by repeat (first | exact trivial | refine ⟨rfl, ?_⟩)) (fun w h => by
  have h2 := (h.weak (.cons _ (.cons_cons _ (.cons_cons _ (.cons _ (List.Sublist.refl _))))) (fun s hs => hs)).intoE
  show Hp _ _ (Ch.rall ((lc ++ [_]).flatMap e6) :: _) _ _
  rw [List.flatMap_append, List.flatMap_singleton]
  exact h2)
    ·exact ⟨by show k + 1 ≤ _; omega, by show (lc ++ [_]).map _ = (l.take (k + 1)).map _; rw [List.map_append, hI.2.1, bK l br k hk, List.map_append]; rfl, hm_put hI.2.2 (⟨(l.getD k br).e, A6, c6, B6, d6⟩ : Le)⟩
    ·show l.length - (k + 1) < l.length - k
     omega
   exact ci
  exact ci
 ·skip
  refine ah ?_
  refine aq ?_
  refine ar ?_
  refine aC rfl ?_
  refine bw ?_
  refine aY ?_
  refine aZ ?_
  refine a7 ?_
  refine aq ?_
  refine ar ?_
  refine ar ?_
  have hkl : k = l.length := by omega
  subst hkl
  have hI9 : lc.map (·.e) = l.map (·.e) := by rw [hI.2.1, List.take_length]
  have hI8 := hI.2.2
  have hlc := fG hI.2.1
  refine ai ?_
  refine au (ap rfl) rfl rfl ?_
  refine au (bg Tryz.underlying25 rfl) rfl rfl ?_
  refine au (ap rfl) rfl rfl ?_
  refine ah ?_
  refine aq ?_
  refine aW ?_
  refine bV (σ := Unit) [4, 5, 11, 12, 13, 58, 59, 60, 61, 62, 63, 64, 65, 66, 67, 68, 69, 70, 71, 72, 73, 74, 75, 76, 77, 78, 79, 80, 81, 82, 83, 84, 85, 86, 87, 88, 89, 90, 91, 92, 93, 94, 95, 96, 97, 98, 99, 100, 101, 102, 103, 104, 105, 106, 107, 108, 109, 110, 111, 112, 113, 114, 115] (fun _ => True) (fun _ => 0) (fun _ => [(58, .int .i64 0)]) (()) ?_ ⟨rfl, trivial⟩ (fun _ hI => ?_)
  ·trivial
  refine ar ?_
  refine ai ?_
  refine au (bI rfl rfl) rfl rfl ?_
  refine dJ (t := 59) rfl (by simp) ?_
  refine ah ?_
  refine aq ?_
  refine ar ?_
  refine aC rfl ?_
  refine bw ?_
  refine aY ?_
  refine aZ ?_
  refine a7 ?_
  refine aq ?_
  refine ar ?_
  refine ar ?_
  refine ai ?_
  refine au (ap rfl) rfl rfl ?_
  refine au (bh rfl) rfl rfl ?_
  refine au (aD dZ rfl) rfl rfl ?_
  refine au (aM 2 bZ rfl rfl rfl) rfl rfl ?_
  refine au (bg Tryz.underlying22 rfl) rfl rfl ?_
  refine au (ap rfl) rfl rfl ?_
  refine ah ?_
  refine aq ?_
  refine aW ?_
  refine bF (fun w h => h.f3) ?_
  refine cP (σ := Nat × List (Ad × Le)) [15, 17, 121, 122, 123, 124, 125, 126, 127, 128, 129, 130, 131, 132, 133, 134, 135, 136, 137, 138, 139, 140] (fun q => q.1 ≤ lc.length) (fun q => lc.length - q.1) (fun q => [(121, .int .i64 q.1)]) (fun q => Ch.mp r3 eY fh q.2) ((0, [])) ?_ ⟨rfl, trivial⟩ rfl (fun q hI => ?_)
  ·exact Nat.zero_le _
  obtain ⟨k2, am⟩ := q
  dsimp only at hI ⊢
  refine ar ?_
  refine ai ?_
  refine au (bI rfl rfl) rfl rfl ?_
  refine aB (t := 122) rfl (fun h20_0 => ?_) (fun h20_0 => ?_)
  ·skip
   have hk2 : k2 < lc.length := by omega
   have hb9 := EnB.eq (hok.at (k := k2) (by omega)) (iO hI9 k2)
   have hla9 := hb9.la
   refine ah ?_
   refine aq ?_
   refine ar ?_
   refine aA rfl ?_
   refine aS ?_
   refine aq ?_
   refine ar ?_
   refine aW ?_
   refine ar ?_
   refine ai ?_
   refine au (bz  Tryz.underlying22 aR rfl rfl (dg 2 rfl) rfl (by omega)) rfl rfl ?_
   refine au (bW cj br aR rfl (dg 2 rfl) (by omega) rfl rfl rfl) rfl rfl ?_
   refine bj aR rfl rfl (fun b16 => ?_)
   refine a0 aR rfl rfl rfl .z rfl rfl rfl rfl ?_
   refine ah ?_
   refine aq ?_
   refine ar ?_
   refine ai ?_
   refine au (aD cH rfl) rfl rfl ?_
   refine au (aM 0 dN rfl rfl rfl) rfl rfl ?_
   refine au (bg Tryz.underlying30 rfl) rfl rfl ?_
   refine au (ap rfl) rfl rfl ?_
   refine ah ?_
   refine aq ?_
   refine aW ?_
   refine bF (fun w h => h.f1) ?_
   refine cP (σ := Nat × List (Ad × Le)) [17, 128, 129, 130, 131, 132, 133, 134, 135, 136, 137, 138, 139] (fun q => q.1 ≤ (lc.getD k2 br).e.addrs.length) (fun q => (lc.getD k2 br).e.addrs.length - q.1) (fun q => [(128, .int .i64 q.1)]) (fun q => Ch.mp r3 eY fh q.2) ((0, am)) ?_ ⟨rfl, trivial⟩ rfl (fun q hI => ?_)
   ·exact Nat.zero_le _
   obtain ⟨j, am2⟩ := q
   dsimp only at hI ⊢
   refine ar ?_
   refine ai ?_
   refine au (bI rfl rfl) rfl rfl ?_
   refine aB (t := 129) rfl (fun h23_0 => ?_) (fun h23_0 => ?_)
   ·skip
    refine ah ?_
    refine aq ?_
    refine ar ?_
    refine aA rfl ?_
    refine aS ?_
    refine aq ?_
    refine ar ?_
    refine aW ?_
    refine ar ?_
    refine ai ?_
    refine au (bz  Tryz.underlying30 bu rfl rfl (fun w hw => (bG (dC 2 rfl hw) (bL (bA (by omega)) _ (gD _))).1) rfl (by omega)) rfl rfl ?_
    refine au (bW dI eZ bu rfl (fun w hw => (bG (dC 2 rfl hw) (bL (bA (by omega)) _ (gD _))).1) (by omega) rfl rfl rfl) rfl rfl ?_
    refine bj bu rfl rfl (fun b17 => ?_)
    refine a0 bu rfl rfl rfl .z rfl rfl rfl rfl ?_
    refine ah ?_
    refine aq ?_
    refine dO 6 rfl cu ?_
    refine a2 (i := 0) rfl aj (ap rfl) aE aE rfl (ae (aa (ak (ae (ae (aa (ak (ae (aa av))))))))) (by kernel_rfl) rfl ?_
    refine a2 (i := 1) rfl aj (bh rfl) aE aE rfl (ae (aa (ak (ae (ae (aa (ak (ae (aa av))))))))) (by kernel_rfl) rfl ?_
    refine a2 (i := 2) rfl aj (aD gJ rfl) aE aE rfl (ae (aa (ak (ae (ae (aa (ak (ae (aa av))))))))) (by kernel_rfl) rfl ?_
    refine a2 (i := 3) rfl aj (aM 5 ty_120 rfl rfl rfl) aE aE rfl (ae (aa (ak (ae (ae (aa (ak (ae (aa av))))))))) (by kernel_rfl) rfl ?_
    refine a2 (i := 4) rfl aj (a6 0 bu rfl rfl rfl rfl) aE aE rfl (ae (aa (ak (ae (ae (aa (ak (ae (aa av))))))))) (by kernel_rfl) rfl ?_
    refine a2 (i := 5) rfl aj (a6 2 aR rfl rfl rfl rfl) aE aE rfl (ae (aa (ak (ae (ae (aa (ak (ae (aa av))))))))) (by kernel_rfl) rfl ?_
    refine bk (i := 6) rfl rfl rfl (bm rfl ent_77) (by kernel_rfl) rfl ?_
    refine dr rfl ent_77 rfl (jJ _ r3 _ (lc.getD k2 br)) (fun o => (.s (.z))) (List.mem_of_getElem? (i := 1) rfl) (fun s hs => nomatch hs) (fun o17 => ?_)
    refine ah ?_
    refine a4 rfl ?_
    refine bP (by kernel_rfl) ?_
    refine bo ?_
    refine aq ?_
    refine ai ?_
    refine au (bl rfl rfl (by omega) (by omega)) rfl rfl ?_
    refine au (ap rfl) rfl rfl ?_
    refine ah ?_
    refine bq ((j + 1, fM am2 ((lc.getD k2 br).e.addrs.getD j eZ) (lc.getD k2 br))) ?_ ?_ ⟨rfl, trivial⟩ (by repeat (first | exact trivial | refine ⟨rfl, ?_⟩)) (fun w h => h.weak (.cons _ (List.Sublist.refl _)) (fun s hs => hs))
    ·show j + 1 ≤ _
     omega
    ·show (lc.getD k2 br).e.addrs.length - (j + 1) < (lc.getD k2 br).e.addrs.length - j
     omega
   ·skip
    refine ah ?_
    refine aq ?_
    refine ar ?_
    refine aC rfl ?_
    refine bw ?_
    refine aY ?_
    refine aZ ?_
    refine a7 ?_
    refine bo ?_
    refine aq ?_
    refine ai ?_
    refine au (bl rfl rfl (by omega) (by omega)) rfl rfl ?_
    refine au (ap rfl) rfl rfl ?_
    refine ah ?_
    refine bq ((k2 + 1, am2)) ?_ ?_ ⟨rfl, trivial⟩ (by repeat (first | exact trivial | refine ⟨rfl, ?_⟩)) (fun w h => h.weak (.cons_cons _ (.cons _ (List.Sublist.refl _))) (fun s hs => hs))
    ·show k2 + 1 ≤ _
     omega
    ·show lc.length - (k2 + 1) < lc.length - k2
     omega
  ·skip
   refine ah ?_
   refine aq ?_
   refine ar ?_
   refine aC rfl ?_
   refine bw ?_
   refine aY ?_
   refine aZ ?_
   refine a7 ?_
   refine aq ?_
   refine ar ?_
   refine ai ?_
   refine au (ap rfl) rfl rfl ?_
   refine au (ao rfl) rfl rfl ?_
   refine au (ao rfl) rfl rfl ?_
   refine ah ?_
   refine aq ?_
   refine aQ ?_
   refine aV (ts := [4, 5]) rfl rfl rfl (fun w hw => ?_)
   exact ⟨⟨⟨b5, Ax, cx, lc, r1, r2, r3, hm, [], am⟩, ⟨hI9, hI8⟩⟩, rfl, hw.base, (Hp.toRall (M := ixR ⟨b5, Ax, cx, lc, r1, r2, r3, hm, [], am⟩) hw (fun h9 => (List.forall_mem_cons.2 ⟨h9 _ (.tail _ (.tail _ (.tail _ (.head _)))), (List.forall_mem_cons.2 ⟨SlP.rs (h9 _ (.tail _ (.tail _ (.head _)))), (List.forall_mem_cons.2 ⟨h9 _ (.tail _ (.tail _ (.tail _ (.tail _ (.tail _ (.head _)))))), (List.forall_mem_cons.2 ⟨h9 _ (.tail _ (.tail _ (.tail _ (.tail _ (.head _))))), (List.forall_mem_cons.2 ⟨h9 _ (.head _), (List.forall_mem_cons.2 ⟨h9 _ (.tail _ (.head _)), nofun⟩)⟩)⟩)⟩)⟩)⟩)) (List.forall_mem_cons.2 ⟨fun b hb => ⟨_, (.tail _ (.tail _ (.tail _ (.head _)))), hb⟩, (List.forall_mem_cons.2 ⟨fun b hb => ⟨_, (.tail _ (.tail _ (.head _))), hb.2⟩, (List.forall_mem_cons.2 ⟨fun b hb => ⟨_, (.tail _ (.tail _ (.tail _ (.tail _ (.tail _ (.head _)))))), hb⟩, (List.forall_mem_cons.2 ⟨fun b hb => ⟨_, (.tail _ (.tail _ (.tail _ (.tail _ (.head _))))), hb⟩, (List.forall_mem_cons.2 ⟨fun b hb => ⟨_, (.head _), hb⟩, (List.forall_mem_cons.2 ⟨fun b hb => ⟨_, (.tail _ (.head _)), hb⟩, nofun⟩)⟩)⟩)⟩)⟩)⟩)).toNews⟩
end Go.Proofs.YtnpdgmoeoidppaaGreat

/- the laws of candidates -/
namespace Go.Proofs.YtnpdgmoeoidppaaGreat
open Go.RowKit Go.Shelf
set_option linter.unusedVariables false
set_option linter.unusedSimpArgs false

theorem Ok.pos {s : Sr} {n : bf} (h : Ok s n) : 1 ≤ (jV s n).length := List.length_pos_of_mem h.mem
theorem Ok.names {s : Sr} {n : bf} (h : Ok s n) : namesE s n = 0 := by rw [namesE, if_neg (by rw [h.s0]; decide)]; exact h.n0
end Go.Proofs.YtnpdgmoeoidppaaGreat
