import Derived.Test.YtnpdgmoeoidppaaGreatJaQa
/- an index asked for addresses, routes -/
namespace Go.Proofs.YtnpdgmoeoidppaaGreat
open Go.RowKit Go.Shelf
set_option linter.unusedVariables false
set_option linter.unusedSimpArgs false

theorem ent_84 : Enters Tryz.prog 84 := enters_of Tryz.func84 (by kernel_rfl) rfl
theorem ia : Enters Tryz.prog 86 := enters_of Tryz.func86 (by kernel_rfl) rfl
theorem ent_87 : Enters Tryz.prog 87 := enters_of Tryz.func87 (by kernel_rfl) rfl

theorem iH (m : List (bf × Ad)) (r : Nat) (k : bf) : RC Tryz.prog 86 #[.map (some r), .string (ba k)] [Ch.mp r fL eY m] (α := Unit) (fun _ => .tuple #[.agg (dT ((bT m k).getD eZ)).toArray, .bool (bT m k).isSome]) (fun _ => []) := by
 refine bx (args := [.map (some r), .string (ba k)]) 16 Tryz.func86 rfl rfl rfl (fun w0 => ?_)
 refine ar ?_
 refine ai ?_
 refine bj bu rfl rfl (fun b1 => ?_)
 refine au (ao rfl) rfl rfl ?_
 refine ah ?_
 refine aq ?_
 refine ar ?_
 refine ai ?_
 refine au (ap rfl) rfl rfl ?_
 refine au (ap rfl) rfl rfl ?_
 refine au (fW Tryz.underlying118 (eN Tryz.underlying26) bu rfl rfl (fun w hw => hw.sh _ (List.mem_of_getElem? (i := 0) rfl))) rfl rfl ?_
 refine cU (t := 11) (.tuple #[.agg (dT ((bT m k).getD eZ)).toArray, .bool (bT m k).isSome]) rfl (by cases bT m k <;> rfl) ?_
 refine au (ap rfl) rfl rfl ?_
 refine au (aP rfl rfl) rfl rfl ?_
 refine au (aP rfl rfl) rfl rfl ?_
 refine bj bu rfl rfl (fun b2 => ?_)
 refine a0 bu rfl rfl rfl .z rfl rfl rfl rfl ?_
 refine au (ao rfl) rfl rfl ?_
 refine ah ?_
 refine aq ?_
 refine ar ?_
 refine ai ?_
 refine au (a6 0 bu rfl rfl rfl rfl) rfl rfl ?_
 refine au (ap rfl) rfl rfl ?_
 refine a0 bu rfl rfl rfl (.s (.z)) rfl rfl rfl rfl ?_
 refine au (ao rfl) rfl rfl ?_
 refine ah ?_
 refine aq ?_
 refine aQ ?_
 refine ed (rs := [.cell 4 29, .tmp 5]) rfl (cF 1 bu rfl rfl rfl rfl (dR rfl dp)) rfl (fun w hw => ?_)
 exact ⟨(), rfl, hw.base, (hw.weak (List.nil_sublist _) (fun s hs => hs)).toNews⟩

theorem c_ask_a (m : List (Ad × Le)) (r : Nat) (k : Ad) : RC Tryz.prog 84 #[.map (some r), .agg (dT k).toArray] [Ch.mp r eY fh m] (α := Unit) (fun _ => .tuple #[.agg (dB ((bT m k).getD br)).toArray, .bool (bT m k).isSome]) (fun _ => []) := by
 refine bx (args := [.map (some r), .agg (dT k).toArray]) 16 Tryz.func84 rfl rfl rfl (fun w0 => ?_)
 refine ar ?_
 refine ai ?_
 refine cv rfl rfl rfl (fun b1 => ?_)
 refine bj aR rfl rfl (fun b2 => ?_)
 refine au (ao rfl) rfl rfl ?_
 refine ah ?_
 refine aq ?_
 refine ar ?_
 refine ai ?_
 refine au (ap rfl) rfl rfl ?_
 refine au (a6 1 bu rfl rfl rfl rfl) rfl rfl ?_
 refine au (fW Tryz.underlying120 jo aR rfl rfl (fun w hw => hw.sh _ (List.mem_of_getElem? (i := 0) rfl))) rfl rfl ?_
 refine cU (t := 11) (.tuple #[.agg (dB ((bT m k).getD br)).toArray, .bool (bT m k).isSome]) rfl (by cases bT m k <;> rfl) ?_
 refine au (ap rfl) rfl rfl ?_
 refine au (aP rfl rfl) rfl rfl ?_
 refine au (aP rfl rfl) rfl rfl ?_
 refine bj aR rfl rfl (fun b3 => ?_)
 refine a0 aR rfl rfl rfl .z rfl rfl rfl rfl ?_
 refine au (ao rfl) rfl rfl ?_
 refine ah ?_
 refine aq ?_
 refine ar ?_
 refine ai ?_
 refine au (a6 0 aR rfl rfl rfl rfl) rfl rfl ?_
 refine au (ap rfl) rfl rfl ?_
 refine a0 aR rfl rfl rfl (.s (.z)) rfl rfl rfl rfl ?_
 refine au (ao rfl) rfl rfl ?_
 refine ah ?_
 refine aq ?_
 refine aQ ?_
 refine ed (rs := [.cell 4 34, .tmp 5]) rfl (cF 1 aR rfl rfl rfl rfl (dR rfl dp)) rfl (fun w hw => ?_)
 exact ⟨(), rfl, hw.base, (hw.weak (List.nil_sublist _) (fun s hs => hs)).toNews⟩

/-- The entry that is asked for, by its host. -/
def ownI (x : Ixd) (h : bf) : Option Le := if a8 h ≠ 0 then none else bT x.hm (aX h)
def i2 (x : Ixd) (y : Le) : List Ad := (bT x.dm (aX y.e.host)).toList
/-- An entry's addresses. -/
def i9 (x : Ixd) (h : bf) : List Ad := match ownI x h with
  | none => []
  | some y => di y.e (i2 x y)
theorem adsI_bad {x : Ixd} {h : bf} (q : a8 h ≠ 0) : i9 x h = [] := by rw [i9, ownI, if_pos q]
theorem adsI_none {x : Ixd} {h : bf} (q : a8 h = 0) (h2 : (bT x.hm (aX h)).isSome = false) : i9 x h = [] := by
  rw [i9, ownI, if_neg (fun w => w q), iD h2]
theorem some_getD {α : Type} {o : Option α} {d : α} (h : o.isSome = true) : o = some (o.getD d) := by cases o with
  | none => cases h
  | some q => rfl
theorem adsI_own {x : Ixd} {h : bf} (q : a8 h = 0) (h2 : (bT x.hm (aX h)).isSome = true) : i9 x h = di ((bT x.hm (aX h)).getD br).e (i2 x ((bT x.hm (aX h)).getD br)) := by
  rw [i9, ownI, if_neg (fun w => w q), some_getD (d := br) h2]; rfl
theorem heldI_none {x : Ixd} {y : Le} (h : (bT x.dm (aX y.e.host)).isSome = false) : i2 x y = [] := by rw [i2, iD h]; rfl
theorem heldI_some {x : Ixd} {y : Le} (h : (bT x.dm (aX y.e.host)).isSome = true) : i2 x y = [(bT x.dm (aX y.e.host)).getD eZ] := by rw [i2, some_getD (d := eZ) h]; rfl
theorem own_mem {l : List Le} {x : Ixd} (hx : IxOk l x) {key : bf} (h : (bT x.hm key).isSome = true) : (bT x.hm key).getD br ∈ x.l := (jW hx.hm h).1
theorem own_bnd {l : List Le} {x : Ixd} (hx : IxOk l x) (hok : TbOk l) {key : bf} (h : (bT x.hm key).isSome = true) : EnB ((bT x.hm key).getD br).e := es_bnd hx.es hok (own_mem hx h)
theorem dm_mem {l : List Le} {hs : List Hd} {x : Ixd} (hx : IxOk2 l hs x) {key : bf} (h : (bT x.dm key).isSome = true) : ∃ p ∈ hs, p.ad = (bT x.dm key).getD eZ := by
  rw [hx.dm key] at h ⊢
  cases hf : hs.find? fun h => decide (aX h.host = key) with
  | none => rw [hf] at h; cases h
  | some z => exact ⟨z, List.mem_of_find?_eq_some hf, rfl⟩

theorem ju {w : World} {sz : Nat} {α : Type} {enc : α → List Value} : (Ch.rd none sz enc ([] : List α)).P w ∧ ∀ b, (Ch.rd none sz enc ([] : List α)).ok b → b < w.heap.size := ⟨⟨by simp [fl], (by simp [fl]), .inl rfl⟩, fun b hb => absurd hb.1 (by simp)⟩

set_option maxRecDepth 100000 in
set_option maxHeartbeats 1000000 in
theorem c_Addrs (x : Ixd) (l : List Le) (hs : List Hd) (y : Le) (hix : IxOk2 l hs x) (hok : TbOk l) (hhs : ∀ h ∈ hs, 0 ≤ h.ad.lo) : RC Tryz.prog 24 #[.pointer (some ⟨x.b, 0, none⟩), .agg (dB y).toArray] [Ch.row x.b (ixC x) 122, Ch.mp x.rh fL fh x.hm, Ch.mp x.rd fL eY x.dm, Ch.mp x.ra eY fh x.am, Ch.rall ((br :: x.l).flatMap e6)] (α := Option Addr × Nat) (fun p => .slice p.1 (i9 x y.e.host).length p.2) (fun p => [Ch.ls p.1 p.2 29 3 dT (i9 x y.e.host)]) := by
 refine bx (args := [.pointer (some ⟨x.b, 0, none⟩), .agg (dB y).toArray]) 48 Tryz.func24 rfl rfl rfl (fun w0 => ?_)
 refine ar ?_
 refine ai ?_
 refine cv rfl rfl rfl (fun b1 => ?_)
 refine au (ao rfl) rfl rfl ?_
 refine ah ?_
 refine aq ?_
 refine ar ?_
 refine ar ?_
 refine ai ?_
 refine au (ap rfl) rfl rfl ?_
 refine au (gr Tryz.underlying39 rfl rfl) rfl rfl ?_
 refine cU (t := 11) (.bool false) rfl (congrArg Value.bool rfl) ?_
 refine au (ap rfl) rfl rfl ?_
 refine az rfl rfl ?_
 refine au (aD cQ rfl) rfl rfl ?_
 refine az rfl rfl ?_
 refine au (aM 0 bN rfl rfl rfl) rfl rfl ?_
 refine az rfl rfl ?_
 refine bb rfl fK (cX _) rfl ?_
 refine az rfl rfl ?_
 refine au (bX rfl rfl) rfl rfl ?_
 refine aB (t := 16) rfl (fun h1_6 => ?_) (fun h1_6 => ?_)
 refine au (aI rfl rfl) rfl rfl ?_
 refine ah ?_
 refine aq ?_
 refine aA rfl ?_
 refine ar ?_
 refine ai ?_
 refine au (ao rfl) rfl rfl ?_
 refine ah ?_
 refine aq ?_
 refine aQ ?_
 refine ay ?_
 refine aV (ts := [4]) rfl rfl rfl (fun w hw => ?_)
 rw [adsI_bad h1_6]
 exact ⟨(none, 0), rfl, hw.base, ((hw.weak (List.nil_sublist _) (fun s hs => hs)).nilsl 29 3).toNews⟩
 have hn0 : a8 y.e.host = 0 := by omega
 have hnl := (nameCk_zero.1 hn0).1
 refine au (aI rfl rfl) rfl rfl ?_
 refine ah ?_
 refine aq ?_
 refine aC rfl ?_
 refine aS ?_
 refine aq ?_
 refine g3 (σ := Nat) (fun q => [(5, .pointer (some ⟨q, 0, none⟩)), (6, .bool (bT x.hm (aX y.e.host)).isSome)]) (fun q => [Ch.row q (dB ((bT x.hm (aX y.e.host)).getD br)) 34]) (fun q => ?_) (fun J3 => ?_)
 refine ar ?_
 refine ar ?_
 refine ai ?_
 refine au (ap rfl) rfl rfl ?_
 refine bD (t := 28) rfl (fun h4_0 => ?_) (fun h4_0 => ?_)
 refine au (bC rfl) rfl rfl ?_
 refine ah ?_
 refine aq ?_
 refine aC rfl ?_
 refine aS ?_
 refine aq ?_
 refine ar ?_
 have hom := own_mem hix.ix h4_0
 have hob := own_bnd hix.ix hok h4_0
 refine ai ?_
 refine au (ao rfl) rfl rfl ?_
 refine ah ?_
 refine aq ?_
 refine ar ?_
 refine g3 (σ := Nat) (fun qa => [(8, .pointer (some ⟨qa, 0, none⟩)), (9, .bool (bT x.dm (aX ((bT x.hm (aX y.e.host)).getD br).e.host)).isSome)]) (fun qa => [Ch.row qa (dT ((bT x.dm (aX ((bT x.hm (aX y.e.host)).getD br).e.host)).getD eZ)) 29]) (fun qa => ?_) (fun J7 => ?_)
 refine ar ?_
 refine ai ?_
 refine au (ap rfl) rfl rfl ?_
 refine bD (t := 40) rfl (fun h8_0 => ?_) (fun h8_0 => ?_)
 refine ah ?_
 refine aq ?_
 refine aA rfl ?_
 have hhd : ∀ a ∈ [((bT x.dm (aX ((bT x.hm (aX y.e.host)).getD br).e.host)).getD eZ)], 0 ≤ a.lo := fun a ha => by
   obtain ⟨p, hp, e⟩ := dm_mem hix h8_0
   rw [List.mem_singleton] at ha; rw [ha, ← e]; exact hhs p hp
 refine ai ?_
 refine au (ap rfl) rfl rfl ?_
 refine au (a6 0 bu rfl rfl rfl rfl) rfl rfl ?_
 refine cD (vs := [_]) ([((bT x.dm (aX ((bT x.hm (aX y.e.host)).getD br).e.host)).getD eZ)] : List (Ad)) dI Tryz.underlying30 bu rfl rfl rfl rfl rfl rfl (fun As2 => ?_)
 refine ib (fun w h => h.nilsl 29 3) ?_
 refine cC (xs := ([] : List (Ad))) (enc := dT) (sz := 3) [((bT x.dm (aX ((bT x.hm (aX y.e.host)).getD br).e.host)).getD eZ)] Tryz.underlying30 bu rfl rfl rfl (fun A c => .z) (d5 1 Tryz.underlying30 rfl) (by simp only [List.length_cons, List.length_nil, Nat.zero_add]; omega) (by simp only [List.length_cons, List.length_nil, Nat.zero_add]; omega) rfl (fun A3 c3 => ?_)
 refine au (ao rfl) rfl rfl ?_
 refine ah ?_
 refine aq ?_
 refine ar ?_
 refine ai ?_
 refine au (a6 3 aR rfl rfl rfl rfl) rfl rfl ?_
 refine au (ap rfl) rfl rfl ?_
 refine bM rfl ent_87 rfl (iW ((bT x.hm (aX y.e.host)).getD br).e ((bT x.hm (aX y.e.host)).getD br).A ((bT x.hm (aX y.e.host)).getD br).B ((bT x.hm (aX y.e.host)).getD br).c ((bT x.hm (aX y.e.host)).getD br).d _ _ [((bT x.dm (aX ((bT x.hm (aX y.e.host)).getD br).e.host)).getD eZ)] hhd (by simp) hob.wa (by have := hob.la; omega) (by have := hob.lp; omega) hob.k) (fun w hw => (aO (bG (bJ 4 rfl hw) (bL (.tail _ hom) _ (gD _))) (aO (bG (bJ 4 rfl hw) (bL (.tail _ hom) _ (jA _))) (aO (dD 0 rfl hw) bd)))) (fun ⟨A4, c4⟩ => ?_)
 refine au (ao rfl) rfl rfl ?_
 refine ah ?_
 refine aq ?_
 refine aQ ?_
 refine aV (ts := [4]) rfl rfl rfl (fun w hw => ?_)
 have hE : i9 x y.e.host = di ((bT x.hm (aX y.e.host)).getD br).e [((bT x.dm (aX ((bT x.hm (aX y.e.host)).getD br).e.host)).getD eZ)] := by rw [adsI_own hn0 h4_0, heldI_some h8_0]
 rw [hE]
 exact ⟨(A4, c4), rfl, hw.base, (hw.weak (.cons_cons _ (List.nil_sublist _)) (fun s hs => hs)).toNews⟩
 refine ah ?_
 refine aq ?_
 refine aC rfl ?_
 refine aS ?_
 refine aq ?_
 refine ar ?_
 refine ai ?_
 refine au (a6 1 aR rfl rfl rfl rfl) rfl rfl ?_
 refine au (ap rfl) rfl rfl ?_
 refine bM rfl ent_87 rfl (iW ((bT x.hm (aX y.e.host)).getD br).e ((bT x.hm (aX y.e.host)).getD br).A ((bT x.hm (aX y.e.host)).getD br).B ((bT x.hm (aX y.e.host)).getD br).c ((bT x.hm (aX y.e.host)).getD br).d _ _ [] (by simp) (by simp) hob.wa (by have := hob.la; omega) (by have := hob.lp; omega) hob.k) (fun w hw => (aO (bG (bJ 4 rfl hw) (bL (.tail _ hom) _ (gD _))) (aO (bG (bJ 4 rfl hw) (bL (.tail _ hom) _ (jA _))) (aO (ju) bd)))) (fun ⟨A5, c5⟩ => ?_)
 refine au (ao rfl) rfl rfl ?_
 refine ah ?_
 refine aq ?_
 refine aQ ?_
 refine aV (ts := [4]) rfl rfl rfl (fun w hw => ?_)
 have hE : i9 x y.e.host = di ((bT x.hm (aX y.e.host)).getD br).e [] := by rw [adsI_own hn0 h4_0, heldI_none h8_0]
 rw [hE]
 exact ⟨(A5, c5), rfl, hw.base, (hw.weak (.cons_cons _ (List.nil_sublist _)) (fun s hs => hs)).toNews⟩
 refine ar ?_
 refine dO 11 rfl cu ?_
 refine a2 (i := 0) rfl aj (ap rfl) aE aE rfl (aa (aa av)) (by kernel_rfl) rfl ?_
 refine a2 (i := 1) rfl aj (bh rfl) aE aE rfl (aa (aa av)) (by kernel_rfl) rfl ?_
 refine a2 (i := 2) rfl aj (aD io rfl) aE aE rfl (aa (aa av)) (by kernel_rfl) rfl ?_
 refine a2 (i := 3) rfl aj (cN 0 ty_118 rfl rfl rfl) aE aE rfl (aa (aa av)) (by kernel_rfl) rfl ?_
 refine a2 (i := 4) rfl aj (a6 0 aR rfl rfl rfl rfl) aE aE rfl (aa (aa av)) (by kernel_rfl) rfl ?_
 refine cA (js := [5, 10]) (by kernel_rfl) rfl ?_
 refine bi (i := 5) rfl rfl rfl (bm rfl dM) rfl ?_ ?_
 refine bb rfl dM (cI ((bT x.hm (aX y.e.host)).getD br).e _ _ _ _ (by have := hob.h; omega)) rfl ?_
 refine ah ?_
 refine bv aE ?_
 refine cA (js := [6, 10]) (by kernel_rfl) rfl ?_
 refine bi (i := 6) rfl rfl rfl (bm rfl ia) rfl ?_ ?_
 refine bp rfl ia rfl (iH _ _ _) (fun w hw => (aO (bJ 2 rfl hw) bd)) ?_
 refine ah ?_
 refine bv aE ?_
 refine a2 (i := 7) rfl aj (ap rfl) aE aE rfl (aa (aa av)) (by kernel_rfl) rfl ?_
 refine a2 (i := 8) rfl aj (aP rfl rfl) aE aE rfl (aa (aa av)) (by kernel_rfl) rfl ?_
 refine cA (js := [9, 10]) (by kernel_rfl) rfl ?_
 refine bi (i := 9) rfl rfl rfl (fun _ _ _ => aN (by kernel_rfl)) rfl ?_ ?_
 refine au (aP rfl rfl) rfl rfl ?_
 refine ah ?_
 refine bv aE ?_
 refine bk (i := 10) rfl rfl rfl (fun _ _ _ => aN (by kernel_rfl)) (by kernel_rfl) rfl ?_
 refine bj bu rfl rfl (fun b7 => ?_)
 refine ah ?_
 refine bv (fun w h => h.weak (.cons _ (List.Sublist.refl _)) (fun s hs => hs)) ?_
 refine bk (i := 11) rfl rfl rfl (fun _ _ _ => aN (by kernel_rfl)) (by kernel_rfl) rfl ?_
 refine a0 bu rfl rfl rfl .z rfl rfl rfl rfl ?_
 refine ah ?_
 refine a4 rfl ?_
 refine bk (i := 12) rfl rfl rfl (fun _ _ _ => aN (by kernel_rfl)) (by kernel_rfl) rfl ?_
 refine au (ao rfl) rfl rfl ?_
 refine ah ?_
 refine a4 rfl ?_
 refine bP (by kernel_rfl) ?_
 refine aq ?_
 refine bF (fun w h => h.weak (.cons_cons _ (List.Sublist.refl _)) (fun s hs => hs)) ?_
 exact J7 b7 _ (by repeat (first | exact trivial | refine ⟨rfl, ?_⟩))
 refine bi (i := 10) rfl rfl rfl (fun _ _ _ => aN (by kernel_rfl)) rfl ?_ ?_
 refine bj bu rfl rfl (fun b8 => ?_)
 refine ah ?_
 refine bv (fun w h => h.weak (.cons _ (List.Sublist.refl _)) (fun s hs => hs)) ?_
 refine cA (js := [9, 11]) (by kernel_rfl) rfl ?_
 refine bi (i := 9) rfl rfl rfl (fun _ _ _ => aN (by kernel_rfl)) rfl ?_ ?_
 refine au (aP rfl rfl) rfl rfl ?_
 refine ah ?_
 refine bv (fun w h => h.weak (.cons _ (List.Sublist.refl _)) (fun s hs => hs)) ?_
 refine bk (i := 11) rfl rfl rfl (fun _ _ _ => aN (by kernel_rfl)) (by kernel_rfl) rfl ?_
 refine a0 bu rfl rfl rfl .z rfl rfl rfl rfl ?_
 refine ah ?_
 refine a4 rfl ?_
 refine bk (i := 12) rfl rfl rfl (fun _ _ _ => aN (by kernel_rfl)) (by kernel_rfl) rfl ?_
 refine au (ao rfl) rfl rfl ?_
 refine ah ?_
 refine a4 rfl ?_
 refine bP (by kernel_rfl) ?_
 refine aq ?_
 refine bF (fun w h => h.weak (.cons_cons _ (List.Sublist.refl _)) (fun s hs => hs)) ?_
 exact J7 b8 _ (by repeat (first | exact trivial | refine ⟨rfl, ?_⟩))
 refine bi (i := 11) rfl rfl rfl (fun _ _ _ => aN (by kernel_rfl)) rfl ?_ ?_
 refine a0 bu rfl rfl rfl .z rfl rfl rfl rfl ?_
 refine ah ?_
 refine a4 rfl ?_
 refine bk (i := 9) rfl rfl rfl (fun _ _ _ => aN (by kernel_rfl)) (by kernel_rfl) rfl ?_
 refine au (aP rfl rfl) rfl rfl ?_
 refine ah ?_
 refine a4 rfl ?_
 refine bk (i := 12) rfl rfl rfl (fun _ _ _ => aN (by kernel_rfl)) (by kernel_rfl) rfl ?_
 refine au (ao rfl) rfl rfl ?_
 refine ah ?_
 refine a4 rfl ?_
 refine bP (by kernel_rfl) ?_
 refine aq ?_
 refine bF (fun w h => h.weak (.cons_cons _ (List.Sublist.refl _)) (fun s hs => hs)) ?_
 exact J7 b8 _ (by repeat (first | exact trivial | refine ⟨rfl, ?_⟩))
 exact ci
 exact ci
 refine bi (i := 10) rfl rfl rfl (fun _ _ _ => aN (by kernel_rfl)) rfl ?_ ?_
 refine bj bu rfl rfl (fun b9 => ?_)
 refine ah ?_
 refine bv (fun w h => h.weak (.cons _ (List.Sublist.refl _)) (fun s hs => hs)) ?_
 refine bk (i := 6) rfl rfl rfl (bm rfl ia) (by kernel_rfl) rfl ?_
 refine bp rfl ia rfl (iH _ _ _) (fun w hw => (aO (bJ 2 rfl hw) bd)) ?_
 refine ah ?_
 refine bv (fun w h => h.weak (.cons _ (List.Sublist.refl _)) (fun s hs => hs)) ?_
 refine a2 (i := 7) rfl aj (ap rfl) (fun w h => h.weak (.cons _ (List.Sublist.refl _)) (fun s hs => hs)) aE rfl (aa (aa av)) (by kernel_rfl) rfl ?_
 refine a2 (i := 8) rfl aj (aP rfl rfl) (fun w h => h.weak (.cons _ (List.Sublist.refl _)) (fun s hs => hs)) aE rfl (aa (aa av)) (by kernel_rfl) rfl ?_
 refine cA (js := [9, 11]) (by kernel_rfl) rfl ?_
 refine bi (i := 9) rfl rfl rfl (fun _ _ _ => aN (by kernel_rfl)) rfl ?_ ?_
 refine au (aP rfl rfl) rfl rfl ?_
 refine ah ?_
 refine bv (fun w h => h.weak (.cons _ (List.Sublist.refl _)) (fun s hs => hs)) ?_
 refine bk (i := 11) rfl rfl rfl (fun _ _ _ => aN (by kernel_rfl)) (by kernel_rfl) rfl ?_
 refine a0 bu rfl rfl rfl .z rfl rfl rfl rfl ?_
 refine ah ?_
 refine a4 rfl ?_
 refine bk (i := 12) rfl rfl rfl (fun _ _ _ => aN (by kernel_rfl)) (by kernel_rfl) rfl ?_
 refine au (ao rfl) rfl rfl ?_
 refine ah ?_
 refine a4 rfl ?_
 refine bP (by kernel_rfl) ?_
 refine aq ?_
 refine bF (fun w h => h.weak (.cons_cons _ (List.Sublist.refl _)) (fun s hs => hs)) ?_
 exact J7 b9 _ (by repeat (first | exact trivial | refine ⟨rfl, ?_⟩))
 refine bi (i := 11) rfl rfl rfl (fun _ _ _ => aN (by kernel_rfl)) rfl ?_ ?_
 refine a0 bu rfl rfl rfl .z rfl rfl rfl rfl ?_
 refine ah ?_
 refine a4 rfl ?_
 refine bk (i := 9) rfl rfl rfl (fun _ _ _ => aN (by kernel_rfl)) (by kernel_rfl) rfl ?_
 refine au (aP rfl rfl) rfl rfl ?_
 refine ah ?_
 refine a4 rfl ?_
 refine bk (i := 12) rfl rfl rfl (fun _ _ _ => aN (by kernel_rfl)) (by kernel_rfl) rfl ?_
 refine au (ao rfl) rfl rfl ?_
 refine ah ?_
 refine a4 rfl ?_
 refine bP (by kernel_rfl) ?_
 refine aq ?_
 refine bF (fun w h => h.weak (.cons_cons _ (List.Sublist.refl _)) (fun s hs => hs)) ?_
 exact J7 b9 _ (by repeat (first | exact trivial | refine ⟨rfl, ?_⟩))
 exact ci
 exact ci
 refine bi (i := 10) rfl rfl rfl (fun _ _ _ => aN (by kernel_rfl)) rfl ?_ ?_
 refine bj bu rfl rfl (fun b10 => ?_)
 refine ah ?_
 refine bv (fun w h => h.weak (.cons _ (List.Sublist.refl _)) (fun s hs => hs)) ?_
 refine bk (i := 5) rfl rfl rfl (bm rfl dM) (by kernel_rfl) rfl ?_
 refine bb rfl dM (cI ((bT x.hm (aX y.e.host)).getD br).e _ _ _ _ (by have := hob.h; omega)) rfl ?_
 refine ah ?_
 refine bv (fun w h => h.weak (.cons _ (List.Sublist.refl _)) (fun s hs => hs)) ?_
 refine bk (i := 6) rfl rfl rfl (bm rfl ia) (by kernel_rfl) rfl ?_
 refine bp rfl ia rfl (iH _ _ _) (fun w hw => (aO (bJ 2 rfl hw) bd)) ?_
 refine ah ?_
 refine bv (fun w h => h.weak (.cons _ (List.Sublist.refl _)) (fun s hs => hs)) ?_
 refine a2 (i := 7) rfl aj (ap rfl) (fun w h => h.weak (.cons _ (List.Sublist.refl _)) (fun s hs => hs)) aE rfl (aa (aa av)) (by kernel_rfl) rfl ?_
 refine a2 (i := 8) rfl aj (aP rfl rfl) (fun w h => h.weak (.cons _ (List.Sublist.refl _)) (fun s hs => hs)) aE rfl (aa (aa av)) (by kernel_rfl) rfl ?_
 refine cA (js := [9, 11]) (by kernel_rfl) rfl ?_
 refine bi (i := 9) rfl rfl rfl (fun _ _ _ => aN (by kernel_rfl)) rfl ?_ ?_
 refine au (aP rfl rfl) rfl rfl ?_
 refine ah ?_
 refine bv (fun w h => h.weak (.cons _ (List.Sublist.refl _)) (fun s hs => hs)) ?_
 refine bk (i := 11) rfl rfl rfl (fun _ _ _ => aN (by kernel_rfl)) (by kernel_rfl) rfl ?_
 refine a0 bu rfl rfl rfl .z rfl rfl rfl rfl ?_
 refine ah ?_
 refine a4 rfl ?_
 refine bk (i := 12) rfl rfl rfl (fun _ _ _ => aN (by kernel_rfl)) (by kernel_rfl) rfl ?_
 refine au (ao rfl) rfl rfl ?_
 refine ah ?_
 refine a4 rfl ?_
 refine bP (by kernel_rfl) ?_
 refine aq ?_
 refine bF (fun w h => h.weak (.cons_cons _ (List.Sublist.refl _)) (fun s hs => hs)) ?_
 exact J7 b10 _ (by repeat (first | exact trivial | refine ⟨rfl, ?_⟩))
 refine bi (i := 11) rfl rfl rfl (fun _ _ _ => aN (by kernel_rfl)) rfl ?_ ?_
 refine a0 bu rfl rfl rfl .z rfl rfl rfl rfl ?_
 refine ah ?_
 refine a4 rfl ?_
 refine bk (i := 9) rfl rfl rfl (fun _ _ _ => aN (by kernel_rfl)) (by kernel_rfl) rfl ?_
 refine au (aP rfl rfl) rfl rfl ?_
 refine ah ?_
 refine a4 rfl ?_
 refine bk (i := 12) rfl rfl rfl (fun _ _ _ => aN (by kernel_rfl)) (by kernel_rfl) rfl ?_
 refine au (ao rfl) rfl rfl ?_
 refine ah ?_
 refine a4 rfl ?_
 refine bP (by kernel_rfl) ?_
 refine aq ?_
 refine bF (fun w h => h.weak (.cons_cons _ (List.Sublist.refl _)) (fun s hs => hs)) ?_
 exact J7 b10 _ (by repeat (first | exact trivial | refine ⟨rfl, ?_⟩))
 exact ci
 exact ci
 refine au (bC rfl) rfl rfl ?_
 refine ah ?_
 refine aq ?_
 refine aA rfl ?_
 refine ar ?_
 refine ai ?_
 refine au (ao rfl) rfl rfl ?_
 refine ah ?_
 refine aq ?_
 refine aQ ?_
 refine ay ?_
 refine aV (ts := [4]) rfl rfl rfl (fun w hw => ?_)
 rw [adsI_none hn0 h4_0]
 exact ⟨(none, 0), rfl, hw.base, ((hw.weak (List.nil_sublist _) (fun s hs => hs)).nilsl 29 3).toNews⟩
 refine ar ?_
 refine dO 11 rfl cu ?_
 refine a2 (i := 0) rfl aj (ap rfl) aE aE rfl (aa av) (by kernel_rfl) rfl ?_
 refine a2 (i := 1) rfl aj (bh rfl) aE aE rfl (aa av) (by kernel_rfl) rfl ?_
 refine a2 (i := 2) rfl aj (aD eL rfl) aE aE rfl (aa av) (by kernel_rfl) rfl ?_
 refine a2 (i := 3) rfl aj (cN 0 gA rfl rfl rfl) aE aE rfl (aa av) (by kernel_rfl) rfl ?_
 refine a2 (i := 4) rfl aj (a6 0 aR rfl rfl rfl rfl) aE aE rfl (aa av) (by kernel_rfl) rfl ?_
 refine cA (js := [5, 10]) (by kernel_rfl) rfl ?_
 refine bi (i := 5) rfl rfl rfl (bm rfl dM) rfl ?_ ?_
 refine bb rfl dM (cI _ _ _ _ _ (by omega)) rfl ?_
 refine ah ?_
 refine bv aE ?_
 refine cA (js := [6, 10]) (by kernel_rfl) rfl ?_
 refine bi (i := 6) rfl rfl rfl (bm rfl eA) rfl ?_ ?_
 refine bp rfl eA rfl (fy _ _ _) (fun w hw => (aO (bJ 1 rfl hw) bd)) ?_
 refine ah ?_
 refine bv aE ?_
 refine a2 (i := 7) rfl aj (ap rfl) aE aE rfl (aa av) (by kernel_rfl) rfl ?_
 refine a2 (i := 8) rfl aj (aP rfl rfl) aE aE rfl (aa av) (by kernel_rfl) rfl ?_
 refine cA (js := [9, 10]) (by kernel_rfl) rfl ?_
 refine bi (i := 9) rfl rfl rfl (fun _ _ _ => aN (by kernel_rfl)) rfl ?_ ?_
 refine au (aP rfl rfl) rfl rfl ?_
 refine ah ?_
 refine bv aE ?_
 refine bk (i := 10) rfl rfl rfl (fun _ _ _ => aN (by kernel_rfl)) (by kernel_rfl) rfl ?_
 refine bj aR rfl rfl (fun b11 => ?_)
 refine ah ?_
 refine bv (fun w h => h.weak (.cons _ (List.Sublist.refl _)) (fun s hs => hs)) ?_
 refine bk (i := 11) rfl rfl rfl (fun _ _ _ => aN (by kernel_rfl)) (by kernel_rfl) rfl ?_
 refine a0 aR rfl rfl rfl .z rfl rfl rfl rfl ?_
 refine ah ?_
 refine a4 rfl ?_
 refine bk (i := 12) rfl rfl rfl (fun _ _ _ => aN (by kernel_rfl)) (by kernel_rfl) rfl ?_
 refine au (ao rfl) rfl rfl ?_
 refine ah ?_
 refine a4 rfl ?_
 refine bP (by kernel_rfl) ?_
 refine aq ?_
 refine bF (fun w h => h.weak (.cons_cons _ (List.Sublist.refl _)) (fun s hs => hs)) ?_
 exact J3 b11 _ (by repeat (first | exact trivial | refine ⟨rfl, ?_⟩))
 refine bi (i := 10) rfl rfl rfl (fun _ _ _ => aN (by kernel_rfl)) rfl ?_ ?_
 refine bj aR rfl rfl (fun b12 => ?_)
 refine ah ?_
 refine bv (fun w h => h.weak (.cons _ (List.Sublist.refl _)) (fun s hs => hs)) ?_
 refine cA (js := [9, 11]) (by kernel_rfl) rfl ?_
 refine bi (i := 9) rfl rfl rfl (fun _ _ _ => aN (by kernel_rfl)) rfl ?_ ?_
 refine au (aP rfl rfl) rfl rfl ?_
 refine ah ?_
 refine bv (fun w h => h.weak (.cons _ (List.Sublist.refl _)) (fun s hs => hs)) ?_
 refine bk (i := 11) rfl rfl rfl (fun _ _ _ => aN (by kernel_rfl)) (by kernel_rfl) rfl ?_
 refine a0 aR rfl rfl rfl .z rfl rfl rfl rfl ?_
 refine ah ?_
 refine a4 rfl ?_
 refine bk (i := 12) rfl rfl rfl (fun _ _ _ => aN (by kernel_rfl)) (by kernel_rfl) rfl ?_
 refine au (ao rfl) rfl rfl ?_
 refine ah ?_
 refine a4 rfl ?_
 refine bP (by kernel_rfl) ?_
 refine aq ?_
 refine bF (fun w h => h.weak (.cons_cons _ (List.Sublist.refl _)) (fun s hs => hs)) ?_
 exact J3 b12 _ (by repeat (first | exact trivial | refine ⟨rfl, ?_⟩))
 refine bi (i := 11) rfl rfl rfl (fun _ _ _ => aN (by kernel_rfl)) rfl ?_ ?_
 refine a0 aR rfl rfl rfl .z rfl rfl rfl rfl ?_
 refine ah ?_
 refine a4 rfl ?_
 refine bk (i := 9) rfl rfl rfl (fun _ _ _ => aN (by kernel_rfl)) (by kernel_rfl) rfl ?_
 refine au (aP rfl rfl) rfl rfl ?_
 refine ah ?_
 refine a4 rfl ?_
 refine bk (i := 12) rfl rfl rfl (fun _ _ _ => aN (by kernel_rfl)) (by kernel_rfl) rfl ?_
 refine au (ao rfl) rfl rfl ?_
 refine ah ?_
 refine a4 rfl ?_
 refine bP (by kernel_rfl) ?_
 refine aq ?_
 refine bF (fun w h => h.weak (.cons_cons _ (List.Sublist.refl _)) (fun s hs => hs)) ?_
 exact J3 b12 _ (by repeat (first | exact trivial | refine ⟨rfl, ?_⟩))
 exact ci
 exact ci
 refine bi (i := 10) rfl rfl rfl (fun _ _ _ => aN (by kernel_rfl)) rfl ?_ ?_
 refine bj aR rfl rfl (fun b13 => ?_)
 refine ah ?_
 refine bv (fun w h => h.weak (.cons _ (List.Sublist.refl _)) (fun s hs => hs)) ?_
 refine bk (i := 6) rfl rfl rfl (bm rfl eA) (by kernel_rfl) rfl ?_
 refine bp rfl eA rfl (fy _ _ _) (fun w hw => (aO (bJ 1 rfl hw) bd)) ?_
 refine ah ?_
 refine bv (fun w h => h.weak (.cons _ (List.Sublist.refl _)) (fun s hs => hs)) ?_
 refine a2 (i := 7) rfl aj (ap rfl) (fun w h => h.weak (.cons _ (List.Sublist.refl _)) (fun s hs => hs)) aE rfl (aa av) (by kernel_rfl) rfl ?_
 refine a2 (i := 8) rfl aj (aP rfl rfl) (fun w h => h.weak (.cons _ (List.Sublist.refl _)) (fun s hs => hs)) aE rfl (aa av) (by kernel_rfl) rfl ?_
 refine cA (js := [9, 11]) (by kernel_rfl) rfl ?_
 refine bi (i := 9) rfl rfl rfl (fun _ _ _ => aN (by kernel_rfl)) rfl ?_ ?_
 refine au (aP rfl rfl) rfl rfl ?_
 refine ah ?_
 refine bv (fun w h => h.weak (.cons _ (List.Sublist.refl _)) (fun s hs => hs)) ?_
 refine bk (i := 11) rfl rfl rfl (fun _ _ _ => aN (by kernel_rfl)) (by kernel_rfl) rfl ?_
 refine a0 aR rfl rfl rfl .z rfl rfl rfl rfl ?_
 refine ah ?_
 refine a4 rfl ?_
 refine bk (i := 12) rfl rfl rfl (fun _ _ _ => aN (by kernel_rfl)) (by kernel_rfl) rfl ?_
 refine au (ao rfl) rfl rfl ?_
 refine ah ?_
 refine a4 rfl ?_
 refine bP (by kernel_rfl) ?_
 refine aq ?_
 refine bF (fun w h => h.weak (.cons_cons _ (List.Sublist.refl _)) (fun s hs => hs)) ?_
 exact J3 b13 _ (by repeat (first | exact trivial | refine ⟨rfl, ?_⟩))
 refine bi (i := 11) rfl rfl rfl (fun _ _ _ => aN (by kernel_rfl)) rfl ?_ ?_
 refine a0 aR rfl rfl rfl .z rfl rfl rfl rfl ?_
 refine ah ?_
 refine a4 rfl ?_
 refine bk (i := 9) rfl rfl rfl (fun _ _ _ => aN (by kernel_rfl)) (by kernel_rfl) rfl ?_
 refine au (aP rfl rfl) rfl rfl ?_
 refine ah ?_
 refine a4 rfl ?_
 refine bk (i := 12) rfl rfl rfl (fun _ _ _ => aN (by kernel_rfl)) (by kernel_rfl) rfl ?_
 refine au (ao rfl) rfl rfl ?_
 refine ah ?_
 refine a4 rfl ?_
 refine bP (by kernel_rfl) ?_
 refine aq ?_
 refine bF (fun w h => h.weak (.cons_cons _ (List.Sublist.refl _)) (fun s hs => hs)) ?_
 exact J3 b13 _ (by repeat (first | exact trivial | refine ⟨rfl, ?_⟩))
 exact ci
 exact ci
 refine bi (i := 10) rfl rfl rfl (fun _ _ _ => aN (by kernel_rfl)) rfl ?_ ?_
 refine bj aR rfl rfl (fun b14 => ?_)
 refine ah ?_
 refine bv (fun w h => h.weak (.cons _ (List.Sublist.refl _)) (fun s hs => hs)) ?_
 refine bk (i := 5) rfl rfl rfl (bm rfl dM) (by kernel_rfl) rfl ?_
 refine bb rfl dM (cI _ _ _ _ _ (by omega)) rfl ?_
 refine ah ?_
 refine bv (fun w h => h.weak (.cons _ (List.Sublist.refl _)) (fun s hs => hs)) ?_
 refine bk (i := 6) rfl rfl rfl (bm rfl eA) (by kernel_rfl) rfl ?_
 refine bp rfl eA rfl (fy _ _ _) (fun w hw => (aO (bJ 1 rfl hw) bd)) ?_
 refine ah ?_
 refine bv (fun w h => h.weak (.cons _ (List.Sublist.refl _)) (fun s hs => hs)) ?_
 refine a2 (i := 7) rfl aj (ap rfl) (fun w h => h.weak (.cons _ (List.Sublist.refl _)) (fun s hs => hs)) aE rfl (aa av) (by kernel_rfl) rfl ?_
 refine a2 (i := 8) rfl aj (aP rfl rfl) (fun w h => h.weak (.cons _ (List.Sublist.refl _)) (fun s hs => hs)) aE rfl (aa av) (by kernel_rfl) rfl ?_
 refine cA (js := [9, 11]) (by kernel_rfl) rfl ?_
 refine bi (i := 9) rfl rfl rfl (fun _ _ _ => aN (by kernel_rfl)) rfl ?_ ?_
 refine au (aP rfl rfl) rfl rfl ?_
 refine ah ?_
 refine bv (fun w h => h.weak (.cons _ (List.Sublist.refl _)) (fun s hs => hs)) ?_
 refine bk (i := 11) rfl rfl rfl (fun _ _ _ => aN (by kernel_rfl)) (by kernel_rfl) rfl ?_
 refine a0 aR rfl rfl rfl .z rfl rfl rfl rfl ?_
 refine ah ?_
 refine a4 rfl ?_
 refine bk (i := 12) rfl rfl rfl (fun _ _ _ => aN (by kernel_rfl)) (by kernel_rfl) rfl ?_
 refine au (ao rfl) rfl rfl ?_
 refine ah ?_
 refine a4 rfl ?_
 refine bP (by kernel_rfl) ?_
 refine aq ?_
 refine bF (fun w h => h.weak (.cons_cons _ (List.Sublist.refl _)) (fun s hs => hs)) ?_
 exact J3 b14 _ (by repeat (first | exact trivial | refine ⟨rfl, ?_⟩))
 refine bi (i := 11) rfl rfl rfl (fun _ _ _ => aN (by kernel_rfl)) rfl ?_ ?_
 refine a0 aR rfl rfl rfl .z rfl rfl rfl rfl ?_
 refine ah ?_
 refine a4 rfl ?_
 refine bk (i := 9) rfl rfl rfl (fun _ _ _ => aN (by kernel_rfl)) (by kernel_rfl) rfl ?_
 refine au (aP rfl rfl) rfl rfl ?_
 refine ah ?_
 refine a4 rfl ?_
 refine bk (i := 12) rfl rfl rfl (fun _ _ _ => aN (by kernel_rfl)) (by kernel_rfl) rfl ?_
 refine au (ao rfl) rfl rfl ?_
 refine ah ?_
 refine a4 rfl ?_
 refine bP (by kernel_rfl) ?_
 refine aq ?_
 refine bF (fun w h => h.weak (.cons_cons _ (List.Sublist.refl _)) (fun s hs => hs)) ?_
 exact J3 b14 _ (by repeat (first | exact trivial | refine ⟨rfl, ?_⟩))
 exact ci
 exact ci

set_option maxRecDepth 100000 in
theorem c_Of (x : Ixd) (a : Ad) : RC Tryz.prog 19 #[.pointer (some ⟨x.b, 0, none⟩), .agg (dT a).toArray] [Ch.row x.b (ixC x) 122, Ch.mp x.ra eY fh x.am] (α := Unit) (fun _ => .tuple #[.agg (dB ((bT x.am a).getD br)).toArray, .bool (bT x.am a).isSome]) (fun _ => []) := by
 refine bx (args := [.pointer (some ⟨x.b, 0, none⟩), .agg (dT a).toArray]) 17 Tryz.func19 rfl rfl rfl (fun w0 => ?_)
 refine ar ?_
 refine ai ?_
 refine cv rfl rfl rfl (fun b1 => ?_)
 refine bj aR rfl rfl (fun b2 => ?_)
 refine au (ao rfl) rfl rfl ?_
 refine ah ?_
 refine aq ?_
 refine ar ?_
 refine ar ?_
 refine ai ?_
 refine au (ap rfl) rfl rfl ?_
 refine au (gr Tryz.underlying39 rfl rfl) rfl rfl ?_
 refine cU (t := 7) (.bool false) rfl (congrArg Value.bool rfl) ?_
 refine ah ?_
 refine aq ?_
 refine aC rfl ?_
 refine aS ?_
 refine aq ?_
 refine ar ?_
 refine dz 8 rfl cu ?_
 refine aF (i := 0) rfl aj (ap rfl) aE aE rfl (aa av) (by kernel_rfl) rfl ?_
 refine aF (i := 1) rfl aj (bh rfl) aE aE rfl (aa av) (by kernel_rfl) rfl ?_
 refine aF (i := 2) rfl aj (aD gJ rfl) aE aE rfl (aa av) (by kernel_rfl) rfl ?_
 refine aF (i := 3) rfl aj (cN 0 ty_120 rfl rfl rfl) aE aE rfl (aa av) (by kernel_rfl) rfl ?_
 refine aF (i := 4) rfl aj (a6 1 bu rfl rfl rfl rfl) aE aE rfl (aa av) (by kernel_rfl) rfl ?_
 refine cy (i := 5) rfl rfl rfl (bm rfl ent_84) (by kernel_rfl) rfl ?_
 refine bp rfl ent_84 rfl (c_ask_a _ _ _) (fun w hw => (aO (bJ 1 rfl hw) bd)) ?_
 refine ah ?_
 refine cW aE ?_
 refine aF (i := 6) rfl aj (aP rfl rfl) aE aE rfl (aa av) (by kernel_rfl) rfl ?_
 refine aF (i := 7) rfl aj (aP rfl rfl) aE aE rfl (aa av) (by kernel_rfl) rfl ?_
 refine cy (i := 8) rfl rfl rfl (fun _ _ _ => aN (by kernel_rfl)) (by kernel_rfl) rfl ?_
 refine a0 aR rfl rfl rfl .z rfl rfl rfl rfl ?_
 refine ah ?_
 refine eE rfl ?_
 refine cy (i := 9) rfl rfl rfl (fun _ _ _ => aN (by kernel_rfl)) (by kernel_rfl) rfl ?_
 refine au (ao rfl) rfl rfl ?_
 refine ah ?_
 refine eE rfl ?_
 refine cp (by kernel_rfl) ?_
 refine aq ?_
 refine aQ ?_
 refine ed (rs := [.cell 4 34, .tmp 5]) rfl (cF 0 aR rfl rfl rfl rfl (dR rfl dp)) rfl (fun w hw => ?_)
 exact ⟨(), rfl, hw.base, (hw.weak (List.nil_sublist _) (fun s hs => hs)).toNews⟩

theorem c_Len (x : Ixd) : RC Tryz.prog 68 #[.pointer (some ⟨x.b, 0, none⟩)] [Ch.row x.b (ixC x) 122] (α := Unit) (fun _ => .int .i64 x.l.length) (fun _ => []) := by
 refine bx (args := [.pointer (some ⟨x.b, 0, none⟩)]) 10 Tryz.func68 rfl rfl rfl (fun w0 => ?_)
 refine ar ?_
 refine ai ?_
 refine au (ao rfl) rfl rfl ?_
 refine ah ?_
 refine aq ?_
 refine ar ?_
 refine ar ?_
 refine ai ?_
 refine au (ap rfl) rfl rfl ?_
 refine au (gr Tryz.underlying39 rfl rfl) rfl rfl ?_
 refine cU (t := 4) (.bool false) rfl (congrArg Value.bool rfl) ?_
 refine ah ?_
 refine aq ?_
 refine aC rfl ?_
 refine aS ?_
 refine aq ?_
 refine ar ?_
 refine ai ?_
 refine au (ap rfl) rfl rfl ?_
 refine au (bh rfl) rfl rfl ?_
 refine au (aD dZ rfl) rfl rfl ?_
 refine au (cN 0 bZ rfl rfl rfl) rfl rfl ?_
 refine au (bg Tryz.underlying22 rfl) rfl rfl ?_
 refine au (ao rfl) rfl rfl ?_
 refine ah ?_
 refine aq ?_
 refine aQ ?_
 refine aV (ts := [2]) rfl rfl rfl (fun w hw => ?_)
 exact ⟨(), rfl, hw.base, (hw.weak (List.nil_sublist _) (fun s hs => hs)).toNews⟩

def g5 (l : List Hd) (m : Int) : Bool := decide (∀ x ∈ l, x.host.length ≤ 300) && decide ((l.length : Int) ≤ m)
theorem lightHs_bad {l : List Hd} {m : Int} {k : Nat} (hk : k < l.length) (h : ¬ (l.getD k dG).host.length ≤ 300) : g5 l m = false := by
  rw [g5, decide_eq_false (fun q => h (q _ (bA (d := dG) hk))), Bool.false_and]
theorem lightHs_ok {l : List Hd} {m : Int} (h : ∀ i, i < l.length → (l.getD i dG).host.length ≤ 300) : g5 l m = decide ((l.length : Int) ≤ m) := by
  rw [g5, decide_eq_true, Bool.true_and]
  intro s hs
  obtain ⟨i, hi, rfl⟩ := List.mem_iff_getElem.1 hs
  have := h i hi
  rwa [List.getD_eq_getElem?_getD, List.getElem?_eq_getElem hi] at this
theorem lightHs_le {l : List Hd} {m : Int} (h : g5 l m = true) : (∀ x ∈ l, x.host.length ≤ 300) ∧ (l.length : Int) ≤ m := by
  simpa [g5] using h

theorem c_LightHeld (l : List Hd) (A : Option Addr) (c : Nat) (m : Int) (hl : l.length ≤ 9223372036854775807) : RC Tryz.prog 11 #[.slice A l.length c, .int .i64 m] [Ch.rd A 4 hdC l] (α := Unit) (fun _ => .bool (g5 l m)) (fun _ => []) := by
 refine bx (args := [.slice A l.length c, .int .i64 m]) 23 Tryz.func11 rfl rfl rfl (fun w0 => ?_)
 refine ar ?_
 refine ai ?_
 refine au (ao rfl) rfl rfl ?_
 refine ah ?_
 refine aq ?_
 refine ar ?_
 refine ar ?_
 refine ai ?_
 refine au (ao rfl) rfl rfl ?_
 refine ah ?_
 refine aq ?_
 refine aW ?_
 refine bV (σ := Nat) [4, 5, 6, 7, 8, 9, 10, 11, 12, 13, 14, 15, 16, 17, 18] (fun k => k ≤ l.length ∧ ∀ i, i < k → (l.getD i dG).host.length ≤ 300) (fun k => l.length - k) (fun k => [(5, .int .i64 k)]) (0) ?_ ⟨rfl, trivial⟩ (fun k hI => ?_)
 exact ⟨Nat.zero_le _, nofun⟩
 refine ar ?_
 refine ar ?_
 refine ai ?_
 refine au (ap rfl) rfl rfl ?_
 refine au (ap rfl) rfl rfl ?_
 refine au (bg Tryz.underlying25 rfl) rfl rfl ?_
 refine au (bI rfl rfl) rfl rfl ?_
 refine aB (t := 9) rfl (fun h2_3 => ?_) (fun h2_3 => ?_)
 refine ah ?_
 refine aq ?_
 refine aA rfl ?_
 refine aS ?_
 refine aq ?_
 refine ar ?_
 refine aW ?_
 refine ar ?_
 refine ai ?_
 refine au (ap rfl) rfl rfl ?_
 refine au (ap rfl) rfl rfl ?_
 refine au (bz  Tryz.underlying25 e7 rfl rfl (bE 0 rfl) rfl (by omega)) rfl rfl ?_
 refine au (aD fC rfl) rfl rfl ?_
 refine au (cf eU dG bN rfl (bE 0 rfl) (by omega) rfl rfl) rfl rfl ?_
 refine au (cL Tryz.underlying26 rfl) rfl rfl ?_
 refine au (c9 rfl rfl) rfl rfl ?_
 refine aB (t := 18) rfl (fun h4_6 => ?_) (fun h4_6 => ?_)
 refine ah ?_
 refine aq ?_
 refine aA rfl ?_
 refine ar ?_
 refine ai ?_
 refine au (ao rfl) rfl rfl ?_
 refine ah ?_
 refine aq ?_
 refine aQ ?_
 refine aK ?_
 refine ay ?_
 refine a9 ?_
 refine aK ?_
 refine ay ?_
 refine aV (ts := [4]) rfl rfl rfl (fun w hw => ?_)
 exact ⟨(), by rw [lightHs_bad (k := k) (by omega) (by omega)]; rfl, hw.base, (hw.weak (List.nil_sublist _) (fun s hs => hs)).toNews⟩
 refine ah ?_
 refine aq ?_
 refine aC rfl ?_
 refine aS ?_
 refine bo ?_
 refine aq ?_
 refine ai ?_
 refine au (ap rfl) rfl rfl ?_
 refine au (bl rfl rfl (by omega) (by omega)) rfl rfl ?_
 refine au (ao rfl) rfl rfl ?_
 refine ah ?_
 refine bq (k + 1) ?_ ?_ ⟨rfl, trivial⟩ (by repeat (first | exact trivial | refine ⟨rfl, ?_⟩)) aE
 exact ⟨by omega, eH hI.2 (by omega)⟩
 omega
 refine ah ?_
 refine aq ?_
 refine aC rfl ?_
 refine bw ?_
 refine aY ?_
 refine aZ ?_
 refine a7 ?_
 refine aq ?_
 refine ar ?_
 refine ai ?_
 refine au (ap rfl) rfl rfl ?_
 refine au (bg Tryz.underlying25 rfl) rfl rfl ?_
 refine au (ap rfl) rfl rfl ?_
 refine au (fp rfl rfl) rfl rfl ?_
 refine au (ao rfl) rfl rfl ?_
 refine ah ?_
 refine aq ?_
 refine aQ ?_
 refine aV (ts := [4]) rfl rfl rfl (fun w hw => ?_)
 exact ⟨(), by rw [lightHs_ok (fun i hi => hI.2 i (by omega))]; rfl, hw.base, (hw.weak (List.nil_sublist _) (fun s hs => hs)).toNews⟩
end Go.Proofs.YtnpdgmoeoidppaaGreat
