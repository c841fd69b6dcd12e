import Derived.Test.YtnpdgmoeoidppaaGreatJkQa
/- the index, said plainly: found, lost; tables in memory of their own -/
namespace Go.Proofs.YtnpdgmoeoidppaaGreat
open Go.RowKit Go.Shelf
set_option linter.unusedVariables false
set_option linter.unusedSimpArgs false

theorem ent_22 : Enters Tryz.prog 22 := enters_of Tryz.func22 (by kernel_rfl) rfl
theorem ent_25 : Enters Tryz.prog 25 := enters_of Tryz.func25 (by kernel_rfl) rfl
theorem ent_64 : Enters Tryz.prog 64 := enters_of Tryz.func64 (by kernel_rfl) rfl
theorem ent_78 : Enters Tryz.prog 78 := enters_of Tryz.func78 (by kernel_rfl) rfl

theorem c_ref18_FindH (v : Int) (l : List Le) (A : Option Addr) (c : Nat) (b : Nat) (H : Option Addr) (h : Nat) (kh : Nat) (n : bf) (hok : TbOk l) (hlen : l.length ≤ 1000000000) (hn : n.length ≤ 1000000000) : RC Tryz.prog 18 #[.pointer (some ⟨b, 0, none⟩), .string (ba n)] [Ch.row b [.int .i64 v, .slice A l.length c, .slice H kh h] 131, Ch.rd A 7 dB l, Ch.rall (l.flatMap e6)] (α := {r : Option Le // iT l n r}) (fun o => .tuple #[.agg (dB (o.1.getD br)).toArray, .bool o.1.isSome]) (fun o => []) := by
 refine bx (args := [.pointer (some ⟨b, 0, none⟩), .string (ba n)]) 65 Tryz.func18 rfl rfl rfl (fun w0 => ?_)
 refine ar ?_
 refine ai ?_
 refine bj aR rfl rfl (fun b1 => ?_)
 refine au (ao rfl) rfl rfl ?_
 refine ah ?_
 refine aq ?_
 refine ar ?_
 refine ai ?_
 refine au (ao rfl) rfl rfl ?_
 refine au (ao rfl) rfl rfl ?_
 refine ah ?_
 refine aq ?_
 refine ar ?_
 refine ar ?_
 refine ai ?_
 refine au (ao rfl) rfl rfl ?_
 refine ah ?_
 refine aq ?_
 refine aW ?_
 refine bV (σ := Nat × Option Nat × Nat) [5, 6, 7, 8, 9, 10, 11, 12, 13, 14, 15, 16, 17, 18, 19, 20, 21, 22, 23, 24, 25, 26, 27, 28, 29, 30, 31, 32, 33, 34, 35, 36, 37, 38, 39, 40, 41, 42, 43, 44, 45, 46, 47, 48, 49, 50, 51, 52, 53] (fun q => q.1 ≤ l.length ∧ iy l n q.1 q.2.1 q.2.2) (fun q => l.length - q.1) (fun q => [(8, .int .i64 q.1), (6, .int .i64 (ez q.2.1)), (7, .int .i64 q.2.2)]) ((0, none, 0)) ?_ ⟨rfl, rfl, rfl, trivial⟩ (fun q hI => ?_)
 exact ⟨Nat.zero_le _, best_zero l n⟩
 obtain ⟨i, b0, long⟩ := q
 dsimp only at hI ⊢
 refine ar ?_
 refine ar ?_
 refine ai ?_
 refine au (ap rfl) rfl rfl ?_
 refine au (ap rfl) rfl rfl ?_
 refine au (bh rfl) rfl rfl ?_
 refine au (aD eK rfl) rfl rfl ?_
 refine au (aD cw rfl) rfl rfl ?_
 refine au (cN 0 bZ rfl rfl rfl) rfl rfl ?_
 refine au (bg Tryz.underlying22 rfl) rfl rfl ?_
 refine au (bI rfl rfl) rfl rfl ?_
 refine aB (t := 17) rfl (fun h3_7 => ?_) (fun h3_7 => ?_)
 have hi9 : i < l.length := by omega
 have hb9 := hok.at hi9
 have hh9 := hb9.h
 have hll := (fe (l.getD i br).e.host (by omega)).1
 refine ah ?_
 refine aq ?_
 refine aA rfl ?_
 refine aS ?_
 refine aq ?_
 refine ar ?_
 refine aW ?_
 refine ar ?_
 refine ai ?_
 refine au (ap rfl) rfl rfl ?_
 refine au (bh rfl) rfl rfl ?_
 refine au (aD eK rfl) rfl rfl ?_
 refine au (aD cw rfl) rfl rfl ?_
 refine au (cN 0 bZ rfl rfl rfl) rfl rfl ?_
 refine au (ap rfl) rfl rfl ?_
 refine au (bz  Tryz.underlying22 aR rfl rfl (bE 1 rfl) rfl (by omega)) rfl rfl ?_
 refine au (aD cQ rfl) rfl rfl ?_
 refine au (cf cj br bN rfl (bE 1 rfl) (by omega) rfl rfl) rfl rfl ?_
 refine au (ao rfl) rfl rfl ?_
 refine ah ?_
 refine aq ?_
 refine ar ?_
 refine ar ?_
 refine ai ?_
 refine au (ap rfl) rfl rfl ?_
 refine au (ap rfl) rfl rfl ?_
 refine bb rfl ent_46 (fU _ _ (by omega) (by omega)) rfl ?_
 refine bD (t := 31) rfl (fun h6_2 => ?_) (fun h6_2 => ?_)
 refine ah ?_
 refine aq ?_
 refine aA rfl ?_
 refine ar ?_
 refine ai ?_
 refine au (ap rfl) rfl rfl ?_
 refine au (bh rfl) rfl rfl ?_
 refine au (aD eK rfl) rfl rfl ?_
 refine au (aD cw rfl) rfl rfl ?_
 refine au (cN 0 bZ rfl rfl rfl) rfl rfl ?_
 refine au (ap rfl) rfl rfl ?_
 refine au (bz  Tryz.underlying22 aR rfl rfl (bE 1 rfl) rfl (by omega)) rfl rfl ?_
 refine au (bW cj br aR rfl (bE 1 rfl) (by omega) rfl rfl rfl) rfl rfl ?_
 refine a0 aR rfl rfl rfl .z rfl rfl rfl rfl ?_
 refine au (ao rfl) rfl rfl ?_
 refine ah ?_
 refine aq ?_
 refine aQ ?_
 refine ay ?_
 refine aK ?_
 refine ay ?_
 refine a9 ?_
 refine aK ?_
 refine ay ?_
 refine ed (rs := [.cell 4 34, .tmp 5]) rfl (cF 0 aR rfl rfl rfl rfl (dR rfl dp)) rfl (fun w hw => ?_)
 exact ⟨⟨some (l.getD i br), bA (by omega), .inl h6_2⟩, rfl, hw.base, (hw.weak (List.nil_sublist _) (fun s hs => hs)).toNews⟩
 refine ah ?_
 refine aq ?_
 refine aC rfl ?_
 refine aS ?_
 refine aq ?_
 refine ar ?_
 refine ai ?_
 refine au (ap rfl) rfl rfl ?_
 refine au (ap rfl) rfl rfl ?_
 refine bb rfl ent_82 (p_ref02_Matches _ _ (by omega) (by omega)) rfl ?_
 refine bD (t := 42) rfl (fun h8_2 => ?_) (fun h8_2 => ?_)
 refine au (ap rfl) rfl rfl ?_
 refine az rfl rfl ?_
 refine au (ap rfl) rfl rfl ?_
 refine az rfl rfl ?_
 refine bM rfl gW rfl (db _) (fun w hw => bd) (fun ⟨A1, c1⟩ => ?_)
 refine az rfl rfl ?_
 refine au (bg Tryz.underlying135 rfl) rfl rfl ?_
 refine az rfl rfl ?_
 refine au (ap rfl) rfl rfl ?_
 refine az rfl rfl ?_
 refine au (c9 rfl rfl) rfl rfl ?_
 refine aB (t := 48) rfl (fun h8_8 => ?_) (fun h8_8 => ?_)
 refine au (aG rfl rfl) rfl rfl ?_
 refine ah ?_
 refine aq ?_
 refine aA rfl ?_
 refine ai ?_
 refine au (ap rfl) rfl rfl ?_
 refine au (ap rfl) rfl rfl ?_
 refine bM rfl gW rfl (db _) (fun w hw => bd) (fun ⟨A2, c2⟩ => ?_)
 refine au (bg Tryz.underlying135 rfl) rfl rfl ?_
 refine au (ao rfl) rfl rfl ?_
 refine au (ao rfl) rfl rfl ?_
 refine ah ?_
 refine bo ?_
 refine aq ?_
 refine ai ?_
 refine au (ap rfl) rfl rfl ?_
 refine au (bl rfl rfl (by omega) (by omega)) rfl rfl ?_
 refine au (ao rfl) rfl rfl ?_
 refine ah ?_
 refine bq ((i + 1, some i, (a5 (gm l i)).length)) ?_ ?_ ⟨rfl, rfl, rfl, trivial⟩ (by repeat (first | exact trivial | refine ⟨rfl, ?_⟩)) (fun w h => h.weak (.cons _ (.cons _ (List.Sublist.refl _))) (fun s hs => hs))
 exact ⟨by show i + 1 ≤ _; omega, best_yes hI.2 h6_2 h8_2 (by show long < (a5 (l.getD i br).e.host).length; omega)⟩
 show l.length - (i + 1) < l.length - i
 omega
 refine au (aG rfl rfl) rfl rfl ?_
 refine ah ?_
 refine aq ?_
 refine aC rfl ?_
 refine aS ?_
 refine bo ?_
 refine aq ?_
 refine ai ?_
 refine au (ap rfl) rfl rfl ?_
 refine au (bl rfl rfl (by omega) (by omega)) rfl rfl ?_
 refine au (ao rfl) rfl rfl ?_
 refine ah ?_
 refine bq ((i + 1, b0, long)) ?_ ?_ ⟨rfl, rfl, rfl, trivial⟩ (by repeat (first | exact trivial | refine ⟨rfl, ?_⟩)) (fun w h => h.weak (.cons _ (List.Sublist.refl _)) (fun s hs => hs))
 exact ⟨by show i + 1 ≤ _; omega, best_no hI.2 h6_2 (by first | exact .inl h8_2 | exact .inr (by show ¬ long < (a5 (l.getD i br).e.host).length; omega))⟩
 show l.length - (i + 1) < l.length - i
 omega
 refine au (ap rfl) rfl rfl ?_
 refine ax rfl rfl rfl rfl ?_
 refine ax rfl rfl rfl rfl ?_
 refine ax rfl rfl rfl rfl ?_
 refine ax rfl rfl rfl rfl ?_
 refine ax rfl rfl rfl rfl ?_
 refine au (aI rfl rfl) rfl rfl ?_
 refine ah ?_
 refine aq ?_
 refine aC rfl ?_
 refine aS ?_
 refine bo ?_
 refine aq ?_
 refine ai ?_
 refine au (ap rfl) rfl rfl ?_
 refine au (bl rfl rfl (by omega) (by omega)) rfl rfl ?_
 refine au (ao rfl) rfl rfl ?_
 refine ah ?_
 refine bq ((i + 1, b0, long)) ?_ ?_ ⟨rfl, rfl, rfl, trivial⟩ (by repeat (first | exact trivial | refine ⟨rfl, ?_⟩)) aE
 exact ⟨by show i + 1 ≤ _; omega, best_no hI.2 h6_2 (by first | exact .inl h8_2 | exact .inr (by show ¬ long < (a5 (l.getD i br).e.host).length; omega))⟩
 show l.length - (i + 1) < l.length - i
 omega
 refine ah ?_
 refine aq ?_
 refine aC rfl ?_
 refine bw ?_
 refine aY ?_
 refine aZ ?_
 refine a7 ?_
 refine aq ?_
 refine ar ?_
 refine ar ?_
 obtain rfl : i = l.length := by omega
 refine ai ?_
 refine au (ap rfl) rfl rfl ?_
 refine au (bI rfl rfl) rfl rfl ?_
 refine aB (t := 55) rfl (fun h10_1 => ?_) (fun h10_1 => ?_)
 refine ah ?_
 refine aq ?_
 refine aA rfl ?_
 refine ar ?_
 refine ai ?_
 refine au (dW rfl (bu_34)) rfl rfl ?_
 refine a0 aR rfl rfl rfl .z rfl rfl rfl rfl ?_
 refine au (ao rfl) rfl rfl ?_
 refine ah ?_
 refine aq ?_
 refine aQ ?_
 refine ay ?_
 refine ed (rs := [.cell 4 34, .tmp 5]) rfl (cF 0 aR rfl rfl rfl rfl (dR rfl dp)) rfl (fun w hw => ?_)
 exact ⟨⟨none, spec_none hI.2 h10_1⟩, rfl, hw.base, (hw.weak (List.nil_sublist _) (fun s hs => hs)).toNews⟩
 refine ah ?_
 refine aq ?_
 refine aC rfl ?_
 refine aS ?_
 refine aq ?_
 refine ar ?_
 refine ai ?_
 refine au (ap rfl) rfl rfl ?_
 refine au (bh rfl) rfl rfl ?_
 refine au (aD eK rfl) rfl rfl ?_
 refine au (aD cw rfl) rfl rfl ?_
 refine au (cN 0 bZ rfl rfl rfl) rfl rfl ?_
 refine au (ap rfl) rfl rfl ?_
 refine au (bz (k := (ez b0).toNat) Tryz.underlying22 aR rfl rfl (bE 1 rfl) (by omega) (spec_best hI.2 h10_1).1) rfl rfl ?_
 refine au (bW cj br aR rfl (bE 1 rfl) (spec_best hI.2 h10_1).1 rfl rfl rfl) rfl rfl ?_
 refine a0 aR rfl rfl rfl .z rfl rfl rfl rfl ?_
 refine au (ao rfl) rfl rfl ?_
 refine ah ?_
 refine aq ?_
 refine aQ ?_
 refine ed (rs := [.cell 4 34, .tmp 5]) rfl (cF 0 aR rfl rfl rfl rfl (dR rfl dp)) rfl (fun w hw => ?_)
 exact ⟨⟨some (l.getD (ez b0).toNat br), (spec_best hI.2 h10_1).2⟩, rfl, hw.base, (hw.weak (List.nil_sublist _) (fun s hs => hs)).toNews⟩

/-- The hosts of auto entries. -/
def auF (l : List Le) : List Le := l.filter fun y => decide (y.e.kind = 2)
def i6 (l : List Le) : List bf := (auF l).map (·.e.host)
theorem au_step {l : List Le} {i : Nat} (hi : i < l.length) : i6 (l.take (i + 1)) = i6 (l.take i) ++ if (l.getD i br).e.kind = 2 then [(l.getD i br).e.host] else [] := by
  rw [i6, i6, auF, auF, bK l br i hi, List.filter_append, List.map_append, List.filter_cons]
  by_cases h : (l.getD i br).e.kind = 2
  · rw [decide_eq_true h, if_pos rfl, if_pos h]; rfl
  · rw [decide_eq_false h, if_neg (by decide), if_neg h]; rfl
theorem au_len (l : List Le) : (i6 l).length ≤ l.length := by rw [i6, List.length_map]; exact List.length_filter_le _ _
theorem au_take (l : List Le) (i : Nat) : (i6 (l.take i)).length ≤ l.length := Nat.le_trans (au_len _) (by rw [List.length_take]; omega)
def f7 (hs : List Hd) (l : List Le) : List bf := (l.filter fun y => !(eC hs (aX y.e.host)).isSome).map (·.e.host)
theorem lostAt_step {hs : List Hd} {l : List Le} {i : Nat} (hi : i < l.length) : f7 hs (l.take (i + 1)) = f7 hs (l.take i) ++ if (eC hs (aX (l.getD i br).e.host)).isSome = true then [] else [(l.getD i br).e.host] := by
  rw [f7, f7, bK l br i hi, List.filter_append, List.map_append, List.filter_cons]
  cases (eC hs (aX (l.getD i br).e.host)).isSome <;> rfl
theorem lostAt_len (hs : List Hd) (l : List Le) (i : Nat) : (f7 hs (l.take i)).length ≤ l.length := by
  rw [f7, List.length_map]
  refine Nat.le_trans (List.length_filter_le _ _) ?_
  rw [List.length_take]; omega
theorem lostAt_all (hs : List Hd) (l : List Le) : f7 hs (auF l) = lostE (l.map (·.e)) hs := by
  rw [f7, lostE, auF, List.filter_filter, List.filter_map, List.map_map]
  have : (fun y : Le => !(eC hs (aX y.e.host)).isSome && decide (y.e.kind = 2)) = (lostQ hs ∘ fun y : Le => y.e) := funext fun y => by
    show _ = lostQ hs y.e
    rw [lostQ, Bool.and_comm]
  rw [this]; rfl
theorem au_get {l : List Le} {i : Nat} (hi : i < (i6 l).length) : i < (auF l).length ∧ (i6 l).getD i [] = ((auF l).getD i br).e.host ∧ (auF l).getD i br ∈ l ∧ ((auF l).getD i br).e.kind = 2 := by
  have h1 : i < (auF l).length := by rw [i6, List.length_map] at hi; exact hi
  have h2 := bA (d := br) h1
  obtain ⟨h3, h4⟩ := List.mem_filter.1 h2
  refine ⟨h1, ?_, h3, of_decide_eq_true h4⟩
  rw [i6, List.getD_eq_getElem?_getD, List.getElem?_map, List.getElem?_eq_getElem h1, List.getD_eq_getElem?_getD, List.getElem?_eq_getElem h1]; rfl
theorem ads_zero {v : Int} {l : List Le} {hs : List Hd} (h0 : bO v l = 0) (H : bU (l.map (·.e)) hs) {y : Le} (hy : y ∈ l) (hk : y.e.kind = 2) {r : Option Le} (hr : FE l y.e.host r) : ((adsE (l.map (·.e)) hs (r.getD br).e.host).length : Int) = 0 ↔ (eC hs (aX y.e.host)).isSome = false := by
  have hho := f5 h0
  have hye : y.e ∈ l.map (·.e) := List.mem_map.2 ⟨y, hy, rfl⟩
  have hck := hho.ck _ hye
  have hl : ij (l.map (·.e)) y.e.host = some y.e := by rw [ij, if_neg (fun q => q hck)]; exact iR hho hye
  have h1 := hr.e
  rw [hl] at h1
  have h2 : (r.getD br).e = y.e := by
    cases r with
    | none => cases h1
    | some z => exact Option.some.inj h1
  have h9 : adsE (l.map (·.e)) hs y.e.host = di y.e ((eC hs (aX y.e.host)).map (·.ad)).toList := by rw [adsE, hl]
  rw [h2, h9, di, if_neg (fun q => q ((iz h0).1 y hy)), if_neg (by omega), if_neg (by omega)]
  cases hh : eC hs (aX y.e.host) with
  | none => exact ⟨fun _ => rfl, fun _ => rfl⟩
  | some p =>
    have hp : p ∈ hs := List.mem_of_find?_eq_some hh
    have ha := (held_at H hp).1.2.2
    show (((List.filter _ [p.ad]).length : Nat) : Int) = 0 ↔ _
    rw [List.filter_cons, decide_eq_true ha]
    constructor
    · intro q; simp at q
    · intro q; cases q

theorem c_ref17_Autos (v : Int) (l : List Le) (A : Option Addr) (c : Nat) (hok : TbOk l) (hlen : l.length ≤ 1000000000) : RC Tryz.prog 64 #[.agg (iM v A l.length c).toArray] [Ch.rd A 7 dB l, Ch.rall (l.flatMap e6)] (α := Option Addr × Nat) (fun p => .slice p.1 (i6 l).length p.2) (fun p => [Ch.ls p.1 p.2 26 1 d9 (i6 l)]) := by
 refine bx (args := [.agg (iM v A l.length c).toArray]) 29 Tryz.func64 rfl rfl rfl (fun w0 => ?_)
 refine ar ?_
 refine ai ?_
 refine cv rfl rfl rfl (fun b1 => ?_)
 refine au (ao rfl) rfl rfl ?_
 refine ah ?_
 refine aq ?_
 refine ar ?_
 refine ai ?_
 refine au (ao rfl) rfl rfl ?_
 refine ah ?_
 refine aq ?_
 refine ar ?_
 refine ar ?_
 refine ai ?_
 refine au (ao rfl) rfl rfl ?_
 refine ah ?_
 refine aq ?_
 refine aW ?_
 refine bF (fun w h => h.nilsl 26 1) ?_
 refine cP (σ := Nat × List bf × Option Addr × Nat) [3, 4, 5, 6, 7, 8, 9, 10, 11, 12, 13, 14, 15, 16, 17, 18, 19, 20, 21, 22, 23, 24, 25, 26, 27] (fun q => q.1 ≤ l.length ∧ q.2.1 = i6 (l.take q.1)) (fun q => l.length - q.1) (fun q => [(4, .int .i64 q.1), (3, .slice q.2.2.1 q.2.1.length q.2.2.2)]) (fun q => Ch.ls q.2.2.1 q.2.2.2 26 1 d9 q.2.1) ((0, [], none, 0)) ?_ ⟨rfl, rfl, trivial⟩ rfl (fun q hI => ?_)
 exact ⟨Nat.zero_le _, rfl⟩
 obtain ⟨i, acc, Aq, cq⟩ := q
 dsimp only at hI ⊢
 refine ar ?_
 refine ar ?_
 refine ai ?_
 refine au (ap rfl) rfl rfl ?_
 refine au (aD cw rfl) rfl rfl ?_
 refine au (aM 1 bZ rfl rfl rfl) rfl rfl ?_
 refine au (bg Tryz.underlying22 rfl) rfl rfl ?_
 refine au (bI rfl rfl) rfl rfl ?_
 refine aB (t := 9) rfl (fun h3_4 => ?_) (fun h3_4 => ?_)
 have hi : i < l.length := by omega
 have hal := au_take l i
 rw [← hI.2] at hal
 refine ah ?_
 refine aq ?_
 refine aA rfl ?_
 refine aS ?_
 refine aq ?_
 refine ar ?_
 refine aW ?_
 refine ar ?_
 refine ai ?_
 refine au (aD cw rfl) rfl rfl ?_
 refine au (aM 1 bZ rfl rfl rfl) rfl rfl ?_
 refine au (ap rfl) rfl rfl ?_
 refine au (bz  Tryz.underlying22 aR rfl rfl (bE 0 rfl) rfl (by omega)) rfl rfl ?_
 refine au (aD ea rfl) rfl rfl ?_
 refine au (y_ldm 1 cj br de rfl (bE 0 rfl) (by omega) rfl rfl) rfl rfl ?_
 refine au (dk rfl rfl) rfl rfl ?_
 refine aB (t := 18) rfl (fun h5_6 => ?_) (fun h5_6 => ?_)
 refine ah ?_
 refine aq ?_
 refine aA rfl ?_
 refine ai ?_
 refine au (ap rfl) rfl rfl ?_
 refine au (aD cw rfl) rfl rfl ?_
 refine au (aM 1 bZ rfl rfl rfl) rfl rfl ?_
 refine au (ap rfl) rfl rfl ?_
 refine au (bz  Tryz.underlying22 aR rfl rfl (bE 0 rfl) rfl (by omega)) rfl rfl ?_
 refine au (aD cQ rfl) rfl rfl ?_
 refine au (cf cj br bN rfl (bE 0 rfl) (by omega) rfl rfl) rfl rfl ?_
 refine cD (vs := [_]) ([(l.getD i br).e.host] : List (bf)) ct Tryz.underlying59 bN rfl rfl rfl rfl rfl rfl (fun As2 => ?_)
 refine cC (enc := d9) (sz := 1) [(l.getD i br).e.host] Tryz.underlying59 bN rfl rfl rfl (fun A c => (.s (.z))) (d5 0 Tryz.underlying59 rfl) (by simp only [List.length_cons, List.length_nil, Nat.zero_add]; omega) (by simp only [List.length_cons, List.length_nil, Nat.zero_add]; omega) rfl (fun A2 c2 => ?_)
 refine au (ao rfl) rfl rfl ?_
 refine ah ?_
 refine bo ?_
 refine aq ?_
 refine ai ?_
 refine au (ap rfl) rfl rfl ?_
 refine au (bl rfl rfl (by omega) (by omega)) rfl rfl ?_
 refine au (ao rfl) rfl rfl ?_
 refine ah ?_
 refine bq ((i + 1, acc ++ [(l.getD i br).e.host], A2, c2)) ?_ ?_ ⟨rfl, rfl, trivial⟩ (by repeat (first | exact trivial | refine ⟨rfl, ?_⟩)) (fun w h => h.weak (.cons _ (List.Sublist.refl _)) (fun s hs => hs))
 exact ⟨by show i + 1 ≤ _; omega, by show _ = i6 (l.take (i + 1)); rw [au_step hi, if_pos h5_6, ← hI.2]⟩
 show l.length - (i + 1) < l.length - i
 omega
 refine ah ?_
 refine aq ?_
 refine aC rfl ?_
 refine aS ?_
 refine bo ?_
 refine aq ?_
 refine ai ?_
 refine au (ap rfl) rfl rfl ?_
 refine au (bl rfl rfl (by omega) (by omega)) rfl rfl ?_
 refine au (ao rfl) rfl rfl ?_
 refine ah ?_
 refine bq ((i + 1, acc, Aq, cq)) ?_ ?_ ⟨rfl, rfl, trivial⟩ (by repeat (first | exact trivial | refine ⟨rfl, ?_⟩)) aE
 exact ⟨by show i + 1 ≤ _; omega, by show _ = i6 (l.take (i + 1)); rw [au_step hi, if_neg h5_6, ← hI.2]; exact (List.append_nil _).symm⟩
 show l.length - (i + 1) < l.length - i
 omega
 refine ah ?_
 refine aq ?_
 refine aC rfl ?_
 refine bw ?_
 refine aY ?_
 refine aZ ?_
 refine a7 ?_
 refine aq ?_
 refine ar ?_
 refine ai ?_
 refine au (ap rfl) rfl rfl ?_
 refine au (ao rfl) rfl rfl ?_
 refine ah ?_
 refine aq ?_
 refine aQ ?_
 refine aV (ts := [2]) rfl rfl rfl (fun w hw => ?_)
 have hE : acc = i6 l := by rw [hI.2, List.take_of_length_le (by omega)]
 subst hE
 exact ⟨(Aq, cq), rfl, hw.base, (hw.weak (.cons_cons _ (.cons _ .slnil)) (fun s hs => hs)).toNews⟩

theorem es_getD {l k : List Le} (h1 : l.length = k.length) (h : ∀ q, q < l.length → (l.getD q br).e = (k.getD q br).e) : l.map (·.e) = k.map (·.e) := by
  apply List.ext_getElem
  · simpa using h1
  · intro i hi hj
    have hi2 : i < l.length := by simpa using hi
    have := h i hi2
    rw [List.getD_eq_getElem?_getD, List.getD_eq_getElem?_getD, List.getElem?_eq_getElem hi2, List.getElem?_eq_getElem (by omega)] at this
    rw [List.getElem_map, List.getElem_map]; exact this

set_option maxRecDepth 100000 in
theorem c_ref17_Same (v : Int) (l : List Le) (A : Option Addr) (c : Nat) (v2 : Int) (l2 : List Le) (A2 : Option Addr) (c2 : Nat) (hok : TbOk l) (hlen : l.length ≤ 1000000000) (hlen2 : l2.length ≤ 1000000000) : RC Tryz.prog 29 #[.agg (iM v A l.length c).toArray, .agg (iM v2 A2 l2.length c2).toArray] [Ch.rd A 7 dB l, Ch.rall (l.flatMap e6), Ch.rd A2 7 dB l2, Ch.rall (l2.flatMap e6)] (α := Unit) (fun _ => .bool (decide (v = v2 ∧ l.map (·.e) = l2.map (·.e)))) (fun _ => []) := by
 refine bx (args := [.agg (iM v A l.length c).toArray, .agg (iM v2 A2 l2.length c2).toArray]) 39 Tryz.func29 rfl rfl rfl (fun w0 => ?_)
 refine ar ?_
 refine ai ?_
 refine cv rfl rfl rfl (fun b1 => ?_)
 refine cv rfl rfl rfl (fun b2 => ?_)
 refine au (ao rfl) rfl rfl ?_
 refine ah ?_
 refine aq ?_
 refine ar ?_
 refine ar ?_
 refine ai ?_
 refine au (aD eQ rfl) rfl rfl ?_
 refine au (aM 1 de rfl rfl rfl) rfl rfl ?_
 refine au (aD eQ rfl) rfl rfl ?_
 refine au (aM 0 de rfl rfl rfl) rfl rfl ?_
 refine au (bX rfl rfl) rfl rfl ?_
 refine aB (t := 10) rfl (fun h1_4 => ?_) (fun h1_4 => ?_)
 refine au (ap rfl) rfl rfl ?_
 refine ax rfl rfl rfl rfl ?_
 refine ax rfl rfl rfl rfl ?_
 refine ax rfl rfl rfl rfl ?_
 refine ax rfl rfl rfl rfl ?_
 refine ax rfl rfl rfl rfl ?_
 refine ax rfl rfl rfl rfl ?_
 refine ax rfl rfl rfl rfl ?_
 refine au (aG rfl rfl) rfl rfl ?_
 refine ah ?_
 refine aq ?_
 refine aA rfl ?_
 refine ar ?_
 refine ai ?_
 refine au (ao rfl) rfl rfl ?_
 refine ah ?_
 refine aq ?_
 refine aQ ?_
 refine ay ?_
 refine aV (ts := [4]) rfl rfl rfl (fun w hw => ?_)
 refine ⟨(), ?_, hw.base, (hw.weak (List.nil_sublist _) (fun s hs => hs)).toNews⟩
 show Ending.returned (.bool _) = _
 congr 2
 focus first
   | (rw [decide_eq_false (fun h => h1_4 h.1)]
      done)
   | (have hlx : ¬ l.length = l2.length := by omega
      rw [decide_eq_false (fun h => hlx (by have h9 := congrArg List.length h.2; rw [List.length_map, List.length_map] at h9; exact h9))]
      done)
   | (have hne : ¬ (l.getD k br).e = (l2.getD k br).e := by simpa using h6_10
      rw [decide_eq_false (fun h => hne (iO h.2 k))]
      done)
   | (have hq : l.map (·.e) = l2.map (·.e) := es_getD (by omega) (fun q hq => hI.2 q (by omega))
      rw [decide_eq_true ⟨by omega, hq⟩]
      done)
   | (trace_state; fail)
 refine au (ap rfl) rfl rfl ?_
 refine az rfl rfl ?_
 refine au (aD cw rfl) rfl rfl ?_
 refine az rfl rfl ?_
 refine au (aM 1 bZ rfl rfl rfl) rfl rfl ?_
 refine az rfl rfl ?_
 refine au (bg Tryz.underlying22 rfl) rfl rfl ?_
 refine az rfl rfl ?_
 refine au (aD cw rfl) rfl rfl ?_
 refine az rfl rfl ?_
 refine au (aM 0 bZ rfl rfl rfl) rfl rfl ?_
 refine az rfl rfl ?_
 refine au (bg Tryz.underlying22 rfl) rfl rfl ?_
 refine az rfl rfl ?_
 refine au (bX rfl rfl) rfl rfl ?_
 refine aB (t := 18) rfl (fun h1_12 => ?_) (fun h1_12 => ?_)
 refine au (aI rfl rfl) rfl rfl ?_
 refine ah ?_
 refine aq ?_
 refine aA rfl ?_
 refine ar ?_
 refine ai ?_
 refine au (ao rfl) rfl rfl ?_
 refine ah ?_
 refine aq ?_
 refine aQ ?_
 refine ay ?_
 refine aV (ts := [4]) rfl rfl rfl (fun w hw => ?_)
 refine ⟨(), ?_, hw.base, (hw.weak (List.nil_sublist _) (fun s hs => hs)).toNews⟩
 show Ending.returned (.bool _) = _
 congr 2
 focus first
   | (rw [decide_eq_false (fun h => h1_4 h.1)]
      done)
   | (have hlx : ¬ l.length = l2.length := by omega
      rw [decide_eq_false (fun h => hlx (by have h9 := congrArg List.length h.2; rw [List.length_map, List.length_map] at h9; exact h9))]
      done)
   | (have hne : ¬ (l.getD k br).e = (l2.getD k br).e := by simpa using h6_10
      rw [decide_eq_false (fun h => hne (iO h.2 k))]
      done)
   | (have hq : l.map (·.e) = l2.map (·.e) := es_getD (by omega) (fun q hq => hI.2 q (by omega))
      rw [decide_eq_true ⟨by omega, hq⟩]
      done)
   | (trace_state; fail)
 refine au (aI rfl rfl) rfl rfl ?_
 refine ah ?_
 refine aq ?_
 refine aC rfl ?_
 refine aS ?_
 refine aq ?_
 refine ar ?_
 refine ar ?_
 refine ai ?_
 refine au (ao rfl) rfl rfl ?_
 refine ah ?_
 refine aq ?_
 refine aW ?_
 refine bV (σ := Nat) [4, 5, 20, 21, 22, 23, 24, 25, 26, 27, 28, 29, 30, 31, 32, 33, 34, 35, 36, 37, 38] (fun k => k ≤ l.length ∧ ∀ q, q < k → (l.getD q br).e = (l2.getD q br).e) (fun k => l.length - k) (fun k => [(5, .int .i64 k)]) (0) ?_ ⟨rfl, trivial⟩ (fun k hI => ?_)
 exact ⟨Nat.zero_le _, nofun⟩
 refine ar ?_
 refine ar ?_
 refine ai ?_
 refine au (ap rfl) rfl rfl ?_
 refine au (aD cw rfl) rfl rfl ?_
 refine au (aM 1 bZ rfl rfl rfl) rfl rfl ?_
 refine au (bg Tryz.underlying22 rfl) rfl rfl ?_
 refine au (bI rfl rfl) rfl rfl ?_
 refine aB (t := 24) rfl (fun h4_4 => ?_) (fun h4_4 => ?_)
 have hk : k < l.length := by omega
 have hb9 := hok.at hk
 refine ah ?_
 refine aq ?_
 refine aA rfl ?_
 refine aS ?_
 refine aq ?_
 refine ar ?_
 refine aW ?_
 refine ar ?_
 refine dz 12 rfl cu ?_
 refine aF (i := 0) rfl aj (aD cw rfl) aE aE rfl (aa (ae (aa (ak (ae (aa av)))))) (by kernel_rfl) rfl ?_
 refine aF (i := 1) rfl aj (aM 1 bZ rfl rfl rfl) aE aE rfl (aa (ae (aa (ak (ae (aa av)))))) (by kernel_rfl) rfl ?_
 refine aF (i := 2) rfl aj (ap rfl) aE aE rfl (aa (ae (aa (ak (ae (aa av)))))) (by kernel_rfl) rfl ?_
 refine aF (i := 3) rfl aj (bz  Tryz.underlying22 aR rfl rfl (bE 0 rfl) rfl (by omega)) aE aE rfl (aa (ae (aa (ak (ae (aa av)))))) (by kernel_rfl) rfl ?_
 refine aF (i := 4) rfl aj (bW cj br aR rfl (bE 0 rfl) (by omega) rfl rfl rfl) aE aE rfl (aa (ae (aa (ak (ae (aa av)))))) (by kernel_rfl) rfl ?_
 refine aF (i := 5) rfl aj (aD cw rfl) aE aE rfl (aa (ae (aa (ak (ae (aa av)))))) (by kernel_rfl) rfl ?_
 refine aF (i := 6) rfl aj (aM 0 bZ rfl rfl rfl) aE aE rfl (aa (ae (aa (ak (ae (aa av)))))) (by kernel_rfl) rfl ?_
 refine aF (i := 7) rfl aj (ap rfl) aE aE rfl (aa (ae (aa (ak (ae (aa av)))))) (by kernel_rfl) rfl ?_
 refine aF (i := 8) rfl aj (bz  Tryz.underlying22 aR rfl rfl (bE 2 rfl) rfl (by omega)) aE aE rfl (aa (ae (aa (ak (ae (aa av)))))) (by kernel_rfl) rfl ?_
 refine aF (i := 9) rfl aj (bW cj br aR rfl (bE 2 rfl) (by omega) rfl rfl rfl) aE aE rfl (aa (ae (aa (ak (ae (aa av)))))) (by kernel_rfl) rfl ?_
 refine cy (i := 10) rfl rfl rfl (bm rfl ent_22) (by kernel_rfl) rfl ?_
 refine bp rfl ent_22 rfl (hZ (l.getD k br).e (l.getD k br).A (l.getD k br).B (l.getD k br).c (l.getD k br).d (l2.getD k br).e (l2.getD k br).A (l2.getD k br).B (l2.getD k br).c (l2.getD k br).d (by have := hb9.la; omega) (by have := hb9.lp; omega)) (fun w hw => (aO (bG (bJ 1 rfl hw) (bL (bA (by omega : _ < l.length)) _ (gD _))) (aO (bG (bJ 1 rfl hw) (bL (bA (by omega : _ < l.length)) _ (jA _))) (aO (bG (bJ 3 rfl hw) (bL (bA (by omega : _ < l2.length)) _ (gD _))) (aO (bG (bJ 3 rfl hw) (bL (bA (by omega : _ < l2.length)) _ (jA _))) bd))))) ?_
 refine ah ?_
 refine cW aE ?_
 refine wa_splitb (t := 37) rfl (fun h6_10 => ?_) (fun h6_10 => ?_)
 refine aF (i := 11) rfl aj (bC rfl) aE aE rfl (aa (ae (aa (ak (ae (aa av)))))) (by kernel_rfl) rfl ?_
 refine cp (by kernel_rfl) ?_
 refine aq ?_
 refine aC rfl ?_
 refine aS ?_
 refine bo ?_
 refine aq ?_
 refine ai ?_
 refine au (ap rfl) rfl rfl ?_
 refine au (bl rfl rfl (by omega) (by omega)) rfl rfl ?_
 refine au (ao rfl) rfl rfl ?_
 refine ah ?_
 refine bq (k + 1) ?_ ?_ ⟨rfl, trivial⟩ (by repeat (first | exact trivial | refine ⟨rfl, ?_⟩)) aE
 refine ⟨by omega, fun q hq => ?_⟩
 by_cases e : q = k
 · rw [e]; simpa using h6_10
 · exact hI.2 q (by omega)
 omega
 refine aF (i := 11) rfl aj (bC rfl) aE aE rfl (aa (ae (aa (ak (ae (aa av)))))) (by kernel_rfl) rfl ?_
 refine cp (by kernel_rfl) ?_
 refine aq ?_
 refine aA rfl ?_
 refine ar ?_
 refine ai ?_
 refine au (ao rfl) rfl rfl ?_
 refine ah ?_
 refine aq ?_
 refine aQ ?_
 refine aK ?_
 refine ay ?_
 refine a9 ?_
 refine aK ?_
 refine ay ?_
 refine aV (ts := [4]) rfl rfl rfl (fun w hw => ?_)
 refine ⟨(), ?_, hw.base, (hw.weak (List.nil_sublist _) (fun s hs => hs)).toNews⟩
 show Ending.returned (.bool _) = _
 congr 2
 focus first
   | (rw [decide_eq_false (fun h => h1_4 h.1)]
      done)
   | (have hlx : ¬ l.length = l2.length := by omega
      rw [decide_eq_false (fun h => hlx (by have h9 := congrArg List.length h.2; rw [List.length_map, List.length_map] at h9; exact h9))]
      done)
   | (have hne : ¬ (l.getD k br).e = (l2.getD k br).e := by simpa using h6_10
      rw [decide_eq_false (fun h => hne (iO h.2 k))]
      done)
   | (have hq : l.map (·.e) = l2.map (·.e) := es_getD (by omega) (fun q hq => hI.2 q (by omega))
      rw [decide_eq_true ⟨by omega, hq⟩]
      done)
   | (trace_state; fail)
 refine ah ?_
 refine aq ?_
 refine aC rfl ?_
 refine bw ?_
 refine aY ?_
 refine aZ ?_
 refine a7 ?_
 refine aq ?_
 refine ar ?_
 refine ai ?_
 refine au (ao rfl) rfl rfl ?_
 refine ah ?_
 refine aq ?_
 refine aQ ?_
 refine aV (ts := [4]) rfl rfl rfl (fun w hw => ?_)
 refine ⟨(), ?_, hw.base, (hw.weak (List.nil_sublist _) (fun s hs => hs)).toNews⟩
 show Ending.returned (.bool _) = _
 congr 2
 focus first
   | (rw [decide_eq_false (fun h => h1_4 h.1)]
      done)
   | (have hlx : ¬ l.length = l2.length := by omega
      rw [decide_eq_false (fun h => hlx (by have h9 := congrArg List.length h.2; rw [List.length_map, List.length_map] at h9; exact h9))]
      done)
   | (have hne : ¬ (l.getD k br).e = (l2.getD k br).e := by simpa using h6_10
      rw [decide_eq_false (fun h => hne (iO h.2 k))]
      done)
   | (have hq : l.map (·.e) = l2.map (·.e) := es_getD (by omega) (fun q hq => hI.2 q (by omega))
      rw [decide_eq_true ⟨by omega, hq⟩]
      done)
   | (trace_state; fail)

set_option maxRecDepth 100000 in
set_option maxHeartbeats 1000000 in
theorem c_ref18_Lost (v : Int) (l : List Le) (A : Option Addr) (c : Nat) (b : Nat) (Q : Option Addr) (hs : List Hd) (qc : Nat) (hok : TbOk l) (hlen : l.length ≤ 1000000000) (h0 : bO v l = 0) (H : bU (l.map (·.e)) hs) (hhl : hs.length ≤ 1000000) (hhh : ∀ h ∈ hs, h.host.length ≤ 1000 ∧ 0 ≤ h.ad.lo) : RC Tryz.prog 28 #[.pointer (some ⟨b, 0, none⟩)] [Ch.row b (rfC v A l.length c Q hs.length qc) 131, Ch.rd A 7 dB l, Ch.rall (l.flatMap e6), Ch.rd Q 4 hdC hs] (α := Option Addr × Nat) (fun p => .slice p.1 (lostE (l.map (·.e)) hs).length p.2) (fun p => [Ch.ls p.1 p.2 26 1 d9 (lostE (l.map (·.e)) hs)]) := by
 refine bx (args := [.pointer (some ⟨b, 0, none⟩)]) 44 Tryz.func28 rfl rfl rfl (fun w0 => ?_)
 refine ar ?_
 refine ai ?_
 refine au (ao rfl) rfl rfl ?_
 refine ah ?_
 refine aq ?_
 refine ar ?_
 refine ai ?_
 refine au (ao rfl) rfl rfl ?_
 refine ah ?_
 refine aq ?_
 refine ar ?_
 refine ai ?_
 refine au (ap rfl) rfl rfl ?_
 refine au (bh rfl) rfl rfl ?_
 refine au (aD eK rfl) rfl rfl ?_
 refine au (iQ 0 dh rfl rfl rfl rfl) rfl rfl ?_
 refine bM rfl ent_64 rfl (c_ref17_Autos v l _ _ hok (by omega)) (fun w hw => (aO (bJ 1 rfl hw) (aO (bJ 2 rfl hw) bd))) (fun ⟨Aa, ca⟩ => ?_)
 refine au (ao rfl) rfl rfl ?_
 refine ah ?_
 refine aq ?_
 refine ar ?_
 refine ar ?_
 refine ai ?_
 refine au (ao rfl) rfl rfl ?_
 refine ah ?_
 refine aq ?_
 refine aW ?_
 refine bF (fun w h => h.nilsl 26 1) ?_
 refine cP (σ := Nat × List bf × Option Addr × Nat) [3, 5, 6, 7, 13, 14, 15, 16, 17, 18, 19, 20, 21, 22, 23, 24, 25, 26, 27, 28, 29, 30, 31, 32, 33, 34, 35, 36, 37, 38, 39, 40, 41, 42] (fun q => q.1 ≤ (i6 l).length ∧ q.2.1 = f7 hs ((auF l).take q.1)) (fun q => (i6 l).length - q.1) (fun q => [(5, .int .i64 q.1), (3, .slice q.2.2.1 q.2.1.length q.2.2.2)]) (fun q => Ch.ls q.2.2.1 q.2.2.2 26 1 d9 q.2.1) ((0, [], none, 0)) ?_ ⟨rfl, rfl, trivial⟩ rfl (fun q hI => ?_)
 exact ⟨Nat.zero_le _, rfl⟩
 obtain ⟨i, acc, Aq, cq⟩ := q
 dsimp only at hI ⊢
 refine ar ?_
 refine ar ?_
 refine ai ?_
 refine au (ap rfl) rfl rfl ?_
 refine au (ap rfl) rfl rfl ?_
 refine au (bg Tryz.underlying59 rfl) rfl rfl ?_
 refine au (bI rfl rfl) rfl rfl ?_
 refine aB (t := 16) rfl (fun h4_3 => ?_) (fun h4_3 => ?_)
 have hi : i < (i6 l).length := by omega
 have hau := au_get hi
 have hhb := (hok.mem' hau.2.2.1).h
 rw [← hau.2.1] at hhb
 have hll := lostAt_len hs (auF l) i
 rw [← hI.2] at hll
 have hal := au_len l
 have hal2 : (auF l).length = (i6 l).length := (List.length_map _).symm
 refine ah ?_
 refine aq ?_
 refine aA rfl ?_
 refine aS ?_
 refine aq ?_
 refine ar ?_
 refine aW ?_
 refine g3 (σ := {r : Option Le // FE l ((i6 l).getD i []) r} × Nat) (fun g => [(6, .pointer (some ⟨g.2, 0, none⟩)), (7, .bool g.1.1.isSome)]) (fun g => [Ch.row g.2 (dB (g.1.1.getD br)) 34]) (fun g => ?_) (fun J6 => ?_)
 refine ar ?_
 obtain ⟨⟨rb, hrb⟩, qb⟩ := g
 have hrb9 : FE l ((auF l).getD i br).e.host rb := by rw [← hau.2.1]; exact hrb
 have hrl := (fe_bnd hok hrb.mem).h
 refine ai ?_
 refine au (ap rfl) rfl rfl ?_
 refine au (a6 0 aR rfl rfl rfl rfl) rfl rfl ?_
 refine bM rfl ent_25 rfl (i0 v l A c b Q hs qc (rb.getD br) hrl hok hlen h0 H hhl hhh) (fun w hw => (aO (bJ 0 rfl hw) (aO (bJ 1 rfl hw) (aO (bJ 2 rfl hw) (aO (bJ 3 rfl hw) bd))))) (fun ⟨A1, c1⟩ => ?_)
 refine au (bg Tryz.underlying30 rfl) rfl rfl ?_
 refine au (dk rfl rfl) rfl rfl ?_
 refine aB (t := 35) rfl (fun h7_4 => ?_) (fun h7_4 => ?_)
 refine ah ?_
 refine aq ?_
 refine aA rfl ?_
 refine ai ?_
 refine au (ap rfl) rfl rfl ?_
 refine au (ap rfl) rfl rfl ?_
 refine au (ap rfl) rfl rfl ?_
 refine au (bz  Tryz.underlying59 bN rfl rfl (dg 3 rfl) rfl (by omega)) rfl rfl ?_
 refine au (cf ct ([] : bf) bN rfl (dg 3 rfl) (by omega) rfl rfl) rfl rfl ?_
 refine cD (vs := [_]) ([((i6 l).getD i [])] : List (bf)) ct Tryz.underlying59 bN rfl rfl rfl rfl rfl rfl (fun As3 => ?_)
 refine cC (enc := d9) (sz := 1) [((i6 l).getD i [])] Tryz.underlying59 bN rfl rfl rfl (fun A c => (.s (.s (.s (.z))))) (d5 0 Tryz.underlying59 rfl) (by simp only [List.length_cons, List.length_nil, Nat.zero_add]; omega) (by simp only [List.length_cons, List.length_nil, Nat.zero_add]; omega) rfl (fun A3 c3 => ?_)
 refine au (ao rfl) rfl rfl ?_
 refine ah ?_
 refine bo ?_
 refine aq ?_
 refine ai ?_
 refine au (ap rfl) rfl rfl ?_
 refine au (bl rfl rfl (by omega) (by omega)) rfl rfl ?_
 refine au (ao rfl) rfl rfl ?_
 refine ah ?_
 have hzz := (ads_zero h0 H hau.2.2.1 hau.2.2.2 hrb9).1 h7_4
 refine bq ((i + 1, acc ++ [((i6 l).getD i [])], A3, c3)) ?_ ?_ ⟨rfl, rfl, trivial⟩ (by repeat (first | exact trivial | refine ⟨rfl, ?_⟩)) (fun w h => h.weak (.cons _ (.cons _ (.cons _ (List.Sublist.refl _)))) (fun s hs => hs))
 exact ⟨by show i + 1 ≤ _; omega, by show _ = f7 hs ((auF l).take (i + 1)); rw [lostAt_step hau.1, hzz, if_neg (by decide), ← hI.2, hau.2.1]⟩
 show (i6 l).length - (i + 1) < (i6 l).length - i
 omega
 refine ah ?_
 refine aq ?_
 refine aC rfl ?_
 refine aS ?_
 refine bo ?_
 refine aq ?_
 refine ai ?_
 refine au (ap rfl) rfl rfl ?_
 refine au (bl rfl rfl (by omega) (by omega)) rfl rfl ?_
 refine au (ao rfl) rfl rfl ?_
 refine ah ?_
 have hzz : (eC hs (aX ((auF l).getD i br).e.host)).isSome = true := by
   cases hq : (eC hs (aX ((auF l).getD i br).e.host)).isSome with
   | true => rfl
   | false => exact absurd ((ads_zero h0 H hau.2.2.1 hau.2.2.2 hrb9).2 hq) h7_4
 refine bq ((i + 1, acc, Aq, cq)) ?_ ?_ ⟨rfl, rfl, trivial⟩ (by repeat (first | exact trivial | refine ⟨rfl, ?_⟩)) (fun w h => h.weak (.cons _ (.cons _ (List.Sublist.refl _))) (fun s hs => hs))
 exact ⟨by show i + 1 ≤ _; omega, by show _ = f7 hs ((auF l).take (i + 1)); rw [lostAt_step hau.1, if_pos hzz, ← hI.2]; exact (List.append_nil _).symm⟩
 show (i6 l).length - (i + 1) < (i6 l).length - i
 omega
 refine ar ?_
 refine dO 13 rfl cu ?_
 refine a2 (i := 0) rfl aj (ap rfl) aE aE rfl (aa (ae (aa (ak (ae (aa av)))))) (by kernel_rfl) rfl ?_
 refine a2 (i := 1) rfl aj (bh rfl) aE aE rfl (aa (ae (aa (ak (ae (aa av)))))) (by kernel_rfl) rfl ?_
 refine a2 (i := 2) rfl aj (aD eK rfl) aE aE rfl (aa (ae (aa (ak (ae (aa av)))))) (by kernel_rfl) rfl ?_
 refine a2 (i := 3) rfl aj (iQ 0 dh rfl rfl rfl rfl) aE aE rfl (aa (ae (aa (ak (ae (aa av)))))) (by kernel_rfl) rfl ?_
 refine a2 (i := 4) rfl aj (ap rfl) aE aE rfl (aa (ae (aa (ak (ae (aa av)))))) (by kernel_rfl) rfl ?_
 refine a2 (i := 5) rfl aj (ap rfl) aE aE rfl (aa (ae (aa (ak (ae (aa av)))))) (by kernel_rfl) rfl ?_
 refine a2 (i := 6) rfl aj (bz  Tryz.underlying59 bN rfl rfl (dg 1 rfl) rfl (by omega)) aE aE rfl (aa (ae (aa (ak (ae (aa av)))))) (by kernel_rfl) rfl ?_
 refine a2 (i := 7) rfl aj (cf ct ([] : bf) bN rfl (dg 1 rfl) (by omega) rfl rfl) aE aE rfl (aa (ae (aa (ak (ae (aa av)))))) (by kernel_rfl) rfl ?_
 refine cA (js := [8, 12]) (by kernel_rfl) rfl ?_
 refine bi (i := 8) rfl rfl rfl (bm rfl fc) rfl ?_ ?_
 refine eM rfl fc rfl (dV v l _ _ ((i6 l).getD i []) hok (by omega) (by omega) h0) (fun w hw => (aO (bJ 1 rfl hw) (aO (bJ 2 rfl hw) bd))) (fun ⟨rb, hrb⟩ => ?_)
 refine ah ?_
 refine bv aE ?_
 refine a2 (i := 9) rfl aj (ap rfl) aE aE rfl (aa (ae (aa (ak (ae (aa av)))))) (by kernel_rfl) rfl ?_
 refine a2 (i := 10) rfl aj (aP rfl rfl) aE aE rfl (aa (ae (aa (ak (ae (aa av)))))) (by kernel_rfl) rfl ?_
 refine cA (js := [11, 12]) (by kernel_rfl) rfl ?_
 refine bi (i := 11) rfl rfl rfl (fun _ _ _ => aN (by kernel_rfl)) rfl ?_ ?_
 refine au (aP rfl rfl) rfl rfl ?_
 refine ah ?_
 refine bv aE ?_
 refine bk (i := 12) rfl rfl rfl (fun _ _ _ => aN (by kernel_rfl)) (by kernel_rfl) rfl ?_
 refine bj aR rfl rfl (fun b6 => ?_)
 refine ah ?_
 refine bv (fun w h => h.weak (.cons _ (List.Sublist.refl _)) (fun s hs => hs)) ?_
 refine bk (i := 13) rfl rfl rfl (fun _ _ _ => aN (by kernel_rfl)) (by kernel_rfl) rfl ?_
 refine a0 aR rfl rfl rfl .z rfl rfl rfl rfl ?_
 refine ah ?_
 refine a4 rfl ?_
 refine bk (i := 14) rfl rfl rfl (fun _ _ _ => aN (by kernel_rfl)) (by kernel_rfl) rfl ?_
 refine au (ao rfl) rfl rfl ?_
 refine ah ?_
 refine a4 rfl ?_
 refine bP (by kernel_rfl) ?_
 refine aq ?_
 refine bF (fun w h => h.weak (.cons_cons _ (List.Sublist.refl _)) (fun s hs => hs)) ?_
 exact J6 (⟨rb, hrb⟩, b6) _ (by repeat (first | exact trivial | refine ⟨rfl, ?_⟩))
 refine bi (i := 12) rfl rfl rfl (fun _ _ _ => aN (by kernel_rfl)) rfl ?_ ?_
 refine bj aR rfl rfl (fun b7 => ?_)
 refine ah ?_
 refine bv (fun w h => h.weak (.cons _ (List.Sublist.refl _)) (fun s hs => hs)) ?_
 refine cA (js := [11, 13]) (by kernel_rfl) rfl ?_
 refine bi (i := 11) rfl rfl rfl (fun _ _ _ => aN (by kernel_rfl)) rfl ?_ ?_
 refine au (aP rfl rfl) rfl rfl ?_
 refine ah ?_
 refine bv (fun w h => h.weak (.cons _ (List.Sublist.refl _)) (fun s hs => hs)) ?_
 refine bk (i := 13) rfl rfl rfl (fun _ _ _ => aN (by kernel_rfl)) (by kernel_rfl) rfl ?_
 refine a0 aR rfl rfl rfl .z rfl rfl rfl rfl ?_
 refine ah ?_
 refine a4 rfl ?_
 refine bk (i := 14) rfl rfl rfl (fun _ _ _ => aN (by kernel_rfl)) (by kernel_rfl) rfl ?_
 refine au (ao rfl) rfl rfl ?_
 refine ah ?_
 refine a4 rfl ?_
 refine bP (by kernel_rfl) ?_
 refine aq ?_
 refine bF (fun w h => h.weak (.cons_cons _ (List.Sublist.refl _)) (fun s hs => hs)) ?_
 exact J6 (⟨rb, hrb⟩, b7) _ (by repeat (first | exact trivial | refine ⟨rfl, ?_⟩))
 refine bi (i := 13) rfl rfl rfl (fun _ _ _ => aN (by kernel_rfl)) rfl ?_ ?_
 refine a0 aR rfl rfl rfl .z rfl rfl rfl rfl ?_
 refine ah ?_
 refine a4 rfl ?_
 refine bk (i := 11) rfl rfl rfl (fun _ _ _ => aN (by kernel_rfl)) (by kernel_rfl) rfl ?_
 refine au (aP rfl rfl) rfl rfl ?_
 refine ah ?_
 refine a4 rfl ?_
 refine bk (i := 14) rfl rfl rfl (fun _ _ _ => aN (by kernel_rfl)) (by kernel_rfl) rfl ?_
 refine au (ao rfl) rfl rfl ?_
 refine ah ?_
 refine a4 rfl ?_
 refine bP (by kernel_rfl) ?_
 refine aq ?_
 refine bF (fun w h => h.weak (.cons_cons _ (List.Sublist.refl _)) (fun s hs => hs)) ?_
 exact J6 (⟨rb, hrb⟩, b7) _ (by repeat (first | exact trivial | refine ⟨rfl, ?_⟩))
 exact ci
 exact ci
 refine bi (i := 12) rfl rfl rfl (fun _ _ _ => aN (by kernel_rfl)) rfl ?_ ?_
 refine bj aR rfl rfl (fun b8 => ?_)
 refine ah ?_
 refine bv (fun w h => h.weak (.cons _ (List.Sublist.refl _)) (fun s hs => hs)) ?_
 refine bk (i := 8) rfl rfl rfl (bm rfl fc) (by kernel_rfl) rfl ?_
 refine eM rfl fc rfl (dV v l _ _ ((i6 l).getD i []) hok (by omega) (by omega) h0) (fun w hw => (aO (bJ 1 rfl hw) (aO (bJ 2 rfl hw) bd))) (fun ⟨rb, hrb⟩ => ?_)
 refine ah ?_
 refine bv (fun w h => h.weak (.cons _ (List.Sublist.refl _)) (fun s hs => hs)) ?_
 refine a2 (i := 9) rfl aj (ap rfl) (fun w h => h.weak (.cons _ (List.Sublist.refl _)) (fun s hs => hs)) aE rfl (aa (ae (aa (ak (ae (aa av)))))) (by kernel_rfl) rfl ?_
 refine a2 (i := 10) rfl aj (aP rfl rfl) (fun w h => h.weak (.cons _ (List.Sublist.refl _)) (fun s hs => hs)) aE rfl (aa (ae (aa (ak (ae (aa av)))))) (by kernel_rfl) rfl ?_
 refine cA (js := [11, 13]) (by kernel_rfl) rfl ?_
 refine bi (i := 11) rfl rfl rfl (fun _ _ _ => aN (by kernel_rfl)) rfl ?_ ?_
 refine au (aP rfl rfl) rfl rfl ?_
 refine ah ?_
 refine bv (fun w h => h.weak (.cons _ (List.Sublist.refl _)) (fun s hs => hs)) ?_
 refine bk (i := 13) rfl rfl rfl (fun _ _ _ => aN (by kernel_rfl)) (by kernel_rfl) rfl ?_
 refine a0 aR rfl rfl rfl .z rfl rfl rfl rfl ?_
 refine ah ?_
 refine a4 rfl ?_
 refine bk (i := 14) rfl rfl rfl (fun _ _ _ => aN (by kernel_rfl)) (by kernel_rfl) rfl ?_
 refine au (ao rfl) rfl rfl ?_
 refine ah ?_
 refine a4 rfl ?_
 refine bP (by kernel_rfl) ?_
 refine aq ?_
 refine bF (fun w h => h.weak (.cons_cons _ (List.Sublist.refl _)) (fun s hs => hs)) ?_
 exact J6 (⟨rb, hrb⟩, b8) _ (by repeat (first | exact trivial | refine ⟨rfl, ?_⟩))
 refine bi (i := 13) rfl rfl rfl (fun _ _ _ => aN (by kernel_rfl)) rfl ?_ ?_
 refine a0 aR rfl rfl rfl .z rfl rfl rfl rfl ?_
 refine ah ?_
 refine a4 rfl ?_
 refine bk (i := 11) rfl rfl rfl (fun _ _ _ => aN (by kernel_rfl)) (by kernel_rfl) rfl ?_
 refine au (aP rfl rfl) rfl rfl ?_
 refine ah ?_
 refine a4 rfl ?_
 refine bk (i := 14) rfl rfl rfl (fun _ _ _ => aN (by kernel_rfl)) (by kernel_rfl) rfl ?_
 refine au (ao rfl) rfl rfl ?_
 refine ah ?_
 refine a4 rfl ?_
 refine bP (by kernel_rfl) ?_
 refine aq ?_
 refine bF (fun w h => h.weak (.cons_cons _ (List.Sublist.refl _)) (fun s hs => hs)) ?_
 exact J6 (⟨rb, hrb⟩, b8) _ (by repeat (first | exact trivial | refine ⟨rfl, ?_⟩))
 exact ci
 exact ci
 refine ah ?_
 refine aq ?_
 refine aC rfl ?_
 refine bw ?_
 refine aY ?_
 refine aZ ?_
 refine a7 ?_
 refine aq ?_
 refine ar ?_
 refine ai ?_
 refine au (ap rfl) rfl rfl ?_
 refine au (ao rfl) rfl rfl ?_
 refine ah ?_
 refine aq ?_
 refine aQ ?_
 refine aV (ts := [2]) rfl rfl rfl (fun w hw => ?_)
 have hE : acc = lostE (l.map (·.e)) hs := by
   rw [hI.2, List.take_of_length_le (by rw [show (auF l).length = (i6 l).length from (List.length_map _).symm]; omega), lostAt_all]
 subst hE
 exact ⟨(Aq, cq), rfl, hw.base, (hw.weak (.cons_cons _ (.cons _ .slnil)) (fun s hs => hs)).toNews⟩

theorem TbOk.eqs {l l' : List Le} (h : TbOk l) (e : l'.map (·.e) = l.map (·.e)) : TbOk l' := fun x hx => by
  have : x.e ∈ l.map (·.e) := by rw [← e]; exact List.mem_map.2 ⟨x, hx, rfl⟩
  obtain ⟨y, hy, e2⟩ := List.mem_map.1 this
  rw [← e2]; exact h y hy

set_option maxRecDepth 100000 in
set_option maxHeartbeats 1000000 in
theorem c_OwnTable (v : Int) (l : List Le) (A : Option Addr) (c : Nat) (hok : TbOk l) (hlen : l.length ≤ 1000000) : RC Tryz.prog 14 #[.agg (iM v A l.length c).toArray] [Ch.rd A 7 dB l, Ch.rall (l.flatMap e6)] (α := {o : List Le × Option Addr × Nat // o.1.map (·.e) = l.map (·.e)}) (fun o => .agg (iM v o.1.2.1 o.1.1.length o.1.2.2).toArray) (fun o => [Ch.rall (o.1.1.flatMap e6), Ch.ls o.1.2.1 o.1.2.2 34 7 dB o.1.1]) := by
 refine bx (args := [.agg (iM v A l.length c).toArray]) 24 Tryz.func14 rfl rfl rfl (fun w0 => ?_)
 refine ar ?_
 refine ai ?_
 refine cv rfl rfl rfl (fun b1 => ?_)
 refine bj dh rfl rfl (fun b2 => ?_)
 refine ah ?_
 refine aq ?_
 refine ar ?_
 refine ai ?_
 refine au (ao rfl) rfl rfl ?_
 refine ah ?_
 refine aq ?_
 refine ar ?_
 refine ar ?_
 refine ai ?_
 refine au (ao rfl) rfl rfl ?_
 refine ah ?_
 refine aq ?_
 refine aW ?_
 refine bF (fun w h => h.nilsl 34 7) ?_
 refine bF (fun w h => h.rall0) ?_
 refine w_loopL (σ := Nat × List Le × Option Addr × Nat) [3, 4, 5, 6, 7, 8, 9, 10, 11, 12, 13, 14, 15, 16, 17, 18, 19, 20] (fun q => q.1 ≤ l.length ∧ q.2.1.map (·.e) = (l.take q.1).map (·.e)) (fun q => l.length - q.1) (fun q => [(4, .int .i64 q.1), (3, .slice q.2.2.1 q.2.1.length q.2.2.2)]) (fun q => [Ch.rall (q.2.1.flatMap e6), Ch.ls q.2.2.1 q.2.2.2 34 7 dB q.2.1]) ((0, [], none, 0)) ?_ ⟨rfl, rfl, trivial⟩ rfl (fun q hI => ?_)
 exact ⟨Nat.zero_le _, rfl⟩
 obtain ⟨k, lo, Ax, cx⟩ := q
 dsimp only at hI ⊢
 refine ar ?_
 refine ar ?_
 refine ai ?_
 refine au (ap rfl) rfl rfl ?_
 refine au (aD cw rfl) rfl rfl ?_
 refine au (aM 3 bZ rfl rfl rfl) rfl rfl ?_
 refine au (bg Tryz.underlying22 rfl) rfl rfl ?_
 refine au (bI rfl rfl) rfl rfl ?_
 refine aB (t := 9) rfl (fun h3_4 => ?_) (fun h3_4 => ?_)
 have hk : k < l.length := by omega
 have hb9 := hok.at hk
 have hlc := fG hI.2
 refine ah ?_
 refine aq ?_
 refine aA rfl ?_
 refine aS ?_
 refine aq ?_
 refine ar ?_
 refine aW ?_
 refine ai ?_
 refine au (ap rfl) rfl rfl ?_
 refine au (aD cw rfl) rfl rfl ?_
 refine au (aM 3 bZ rfl rfl rfl) rfl rfl ?_
 refine au (ap rfl) rfl rfl ?_
 refine au (bz  Tryz.underlying22 aR rfl rfl (bE 0 rfl) rfl (by omega)) rfl rfl ?_
 refine au (bW cj br aR rfl (bE 0 rfl) (by omega) rfl rfl rfl) rfl rfl ?_
 refine gH rfl ent_78 rfl (c_OwnEntry (l.getD k br).e (l.getD k br).A (l.getD k br).B (l.getD k br).c (l.getD k br).d (by have := hb9.la; omega) (by have := hb9.lp; omega)) (fun w hw => (aO (bG (bJ 1 rfl hw) (bL (bA (by omega)) _ (gD _))) (aO (bG (bJ 1 rfl hw) (bL (bA (by omega)) _ (jA _))) bd))) (fun ⟨A2, c2, B2, d2⟩ => ?_)
 refine cD (vs := [_]) ([(⟨(l.getD k br).e, A2, c2, B2, d2⟩ : Le)] : List (Le)) cj Tryz.underlying22 aR rfl rfl rfl rfl rfl rfl (fun As4 => ?_)
 refine cC (enc := dB) (sz := 7) [(⟨(l.getD k br).e, A2, c2, B2, d2⟩ : Le)] Tryz.underlying22 aR rfl rfl rfl (fun A c => (.s (.s (.s (.s (.z)))))) (d5 0 Tryz.underlying22 rfl) (by simp only [List.length_cons, List.length_nil, Nat.zero_add]; omega) (by simp only [List.length_cons, List.length_nil, Nat.zero_add]; omega) rfl (fun A4 c4 => ?_)
 refine au (ao rfl) rfl rfl ?_
 refine ah ?_
 refine bo ?_
 refine aq ?_
 refine ai ?_
 refine au (ap rfl) rfl rfl ?_
 refine au (bl rfl rfl (by omega) (by omega)) rfl rfl ?_
 refine au (ao rfl) rfl rfl ?_
 refine ah ?_
 refine bq ((k + 1, lo ++ [(⟨(l.getD k br).e, A2, c2, B2, d2⟩ : Le)], A4, c4)) ?_ ?_ ⟨rfl, rfl, trivial⟩ (by repeat (first | exact trivial | refine ⟨rfl, ?_⟩)) (fun w h => by
 have h2 := (h.weak (.cons _ (.cons_cons _ (.cons_cons _ (List.Sublist.refl _)))) (fun s hs => hs)).intoE
 show Hp _ _ (Ch.rall ((lo ++ [_]).flatMap e6) :: _) _ _
 rw [List.flatMap_append, List.flatMap_singleton]
 exact h2)
 exact ⟨by show k + 1 ≤ _; omega, by show (lo ++ [_]).map _ = (l.take (k + 1)).map _; rw [List.map_append, hI.2, bK l br k hk, List.map_append]; rfl⟩
 show l.length - (k + 1) < l.length - k
 omega
 refine ah ?_
 refine aq ?_
 refine aC rfl ?_
 refine bw ?_
 refine aY ?_
 refine aZ ?_
 refine a7 ?_
 refine aq ?_
 refine ar ?_
 refine ai ?_
 refine au (ap rfl) rfl rfl ?_
 refine au (aD cw rfl) rfl rfl ?_
 refine a0 bZ rfl rfl rfl (.s (.s (.s (.z)))) rfl rfl rfl rfl ?_
 refine ah ?_
 refine aq ?_
 refine ar ?_
 refine ai ?_
 refine au (a6 3 dh rfl rfl rfl rfl) rfl rfl ?_
 refine a0 dh rfl rfl rfl (.s (.s (.z))) rfl rfl rfl rfl ?_
 refine ah ?_
 refine aq ?_
 refine aQ ?_
 refine ed (rs := [.cell 2 24]) rfl (cF 2 dh rfl rfl rfl rfl dp) rfl (fun w hw => ?_)
 have hE : lo.map (·.e) = l.map (·.e) := by rw [hI.2, List.take_of_length_le (by omega)]
 exact ⟨⟨(lo, Ax, cx), hE⟩, rfl, hw.base, (hw.weak (.cons_cons _ (.cons_cons _ (.cons _ (.cons _ .slnil)))) (fun s hs => hs)).toNews⟩

set_option maxRecDepth 100000 in
set_option maxHeartbeats 1000000 in
theorem c_all18 (x : Ixd) (hxl : x.l.length ≤ 1000000000) : RC Tryz.prog 21 #[.pointer (some ⟨x.b, 0, none⟩)] [Ch.row x.b (ixC x) 122, Ch.rd x.A 7 dB x.l] (α := Option Addr × Nat) (fun p => .tuple #[.slice p.1 x.l.length p.2, .bool true]) (fun p => [Ch.ls p.1 p.2 34 7 dB x.l]) := by
 refine rc_of_WM (args := [.pointer (some ⟨x.b, 0, none⟩)]) 28 Tryz.func21 rfl rfl rfl (fun w0 => ?_)
 refine ar ?_
 refine ai ?_
 refine cv rfl rfl rfl (fun b1 => ?_)
 refine bj bZ rfl rfl (fun b2 => ?_)
 refine bj jT rfl rfl (fun b3 => ?_)
 refine ah ?_
 refine aq ?_
 refine ar ?_
 refine ai ?_
 refine au (aM 2 ty_39 rfl rfl rfl) rfl rfl ?_
 refine bM rfl ent_85 rfl (c_Entries x) (fun w hw => (aO (bJ 0 rfl hw) bd)) (fun p3 => ?_)
 refine ib (fun w h => h.freeze) ?_
 refine au (ao rfl) rfl rfl ?_
 refine ah ?_
 refine aq ?_
 refine ar ?_
 refine ar ?_
 refine ai ?_
 refine au (ap rfl) rfl rfl ?_
 refine au (y_eqfn Tryz.underlying138 rfl rfl) rfl rfl ?_
 refine ah ?_
 refine aq ?_
 refine aC rfl ?_
 refine aS ?_
 refine aq ?_
 refine ar ?_
 refine ai ?_
 refine bj bZ rfl rfl (fun b5 => ?_)
 refine ah ?_
 refine aq ?_
 refine ar ?_
 refine ar ?_
 refine ai ?_
 refine au (ap rfl) rfl rfl ?_
 refine ah ?_
 refine aq ?_
 refine aW ?_
 refine bF (fun w h => h.nilsl 34 7) ?_
 refine w_range (σ := List Le × Option Addr × Nat) (fun pre g => g.1 = pre) (fun c pre g => False) (fun g => [Ch.ls g.2.1 g.2.2 34 7 dB g.1, Ch.row b5 [.slice g.2.1 g.1.length g.2.2] 22, Ch.row b3 [.bool false] 4, Ch.row b2 [.slice none 0 0] 22, Ch.row b1 [.pointer (some ⟨x.b, 0, none⟩)] 39]) (([], none, 0)) rfl rfl ent_211 (c_Values1 x.l x.A x.c p3 hxl) (List.forall_mem_cons.2 ⟨.head _, List.forall_mem_cons.2 ⟨.tail _ (.tail _ (.head _)), nofun⟩⟩) rfl (fun _ => rfl) (rfl) rfl (fun pre e post g hxs hI lr D r hr okb wb => ?_) (fun g D0 hI => ?_) (fun c pre post g D0 hxs hI => ?_)
 obtain ⟨q, Ax, cx⟩ := g
 dsimp only at hI ⊢
 subst hI
 have hpl : q.length + 1 ≤ x.l.length := by have h9 := congrArg List.length hxs; simp at h9; omega
 refine ai ?_
 refine bj aR rfl rfl (fun b6 => ?_)
 refine a0 aR rfl rfl rfl .z rfl rfl rfl rfl ?_
 refine ah ?_
 refine e_begin rfl hr (.s (.z)) ?_
 refine aW ?_
 refine ar ?_
 refine ar ?_
 refine gp 5 cu ?_
 refine aL (i := 0) rfl aj (aM 4 bZ rfl rfl rfl) aE aE rfl (aa (aa (ae f9))) (by kernel_rfl) rfl ?_
 refine aL (i := 1) rfl aj (bg Tryz.underlying22 rfl) aE aE rfl (aa (aa (ae f9))) (by kernel_rfl) rfl ?_
 refine aL (i := 2) rfl aj (aM 7 ty_39 rfl rfl rfl) aE aE rfl (aa (aa (ae f9))) (by kernel_rfl) rfl ?_
 refine bQ (i := 3) rfl (by kernel_rfl) rfl ?_
 refine bp rfl ent_68 rfl (c_Len x) (fun w hw => (aO (bJ 1 rfl hw) bd)) ?_
 refine ah ?_
 refine bR aE ?_
 refine aL (i := 4) rfl aj (c9 rfl rfl) aE aE rfl (aa (aa (ae f9))) (by kernel_rfl) rfl ?_
 refine wv_af (t := 17) rfl (by omega) ?_
 refine cr (by kernel_rfl) ?_
 refine aq ?_
 refine aC rfl ?_
 refine aS ?_
 refine aq ?_
 refine ai ?_
 refine au (aM 4 bZ rfl rfl rfl) rfl rfl ?_
 refine au (a6 0 aR rfl rfl rfl rfl) rfl rfl ?_
 refine cD (vs := [_]) ([e] : List (Le)) cj Tryz.underlying22 aR rfl rfl rfl rfl rfl rfl (fun As7 => ?_)
 refine cC (enc := dB) (sz := 7) [e] Tryz.underlying22 aR rfl rfl rfl (fun A c => (.s (.s (.s (.s (.z)))))) (d5 0 Tryz.underlying22 rfl) (by simp only [List.length_cons, List.length_nil, Nat.zero_add]; omega) (by simp only [List.length_cons, List.length_nil, Nat.zero_add]; omega) rfl (fun A7 c7 => ?_)
 refine a0 bZ rfl rfl rfl (.s (.s (.s (.s (.s (.z)))))) rfl rfl rfl rfl ?_
 refine ah ?_
 refine bo ?_
 refine e_rend ((q ++ [e], A7, c7)) ?_ (fun w h => h.weak (.cons _ (.cons _ (List.Sublist.refl _))) (fun s hs => hs))
 rfl
 obtain ⟨q, Ax, cx⟩ := g
 dsimp only at hI ⊢
 subst hI
 refine bo ?_
 refine aq ?_
 refine ar ?_
 refine gl 8 cu (fun w h => ((h.any (b := b2) (n := 1) (T := 22) (.s (.s (.s (.s (.z))))) rfl).any (b := b3) (n := 1) (T := 4) (.s (.s (.s (.z)))) rfl)) ?_
 refine aL (i := 0) rfl aj (aM 2 bZ rfl rfl rfl) (fun w h => ((h.any (b := b2) (n := 1) (T := 22) (.s (.s (.s (.s (.z))))) rfl).any (b := b3) (n := 1) (T := 4) (.s (.s (.s (.z)))) rfl)) aE rfl (aa av) (by kernel_rfl) rfl ?_
 refine aL (i := 1) rfl aj (aM 2 bZ rfl rfl rfl) (fun w h => ((h.any (b := b2) (n := 1) (T := 22) (.s (.s (.s (.s (.z))))) rfl).any (b := b3) (n := 1) (T := 4) (.s (.s (.s (.z)))) rfl)) aE rfl (aa av) (by kernel_rfl) rfl ?_
 refine aL (i := 2) rfl aj (bg Tryz.underlying22 rfl) (fun w h => ((h.any (b := b2) (n := 1) (T := 22) (.s (.s (.s (.s (.z))))) rfl).any (b := b3) (n := 1) (T := 4) (.s (.s (.s (.z)))) rfl)) aE rfl (aa av) (by kernel_rfl) rfl ?_
 refine aL (i := 3) rfl aj (aM 5 ty_39 rfl rfl rfl) (fun w h => ((h.any (b := b2) (n := 1) (T := 22) (.s (.s (.s (.s (.z))))) rfl).any (b := b3) (n := 1) (T := 4) (.s (.s (.s (.z)))) rfl)) aE rfl (aa av) (by kernel_rfl) rfl ?_
 refine bQ (i := 4) rfl (by kernel_rfl) rfl ?_
 refine bp rfl ent_68 rfl (c_Len x) (fun w hw => (aO (bJ 1 rfl hw) bd)) ?_
 refine ah ?_
 refine bR (fun w h => ((h.any (b := b2) (n := 1) (T := 22) (.s (.s (.s (.s (.z))))) rfl).any (b := b3) (n := 1) (T := 4) (.s (.s (.s (.z)))) rfl)) ?_
 refine aL (i := 5) rfl aj (dk rfl rfl) (fun w h => ((h.any (b := b2) (n := 1) (T := 22) (.s (.s (.s (.s (.z))))) rfl).any (b := b3) (n := 1) (T := 4) (.s (.s (.s (.z)))) rfl)) aE rfl (aa av) (by kernel_rfl) rfl ?_
 refine wv_at (t := 27) rfl rfl ?_
 refine bQ (i := 6) rfl (by kernel_rfl) rfl ?_
 refine a0 bZ rfl rfl rfl (.s (.s (.s (.s (.z))))) rfl rfl rfl rfl ?_
 refine ah ?_
 refine bR (fun w h => ((h.any (b := b2) (n := 1) (T := 22) (.s (.s (.s (.s (.z))))) rfl).any (b := b3) (n := 1) (T := 4) (.s (.s (.s (.z)))) rfl)) ?_
 refine bQ (i := 7) rfl (by kernel_rfl) rfl ?_
 refine a0 jT rfl rfl rfl (.s (.s (.s (.z)))) rfl rfl rfl rfl ?_
 refine ah ?_
 refine bR (fun w h => ((h.any (b := b2) (n := 1) (T := 22) (.s (.s (.s (.s (.z))))) rfl).any (b := b3) (n := 1) (T := 4) (.s (.s (.s (.z)))) rfl)) ?_
 refine cr (by kernel_rfl) ?_
 refine aq ?_
 refine aQ ?_
 refine e_lvr ?_
 refine lv_take .z ?_
 refine lv_nil (rs := [.cell 2 22, .cell 3 4]) rfl (rs_cell 4 bZ rfl rfl rfl (rs_cell 3 jT rfl rfl rfl dp)) (fun w hw => ?_)
 exact ⟨(Ax, cx), rfl, hw.base, (hw.weak (.cons _ (.cons_cons _ (.cons _ (.cons _ (.cons _ (.cons _ .slnil)))))) (fun s hs => hs)).toNews⟩
 exact hI.elim
end Go.Proofs.YtnpdgmoeoidppaaGreat
