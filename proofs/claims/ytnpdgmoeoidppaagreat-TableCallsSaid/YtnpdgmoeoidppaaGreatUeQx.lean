import Derived.Test.YtnpdgmoeoidppaaGreatUdQx
/- tables: found, told apart, the same; what is light, what is of its own -/
namespace Go.Proofs.YtnpdgmoeoidppaaGreat
open Go.RowKit Go.Shelf
set_option linter.unusedVariables false
set_option linter.unusedSimpArgs false

theorem ent_10 : Enters Tryz.prog 10 := enters_of Tryz.func10 (by kernel_rfl) rfl
theorem ent_123 : Enters Tryz.prog 123 := enters_of Tryz.func123 (by kernel_rfl) rfl
theorem ent_137 : Enters Tryz.prog 137 := enters_of Tryz.func137 (by kernel_rfl) rfl
theorem ent_142 : Enters Tryz.prog 142 := enters_of Tryz.func142 (by kernel_rfl) rfl
theorem ent_22 : Enters Tryz.prog 22 := enters_of Tryz.func22 (by kernel_rfl) rfl
theorem ent_78 : Enters Tryz.prog 78 := enters_of Tryz.func78 (by kernel_rfl) rfl

def gy (v : Int) (l : List Le) (n : a6) : Option En := if bI v l ≠ 0 ∨ bd n ≠ 0 then none else b8 (l.map (·.e)) (a7 n)
theorem fS {v : Int} {l : List Le} {n : a6} (h1 : bI v l = 0) (h2 : bd n = 0) : gy v l n = b8 (l.map (·.e)) (a7 n) := if_neg (fun q => q.elim (fun q => q h1) (fun q => q h2))
/-- The hosts of auto entries. -/
def auF (l : List Le) : List Le := l.filter fun y => decide (y.e.kind = 2)
def auL (l : List Le) : List a6 := (auF l).map (·.e.host)
theorem au_step {l : List Le} {i : Nat} (hi : i < l.length) : auL (l.take (i + 1)) = auL (l.take i) ++ if (l.getD i bm).e.kind = 2 then [(l.getD i bm).e.host] else [] := by
  rw [auL, auL, auF, auF, dh l bm i hi, List.filter_append, List.map_append, List.filter_cons]
  by_cases h : (l.getD i bm).e.kind = 2
  · rw [decide_eq_true h, if_pos rfl, if_pos h]; rfl
  · rw [decide_eq_false h, if_neg (by decide), if_neg h]; rfl
theorem au_len (l : List Le) : (auL l).length ≤ l.length := by rw [auL, List.length_map]; exact List.length_filter_le _ _
theorem au_take (l : List Le) (i : Nat) : (auL (l.take i)).length ≤ l.length := Nat.le_trans (au_len _) (by rw [List.length_take]; omega)
theorem take_len_eq17 {l : List Le} {lc : List Le} {k : Nat} (h : lc.map (·.e) = (l.take k).map (·.e)) : lc.length ≤ l.length := by
  have := congrArg List.length h; simp at this; omega
theorem TbOk.eqs {l l' : List Le} (h : TbOk l) (e : l'.map (·.e) = l.map (·.e)) : TbOk l' := fun x hx => by
  have : x.e ∈ l.map (·.e) := by rw [← e]; exact List.mem_map.2 ⟨x, hx, rfl⟩
  obtain ⟨y, hy, e2⟩ := List.mem_map.1 this
  rw [← e2]; exact h y hy
theorem ia {l k : List Le} (h1 : l.length = k.length) (h : ∀ q, q < l.length → (l.getD q bm).e = (k.getD q bm).e) : l.map (·.e) = k.map (·.e) := by
  apply List.ext_getElem
  · simpa using h1
  · intro i hi hj
    have hi2 : i < l.length := by simpa using hi
    have := h i hi2
    rw [List.getD_eq_getElem?_getD, List.getD_eq_getElem?_getD, List.getElem?_eq_getElem hi2, List.getElem?_eq_getElem (by omega)] at this
    rw [List.getElem_map, List.getElem_map]; exact this

set_option maxRecDepth 100000 in
theorem c_tFind (v : Int) (l : List Le) (A : Option Addr) (c : Nat) (n : a6) (hok : TbOk l) (hl : l.length ≤ 1000000) (hnl : n.length ≤ 1000000) : RC Tryz.prog 57 #[.agg (eE v A l.length c).toArray, .string (ba n)] [Ch.rd A 7 dF l, Ch.rall (l.flatMap fm)] (α := {r : Option Le // r.map (·.e) = gy v l n ∧ r.getD bm ∈ bm :: l}) (fun o => .tuple #[.agg (dF (o.1.getD bm)).toArray, .bool o.1.isSome]) (fun o => []) := by
 refine bK (args := [.agg (eE v A l.length c).toArray, .string (ba n)]) 32 Tryz.func57 rfl rfl rfl (fun w0 => ?_)
 refine ap ?_
 refine ae ?_
 refine cL rfl rfl rfl (fun b1 => ?_)
 refine bH aU rfl rfl (fun b2 => ?_)
 refine aq (ai rfl) rfl rfl ?_
 refine aa ?_
 refine aj ?_
 refine ap ?_
 refine ap ?_
 refine ae ?_
 refine aq (bu 1 bw rfl rfl rfl rfl) rfl rfl ?_
 refine bA rfl ent_61 rfl (e6 _ _ _ _ hok (by omega)) (fun w hw => (az (bo 0 rfl hw) (az (bo 1 rfl hw) aY))) ?_
 refine aq (cO rfl rfl) rfl rfl ?_
 refine ay (t := 10) rfl (fun h1_2 => ?_) (fun h1_2 => ?_)
 refine aq (am rfl) rfl rfl ?_
 refine ar rfl rfl rfl rfl ?_
 refine ar rfl rfl rfl rfl ?_
 refine ar rfl rfl rfl rfl ?_
 refine aq (aH rfl rfl) rfl rfl ?_
 refine aa ?_
 refine aj ?_
 refine aA rfl ?_
 refine ap ?_
 refine ae ?_
 refine aq (bP rfl (bu_34)) rfl rfl ?_
 refine aW aU rfl rfl rfl .z rfl rfl rfl rfl ?_
 refine aq (ai rfl) rfl rfl ?_
 refine aa ?_
 refine aj ?_
 refine aN ?_
 refine ax ?_
 refine dP (rs := [.cell 4 34, .tmp 5]) rfl (bQ 0 aU rfl rfl rfl rfl (dv rfl cG)) rfl (fun w hw => ?_)
 exact ⟨⟨none, by rw [gy, if_pos (by first | exact .inl h1_2 | exact .inr h1_6)]; rfl, .head _⟩, rfl, hw.base, (hw.weak (List.nil_sublist _) (fun s hs => hs)).toNews⟩
 refine aq (am rfl) rfl rfl ?_
 refine au rfl rfl ?_
 refine aq (am rfl) rfl rfl ?_
 refine au rfl rfl ?_
 refine bD rfl ent_74 (eP _) rfl ?_
 refine au rfl rfl ?_
 refine aq (cO rfl rfl) rfl rfl ?_
 refine ay (t := 14) rfl (fun h1_6 => ?_) (fun h1_6 => ?_)
 refine aq (aF rfl rfl) rfl rfl ?_
 refine aa ?_
 refine aj ?_
 refine aA rfl ?_
 refine ap ?_
 refine ae ?_
 refine aq (bP rfl (bu_34)) rfl rfl ?_
 refine aW aU rfl rfl rfl .z rfl rfl rfl rfl ?_
 refine aq (ai rfl) rfl rfl ?_
 refine aa ?_
 refine aj ?_
 refine aN ?_
 refine ax ?_
 refine dP (rs := [.cell 4 34, .tmp 5]) rfl (bQ 0 aU rfl rfl rfl rfl (dv rfl cG)) rfl (fun w hw => ?_)
 exact ⟨⟨none, by rw [gy, if_pos (by first | exact .inl h1_2 | exact .inr h1_6)]; rfl, .head _⟩, rfl, hw.base, (hw.weak (List.nil_sublist _) (fun s hs => hs)).toNews⟩
 refine aq (aF rfl rfl) rfl rfl ?_
 refine aa ?_
 refine aj ?_
 refine aD rfl ?_
 refine aQ ?_
 refine aj ?_
 refine ap ?_
 have hT0 : bI v l = 0 := Decidable.not_not.1 h1_2
 have hn0 : bd n = 0 := Decidable.not_not.1 h1_6
 have htb := gA hT0
 have hlh : ∀ x ∈ l, x.e.host.length ≤ 1000000000 := fun x hx => by have := (hok.mem17 hx).h; omega
 refine ae ?_
 refine aq (aB bX rfl) rfl rfl ?_
 refine aq (aC 1 bz rfl rfl rfl) rfl rfl ?_
 refine aq (am rfl) rfl rfl ?_
 refine eT rfl ent_127 rfl (c_tfind l A c n htb (by omega) hn0 (by omega) hlh) (fun w hw => (az (bo 0 rfl hw) aY)) (fun ⟨fk, hfk⟩ => ?_)
 refine aq (am rfl) rfl rfl ?_
 refine aq (bn rfl rfl) rfl rfl ?_
 refine aq (bn rfl rfl) rfl rfl ?_
 refine bN (t := 23) rfl (fun h3_6 => ?_) (fun h3_6 => ?_)
 obtain ⟨hfl, hfl2, hfe⟩ := fd_yes htb hn0 h3_6
 refine aq (ai rfl) rfl rfl ?_
 refine aq (ai rfl) rfl rfl ?_
 refine aa ?_
 refine aj ?_
 refine ap ?_
 refine ap ?_
 refine ae ?_
 refine aq (am rfl) rfl rfl ?_
 refine aq (bS rfl) rfl rfl ?_
 refine aa ?_
 refine aj ?_
 refine aD rfl ?_
 refine aQ ?_
 refine aj ?_
 refine ap ?_
 refine ae ?_
 refine aq (aB bX rfl) rfl rfl ?_
 refine aq (aC 1 bz rfl rfl rfl) rfl rfl ?_
 refine aq (am rfl) rfl rfl ?_
 refine aq (bB  Tryz.underlying22 aU rfl rfl (bF 0 rfl) rfl (by omega)) rfl rfl ?_
 refine aq (b6 bp bm aU rfl (bF 0 rfl) (by omega) rfl rfl rfl) rfl rfl ?_
 refine aW aU rfl rfl rfl .z rfl rfl rfl rfl ?_
 refine aq (ai rfl) rfl rfl ?_
 refine aa ?_
 refine aj ?_
 refine aN ?_
 refine dP (rs := [.cell 4 34, .tmp 5]) rfl (bQ 0 aU rfl rfl rfl rfl (dv rfl cG)) rfl (fun w hw => ?_)
 exact ⟨⟨some (l.getD fk bm), by rw [fS hT0 hn0, hfl2]; rfl, .tail _ (aZ hfl)⟩, rfl, hw.base, (hw.weak (List.nil_sublist _) (fun s hs => hs)).toNews⟩
 refine aq (ai rfl) rfl rfl ?_
 refine aq (ai rfl) rfl rfl ?_
 refine aa ?_
 refine aj ?_
 refine ap ?_
 refine ap ?_
 refine ae ?_
 refine aq (am rfl) rfl rfl ?_
 refine aq (bS rfl) rfl rfl ?_
 refine aa ?_
 refine aj ?_
 refine aA rfl ?_
 refine ap ?_
 refine ae ?_
 refine aq (bP rfl (bu_34)) rfl rfl ?_
 refine aW aU rfl rfl rfl .z rfl rfl rfl rfl ?_
 refine aq (ai rfl) rfl rfl ?_
 refine aa ?_
 refine aj ?_
 refine aN ?_
 refine ax ?_
 refine dP (rs := [.cell 4 34, .tmp 5]) rfl (bQ 0 aU rfl rfl rfl rfl (dv rfl cG)) rfl (fun w hw => ?_)
 exact ⟨⟨none, by rw [fS hT0 hn0, fd_no htb hn0 hfk h3_6]; rfl, .head _⟩, rfl, hw.base, (hw.weak (List.nil_sublist _) (fun s hs => hs)).toNews⟩

theorem c_tAutos (v : Int) (l : List Le) (A : Option Addr) (c : Nat) (hok : TbOk l) (hlen : l.length ≤ 1000000000) : RC Tryz.prog 63 #[.agg (eE v A l.length c).toArray] [Ch.rd A 7 dF l, Ch.rall (l.flatMap fm)] (α := Option Addr × Nat) (fun p => .slice p.1 (auL l).length p.2) (fun p => [Ch.ls p.1 p.2 26 1 dD (auL l)]) := by
 refine bK (args := [.agg (eE v A l.length c).toArray]) 23 Tryz.func63 rfl rfl rfl (fun w0 => ?_)
 refine ap ?_
 refine ae ?_
 refine cL rfl rfl rfl (fun b1 => ?_)
 refine aq (ai rfl) rfl rfl ?_
 refine aa ?_
 refine aj ?_
 refine ap ?_
 refine ae ?_
 refine aq (ai rfl) rfl rfl ?_
 refine aa ?_
 refine aj ?_
 refine ap ?_
 refine ap ?_
 refine ae ?_
 refine aq (aB bX rfl) rfl rfl ?_
 refine aq (aC 0 bz rfl rfl rfl) rfl rfl ?_
 refine aq (bg Tryz.underlying22 rfl) rfl rfl ?_
 refine aq (am rfl) rfl rfl ?_
 refine aa ?_
 refine aj ?_
 refine aS ?_
 refine cz (fun w h => h.nilsl 26 1) ?_
 refine dn (σ := Nat × List a6 × Option Addr × Nat) [3, 5, 9, 10, 11, 12, 13, 14, 15, 16, 17, 18, 19, 20, 21] (fun q => q.1 ≤ l.length ∧ q.2.1 = auL (l.take q.1)) (fun q => l.length - q.1) (fun q => [(9, .int .i64 q.1), (3, .slice q.2.2.1 q.2.1.length q.2.2.2)]) (fun q => Ch.ls q.2.2.1 q.2.2.2 26 1 dD q.2.1) ((0, [], none, 0)) ?_ ⟨rfl, rfl, trivial⟩ rfl (fun q hI => ?_)
 exact ⟨Nat.zero_le _, rfl⟩
 obtain ⟨i, acc, Aq, cq⟩ := q
 dsimp only at hI ⊢
 refine ap ?_
 refine ae ?_
 refine aq (bW rfl rfl) rfl rfl ?_
 refine ay (t := 10) rfl (fun h3_0 => ?_) (fun h3_0 => ?_)
 have hi : i < l.length := by omega
 have hal := au_take l i
 rw [← hI.2] at hal
 refine aa ?_
 refine aj ?_
 refine ap ?_
 refine aA rfl ?_
 refine aQ ?_
 refine aj ?_
 refine ap ?_
 refine aS ?_
 refine ap ?_
 refine ae ?_
 refine aq (bB  Tryz.underlying22 aU rfl rfl (bF 0 rfl) rfl (by omega)) rfl rfl ?_
 refine aq (b6 bp bm aU rfl (bF 0 rfl) (by omega) rfl rfl rfl) rfl rfl ?_
 refine bH aU rfl rfl (fun b2 => ?_)
 refine aW aU rfl rfl rfl .z rfl rfl rfl rfl ?_
 refine aa ?_
 refine aj ?_
 refine ap ?_
 refine ae ?_
 refine aq (aB gH rfl) rfl rfl ?_
 refine aq (aC 0 cX rfl rfl rfl) rfl rfl ?_
 refine aq (cY rfl rfl) rfl rfl ?_
 refine ay (t := 15) rfl (fun h5_2 => ?_) (fun h5_2 => ?_)
 refine aa ?_
 refine aj ?_
 refine aA rfl ?_
 refine ae ?_
 refine aq (am rfl) rfl rfl ?_
 refine aq (aB cM rfl) rfl rfl ?_
 refine aq (aC 0 bE rfl rfl rfl) rfl rfl ?_
 refine bY (vs := [_]) ([(l.getD i bm).e.host] : List (a6)) bV Tryz.underlying59 bE rfl rfl rfl rfl rfl rfl (fun As3 => ?_)
 refine cv (enc := dD) (sz := 1) [(l.getD i bm).e.host] Tryz.underlying59 bE rfl rfl rfl (fun A c => (.s (.s (.z)))) (d5 0 Tryz.underlying59 rfl) (by simp only [List.length_cons, List.length_nil, Nat.zero_add]; omega) (by simp only [List.length_cons, List.length_nil, Nat.zero_add]; omega) rfl (fun A3 c3 => ?_)
 refine aq (ai rfl) rfl rfl ?_
 refine aa ?_
 refine bj ?_
 refine aj ?_
 refine ae ?_
 refine aq (br rfl rfl (by omega) (by omega)) rfl rfl ?_
 refine aq (am rfl) rfl rfl ?_
 refine aa ?_
 refine bv ((i + 1, acc ++ [(l.getD i bm).e.host], A3, c3)) ?_ ?_ ⟨rfl, rfl, trivial⟩ (by repeat (first | exact trivial | refine ⟨rfl, ?_⟩)) (bq 2)
 exact ⟨by show i + 1 ≤ _; omega, by show _ = auL (l.take (i + 1)); rw [au_step hi, if_pos h5_2, ← hI.2]⟩
 show l.length - (i + 1) < l.length - i
 omega
 refine aa ?_
 refine aj ?_
 refine aD rfl ?_
 refine aQ ?_
 refine bj ?_
 refine aj ?_
 refine ae ?_
 refine aq (br rfl rfl (by omega) (by omega)) rfl rfl ?_
 refine aq (am rfl) rfl rfl ?_
 refine aa ?_
 refine bv ((i + 1, acc, Aq, cq)) ?_ ?_ ⟨rfl, rfl, trivial⟩ (by repeat (first | exact trivial | refine ⟨rfl, ?_⟩)) (bq 1)
 exact ⟨by show i + 1 ≤ _; omega, by show _ = auL (l.take (i + 1)); rw [au_step hi, if_neg h5_2, ← hI.2]; exact (List.append_nil _).symm⟩
 show l.length - (i + 1) < l.length - i
 omega
 refine aa ?_
 refine aj ?_
 refine ap ?_
 refine aD rfl ?_
 refine bJ ?_
 refine aV ?_
 refine aX ?_
 refine a8 ?_
 refine aj ?_
 refine ap ?_
 refine ae ?_
 refine aq (am rfl) rfl rfl ?_
 refine aq (ai rfl) rfl rfl ?_
 refine aa ?_
 refine aj ?_
 refine aN ?_
 refine aR (ts := [2]) rfl rfl rfl (fun w hw => ?_)
 have hE : acc = auL l := by rw [hI.2, List.take_of_length_le (by omega)]
 subst hE
 exact ⟨(Aq, cq), rfl, hw.base, (hw.weak (.cons_cons _ (.cons _ .slnil)) (fun s hs => hs)).toNews⟩

set_option maxRecDepth 100000 in
theorem c_EqualFunc (l : List Le) (A : Option Addr) (c : Nat) (l2 : List Le) (A2 : Option Addr) (c2 : Nat) (hok : TbOk l) (hlen : l.length ≤ 1000000000) (hlen2 : l2.length ≤ 1000000000) : RC Tryz.prog 142 #[.slice A l.length c, .slice A2 l2.length c2, .func (.func 137) #[] #[]] [Ch.rd A 7 dF l, Ch.rall (l.flatMap fm), Ch.rd A2 7 dF l2, Ch.rall (l2.flatMap fm)] (α := Unit) (fun _ => .bool (decide (l.map (·.e) = l2.map (·.e)))) (fun _ => []) := by
 refine bK (args := [.slice A l.length c, .slice A2 l2.length c2, .func (.func 137) #[] #[]]) 32 Tryz.func142 rfl rfl rfl (fun w0 => ?_)
 refine ap ?_
 refine ae ?_
 refine aq (ai rfl) rfl rfl ?_
 refine aa ?_
 refine aj ?_
 refine ap ?_
 refine ap ?_
 refine ae ?_
 refine aq (am rfl) rfl rfl ?_
 refine aq (bg Tryz.underlying22 rfl) rfl rfl ?_
 refine aq (am rfl) rfl rfl ?_
 refine aq (bg Tryz.underlying22 rfl) rfl rfl ?_
 refine aq (cO rfl rfl) rfl rfl ?_
 refine ay (t := 14) rfl (fun h1_4 => ?_) (fun h1_4 => ?_)
 refine aa ?_
 refine aj ?_
 refine aA rfl ?_
 refine ap ?_
 refine ae ?_
 refine aq (ai rfl) rfl rfl ?_
 refine aa ?_
 refine aj ?_
 refine aN ?_
 refine ax ?_
 refine aR (ts := [6]) rfl rfl rfl (fun w hw => ?_)
 refine ⟨(), ?_, hw.base, (hw.weak (List.nil_sublist _) (fun s hs => hs)).toNews⟩
 show Ending.returned (.bool _) = _
 congr 2
 focus first
   | (have hlx : ¬ l.length = l2.length := by omega
      rw [decide_eq_false (fun h => hlx (eG h))]
      done)
   | (have hne : ¬ (l.getD k bm).e = (l2.getD k bm).e := by simpa using h7_3
      rw [decide_eq_false (fun h => hne (by rw [dI, dI, h]))]
      done)
   | (have hq : l.map (·.e) = l2.map (·.e) := ia (by omega) (fun q hq => hI.2 q (by omega))
      rw [decide_eq_true hq]
      done)
   | (trace_state; fail)
 refine aa ?_
 refine aj ?_
 refine aD rfl ?_
 refine aQ ?_
 refine aj ?_
 refine ap ?_
 refine ap ?_
 refine ae ?_
 refine aq (am rfl) rfl rfl ?_
 refine aq (bg Tryz.underlying22 rfl) rfl rfl ?_
 refine aq (am rfl) rfl rfl ?_
 refine aa ?_
 refine aj ?_
 refine aS ?_
 refine cC (σ := Nat) [6, 7, 8, 9, 17, 18, 19, 20, 21, 22, 23, 24, 25, 26, 27, 28, 29, 30, 31] (fun k => k ≤ l.length ∧ ∀ q, q < k → (l.getD q bm).e = (l2.getD q bm).e) (fun k => l.length - k) (fun k => [(17, .int .i64 k)]) (0) ?_ ⟨rfl, trivial⟩ (fun k hI => ?_)
 exact ⟨Nat.zero_le _, nofun⟩
 refine ap ?_
 refine ae ?_
 refine aq (bW rfl rfl) rfl rfl ?_
 refine ay (t := 18) rfl (fun h4_0 => ?_) (fun h4_0 => ?_)
 have hk : k < l.length := by omega
 have hb9 := hok.at hk
 refine aa ?_
 refine aj ?_
 refine ap ?_
 refine aA rfl ?_
 refine aQ ?_
 refine aj ?_
 refine ap ?_
 refine aS ?_
 refine ap ?_
 refine ae ?_
 refine aq (am rfl) rfl rfl ?_
 refine aq (bB  Tryz.underlying22 aU rfl rfl (bF 0 rfl) rfl (by omega)) rfl rfl ?_
 refine aq (b6 bp bm aU rfl (bF 0 rfl) (by omega) rfl rfl rfl) rfl rfl ?_
 refine bH aU rfl rfl (fun b1 => ?_)
 refine aq (ai rfl) rfl rfl ?_
 refine aW aU rfl rfl rfl .z rfl rfl rfl rfl ?_
 refine aa ?_
 refine aj ?_
 refine ap ?_
 refine ae ?_
 refine aq (am rfl) rfl rfl ?_
 refine aq (am rfl) rfl rfl ?_
 refine aq (bB  Tryz.underlying22 aU rfl rfl (bF 2 rfl) rfl (by omega)) rfl rfl ?_
 refine aq (b6 bp bm aU rfl (bF 2 rfl) (by omega) rfl rfl rfl) rfl rfl ?_
 refine bH aU rfl rfl (fun b2 => ?_)
 refine aW aU rfl rfl rfl .z rfl rfl rfl rfl ?_
 refine aa ?_
 refine aj ?_
 refine ap ?_
 refine ae ?_
 refine aq (am rfl) rfl rfl ?_
 refine aq (bu 1 aU rfl rfl rfl rfl) rfl rfl ?_
 refine aq (bu 0 aU rfl rfl rfl rfl) rfl rfl ?_
 refine o_callvq rfl rfl rfl ent_137 rfl (jL (l.getD k bm).e (l.getD k bm).A (l.getD k bm).B (l.getD k bm).c (l.getD k bm).d (l2.getD k bm).e (l2.getD k bm).A (l2.getD k bm).B (l2.getD k bm).c (l2.getD k bm).d (by have := hb9.la; omega) (by have := hb9.lp; omega)) (fun w hw => (az (cJ (bo 1 rfl hw) (bM (aZ (by omega : _ < l.length)) _ (hU _))) (az (cJ (bo 1 rfl hw) (bM (aZ (by omega : _ < l.length)) _ (im _))) (az (cJ (bo 3 rfl hw) (bM (aZ (by omega : _ < l2.length)) _ (hU _))) (az (cJ (bo 3 rfl hw) (bM (aZ (by omega : _ < l2.length)) _ (im _))) aY))))) ?_
 refine bN (t := 29) rfl (fun h7_3 => ?_) (fun h7_3 => ?_)
 refine aq (bS rfl) rfl rfl ?_
 refine aa ?_
 refine aj ?_
 refine aD rfl ?_
 refine aQ ?_
 refine bj ?_
 refine aj ?_
 refine ae ?_
 refine aq (br rfl rfl (by omega) (by omega)) rfl rfl ?_
 refine aq (am rfl) rfl rfl ?_
 refine aa ?_
 refine bv (k + 1) ?_ ?_ ⟨rfl, trivial⟩ (by repeat (first | exact trivial | refine ⟨rfl, ?_⟩)) (bq 2)
 refine ⟨by omega, fun q hq => ?_⟩
 by_cases e : q = k
 · rw [e]; simpa using h7_3
 · exact hI.2 q (by omega)
 omega
 refine aq (bS rfl) rfl rfl ?_
 refine aa ?_
 refine aj ?_
 refine aA rfl ?_
 refine ap ?_
 refine ae ?_
 refine aq (ai rfl) rfl rfl ?_
 refine aa ?_
 refine aj ?_
 refine aN ?_
 refine aJ ?_
 refine ax ?_
 refine bh ?_
 refine aJ ?_
 refine ax ?_
 refine aR (ts := [6]) rfl rfl rfl (fun w hw => ?_)
 refine ⟨(), ?_, hw.base, (hw.weak (List.nil_sublist _) (fun s hs => hs)).toNews⟩
 show Ending.returned (.bool _) = _
 congr 2
 focus first
   | (have hlx : ¬ l.length = l2.length := by omega
      rw [decide_eq_false (fun h => hlx (eG h))]
      done)
   | (have hne : ¬ (l.getD k bm).e = (l2.getD k bm).e := by simpa using h7_3
      rw [decide_eq_false (fun h => hne (by rw [dI, dI, h]))]
      done)
   | (have hq : l.map (·.e) = l2.map (·.e) := ia (by omega) (fun q hq => hI.2 q (by omega))
      rw [decide_eq_true hq]
      done)
   | (trace_state; fail)
 refine aa ?_
 refine aj ?_
 refine ap ?_
 refine aD rfl ?_
 refine bJ ?_
 refine aV ?_
 refine aX ?_
 refine a8 ?_
 refine aj ?_
 refine ap ?_
 refine ae ?_
 refine aq (ai rfl) rfl rfl ?_
 refine aa ?_
 refine aj ?_
 refine aN ?_
 refine aR (ts := [6]) rfl rfl rfl (fun w hw => ?_)
 refine ⟨(), ?_, hw.base, (hw.weak (List.nil_sublist _) (fun s hs => hs)).toNews⟩
 show Ending.returned (.bool _) = _
 congr 2
 focus first
   | (have hlx : ¬ l.length = l2.length := by omega
      rw [decide_eq_false (fun h => hlx (eG h))]
      done)
   | (have hne : ¬ (l.getD k bm).e = (l2.getD k bm).e := by simpa using h7_3
      rw [decide_eq_false (fun h => hne (by rw [dI, dI, h]))]
      done)
   | (have hq : l.map (·.e) = l2.map (·.e) := ia (by omega) (fun q hq => hI.2 q (by omega))
      rw [decide_eq_true hq]
      done)
   | (trace_state; fail)

theorem c_tSame (v : Int) (l : List Le) (A : Option Addr) (c : Nat) (v2 : Int) (l2 : List Le) (A2 : Option Addr) (c2 : Nat) (hok : TbOk l) (hlen : l.length ≤ 1000000000) (hlen2 : l2.length ≤ 1000000000) : RC Tryz.prog 65 #[.agg (eE v A l.length c).toArray, .agg (eE v2 A2 l2.length c2).toArray] [Ch.rd A 7 dF l, Ch.rall (l.flatMap fm), Ch.rd A2 7 dF l2, Ch.rall (l2.flatMap fm)] (α := Unit) (fun _ => .bool (decide (v = v2 ∧ l.map (·.e) = l2.map (·.e)))) (fun _ => []) := by
 refine bK (args := [.agg (eE v A l.length c).toArray, .agg (eE v2 A2 l2.length c2).toArray]) 17 Tryz.func65 rfl rfl rfl (fun w0 => ?_)
 refine ap ?_
 refine ae ?_
 refine cL rfl rfl rfl (fun b1 => ?_)
 refine cL rfl rfl rfl (fun b2 => ?_)
 refine aq (ai rfl) rfl rfl ?_
 refine aa ?_
 refine aj ?_
 refine ap ?_
 refine ae ?_
 refine aq (aB dZ rfl) rfl rfl ?_
 refine aq (aC 1 cX rfl rfl rfl) rfl rfl ?_
 refine aq (aB dZ rfl) rfl rfl ?_
 refine aq (aC 0 cX rfl rfl rfl) rfl rfl ?_
 refine aq (cY rfl rfl) rfl rfl ?_
 refine ay (t := 9) rfl (fun h1_4 => ?_) (fun h1_4 => ?_)
 refine aq (am rfl) rfl rfl ?_
 refine au rfl rfl ?_
 refine aq (aB bX rfl) rfl rfl ?_
 refine au rfl rfl ?_
 refine aq (aC 1 bz rfl rfl rfl) rfl rfl ?_
 refine au rfl rfl ?_
 refine aq (aB bX rfl) rfl rfl ?_
 refine au rfl rfl ?_
 refine aq (aC 0 bz rfl rfl rfl) rfl rfl ?_
 refine au rfl rfl ?_
 refine bA rfl ent_142 rfl (c_EqualFunc l _ _ l2 _ _ hok hlen hlen2) (fun w hw => (az (bo 0 rfl hw) (az (bo 1 rfl hw) (az (bo 2 rfl hw) (az (bo 3 rfl hw) aY))))) ?_
 refine aq (aH rfl rfl) rfl rfl ?_
 refine aq (ai rfl) rfl rfl ?_
 refine aa ?_
 refine aj ?_
 refine aN ?_
 refine aR (ts := [4]) rfl rfl rfl (fun w hw => ?_)
 refine ⟨(), ?_, hw.base, (hw.weak (List.nil_sublist _) (fun s hs => hs)).toNews⟩
 show Ending.returned (.bool _) = _
 congr 2
 focus first
   | (rw [decide_eq_decide]
      exact ⟨fun h => ⟨by omega, h⟩, fun h => h.2⟩)
   | (rw [decide_eq_false (fun h => by omega)]
      done)
   | (trace_state; fail)
 refine aq (am rfl) rfl rfl ?_
 refine ar rfl rfl rfl rfl ?_
 refine ar rfl rfl rfl rfl ?_
 refine ar rfl rfl rfl rfl ?_
 refine ar rfl rfl rfl rfl ?_
 refine ar rfl rfl rfl rfl ?_
 refine aq (aF rfl rfl) rfl rfl ?_
 refine aq (ai rfl) rfl rfl ?_
 refine aa ?_
 refine aj ?_
 refine aN ?_
 refine aR (ts := [4]) rfl rfl rfl (fun w hw => ?_)
 refine ⟨(), ?_, hw.base, (hw.weak (List.nil_sublist _) (fun s hs => hs)).toNews⟩
 show Ending.returned (.bool _) = _
 congr 2
 focus first
   | (rw [decide_eq_decide]
      exact ⟨fun h => ⟨by omega, h⟩, fun h => h.2⟩)
   | (rw [decide_eq_false (fun h => by omega)]
      done)
   | (trace_state; fail)

set_option maxRecDepth 100000 in
theorem g6 (v : Int) (l : List Le) (A : Option Addr) (c : Nat) (v2 : Int) (l2 : List Le) (A2 : Option Addr) (c2 : Nat) (hok : TbOk l) (hlen : l.length ≤ 1000000000) (hlen2 : l2.length ≤ 1000000000) : RC Tryz.prog 29 #[.agg (eE v A l.length c).toArray, .agg (eE v2 A2 l2.length c2).toArray] [Ch.rd A 7 dF l, Ch.rall (l.flatMap fm), Ch.rd A2 7 dF l2, Ch.rall (l2.flatMap fm)] (α := Unit) (fun _ => .bool (decide (v = v2 ∧ l.map (·.e) = l2.map (·.e)))) (fun _ => []) := by
 refine bK (args := [.agg (eE v A l.length c).toArray, .agg (eE v2 A2 l2.length c2).toArray]) 39 Tryz.func29 rfl rfl rfl (fun w0 => ?_)
 refine ap ?_
 refine ae ?_
 refine cL rfl rfl rfl (fun b1 => ?_)
 refine cL rfl rfl rfl (fun b2 => ?_)
 refine aq (ai rfl) rfl rfl ?_
 refine aa ?_
 refine aj ?_
 refine ap ?_
 refine ap ?_
 refine ae ?_
 refine aq (aB dZ rfl) rfl rfl ?_
 refine aq (aC 1 cX rfl rfl rfl) rfl rfl ?_
 refine aq (aB dZ rfl) rfl rfl ?_
 refine aq (aC 0 cX rfl rfl rfl) rfl rfl ?_
 refine aq (cO rfl rfl) rfl rfl ?_
 refine ay (t := 10) rfl (fun h1_4 => ?_) (fun h1_4 => ?_)
 refine aq (am rfl) rfl rfl ?_
 refine ar rfl rfl rfl rfl ?_
 refine ar rfl rfl rfl rfl ?_
 refine ar rfl rfl rfl rfl ?_
 refine ar rfl rfl rfl rfl ?_
 refine ar rfl rfl rfl rfl ?_
 refine ar rfl rfl rfl rfl ?_
 refine ar rfl rfl rfl rfl ?_
 refine aq (aH rfl rfl) rfl rfl ?_
 refine aa ?_
 refine aj ?_
 refine aA rfl ?_
 refine ap ?_
 refine ae ?_
 refine aq (ai rfl) rfl rfl ?_
 refine aa ?_
 refine aj ?_
 refine aN ?_
 refine ax ?_
 refine aR (ts := [4]) rfl rfl rfl (fun w hw => ?_)
 refine ⟨(), ?_, hw.base, (hw.weak (List.nil_sublist _) (fun s hs => hs)).toNews⟩
 show Ending.returned (.bool _) = _
 congr 2
 focus first
   | (rw [decide_eq_false (fun h => h1_4 h.1)]
      done)
   | (have hlx : ¬ l.length = l2.length := by omega
      rw [decide_eq_false (fun h => hlx (eG h.2))]
      done)
   | (have hne : ¬ (l.getD k bm).e = (l2.getD k bm).e := by simpa using h6_10
      rw [decide_eq_false (fun h => hne (by rw [dI, dI, h.2]))]
      done)
   | (have hq : l.map (·.e) = l2.map (·.e) := ia (by omega) (fun q hq => hI.2 q (by omega))
      rw [decide_eq_true ⟨by omega, hq⟩]
      done)
   | (trace_state; fail)
 refine aq (am rfl) rfl rfl ?_
 refine au rfl rfl ?_
 refine aq (aB bX rfl) rfl rfl ?_
 refine au rfl rfl ?_
 refine aq (aC 1 bz rfl rfl rfl) rfl rfl ?_
 refine au rfl rfl ?_
 refine aq (bg Tryz.underlying22 rfl) rfl rfl ?_
 refine au rfl rfl ?_
 refine aq (aB bX rfl) rfl rfl ?_
 refine au rfl rfl ?_
 refine aq (aC 0 bz rfl rfl rfl) rfl rfl ?_
 refine au rfl rfl ?_
 refine aq (bg Tryz.underlying22 rfl) rfl rfl ?_
 refine au rfl rfl ?_
 refine aq (cO rfl rfl) rfl rfl ?_
 refine ay (t := 18) rfl (fun h1_12 => ?_) (fun h1_12 => ?_)
 refine aq (aF rfl rfl) rfl rfl ?_
 refine aa ?_
 refine aj ?_
 refine aA rfl ?_
 refine ap ?_
 refine ae ?_
 refine aq (ai rfl) rfl rfl ?_
 refine aa ?_
 refine aj ?_
 refine aN ?_
 refine ax ?_
 refine aR (ts := [4]) rfl rfl rfl (fun w hw => ?_)
 refine ⟨(), ?_, hw.base, (hw.weak (List.nil_sublist _) (fun s hs => hs)).toNews⟩
 show Ending.returned (.bool _) = _
 congr 2
 focus first
   | (rw [decide_eq_false (fun h => h1_4 h.1)]
      done)
   | (have hlx : ¬ l.length = l2.length := by omega
      rw [decide_eq_false (fun h => hlx (eG h.2))]
      done)
   | (have hne : ¬ (l.getD k bm).e = (l2.getD k bm).e := by simpa using h6_10
      rw [decide_eq_false (fun h => hne (by rw [dI, dI, h.2]))]
      done)
   | (have hq : l.map (·.e) = l2.map (·.e) := ia (by omega) (fun q hq => hI.2 q (by omega))
      rw [decide_eq_true ⟨by omega, hq⟩]
      done)
   | (trace_state; fail)
 refine aq (aF rfl rfl) rfl rfl ?_
 refine aa ?_
 refine aj ?_
 refine aD rfl ?_
 refine aQ ?_
 refine aj ?_
 refine ap ?_
 refine ap ?_
 refine ae ?_
 refine aq (ai rfl) rfl rfl ?_
 refine aa ?_
 refine aj ?_
 refine aS ?_
 refine cC (σ := Nat) [4, 5, 20, 21, 22, 23, 24, 25, 26, 27, 28, 29, 30, 31, 32, 33, 34, 35, 36, 37, 38] (fun k => k ≤ l.length ∧ ∀ q, q < k → (l.getD q bm).e = (l2.getD q bm).e) (fun k => l.length - k) (fun k => [(5, .int .i64 k)]) (0) ?_ ⟨rfl, trivial⟩ (fun k hI => ?_)
 exact ⟨Nat.zero_le _, nofun⟩
 refine ap ?_
 refine ap ?_
 refine ae ?_
 refine aq (am rfl) rfl rfl ?_
 refine aq (aB bX rfl) rfl rfl ?_
 refine aq (aC 1 bz rfl rfl rfl) rfl rfl ?_
 refine aq (bg Tryz.underlying22 rfl) rfl rfl ?_
 refine aq (bW rfl rfl) rfl rfl ?_
 refine ay (t := 24) rfl (fun h4_4 => ?_) (fun h4_4 => ?_)
 have hk : k < l.length := by omega
 have hb9 := hok.at hk
 refine aa ?_
 refine aj ?_
 refine aA rfl ?_
 refine aQ ?_
 refine aj ?_
 refine ap ?_
 refine aS ?_
 refine ap ?_
 refine dQ 12 rfl mixed ?_
 refine aK (i := 0) rfl ak (aB bX rfl) aG aG rfl (ah (ao (ah (av (ao (ah aw)))))) (by kernel_rfl) rfl ?_
 refine aK (i := 1) rfl ak (aC 1 bz rfl rfl rfl) aG aG rfl (ah (ao (ah (av (ao (ah aw)))))) (by kernel_rfl) rfl ?_
 refine aK (i := 2) rfl ak (am rfl) aG aG rfl (ah (ao (ah (av (ao (ah aw)))))) (by kernel_rfl) rfl ?_
 refine aK (i := 3) rfl ak (bB  Tryz.underlying22 aU rfl rfl (bF 0 rfl) rfl (by omega)) aG aG rfl (ah (ao (ah (av (ao (ah aw)))))) (by kernel_rfl) rfl ?_
 refine aK (i := 4) rfl ak (b6 bp bm aU rfl (bF 0 rfl) (by omega) rfl rfl rfl) aG aG rfl (ah (ao (ah (av (ao (ah aw)))))) (by kernel_rfl) rfl ?_
 refine aK (i := 5) rfl ak (aB bX rfl) aG aG rfl (ah (ao (ah (av (ao (ah aw)))))) (by kernel_rfl) rfl ?_
 refine aK (i := 6) rfl ak (aC 0 bz rfl rfl rfl) aG aG rfl (ah (ao (ah (av (ao (ah aw)))))) (by kernel_rfl) rfl ?_
 refine aK (i := 7) rfl ak (am rfl) aG aG rfl (ah (ao (ah (av (ao (ah aw)))))) (by kernel_rfl) rfl ?_
 refine aK (i := 8) rfl ak (bB  Tryz.underlying22 aU rfl rfl (bF 2 rfl) rfl (by omega)) aG aG rfl (ah (ao (ah (av (ao (ah aw)))))) (by kernel_rfl) rfl ?_
 refine aK (i := 9) rfl ak (b6 bp bm aU rfl (bF 2 rfl) (by omega) rfl rfl rfl) aG aG rfl (ah (ao (ah (av (ao (ah aw)))))) (by kernel_rfl) rfl ?_
 refine dG (i := 10) rfl rfl rfl (bf rfl ent_22) (by kernel_rfl) rfl ?_
 refine bA rfl ent_22 rfl (hZ (l.getD k bm).e (l.getD k bm).A (l.getD k bm).B (l.getD k bm).c (l.getD k bm).d (l2.getD k bm).e (l2.getD k bm).A (l2.getD k bm).B (l2.getD k bm).c (l2.getD k bm).d (by have := hb9.la; omega) (by have := hb9.lp; omega)) (fun w hw => (az (cJ (bo 1 rfl hw) (bM (aZ (by omega : _ < l.length)) _ (hU _))) (az (cJ (bo 1 rfl hw) (bM (aZ (by omega : _ < l.length)) _ (im _))) (az (cJ (bo 3 rfl hw) (bM (aZ (by omega : _ < l2.length)) _ (hU _))) (az (cJ (bo 3 rfl hw) (bM (aZ (by omega : _ < l2.length)) _ (im _))) aY))))) ?_
 refine aa ?_
 refine eO aG ?_
 refine wa_splitb (t := 37) rfl (fun h6_10 => ?_) (fun h6_10 => ?_)
 refine aK (i := 11) rfl ak (bS rfl) aG aG rfl (ah (ao (ah (av (ao (ah aw)))))) (by kernel_rfl) rfl ?_
 refine cF (by kernel_rfl) ?_
 refine aj ?_
 refine aD rfl ?_
 refine aQ ?_
 refine bj ?_
 refine aj ?_
 refine ae ?_
 refine aq (am rfl) rfl rfl ?_
 refine aq (br rfl rfl (by omega) (by omega)) rfl rfl ?_
 refine aq (ai rfl) rfl rfl ?_
 refine aa ?_
 refine bv (k + 1) ?_ ?_ ⟨rfl, trivial⟩ (by repeat (first | exact trivial | refine ⟨rfl, ?_⟩)) aG
 refine ⟨by omega, fun q hq => ?_⟩
 by_cases e : q = k
 · rw [e]; simpa using h6_10
 · exact hI.2 q (by omega)
 omega
 refine aK (i := 11) rfl ak (bS rfl) aG aG rfl (ah (ao (ah (av (ao (ah aw)))))) (by kernel_rfl) rfl ?_
 refine cF (by kernel_rfl) ?_
 refine aj ?_
 refine aA rfl ?_
 refine ap ?_
 refine ae ?_
 refine aq (ai rfl) rfl rfl ?_
 refine aa ?_
 refine aj ?_
 refine aN ?_
 refine aJ ?_
 refine ax ?_
 refine bh ?_
 refine aJ ?_
 refine ax ?_
 refine aR (ts := [4]) rfl rfl rfl (fun w hw => ?_)
 refine ⟨(), ?_, hw.base, (hw.weak (List.nil_sublist _) (fun s hs => hs)).toNews⟩
 show Ending.returned (.bool _) = _
 congr 2
 focus first
   | (rw [decide_eq_false (fun h => h1_4 h.1)]
      done)
   | (have hlx : ¬ l.length = l2.length := by omega
      rw [decide_eq_false (fun h => hlx (eG h.2))]
      done)
   | (have hne : ¬ (l.getD k bm).e = (l2.getD k bm).e := by simpa using h6_10
      rw [decide_eq_false (fun h => hne (by rw [dI, dI, h.2]))]
      done)
   | (have hq : l.map (·.e) = l2.map (·.e) := ia (by omega) (fun q hq => hI.2 q (by omega))
      rw [decide_eq_true ⟨by omega, hq⟩]
      done)
   | (trace_state; fail)
 refine aa ?_
 refine aj ?_
 refine aD rfl ?_
 refine bJ ?_
 refine aV ?_
 refine aX ?_
 refine a8 ?_
 refine aj ?_
 refine ap ?_
 refine ae ?_
 refine aq (ai rfl) rfl rfl ?_
 refine aa ?_
 refine aj ?_
 refine aN ?_
 refine aR (ts := [4]) rfl rfl rfl (fun w hw => ?_)
 refine ⟨(), ?_, hw.base, (hw.weak (List.nil_sublist _) (fun s hs => hs)).toNews⟩
 show Ending.returned (.bool _) = _
 congr 2
 focus first
   | (rw [decide_eq_false (fun h => h1_4 h.1)]
      done)
   | (have hlx : ¬ l.length = l2.length := by omega
      rw [decide_eq_false (fun h => hlx (eG h.2))]
      done)
   | (have hne : ¬ (l.getD k bm).e = (l2.getD k bm).e := by simpa using h6_10
      rw [decide_eq_false (fun h => hne (by rw [dI, dI, h.2]))]
      done)
   | (have hq : l.map (·.e) = l2.map (·.e) := ia (by omega) (fun q hq => hI.2 q (by omega))
      rw [decide_eq_true ⟨by omega, hq⟩]
      done)
   | (trace_state; fail)

theorem c_LightPush (full : Bool) (bs ver : Int) (put : List Le) (P : Option Addr) (pc : Nat) (drop : List a6) (D : Option Addr) (dc : Nat) (m : Int) (hl : put.length ≤ 9223372036854775807) (hd : drop.length ≤ 9223372036854775807) : RC Tryz.prog 54 #[.agg (er full bs ver P put.length pc D drop.length dc).toArray, .int .i64 m] [Ch.rd P 7 dF put, Ch.rd D 1 dD drop] (α := Unit) (fun _ => .bool (f7 put m && iM drop m)) (fun _ => []) := by
 refine bK (args := [.agg (er full bs ver P put.length pc D drop.length dc).toArray, .int .i64 m]) 15 Tryz.func54 rfl rfl rfl (fun w0 => ?_)
 refine ap ?_
 refine ae ?_
 refine cL rfl rfl rfl (fun b1 => ?_)
 refine aq (ai rfl) rfl rfl ?_
 refine aa ?_
 refine aj ?_
 refine ap ?_
 refine ae ?_
 refine aq (aB cE rfl) rfl rfl ?_
 refine aq (aC 0 bz rfl rfl rfl) rfl rfl ?_
 refine aq (am rfl) rfl rfl ?_
 refine bA rfl ent_10 rfl (iJ _ _ _ _ (by omega)) (fun w hw => (az (bo 0 rfl hw) aY)) ?_
 refine bN (t := 8) rfl (fun h1_3 => ?_) (fun h1_3 => ?_)
 refine aq (am rfl) rfl rfl ?_
 refine au rfl rfl ?_
 refine aq (aB cP rfl) rfl rfl ?_
 refine au rfl rfl ?_
 refine aq (aC 0 ew rfl rfl rfl) rfl rfl ?_
 refine au rfl rfl ?_
 refine aq (am rfl) rfl rfl ?_
 refine au rfl rfl ?_
 refine bA rfl ent_123 rfl (c_LightNames _ _ _ _ (by omega)) (fun w hw => (az (bo 1 rfl hw) aY)) ?_
 refine aq (aH rfl rfl) rfl rfl ?_
 refine aq (ai rfl) rfl rfl ?_
 refine aa ?_
 refine aj ?_
 refine aN ?_
 refine aR (ts := [4]) rfl rfl rfl (fun w hw => ?_)
 exact ⟨(), by rw [h1_3]; rfl, hw.base, (hw.weak (List.nil_sublist _) (fun s hs => hs)).toNews⟩
 refine aq (am rfl) rfl rfl ?_
 refine ar rfl rfl rfl rfl ?_
 refine ar rfl rfl rfl rfl ?_
 refine ar rfl rfl rfl rfl ?_
 refine ar rfl rfl rfl rfl ?_
 refine aq (aF rfl rfl) rfl rfl ?_
 refine aq (ai rfl) rfl rfl ?_
 refine aa ?_
 refine aj ?_
 refine aN ?_
 refine aR (ts := [4]) rfl rfl rfl (fun w hw => ?_)
 exact ⟨(), by rw [h1_3]; rfl, hw.base, (hw.weak (List.nil_sublist _) (fun s hs => hs)).toNews⟩

set_option maxRecDepth 100000 in
set_option maxHeartbeats 1000000 in
theorem c_OwnTable (v : Int) (l : List Le) (A : Option Addr) (c : Nat) (hok : TbOk l) (hlen : l.length ≤ 1000000) : RC Tryz.prog 14 #[.agg (eE v A l.length c).toArray] [Ch.rd A 7 dF l, Ch.rall (l.flatMap fm)] (α := {o : List Le × Option Addr × Nat // o.1.map (·.e) = l.map (·.e)}) (fun o => .agg (eE v o.1.2.1 o.1.1.length o.1.2.2).toArray) (fun o => [Ch.rall (o.1.1.flatMap fm), Ch.ls o.1.2.1 o.1.2.2 34 7 dF o.1.1]) := by
 refine bK (args := [.agg (eE v A l.length c).toArray]) 24 Tryz.func14 rfl rfl rfl (fun w0 => ?_)
 refine ap ?_
 refine ae ?_
 refine cL rfl rfl rfl (fun b1 => ?_)
 refine bH bw rfl rfl (fun b2 => ?_)
 refine aa ?_
 refine aj ?_
 refine ap ?_
 refine ae ?_
 refine aq (ai rfl) rfl rfl ?_
 refine aa ?_
 refine aj ?_
 refine ap ?_
 refine ap ?_
 refine ae ?_
 refine aq (ai rfl) rfl rfl ?_
 refine aa ?_
 refine aj ?_
 refine aS ?_
 refine cz (fun w h => h.nilsl 34 7) ?_
 refine cz (fun w h => h.rall0) ?_
 refine w_loopL (σ := Nat × List Le × Option Addr × Nat) [3, 4, 5, 6, 7, 8, 9, 10, 11, 12, 13, 14, 15, 16, 17, 18, 19, 20] (fun q => q.1 ≤ l.length ∧ q.2.1.map (·.e) = (l.take q.1).map (·.e)) (fun q => l.length - q.1) (fun q => [(4, .int .i64 q.1), (3, .slice q.2.2.1 q.2.1.length q.2.2.2)]) (fun q => [Ch.rall (q.2.1.flatMap fm), Ch.ls q.2.2.1 q.2.2.2 34 7 dF q.2.1]) ((0, [], none, 0)) ?_ ⟨rfl, rfl, trivial⟩ rfl (fun q hI => ?_)
 exact ⟨Nat.zero_le _, rfl⟩
 obtain ⟨k, lo, Ax, cx⟩ := q
 dsimp only at hI ⊢
 refine ap ?_
 refine ap ?_
 refine ae ?_
 refine aq (am rfl) rfl rfl ?_
 refine aq (aB bX rfl) rfl rfl ?_
 refine aq (aC 3 bz rfl rfl rfl) rfl rfl ?_
 refine aq (bg Tryz.underlying22 rfl) rfl rfl ?_
 refine aq (bW rfl rfl) rfl rfl ?_
 refine ay (t := 9) rfl (fun h3_4 => ?_) (fun h3_4 => ?_)
 have hk : k < l.length := by omega
 have hb9 := hok.at hk
 have hlc := take_len_eq17 hI.2
 refine aa ?_
 refine aj ?_
 refine aA rfl ?_
 refine aQ ?_
 refine aj ?_
 refine ap ?_
 refine aS ?_
 refine ae ?_
 refine aq (am rfl) rfl rfl ?_
 refine aq (aB bX rfl) rfl rfl ?_
 refine aq (aC 3 bz rfl rfl rfl) rfl rfl ?_
 refine aq (am rfl) rfl rfl ?_
 refine aq (bB  Tryz.underlying22 aU rfl rfl (bF 0 rfl) rfl (by omega)) rfl rfl ?_
 refine aq (b6 bp bm aU rfl (bF 0 rfl) (by omega) rfl rfl rfl) rfl rfl ?_
 refine bU rfl ent_78 rfl (c_OwnEntry (l.getD k bm).e (l.getD k bm).A (l.getD k bm).B (l.getD k bm).c (l.getD k bm).d (by have := hb9.la; omega) (by have := hb9.lp; omega)) (fun w hw => (az (cJ (bo 1 rfl hw) (bM (aZ (by omega)) _ (hU _))) (az (cJ (bo 1 rfl hw) (bM (aZ (by omega)) _ (im _))) aY))) (fun ⟨A2, c2, B2, d2⟩ => ?_)
 refine bY (vs := [_]) ([(⟨(l.getD k bm).e, A2, c2, B2, d2⟩ : Le)] : List (Le)) bp Tryz.underlying22 aU rfl rfl rfl rfl rfl rfl (fun As4 => ?_)
 refine cv (enc := dF) (sz := 7) [(⟨(l.getD k bm).e, A2, c2, B2, d2⟩ : Le)] Tryz.underlying22 aU rfl rfl rfl (fun A c => (.s (.s (.s (.s (.z)))))) (d5 0 Tryz.underlying22 rfl) (by simp only [List.length_cons, List.length_nil, Nat.zero_add]; omega) (by simp only [List.length_cons, List.length_nil, Nat.zero_add]; omega) rfl (fun A4 c4 => ?_)
 refine aq (ai rfl) rfl rfl ?_
 refine aa ?_
 refine bj ?_
 refine aj ?_
 refine ae ?_
 refine aq (am rfl) rfl rfl ?_
 refine aq (br rfl rfl (by omega) (by omega)) rfl rfl ?_
 refine aq (ai rfl) rfl rfl ?_
 refine aa ?_
 refine bv ((k + 1, lo ++ [(⟨(l.getD k bm).e, A2, c2, B2, d2⟩ : Le)], A4, c4)) ?_ ?_ ⟨rfl, rfl, trivial⟩ (by repeat (first | exact trivial | refine ⟨rfl, ?_⟩)) (fun w h => by
 have h2 := (h.weak (.cons _ (.cons_cons _ (.cons_cons _ (List.Sublist.refl _)))) (fun s hs => hs)).intoE
 show Hp _ _ (Ch.rall ((lo ++ [_]).flatMap fm) :: _) _ _
 rw [List.flatMap_append, List.flatMap_singleton]
 exact h2)
 exact ⟨by show k + 1 ≤ _; omega, by show (lo ++ [_]).map _ = (l.take (k + 1)).map _; rw [List.map_append, hI.2, dh l bm k hk, List.map_append]; rfl⟩
 show l.length - (k + 1) < l.length - k
 omega
 refine aa ?_
 refine aj ?_
 refine aD rfl ?_
 refine bJ ?_
 refine aV ?_
 refine aX ?_
 refine a8 ?_
 refine aj ?_
 refine ap ?_
 refine ae ?_
 refine aq (am rfl) rfl rfl ?_
 refine aq (aB bX rfl) rfl rfl ?_
 refine aW bz rfl rfl rfl (.s (.s (.s (.z)))) rfl rfl rfl rfl ?_
 refine aa ?_
 refine aj ?_
 refine ap ?_
 refine ae ?_
 refine aq (bu 3 bw rfl rfl rfl rfl) rfl rfl ?_
 refine aW bw rfl rfl rfl (.s (.s (.z))) rfl rfl rfl rfl ?_
 refine aa ?_
 refine aj ?_
 refine aN ?_
 refine dP (rs := [.cell 2 24]) rfl (bQ 2 bw rfl rfl rfl rfl cG) rfl (fun w hw => ?_)
 have hE : lo.map (·.e) = l.map (·.e) := by rw [hI.2, List.take_of_length_le (by omega)]
 exact ⟨⟨(lo, Ax, cx), hE⟩, rfl, hw.base, (hw.weak (.cons_cons _ (.cons_cons _ (.cons _ (.cons _ .slnil)))) (fun s hs => hs)).toNews⟩
end Go.Proofs.YtnpdgmoeoidppaaGreat
