import Derived.Test.YtnpdgmoeoidppaaUdQb
/- tables: found, told apart, the same; what is light, what is of its own -/
namespace Go.Proofs.Ytnpdgmoeoidppaa
open Go.RowKit Go.Shelf
set_option linter.unusedVariables false
set_option linter.unusedSimpArgs false

theorem bu_44 : Try.prog.built 44 [] = some [.string ⟨#[]⟩, .int .i64 0, .string ⟨#[]⟩, .slice none 0 0, .string ⟨#[]⟩, .slice none 0 0, .int .u32 0].toArray := by kernel_rfl
theorem ent_20 : Enters Try.prog 20 := enters_of Try.func20 (by kernel_rfl) rfl
theorem ent_38 : Enters Try.prog 38 := enters_of Try.func38 (by kernel_rfl) rfl
theorem ent_39 : Enters Try.prog 39 := enters_of Try.func39 (by kernel_rfl) rfl
theorem ent_50 : Enters Try.prog 50 := enters_of Try.func50 (by kernel_rfl) rfl
theorem ent_51 : Enters Try.prog 51 := enters_of Try.func51 (by kernel_rfl) rfl
theorem ent_52 : Enters Try.prog 52 := enters_of Try.func52 (by kernel_rfl) rfl

def lookT (v : Int) (l : List Le) (n : bg) : Option En := if bX v l ≠ 0 ∨ bj n ≠ 0 then none else bQ (l.map (·.e)) (bh n)
theorem lookT_go {v : Int} {l : List Le} {n : bg} (h1 : bX v l = 0) (h2 : bj n = 0) : lookT v l n = bQ (l.map (·.e)) (bh n) := if_neg (fun q => q.elim (fun q => q h1) (fun q => q h2))
theorem take_len_eq17 {l : List Le} {lc : List Le} {k : Nat} (h : lc.map (·.e) = (l.take k).map (·.e)) : lc.length ≤ l.length := by
  have := congrArg List.length h; simp at this; omega
theorem TbOk.eqs {l l' : List Le} (h : TbOk l) (e : l'.map (·.e) = l.map (·.e)) : TbOk l' := fun x hx => by
  have : x.e ∈ l.map (·.e) := by rw [← e]; exact List.mem_map.2 ⟨x, hx, rfl⟩
  obtain ⟨y, hy, e2⟩ := List.mem_map.1 this
  rw [← e2]; exact h y hy
theorem gF {l k : List Le} (h1 : l.length = k.length) (h : ∀ q, q < l.length → (l.getD q bO).e = (k.getD q bO).e) : l.map (·.e) = k.map (·.e) := by
  apply List.ext_getElem
  · simpa using h1
  · intro i hi hj
    have hi2 : i < l.length := by simpa using hi
    have := h i hi2
    rw [List.getD_eq_getElem?_getD, List.getD_eq_getElem?_getD, List.getElem?_eq_getElem hi2, List.getElem?_eq_getElem (by omega)] at this
    rw [List.getElem_map, List.getElem_map]; exact this

set_option maxRecDepth 100000 in
theorem c_tFind (v : Int) (l : List Le) (A : Option Addr) (c : Nat) (n : bg) (hok : TbOk l) (hl : l.length ≤ 1000000) (hnl : n.length ≤ 1000000) : RC Try.prog 18 #[.agg (cU v A l.length c).toArray, .string (ba n)] [Ch.rd A 7 d4 l, Ch.rall (l.flatMap ff)] (α := {r : Option Le // r.map (·.e) = lookT v l n ∧ r.getD bO ∈ bO :: l}) (fun o => .tuple #[.agg (d4 (o.1.getD bO)).toArray, .bool o.1.isSome]) (fun o => []) := by
 refine bZ (args := [.agg (cU v A l.length c).toArray, .string (ba n)]) 32 Try.func18 rfl rfl rfl (fun w0 => ?_)
 refine ar ?_
 refine ah ?_
 refine cT rfl rfl rfl (fun b1 => ?_)
 refine bu a7 rfl rfl (fun b2 => ?_)
 refine ap (ai rfl) rfl rfl ?_
 refine ae ?_
 refine ao ?_
 refine ar ?_
 refine ar ?_
 refine ah ?_
 refine ap (bp 1 aZ rfl rfl rfl rfl) rfl rfl ?_
 refine bi rfl iE rfl (dP _ _ _ _ hok (by omega)) (fun w hw => (ak (bW 0 rfl hw) (ak (bW 1 rfl hw) aO))) ?_
 refine ap (db rfl rfl) rfl rfl ?_
 refine aC (t := 10) rfl (fun h1_2 => ?_) (fun h1_2 => ?_)
 refine ap (am rfl) rfl rfl ?_
 refine aq rfl rfl rfl rfl ?_
 refine aq rfl rfl rfl rfl ?_
 refine aq rfl rfl rfl rfl ?_
 refine ap (aM rfl rfl) rfl rfl ?_
 refine ae ?_
 refine ao ?_
 refine aI rfl ?_
 refine ar ?_
 refine ah ?_
 refine ap (bm rfl (bu_44)) rfl rfl ?_
 refine aS a7 rfl rfl rfl .z rfl rfl rfl rfl ?_
 refine ap (ai rfl) rfl rfl ?_
 refine ae ?_
 refine ao ?_
 refine aV ?_
 refine aB ?_
 refine ig (rs := [.cell 4 44, .tmp 5]) rfl (dn 0 a7 rfl rfl rfl rfl (gy rfl d6)) rfl (fun w hw => ?_)
 exact ⟨⟨none, by rw [lookT, if_pos (by first | exact .inl h1_2 | exact .inr h1_6)]; rfl, .head _⟩, rfl, hw.base, (hw.weak (List.nil_sublist _) (fun s hs => hs)).toNews⟩
 refine ap (am rfl) rfl rfl ?_
 refine aw rfl rfl ?_
 refine ap (am rfl) rfl rfl ?_
 refine aw rfl rfl ?_
 refine bR rfl ent_56 (ek _) rfl ?_
 refine aw rfl rfl ?_
 refine ap (db rfl rfl) rfl rfl ?_
 refine aC (t := 14) rfl (fun h1_6 => ?_) (fun h1_6 => ?_)
 refine ap (aQ rfl rfl) rfl rfl ?_
 refine ae ?_
 refine ao ?_
 refine aI rfl ?_
 refine ar ?_
 refine ah ?_
 refine ap (bm rfl (bu_44)) rfl rfl ?_
 refine aS a7 rfl rfl rfl .z rfl rfl rfl rfl ?_
 refine ap (ai rfl) rfl rfl ?_
 refine ae ?_
 refine ao ?_
 refine aV ?_
 refine aB ?_
 refine ig (rs := [.cell 4 44, .tmp 5]) rfl (dn 0 a7 rfl rfl rfl rfl (gy rfl d6)) rfl (fun w hw => ?_)
 exact ⟨⟨none, by rw [lookT, if_pos (by first | exact .inl h1_2 | exact .inr h1_6)]; rfl, .head _⟩, rfl, hw.base, (hw.weak (List.nil_sublist _) (fun s hs => hs)).toNews⟩
 refine ap (aQ rfl rfl) rfl rfl ?_
 refine ae ?_
 refine ao ?_
 refine aN rfl ?_
 refine bd ?_
 refine ao ?_
 refine ar ?_
 have hT0 : bX v l = 0 := Decidable.not_not.1 h1_2
 have hn0 : bj n = 0 := Decidable.not_not.1 h1_6
 have htb := fq hT0
 have hlh : ∀ x ∈ l, x.e.host.length ≤ 1000000000 := fun x hx => by have := (hok.mem17 hx).h; omega
 refine ah ?_
 refine ap (aF cL rfl) rfl rfl ?_
 refine ap (aG 1 bU rfl rfl rfl) rfl rfl ?_
 refine ap (am rfl) rfl rfl ?_
 refine gV rfl ent_43 rfl (c_tfind l A c n htb (by omega) hn0 (by omega) hlh) (fun w hw => (ak (bW 0 rfl hw) aO)) (fun ⟨fk, hfk⟩ => ?_)
 refine ap (am rfl) rfl rfl ?_
 refine ap (az rfl rfl) rfl rfl ?_
 refine ap (az rfl rfl) rfl rfl ?_
 refine bS (t := 23) rfl (fun h3_6 => ?_) (fun h3_6 => ?_)
 obtain ⟨hfl, hfl2, hfe⟩ := fd_yes htb hn0 h3_6
 refine ap (ai rfl) rfl rfl ?_
 refine ap (ai rfl) rfl rfl ?_
 refine ae ?_
 refine ao ?_
 refine ar ?_
 refine ar ?_
 refine ah ?_
 refine ap (am rfl) rfl rfl ?_
 refine ap (ct rfl) rfl rfl ?_
 refine ae ?_
 refine ao ?_
 refine aN rfl ?_
 refine bd ?_
 refine ao ?_
 refine ar ?_
 refine ah ?_
 refine ap (aF cL rfl) rfl rfl ?_
 refine ap (aG 1 bU rfl rfl rfl) rfl rfl ?_
 refine ap (am rfl) rfl rfl ?_
 refine ap (cj  Try.underlying22 a7 rfl rfl (cD 0 rfl) rfl (by omega)) rfl rfl ?_
 refine ap (cS bl bO a7 rfl (cD 0 rfl) (by omega) rfl rfl rfl) rfl rfl ?_
 refine aS a7 rfl rfl rfl .z rfl rfl rfl rfl ?_
 refine ap (ai rfl) rfl rfl ?_
 refine ae ?_
 refine ao ?_
 refine aV ?_
 refine ig (rs := [.cell 4 44, .tmp 5]) rfl (dn 0 a7 rfl rfl rfl rfl (gy rfl d6)) rfl (fun w hw => ?_)
 exact ⟨⟨some (l.getD fk bO), by rw [lookT_go hT0 hn0, hfl2]; rfl, .tail _ (bE hfl)⟩, rfl, hw.base, (hw.weak (List.nil_sublist _) (fun s hs => hs)).toNews⟩
 refine ap (ai rfl) rfl rfl ?_
 refine ap (ai rfl) rfl rfl ?_
 refine ae ?_
 refine ao ?_
 refine ar ?_
 refine ar ?_
 refine ah ?_
 refine ap (am rfl) rfl rfl ?_
 refine ap (ct rfl) rfl rfl ?_
 refine ae ?_
 refine ao ?_
 refine aI rfl ?_
 refine ar ?_
 refine ah ?_
 refine ap (bm rfl (bu_44)) rfl rfl ?_
 refine aS a7 rfl rfl rfl .z rfl rfl rfl rfl ?_
 refine ap (ai rfl) rfl rfl ?_
 refine ae ?_
 refine ao ?_
 refine aV ?_
 refine aB ?_
 refine ig (rs := [.cell 4 44, .tmp 5]) rfl (dn 0 a7 rfl rfl rfl rfl (gy rfl d6)) rfl (fun w hw => ?_)
 exact ⟨⟨none, by rw [lookT_go hT0 hn0, fd_no htb hn0 hfk h3_6]; rfl, .head _⟩, rfl, hw.base, (hw.weak (List.nil_sublist _) (fun s hs => hs)).toNews⟩

set_option maxRecDepth 100000 in
theorem c_EqualFunc (l : List Le) (A : Option Addr) (c : Nat) (l2 : List Le) (A2 : Option Addr) (c2 : Nat) (hok : TbOk l) (hlen : l.length ≤ 1000000000) (hlen2 : l2.length ≤ 1000000000) : RC Try.prog 50 #[.slice A l.length c, .slice A2 l2.length c2, .func (.func 51) #[] #[]] [Ch.rd A 7 d4 l, Ch.rall (l.flatMap ff), Ch.rd A2 7 d4 l2, Ch.rall (l2.flatMap ff)] (α := Unit) (fun _ => .bool (decide (l.map (·.e) = l2.map (·.e)))) (fun _ => []) := by
 refine bZ (args := [.slice A l.length c, .slice A2 l2.length c2, .func (.func 51) #[] #[]]) 32 Try.func50 rfl rfl rfl (fun w0 => ?_)
 refine ar ?_
 refine ah ?_
 refine ap (ai rfl) rfl rfl ?_
 refine ae ?_
 refine ao ?_
 refine ar ?_
 refine ar ?_
 refine ah ?_
 refine ap (am rfl) rfl rfl ?_
 refine ap (bI Try.underlying22 rfl) rfl rfl ?_
 refine ap (am rfl) rfl rfl ?_
 refine ap (bI Try.underlying22 rfl) rfl rfl ?_
 refine ap (db rfl rfl) rfl rfl ?_
 refine aC (t := 14) rfl (fun h1_4 => ?_) (fun h1_4 => ?_)
 refine ae ?_
 refine ao ?_
 refine aI rfl ?_
 refine ar ?_
 refine ah ?_
 refine ap (ai rfl) rfl rfl ?_
 refine ae ?_
 refine ao ?_
 refine aV ?_
 refine aB ?_
 refine aY (ts := [6]) rfl rfl rfl (fun w hw => ?_)
 refine ⟨(), ?_, hw.base, (hw.weak (List.nil_sublist _) (fun s hs => hs)).toNews⟩
 show Ending.returned (.bool _) = _
 congr 2
 focus first
   | (have hlx : ¬ l.length = l2.length := by omega
      rw [decide_eq_false (fun h => hlx (d7 h))]
      done)
   | (have hne : ¬ (l.getD k bO).e = (l2.getD k bO).e := by simpa using h7_3
      rw [decide_eq_false (fun h => hne (by rw [dq, dq, h]))]
      done)
   | (have hq : l.map (·.e) = l2.map (·.e) := gF (by omega) (fun q hq => hI.2 q (by omega))
      rw [decide_eq_true hq]
      done)
   | (trace_state; fail)
 refine ae ?_
 refine ao ?_
 refine aN rfl ?_
 refine bd ?_
 refine ao ?_
 refine ar ?_
 refine ar ?_
 refine ah ?_
 refine ap (am rfl) rfl rfl ?_
 refine ap (bI Try.underlying22 rfl) rfl rfl ?_
 refine ap (am rfl) rfl rfl ?_
 refine ae ?_
 refine ao ?_
 refine bn ?_
 refine dd (σ := Nat) [6, 7, 8, 9, 17, 18, 19, 20, 21, 22, 23, 24, 25, 26, 27, 28, 29, 30, 31] (fun k => k ≤ l.length ∧ ∀ q, q < k → (l.getD q bO).e = (l2.getD q bO).e) (fun k => l.length - k) (fun k => [(17, .int .i64 k)]) (0) ?_ ⟨rfl, trivial⟩ (fun k hI => ?_)
 exact ⟨Nat.zero_le _, nofun⟩
 refine ar ?_
 refine ah ?_
 refine ap (cV rfl rfl) rfl rfl ?_
 refine aC (t := 18) rfl (fun h4_0 => ?_) (fun h4_0 => ?_)
 have hk : k < l.length := by omega
 have hb9 := hok.at hk
 refine ae ?_
 refine ao ?_
 refine ar ?_
 refine aI rfl ?_
 refine bd ?_
 refine ao ?_
 refine ar ?_
 refine bn ?_
 refine ar ?_
 refine ah ?_
 refine ap (am rfl) rfl rfl ?_
 refine ap (cj  Try.underlying22 a7 rfl rfl (cD 0 rfl) rfl (by omega)) rfl rfl ?_
 refine ap (cS bl bO a7 rfl (cD 0 rfl) (by omega) rfl rfl rfl) rfl rfl ?_
 refine bu a7 rfl rfl (fun b1 => ?_)
 refine ap (ai rfl) rfl rfl ?_
 refine aS a7 rfl rfl rfl .z rfl rfl rfl rfl ?_
 refine ae ?_
 refine ao ?_
 refine ar ?_
 refine ah ?_
 refine ap (am rfl) rfl rfl ?_
 refine ap (am rfl) rfl rfl ?_
 refine ap (cj  Try.underlying22 a7 rfl rfl (cD 2 rfl) rfl (by omega)) rfl rfl ?_
 refine ap (cS bl bO a7 rfl (cD 2 rfl) (by omega) rfl rfl rfl) rfl rfl ?_
 refine bu a7 rfl rfl (fun b2 => ?_)
 refine aS a7 rfl rfl rfl .z rfl rfl rfl rfl ?_
 refine ae ?_
 refine ao ?_
 refine ar ?_
 refine ah ?_
 refine ap (am rfl) rfl rfl ?_
 refine ap (bp 1 a7 rfl rfl rfl rfl) rfl rfl ?_
 refine ap (bp 0 a7 rfl rfl rfl rfl) rfl rfl ?_
 refine o_callvq rfl rfl rfl ent_51 rfl (iH (l.getD k bO).e (l.getD k bO).A (l.getD k bO).B (l.getD k bO).c (l.getD k bO).d (l2.getD k bO).e (l2.getD k bO).A (l2.getD k bO).B (l2.getD k bO).c (l2.getD k bO).d (by have := hb9.la; omega) (by have := hb9.lp; omega)) (fun w hw => (ak (c9 (bW 1 rfl hw) (cg (bE (by omega : _ < l.length)) _ (il _))) (ak (c9 (bW 1 rfl hw) (cg (bE (by omega : _ < l.length)) _ (iv _))) (ak (c9 (bW 3 rfl hw) (cg (bE (by omega : _ < l2.length)) _ (il _))) (ak (c9 (bW 3 rfl hw) (cg (bE (by omega : _ < l2.length)) _ (iv _))) aO))))) ?_
 refine bS (t := 29) rfl (fun h7_3 => ?_) (fun h7_3 => ?_)
 refine ap (ct rfl) rfl rfl ?_
 refine ae ?_
 refine ao ?_
 refine aN rfl ?_
 refine bd ?_
 refine bV ?_
 refine ao ?_
 refine ah ?_
 refine ap (bY rfl rfl (by omega) (by omega)) rfl rfl ?_
 refine ap (am rfl) rfl rfl ?_
 refine ae ?_
 refine cr (k + 1) ?_ ?_ ⟨rfl, trivial⟩ (by repeat (first | exact trivial | refine ⟨rfl, ?_⟩)) (aL 2)
 refine ⟨by omega, fun q hq => ?_⟩
 by_cases e : q = k
 · rw [e]; simpa using h7_3
 · exact hI.2 q (by omega)
 omega
 refine ap (ct rfl) rfl rfl ?_
 refine ae ?_
 refine ao ?_
 refine aI rfl ?_
 refine ar ?_
 refine ah ?_
 refine ap (ai rfl) rfl rfl ?_
 refine ae ?_
 refine ao ?_
 refine aV ?_
 refine aT ?_
 refine aB ?_
 refine bL ?_
 refine aT ?_
 refine aB ?_
 refine aY (ts := [6]) rfl rfl rfl (fun w hw => ?_)
 refine ⟨(), ?_, hw.base, (hw.weak (List.nil_sublist _) (fun s hs => hs)).toNews⟩
 show Ending.returned (.bool _) = _
 congr 2
 focus first
   | (have hlx : ¬ l.length = l2.length := by omega
      rw [decide_eq_false (fun h => hlx (d7 h))]
      done)
   | (have hne : ¬ (l.getD k bO).e = (l2.getD k bO).e := by simpa using h7_3
      rw [decide_eq_false (fun h => hne (by rw [dq, dq, h]))]
      done)
   | (have hq : l.map (·.e) = l2.map (·.e) := gF (by omega) (fun q hq => hI.2 q (by omega))
      rw [decide_eq_true hq]
      done)
   | (trace_state; fail)
 refine ae ?_
 refine ao ?_
 refine ar ?_
 refine aN rfl ?_
 refine cz ?_
 refine br ?_
 refine bC ?_
 refine bK ?_
 refine ao ?_
 refine ar ?_
 refine ah ?_
 refine ap (ai rfl) rfl rfl ?_
 refine ae ?_
 refine ao ?_
 refine aV ?_
 refine aY (ts := [6]) rfl rfl rfl (fun w hw => ?_)
 refine ⟨(), ?_, hw.base, (hw.weak (List.nil_sublist _) (fun s hs => hs)).toNews⟩
 show Ending.returned (.bool _) = _
 congr 2
 focus first
   | (have hlx : ¬ l.length = l2.length := by omega
      rw [decide_eq_false (fun h => hlx (d7 h))]
      done)
   | (have hne : ¬ (l.getD k bO).e = (l2.getD k bO).e := by simpa using h7_3
      rw [decide_eq_false (fun h => hne (by rw [dq, dq, h]))]
      done)
   | (have hq : l.map (·.e) = l2.map (·.e) := gF (by omega) (fun q hq => hI.2 q (by omega))
      rw [decide_eq_true hq]
      done)
   | (trace_state; fail)

theorem gr (v : Int) (l : List Le) (A : Option Addr) (c : Nat) (v2 : Int) (l2 : List Le) (A2 : Option Addr) (c2 : Nat) (hok : TbOk l) (hlen : l.length ≤ 1000000000) (hlen2 : l2.length ≤ 1000000000) : RC Try.prog 14 #[.agg (cU v A l.length c).toArray, .agg (cU v2 A2 l2.length c2).toArray] [Ch.rd A 7 d4 l, Ch.rall (l.flatMap ff), Ch.rd A2 7 d4 l2, Ch.rall (l2.flatMap ff)] (α := Unit) (fun _ => .bool (decide (v = v2 ∧ l.map (·.e) = l2.map (·.e)))) (fun _ => []) := by
 refine bZ (args := [.agg (cU v A l.length c).toArray, .agg (cU v2 A2 l2.length c2).toArray]) 17 Try.func14 rfl rfl rfl (fun w0 => ?_)
 refine ar ?_
 refine ah ?_
 refine cT rfl rfl rfl (fun b1 => ?_)
 refine cT rfl rfl rfl (fun b2 => ?_)
 refine ap (ai rfl) rfl rfl ?_
 refine ae ?_
 refine ao ?_
 refine ar ?_
 refine ah ?_
 refine ap (aF cX rfl) rfl rfl ?_
 refine ap (aG 1 cW rfl rfl rfl) rfl rfl ?_
 refine ap (aF cX rfl) rfl rfl ?_
 refine ap (aG 0 cW rfl rfl rfl) rfl rfl ?_
 refine ap (dg rfl rfl) rfl rfl ?_
 refine aC (t := 9) rfl (fun h1_4 => ?_) (fun h1_4 => ?_)
 refine ap (am rfl) rfl rfl ?_
 refine aw rfl rfl ?_
 refine ap (aF cL rfl) rfl rfl ?_
 refine aw rfl rfl ?_
 refine ap (aG 1 bU rfl rfl rfl) rfl rfl ?_
 refine aw rfl rfl ?_
 refine ap (aF cL rfl) rfl rfl ?_
 refine aw rfl rfl ?_
 refine ap (aG 0 bU rfl rfl rfl) rfl rfl ?_
 refine aw rfl rfl ?_
 refine bi rfl ent_50 rfl (c_EqualFunc l _ _ l2 _ _ hok hlen hlen2) (fun w hw => (ak (bW 0 rfl hw) (ak (bW 1 rfl hw) (ak (bW 2 rfl hw) (ak (bW 3 rfl hw) aO))))) ?_
 refine ap (aM rfl rfl) rfl rfl ?_
 refine ap (ai rfl) rfl rfl ?_
 refine ae ?_
 refine ao ?_
 refine aV ?_
 refine aY (ts := [4]) rfl rfl rfl (fun w hw => ?_)
 refine ⟨(), ?_, hw.base, (hw.weak (List.nil_sublist _) (fun s hs => hs)).toNews⟩
 show Ending.returned (.bool _) = _
 congr 2
 focus first
   | (rw [decide_eq_decide]
      exact ⟨fun h => ⟨by omega, h⟩, fun h => h.2⟩)
   | (rw [decide_eq_false (fun h => by omega)]
      done)
   | (trace_state; fail)
 refine ap (am rfl) rfl rfl ?_
 refine aq rfl rfl rfl rfl ?_
 refine aq rfl rfl rfl rfl ?_
 refine aq rfl rfl rfl rfl ?_
 refine aq rfl rfl rfl rfl ?_
 refine aq rfl rfl rfl rfl ?_
 refine ap (aQ rfl rfl) rfl rfl ?_
 refine ap (ai rfl) rfl rfl ?_
 refine ae ?_
 refine ao ?_
 refine aV ?_
 refine aY (ts := [4]) rfl rfl rfl (fun w hw => ?_)
 refine ⟨(), ?_, hw.base, (hw.weak (List.nil_sublist _) (fun s hs => hs)).toNews⟩
 show Ending.returned (.bool _) = _
 congr 2
 focus first
   | (rw [decide_eq_decide]
      exact ⟨fun h => ⟨by omega, h⟩, fun h => h.2⟩)
   | (rw [decide_eq_false (fun h => by omega)]
      done)
   | (trace_state; fail)

set_option maxRecDepth 100000 in
theorem c_ref17_Same (v : Int) (l : List Le) (A : Option Addr) (c : Nat) (v2 : Int) (l2 : List Le) (A2 : Option Addr) (c2 : Nat) (hok : TbOk l) (hlen : l.length ≤ 1000000000) (hlen2 : l2.length ≤ 1000000000) : RC Try.prog 16 #[.agg (cU v A l.length c).toArray, .agg (cU v2 A2 l2.length c2).toArray] [Ch.rd A 7 d4 l, Ch.rall (l.flatMap ff), Ch.rd A2 7 d4 l2, Ch.rall (l2.flatMap ff)] (α := Unit) (fun _ => .bool (decide (v = v2 ∧ l.map (·.e) = l2.map (·.e)))) (fun _ => []) := by
 refine bZ (args := [.agg (cU v A l.length c).toArray, .agg (cU v2 A2 l2.length c2).toArray]) 39 Try.func16 rfl rfl rfl (fun w0 => ?_)
 refine ar ?_
 refine ah ?_
 refine cT rfl rfl rfl (fun b1 => ?_)
 refine cT rfl rfl rfl (fun b2 => ?_)
 refine ap (ai rfl) rfl rfl ?_
 refine ae ?_
 refine ao ?_
 refine ar ?_
 refine ar ?_
 refine ah ?_
 refine ap (aF cX rfl) rfl rfl ?_
 refine ap (aG 1 cW rfl rfl rfl) rfl rfl ?_
 refine ap (aF cX rfl) rfl rfl ?_
 refine ap (aG 0 cW rfl rfl rfl) rfl rfl ?_
 refine ap (db rfl rfl) rfl rfl ?_
 refine aC (t := 10) rfl (fun h1_4 => ?_) (fun h1_4 => ?_)
 refine ap (am rfl) rfl rfl ?_
 refine aq rfl rfl rfl rfl ?_
 refine aq rfl rfl rfl rfl ?_
 refine aq rfl rfl rfl rfl ?_
 refine aq rfl rfl rfl rfl ?_
 refine aq rfl rfl rfl rfl ?_
 refine aq rfl rfl rfl rfl ?_
 refine aq rfl rfl rfl rfl ?_
 refine ap (aM rfl rfl) rfl rfl ?_
 refine ae ?_
 refine ao ?_
 refine aI rfl ?_
 refine ar ?_
 refine ah ?_
 refine ap (ai rfl) rfl rfl ?_
 refine ae ?_
 refine ao ?_
 refine aV ?_
 refine aB ?_
 refine aY (ts := [4]) rfl rfl rfl (fun w hw => ?_)
 refine ⟨(), ?_, hw.base, (hw.weak (List.nil_sublist _) (fun s hs => hs)).toNews⟩
 show Ending.returned (.bool _) = _
 congr 2
 focus first
   | (rw [decide_eq_false (fun h => h1_4 h.1)]
      done)
   | (have hlx : ¬ l.length = l2.length := by omega
      rw [decide_eq_false (fun h => hlx (d7 h.2))]
      done)
   | (have hne : ¬ (l.getD k bO).e = (l2.getD k bO).e := by simpa using h6_10
      rw [decide_eq_false (fun h => hne (by rw [dq, dq, h.2]))]
      done)
   | (have hq : l.map (·.e) = l2.map (·.e) := gF (by omega) (fun q hq => hI.2 q (by omega))
      rw [decide_eq_true ⟨by omega, hq⟩]
      done)
   | (trace_state; fail)
 refine ap (am rfl) rfl rfl ?_
 refine aw rfl rfl ?_
 refine ap (aF cL rfl) rfl rfl ?_
 refine aw rfl rfl ?_
 refine ap (aG 1 bU rfl rfl rfl) rfl rfl ?_
 refine aw rfl rfl ?_
 refine ap (bI Try.underlying22 rfl) rfl rfl ?_
 refine aw rfl rfl ?_
 refine ap (aF cL rfl) rfl rfl ?_
 refine aw rfl rfl ?_
 refine ap (aG 0 bU rfl rfl rfl) rfl rfl ?_
 refine aw rfl rfl ?_
 refine ap (bI Try.underlying22 rfl) rfl rfl ?_
 refine aw rfl rfl ?_
 refine ap (db rfl rfl) rfl rfl ?_
 refine aC (t := 18) rfl (fun h1_12 => ?_) (fun h1_12 => ?_)
 refine ap (aQ rfl rfl) rfl rfl ?_
 refine ae ?_
 refine ao ?_
 refine aI rfl ?_
 refine ar ?_
 refine ah ?_
 refine ap (ai rfl) rfl rfl ?_
 refine ae ?_
 refine ao ?_
 refine aV ?_
 refine aB ?_
 refine aY (ts := [4]) rfl rfl rfl (fun w hw => ?_)
 refine ⟨(), ?_, hw.base, (hw.weak (List.nil_sublist _) (fun s hs => hs)).toNews⟩
 show Ending.returned (.bool _) = _
 congr 2
 focus first
   | (rw [decide_eq_false (fun h => h1_4 h.1)]
      done)
   | (have hlx : ¬ l.length = l2.length := by omega
      rw [decide_eq_false (fun h => hlx (d7 h.2))]
      done)
   | (have hne : ¬ (l.getD k bO).e = (l2.getD k bO).e := by simpa using h6_10
      rw [decide_eq_false (fun h => hne (by rw [dq, dq, h.2]))]
      done)
   | (have hq : l.map (·.e) = l2.map (·.e) := gF (by omega) (fun q hq => hI.2 q (by omega))
      rw [decide_eq_true ⟨by omega, hq⟩]
      done)
   | (trace_state; fail)
 refine ap (aQ rfl rfl) rfl rfl ?_
 refine ae ?_
 refine ao ?_
 refine aN rfl ?_
 refine bd ?_
 refine ao ?_
 refine ar ?_
 refine ar ?_
 refine ah ?_
 refine ap (ai rfl) rfl rfl ?_
 refine ae ?_
 refine ao ?_
 refine bn ?_
 refine dd (σ := Nat) [4, 5, 20, 21, 22, 23, 24, 25, 26, 27, 28, 29, 30, 31, 32, 33, 34, 35, 36, 37, 38] (fun k => k ≤ l.length ∧ ∀ q, q < k → (l.getD q bO).e = (l2.getD q bO).e) (fun k => l.length - k) (fun k => [(5, .int .i64 k)]) (0) ?_ ⟨rfl, trivial⟩ (fun k hI => ?_)
 exact ⟨Nat.zero_le _, nofun⟩
 refine ar ?_
 refine ar ?_
 refine ah ?_
 refine ap (am rfl) rfl rfl ?_
 refine ap (aF cL rfl) rfl rfl ?_
 refine ap (aG 1 bU rfl rfl rfl) rfl rfl ?_
 refine ap (bI Try.underlying22 rfl) rfl rfl ?_
 refine ap (cV rfl rfl) rfl rfl ?_
 refine aC (t := 24) rfl (fun h4_4 => ?_) (fun h4_4 => ?_)
 have hk : k < l.length := by omega
 have hb9 := hok.at hk
 refine ae ?_
 refine ao ?_
 refine aI rfl ?_
 refine bd ?_
 refine ao ?_
 refine ar ?_
 refine bn ?_
 refine ar ?_
 refine dX 12 rfl mixed ?_
 refine aX (i := 0) rfl aa (aF cL rfl) aD aD rfl (aj (aA (aj (aW (aA (aj av)))))) (by kernel_rfl) rfl ?_
 refine aX (i := 1) rfl aa (aG 1 bU rfl rfl rfl) aD aD rfl (aj (aA (aj (aW (aA (aj av)))))) (by kernel_rfl) rfl ?_
 refine aX (i := 2) rfl aa (am rfl) aD aD rfl (aj (aA (aj (aW (aA (aj av)))))) (by kernel_rfl) rfl ?_
 refine aX (i := 3) rfl aa (cj  Try.underlying22 a7 rfl rfl (cD 0 rfl) rfl (by omega)) aD aD rfl (aj (aA (aj (aW (aA (aj av)))))) (by kernel_rfl) rfl ?_
 refine aX (i := 4) rfl aa (cS bl bO a7 rfl (cD 0 rfl) (by omega) rfl rfl rfl) aD aD rfl (aj (aA (aj (aW (aA (aj av)))))) (by kernel_rfl) rfl ?_
 refine aX (i := 5) rfl aa (aF cL rfl) aD aD rfl (aj (aA (aj (aW (aA (aj av)))))) (by kernel_rfl) rfl ?_
 refine aX (i := 6) rfl aa (aG 0 bU rfl rfl rfl) aD aD rfl (aj (aA (aj (aW (aA (aj av)))))) (by kernel_rfl) rfl ?_
 refine aX (i := 7) rfl aa (am rfl) aD aD rfl (aj (aA (aj (aW (aA (aj av)))))) (by kernel_rfl) rfl ?_
 refine aX (i := 8) rfl aa (cj  Try.underlying22 a7 rfl rfl (cD 2 rfl) rfl (by omega)) aD aD rfl (aj (aA (aj (aW (aA (aj av)))))) (by kernel_rfl) rfl ?_
 refine aX (i := 9) rfl aa (cS bl bO a7 rfl (cD 2 rfl) (by omega) rfl rfl rfl) aD aD rfl (aj (aA (aj (aW (aA (aj av)))))) (by kernel_rfl) rfl ?_
 refine dl (i := 10) rfl rfl rfl (aH rfl ent_20) (by kernel_rfl) rfl ?_
 refine bi rfl ent_20 rfl (gA (l.getD k bO).e (l.getD k bO).A (l.getD k bO).B (l.getD k bO).c (l.getD k bO).d (l2.getD k bO).e (l2.getD k bO).A (l2.getD k bO).B (l2.getD k bO).c (l2.getD k bO).d (by have := hb9.la; omega) (by have := hb9.lp; omega)) (fun w hw => (ak (c9 (bW 1 rfl hw) (cg (bE (by omega : _ < l.length)) _ (il _))) (ak (c9 (bW 1 rfl hw) (cg (bE (by omega : _ < l.length)) _ (iv _))) (ak (c9 (bW 3 rfl hw) (cg (bE (by omega : _ < l2.length)) _ (il _))) (ak (c9 (bW 3 rfl hw) (cg (bE (by omega : _ < l2.length)) _ (iv _))) aO))))) ?_
 refine ae ?_
 refine d8 aD ?_
 refine wa_splitb (t := 37) rfl (fun h6_10 => ?_) (fun h6_10 => ?_)
 refine aX (i := 11) rfl aa (ct rfl) aD aD rfl (aj (aA (aj (aW (aA (aj av)))))) (by kernel_rfl) rfl ?_
 refine dm (by kernel_rfl) ?_
 refine ao ?_
 refine aN rfl ?_
 refine bd ?_
 refine bV ?_
 refine ao ?_
 refine ah ?_
 refine ap (am rfl) rfl rfl ?_
 refine ap (bY rfl rfl (by omega) (by omega)) rfl rfl ?_
 refine ap (ai rfl) rfl rfl ?_
 refine ae ?_
 refine cr (k + 1) ?_ ?_ ⟨rfl, trivial⟩ (by repeat (first | exact trivial | refine ⟨rfl, ?_⟩)) aD
 refine ⟨by omega, fun q hq => ?_⟩
 by_cases e : q = k
 · rw [e]; simpa using h6_10
 · exact hI.2 q (by omega)
 omega
 refine aX (i := 11) rfl aa (ct rfl) aD aD rfl (aj (aA (aj (aW (aA (aj av)))))) (by kernel_rfl) rfl ?_
 refine dm (by kernel_rfl) ?_
 refine ao ?_
 refine aI rfl ?_
 refine ar ?_
 refine ah ?_
 refine ap (ai rfl) rfl rfl ?_
 refine ae ?_
 refine ao ?_
 refine aV ?_
 refine aT ?_
 refine aB ?_
 refine bL ?_
 refine aT ?_
 refine aB ?_
 refine aY (ts := [4]) rfl rfl rfl (fun w hw => ?_)
 refine ⟨(), ?_, hw.base, (hw.weak (List.nil_sublist _) (fun s hs => hs)).toNews⟩
 show Ending.returned (.bool _) = _
 congr 2
 focus first
   | (rw [decide_eq_false (fun h => h1_4 h.1)]
      done)
   | (have hlx : ¬ l.length = l2.length := by omega
      rw [decide_eq_false (fun h => hlx (d7 h.2))]
      done)
   | (have hne : ¬ (l.getD k bO).e = (l2.getD k bO).e := by simpa using h6_10
      rw [decide_eq_false (fun h => hne (by rw [dq, dq, h.2]))]
      done)
   | (have hq : l.map (·.e) = l2.map (·.e) := gF (by omega) (fun q hq => hI.2 q (by omega))
      rw [decide_eq_true ⟨by omega, hq⟩]
      done)
   | (trace_state; fail)
 refine ae ?_
 refine ao ?_
 refine aN rfl ?_
 refine cz ?_
 refine br ?_
 refine bC ?_
 refine bK ?_
 refine ao ?_
 refine ar ?_
 refine ah ?_
 refine ap (ai rfl) rfl rfl ?_
 refine ae ?_
 refine ao ?_
 refine aV ?_
 refine aY (ts := [4]) rfl rfl rfl (fun w hw => ?_)
 refine ⟨(), ?_, hw.base, (hw.weak (List.nil_sublist _) (fun s hs => hs)).toNews⟩
 show Ending.returned (.bool _) = _
 congr 2
 focus first
   | (rw [decide_eq_false (fun h => h1_4 h.1)]
      done)
   | (have hlx : ¬ l.length = l2.length := by omega
      rw [decide_eq_false (fun h => hlx (d7 h.2))]
      done)
   | (have hne : ¬ (l.getD k bO).e = (l2.getD k bO).e := by simpa using h6_10
      rw [decide_eq_false (fun h => hne (by rw [dq, dq, h.2]))]
      done)
   | (have hq : l.map (·.e) = l2.map (·.e) := gF (by omega) (fun q hq => hI.2 q (by omega))
      rw [decide_eq_true ⟨by omega, hq⟩]
      done)
   | (trace_state; fail)

theorem c_LightPush (full : Bool) (bs ver : Int) (put : List Le) (P : Option Addr) (pc : Nat) (drop : List bg) (D : Option Addr) (dc : Nat) (m : Int) (hl : put.length ≤ 9223372036854775807) (hd : drop.length ≤ 9223372036854775807) : RC Try.prog 11 #[.agg (eJ full bs ver P put.length pc D drop.length dc).toArray, .int .i64 m] [Ch.rd P 7 d4 put, Ch.rd D 1 ed drop] (α := Unit) (fun _ => .bool (fu put m && gK drop m)) (fun _ => []) := by
 refine bZ (args := [.agg (eJ full bs ver P put.length pc D drop.length dc).toArray, .int .i64 m]) 15 Try.func11 rfl rfl rfl (fun w0 => ?_)
 refine ar ?_
 refine ah ?_
 refine cT rfl rfl rfl (fun b1 => ?_)
 refine ap (ai rfl) rfl rfl ?_
 refine ae ?_
 refine ao ?_
 refine ar ?_
 refine ah ?_
 refine ap (aF dz rfl) rfl rfl ?_
 refine ap (aG 0 bU rfl rfl rfl) rfl rfl ?_
 refine ap (am rfl) rfl rfl ?_
 refine bi rfl ent_38 rfl (gO _ _ _ _ (by omega)) (fun w hw => (ak (bW 0 rfl hw) aO)) ?_
 refine bS (t := 8) rfl (fun h1_3 => ?_) (fun h1_3 => ?_)
 refine ap (am rfl) rfl rfl ?_
 refine aw rfl rfl ?_
 refine ap (aF ef rfl) rfl rfl ?_
 refine aw rfl rfl ?_
 refine ap (aG 0 fO rfl rfl rfl) rfl rfl ?_
 refine aw rfl rfl ?_
 refine ap (am rfl) rfl rfl ?_
 refine aw rfl rfl ?_
 refine bi rfl ent_39 rfl (c_LightNames _ _ _ _ (by omega)) (fun w hw => (ak (bW 1 rfl hw) aO)) ?_
 refine ap (aM rfl rfl) rfl rfl ?_
 refine ap (ai rfl) rfl rfl ?_
 refine ae ?_
 refine ao ?_
 refine aV ?_
 refine aY (ts := [4]) rfl rfl rfl (fun w hw => ?_)
 exact ⟨(), by rw [h1_3]; rfl, hw.base, (hw.weak (List.nil_sublist _) (fun s hs => hs)).toNews⟩
 refine ap (am rfl) rfl rfl ?_
 refine aq rfl rfl rfl rfl ?_
 refine aq rfl rfl rfl rfl ?_
 refine aq rfl rfl rfl rfl ?_
 refine aq rfl rfl rfl rfl ?_
 refine ap (aQ rfl rfl) rfl rfl ?_
 refine ap (ai rfl) rfl rfl ?_
 refine ae ?_
 refine ao ?_
 refine aV ?_
 refine aY (ts := [4]) rfl rfl rfl (fun w hw => ?_)
 exact ⟨(), by rw [h1_3]; rfl, hw.base, (hw.weak (List.nil_sublist _) (fun s hs => hs)).toNews⟩

set_option maxRecDepth 100000 in
set_option maxHeartbeats 1000000 in
theorem c_OwnTable (v : Int) (l : List Le) (A : Option Addr) (c : Nat) (hok : TbOk l) (hlen : l.length ≤ 1000000) : RC Try.prog 15 #[.agg (cU v A l.length c).toArray] [Ch.rd A 7 d4 l, Ch.rall (l.flatMap ff)] (α := {o : List Le × Option Addr × Nat // o.1.map (·.e) = l.map (·.e)}) (fun o => .agg (cU v o.1.2.1 o.1.1.length o.1.2.2).toArray) (fun o => [Ch.rall (o.1.1.flatMap ff), Ch.ls o.1.2.1 o.1.2.2 44 7 d4 o.1.1]) := by
 refine bZ (args := [.agg (cU v A l.length c).toArray]) 24 Try.func15 rfl rfl rfl (fun w0 => ?_)
 refine ar ?_
 refine ah ?_
 refine cT rfl rfl rfl (fun b1 => ?_)
 refine bu aZ rfl rfl (fun b2 => ?_)
 refine ae ?_
 refine ao ?_
 refine ar ?_
 refine ah ?_
 refine ap (ai rfl) rfl rfl ?_
 refine ae ?_
 refine ao ?_
 refine ar ?_
 refine ar ?_
 refine ah ?_
 refine ap (ai rfl) rfl rfl ?_
 refine ae ?_
 refine ao ?_
 refine bn ?_
 refine bD (fun w h => h.nilsl 44 7) ?_
 refine bD (fun w h => h.rall0) ?_
 refine w_loopL (σ := Nat × List Le × Option Addr × Nat) [3, 4, 5, 6, 7, 8, 9, 10, 11, 12, 13, 14, 15, 16, 17, 18, 19, 20] (fun q => q.1 ≤ l.length ∧ q.2.1.map (·.e) = (l.take q.1).map (·.e)) (fun q => l.length - q.1) (fun q => [(4, .int .i64 q.1), (3, .slice q.2.2.1 q.2.1.length q.2.2.2)]) (fun q => [Ch.rall (q.2.1.flatMap ff), Ch.ls q.2.2.1 q.2.2.2 44 7 d4 q.2.1]) ((0, [], none, 0)) ?_ ⟨rfl, rfl, trivial⟩ rfl (fun q hI => ?_)
 exact ⟨Nat.zero_le _, rfl⟩
 obtain ⟨k, lo, Ax, cx⟩ := q
 dsimp only at hI ⊢
 refine ar ?_
 refine ar ?_
 refine ah ?_
 refine ap (am rfl) rfl rfl ?_
 refine ap (aF cL rfl) rfl rfl ?_
 refine ap (aG 3 bU rfl rfl rfl) rfl rfl ?_
 refine ap (bI Try.underlying22 rfl) rfl rfl ?_
 refine ap (cV rfl rfl) rfl rfl ?_
 refine aC (t := 9) rfl (fun h3_4 => ?_) (fun h3_4 => ?_)
 have hk : k < l.length := by omega
 have hb9 := hok.at hk
 have hlc := take_len_eq17 hI.2
 refine ae ?_
 refine ao ?_
 refine aI rfl ?_
 refine bd ?_
 refine ao ?_
 refine ar ?_
 refine bn ?_
 refine ah ?_
 refine ap (am rfl) rfl rfl ?_
 refine ap (aF cL rfl) rfl rfl ?_
 refine ap (aG 3 bU rfl rfl rfl) rfl rfl ?_
 refine ap (am rfl) rfl rfl ?_
 refine ap (cj  Try.underlying22 a7 rfl rfl (cD 0 rfl) rfl (by omega)) rfl rfl ?_
 refine ap (cS bl bO a7 rfl (cD 0 rfl) (by omega) rfl rfl rfl) rfl rfl ?_
 refine a6 rfl ent_52 rfl (c_OwnEntry (l.getD k bO).e (l.getD k bO).A (l.getD k bO).B (l.getD k bO).c (l.getD k bO).d (by have := hb9.la; omega) (by have := hb9.lp; omega)) (fun w hw => (ak (c9 (bW 1 rfl hw) (cg (bE (by omega)) _ (il _))) (ak (c9 (bW 1 rfl hw) (cg (bE (by omega)) _ (iv _))) aO))) (fun ⟨A2, c2, B2, d2⟩ => ?_)
 refine bf (vs := [_]) ([(⟨(l.getD k bO).e, A2, c2, B2, d2⟩ : Le)] : List (Le)) bl Try.underlying22 a7 rfl rfl rfl rfl rfl rfl (fun As4 => ?_)
 refine dh (enc := d4) (sz := 7) [(⟨(l.getD k bO).e, A2, c2, B2, d2⟩ : Le)] Try.underlying22 a7 rfl rfl rfl (fun A c => (.s (.s (.s (.s (.z)))))) (fj 0 Try.underlying22 rfl) (by simp only [List.length_cons, List.length_nil, Nat.zero_add]; omega) (by simp only [List.length_cons, List.length_nil, Nat.zero_add]; omega) rfl (fun A4 c4 => ?_)
 refine ap (ai rfl) rfl rfl ?_
 refine ae ?_
 refine bV ?_
 refine ao ?_
 refine ah ?_
 refine ap (am rfl) rfl rfl ?_
 refine ap (bY rfl rfl (by omega) (by omega)) rfl rfl ?_
 refine ap (ai rfl) rfl rfl ?_
 refine ae ?_
 refine cr ((k + 1, lo ++ [(⟨(l.getD k bO).e, A2, c2, B2, d2⟩ : Le)], A4, c4)) ?_ ?_ ⟨rfl, rfl, trivial⟩ (by repeat (first | exact trivial | refine ⟨rfl, ?_⟩)) (fun w h => by
 have h2 := (h.weak (.cons _ (.cons_cons _ (.cons_cons _ (List.Sublist.refl _)))) (fun s hs => hs)).intoE
 show Hp _ _ (Ch.rall ((lo ++ [_]).flatMap ff) :: _) _ _
 rw [List.flatMap_append, List.flatMap_singleton]
 exact h2)
 exact ⟨by show k + 1 ≤ _; omega, by show (lo ++ [_]).map _ = (l.take (k + 1)).map _; rw [List.map_append, hI.2, eh l bO k hk, List.map_append]; rfl⟩
 show l.length - (k + 1) < l.length - k
 omega
 refine ae ?_
 refine ao ?_
 refine aN rfl ?_
 refine cz ?_
 refine br ?_
 refine bC ?_
 refine bK ?_
 refine ao ?_
 refine ar ?_
 refine ah ?_
 refine ap (am rfl) rfl rfl ?_
 refine ap (aF cL rfl) rfl rfl ?_
 refine aS bU rfl rfl rfl (.s (.s (.s (.z)))) rfl rfl rfl rfl ?_
 refine ae ?_
 refine ao ?_
 refine ar ?_
 refine ah ?_
 refine ap (bp 3 aZ rfl rfl rfl rfl) rfl rfl ?_
 refine aS aZ rfl rfl rfl (.s (.s (.z))) rfl rfl rfl rfl ?_
 refine ae ?_
 refine ao ?_
 refine aV ?_
 refine ig (rs := [.cell 2 24]) rfl (dn 2 aZ rfl rfl rfl rfl d6) rfl (fun w hw => ?_)
 have hE : lo.map (·.e) = l.map (·.e) := by rw [hI.2, List.take_of_length_le (by omega)]
 exact ⟨⟨(lo, Ax, cx), hE⟩, rfl, hw.base, (hw.weak (.cons_cons _ (.cons_cons _ (.cons _ (.cons _ .slnil)))) (fun s hs => hs)).toNews⟩
end Go.Proofs.Ytnpdgmoeoidppaa

/- two tables told apart -/
namespace Go.Proofs.Ytnpdgmoeoidppaa
open Go.RowKit Go.Shelf
set_option linter.unusedVariables false
set_option linter.unusedSimpArgs false

theorem bu_27 : Try.prog.built 27 [] = some [.bool false, .int .i64 0, .int .i64 0, .slice none 0 0, .slice none 0 0].toArray := by kernel_rfl
theorem bu_27_1_2 (x0 : Int) (x1 : Int) : Try.prog.built 27 [(1, .int .i64 x0), (2, .int .i64 x1)] = some [.bool false, .int .i64 x0, .int .i64 x1, .slice none 0 0, .slice none 0 0].toArray := by kernel_rfl

def dfP (v : Int) (l : List Le) (v2 : Int) (l2 : List Le) : List Le := if bX v l = 0 ∧ bX v2 l2 = 0 then cZ l l2 else []
def dfD (v : Int) (l : List Le) (v2 : Int) (l2 : List Le) : List bg := if bX v l = 0 ∧ bX v2 l2 = 0 then cJ l l2 else []
def dfV (v : Int) (l : List Le) (v2 : Int) (l2 : List Le) (x : Int) : Int := if bX v l = 0 ∧ bX v2 l2 = 0 then x else 0
theorem fm_snoc {α β : Type} (f : α → Option β) (l : List α) (a : α) : (l ++ [a]).filterMap f = l.filterMap f ++ (f a).toList := by
  rw [List.filterMap_append, List.filterMap_cons]
  cases f a <;> rfl
theorem ix {l l2 : List Le} {pre : List (Option Nat × Option Nat)} {e : Option Nat × Option Nat} {o : Option Le} (h : putV (gv l l2 e) = o) : ((pre ++ [e]).map (gv l l2)).filterMap putV = (pre.map (gv l l2)).filterMap putV ++ o.toList := by
  rw [List.map_append, List.map_cons, List.map_nil, fm_snoc, h]
theorem gx {l l2 : List Le} {pre : List (Option Nat × Option Nat)} {e : Option Nat × Option Nat} {o : Option bg} (h : dropV (gv l l2 e) = o) : ((pre ++ [e]).map (gv l l2)).filterMap dropV = (pre.map (gv l l2)).filterMap dropV ++ o.toList := by
  rw [List.map_append, List.map_cons, List.map_nil, fm_snoc, h]
theorem putV_eq {x y : Le} (h : decide (x.e = y.e) = true) : putV (some x, some y) = none := if_pos (congrArg some (of_decide_eq_true h))
theorem putV_ne {x y : Le} (h : decide (x.e = y.e) = false) : putV (some x, some y) = some y := if_neg (fun q => of_decide_eq_false h (Option.some.inj q))
theorem fm_len {l l2 : List Le} (pre : List (Option Nat × Option Nat)) : ((pre.map (gv l l2)).filterMap putV).length ≤ pre.length ∧ ((pre.map (gv l l2)).filterMap dropV).length ≤ pre.length := by
  constructor
  · have := List.length_filterMap_le putV (pre.map (gv l l2)); rwa [List.length_map] at this
  · have := List.length_filterMap_le dropV (pre.map (gv l l2)); rwa [List.length_map] at this
theorem dfP_len (v : Int) (l : List Le) (v2 : Int) (l2 : List Le) : (dfP v l v2 l2).length ≤ l2.length := by
  unfold dfP; split
  · exact diffPut_len l l2
  · exact Nat.zero_le _
theorem dfD_len (v : Int) (l : List Le) (v2 : Int) (l2 : List Le) : (dfD v l v2 l2).length ≤ l.length := by
  unfold dfD; split
  · exact diffDrop_len l l2
  · exact Nat.zero_le _

set_option maxRecDepth 100000 in
set_option maxHeartbeats 4000000 in
theorem c_tDiff (v : Int) (l : List Le) (A : Option Addr) (c : Nat) (v2 : Int) (l2 : List Le) (A2 : Option Addr) (c2 : Nat) (hok : TbOk l) (hok2 : TbOk l2) (hl : l.length ≤ 1000) (hl2 : l2.length ≤ 1000) (hlc : l.length ≤ c) (hlc2 : l2.length ≤ c2) : RC Try.prog 21 #[.agg (cU v A l.length c).toArray, .agg (cU v2 A2 l2.length c2).toArray] [Ch.rd A 7 d4 l, Ch.rall (l.flatMap ff), Ch.rd A2 7 d4 l2, Ch.rall (l2.flatMap ff)] (α := (Option Addr × Nat) × Option Addr × Nat) (fun p => .agg (eJ false (dfV v l v2 l2 v) (dfV v l v2 l2 v2) p.1.1 (dfP v l v2 l2).length p.1.2 p.2.1 (dfD v l v2 l2).length p.2.2).toArray) (fun p => [Ch.ls p.2.1 p.2.2 37 1 ed (dfD v l v2 l2), Ch.ls p.1.1 p.1.2 44 7 d4 (dfP v l v2 l2)]) := by
 refine rc_of_WM (args := [.agg (cU v A l.length c).toArray, .agg (cU v2 A2 l2.length c2).toArray]) 63 Try.func21 rfl rfl rfl (fun w0 => ?_)
 refine ar ?_
 refine ah ?_
 refine cT rfl rfl rfl (fun b1 => ?_)
 refine cT rfl rfl rfl (fun b2 => ?_)
 refine bu er rfl rfl (fun b3 => ?_)
 refine ae ?_
 refine ao ?_
 refine ar ?_
 refine ar ?_
 refine ah ?_
 refine ap (bp 2 aZ rfl rfl rfl rfl) rfl rfl ?_
 refine bi rfl iE rfl (dP _ _ _ _ hok (by omega)) (fun w hw => (ak (bW 0 rfl hw) (ak (bW 1 rfl hw) aO))) ?_
 refine ap (db rfl rfl) rfl rfl ?_
 refine aC (t := 10) rfl (fun h1_2 => ?_) (fun h1_2 => ?_)
 refine ap (am rfl) rfl rfl ?_
 refine aq rfl rfl rfl rfl ?_
 refine aq rfl rfl rfl rfl ?_
 refine aq rfl rfl rfl rfl ?_
 refine ap (aM rfl rfl) rfl rfl ?_
 refine ae ?_
 refine ao ?_
 refine aI rfl ?_
 refine ar ?_
 refine ah ?_
 refine ap (bm rfl (bu_27)) rfl rfl ?_
 refine aS er rfl rfl rfl .z rfl rfl rfl rfl ?_
 refine ae ?_
 refine ao ?_
 refine aV ?_
 refine aB ?_
 refine e_lvr ?_
 refine gX (rs := [.cell 4 27]) rfl (dn 0 er rfl rfl rfl rfl d6) (fun w hw => ?_)
 have hn9 : ¬ (bX v l = 0 ∧ bX v2 l2 = 0) := fun q => by first | exact h1_2 q.1 | exact h1_6 q.2
 have e1 : dfP v l v2 l2 = [] := if_neg hn9
 have e2 : dfD v l v2 l2 = [] := if_neg hn9
 have e3 : ∀ x, dfV v l v2 l2 x = 0 := fun x => if_neg hn9
 rw [e1, e2, e3, e3]
 exact ⟨((none, 0), none, 0), rfl, hw.base, (((hw.weak (List.nil_sublist _) (fun s hs => hs)).nilsl 44 7).nilsl 37 1).toNews⟩
 refine ap (am rfl) rfl rfl ?_
 refine aw rfl rfl ?_
 refine ap (bp 1 aZ rfl rfl rfl rfl) rfl rfl ?_
 refine aw rfl rfl ?_
 refine bi rfl iE rfl (dP _ _ _ _ hok2 (by omega)) (fun w hw => (ak (bW 2 rfl hw) (ak (bW 3 rfl hw) aO))) ?_
 refine aw rfl rfl ?_
 refine ap (db rfl rfl) rfl rfl ?_
 refine aC (t := 14) rfl (fun h1_6 => ?_) (fun h1_6 => ?_)
 refine ap (aQ rfl rfl) rfl rfl ?_
 refine ae ?_
 refine ao ?_
 refine aI rfl ?_
 refine ar ?_
 refine ah ?_
 refine ap (bm rfl (bu_27)) rfl rfl ?_
 refine aS er rfl rfl rfl .z rfl rfl rfl rfl ?_
 refine ae ?_
 refine ao ?_
 refine aV ?_
 refine aB ?_
 refine e_lvr ?_
 refine gX (rs := [.cell 4 27]) rfl (dn 0 er rfl rfl rfl rfl d6) (fun w hw => ?_)
 have hn9 : ¬ (bX v l = 0 ∧ bX v2 l2 = 0) := fun q => by first | exact h1_2 q.1 | exact h1_6 q.2
 have e1 : dfP v l v2 l2 = [] := if_neg hn9
 have e2 : dfD v l v2 l2 = [] := if_neg hn9
 have e3 : ∀ x, dfV v l v2 l2 x = 0 := fun x => if_neg hn9
 rw [e1, e2, e3, e3]
 exact ⟨((none, 0), none, 0), rfl, hw.base, (((hw.weak (List.nil_sublist _) (fun s hs => hs)).nilsl 44 7).nilsl 37 1).toNews⟩
 refine ap (aQ rfl rfl) rfl rfl ?_
 refine ae ?_
 refine ao ?_
 refine aN rfl ?_
 refine bd ?_
 refine ao ?_
 refine ar ?_
 refine ah ?_
 refine ap (aF cX rfl) rfl rfl ?_
 refine ap (aG 2 cW rfl rfl rfl) rfl rfl ?_
 refine ap (aF cX rfl) rfl rfl ?_
 refine ap (aG 1 cW rfl rfl rfl) rfl rfl ?_
 refine ap (bm rfl (bu_27_1_2 _ _)) rfl rfl ?_
 refine bu er rfl rfl (fun b4 => ?_)
 refine aS er rfl rfl rfl .z rfl rfl rfl rfl ?_
 refine ae ?_
 refine ao ?_
 refine ar ?_
 refine ar ?_
 have hT1 : bX v l = 0 := Decidable.not_not.1 h1_2
 have hT2 : bX v2 l2 = 0 := Decidable.not_not.1 h1_6
 have hlh : ∀ x ∈ l, x.e.host.length ≤ 1000000000 := fun x hx => by have := (hok.mem17 hx).h; omega
 have hlh2 : ∀ x ∈ l2, x.e.host.length ≤ 1000000000 := fun x hx => by have := (hok2.mem17 hx).h; omega
 refine ah ?_
 refine ap (aF cL rfl) rfl rfl ?_
 refine ap (aG 3 bU rfl rfl rfl) rfl rfl ?_
 refine ap (aF cL rfl) rfl rfl ?_
 refine ap (aG 2 bU rfl rfl rfl) rfl rfl ?_
 refine a6 rfl ent_48 rfl (c_pairs A A2 l.length l2.length c c2) (fun w hw => aO) (fun ⟨pa, pb⟩ => ?_)
 refine ae ?_
 refine ao ?_
 refine bn ?_
 refine bD (fun w h => (h.nilsl 44 7).nilsl 37 1) ?_
 refine w_rangeG (σ := (List Le × Option Addr × Nat) × List bg × Option Addr × Nat) (fun pre g => g.1.1 = (pre.map (gv l l2)).filterMap putV ∧ g.2.1 = (pre.map (gv l l2)).filterMap dropV) (fun c pre g => False) (fun g => [Ch.ls g.2.2.1 g.2.2.2 37 1 ed g.2.1, Ch.ls g.1.2.1 g.1.2.2 44 7 d4 g.1.1, Ch.row b4 (eJ false v v2 g.1.2.1 g.1.1.length g.1.2.2 g.2.2.1 g.2.1.length g.2.2.2) 27, Ch.row b3 (eJ false 0 0 none 0 0 none 0 0) 27, Ch.row b2 (cU v2 A2 l2.length c2) 24, Ch.row b1 (cU v A l.length c) 24]) ((([], none, 0), [], none, 0)) rfl rfl ent_88 (c_pairs1 l l2 A A2 c c2 pa pb hlc hlc2 (by omega) (by omega) hlh hlh2) (List.forall_mem_cons.2 ⟨.head _, List.forall_mem_cons.2 ⟨.tail _ (.tail _ (.head _)), nofun⟩⟩) rfl (fun _ => rfl) (⟨rfl, rfl⟩) (fun w h => h.back2) (fun pre e g hxs hI lr D r hr okb wb => ?_) (fun g D0 hI => ?_) (fun c pre g D0 hxs hI => ?_)
 obtain ⟨⟨pu, Ax, cx⟩, da, Ay, cy⟩ := g
 obtain ⟨post, hxs⟩ := hxs
 dsimp only at hI ⊢
 have hlen9 := fI (l := l) (p := l2) _ 0 0 (Nat.le_refl _)
 rw [hxs] at hlen9
 simp only [List.length_append, List.length_cons, List.length_nil] at hlen9
 have hpl9 := fm_len (l := l) (l2 := l2) pre
 rw [← hI.1, ← hI.2] at hpl9
 have hem := fF (l := l) (p := l2) _ 0 0 e (Nat.le_refl _) (by rw [hxs]; simp)
 refine ar ?_
 refine ah ?_
 refine ap (ai rfl) rfl rfl ?_
 refine ae ?_
 refine ao ?_
 refine ah ?_
 refine ap (ai rfl) rfl rfl ?_
 refine ae ?_
 refine e_begin rfl hr .z ?_
 refine bn ?_
 refine bn ?_
 refine ar ?_
 refine ah ?_
 refine ap (am rfl) rfl rfl ?_
 refine ap (y_eqp Try.underlying99 rfl rfl) rfl rfl ?_
 refine bS (t := 31) rfl (fun h7_1 => ?_) (fun h7_1 => ?_)
 obtain ⟨i, hi, rfl⟩ := pr_old hem h7_1
 have hbx := hok.mem17 (bE (d := bO) hi)
 refine ap (ai rfl) rfl rfl ?_
 refine ae ?_
 refine ao ?_
 refine aI rfl ?_
 refine gm 7 mixed ?_
 refine cA (i := 0) rfl aa (aF ef rfl) aD aD rfl (aA (aA cP)) (by kernel_rfl) rfl ?_
 refine cA (i := 2) rfl aa (am rfl) aD aD rfl (aA (aA cP)) (by kernel_rfl) rfl ?_
 refine cA (i := 3) rfl aa (cH rfl) aD aD rfl (aA (aA cP)) (by kernel_rfl) rfl ?_
 refine cA (i := 4) rfl aa (aF dA rfl) aD aD rfl (aA (aA cP)) (by kernel_rfl) rfl ?_
 refine cA (i := 5) rfl aa (cR bl bO bF rfl (cD 0 rfl) hi rfl rfl) aD aD rfl (aA (aA cP)) (by kernel_rfl) rfl ?_
 refine gP (js := [1, 6]) (by kernel_rfl) rfl ?_
 refine dF (i := 1) rfl rfl ?_ ?_
 refine ap (aG 4 fO rfl rfl rfl) rfl rfl ?_
 refine ae ?_
 refine cQ aD ?_
 refine cK (i := 6) rfl (by kernel_rfl) rfl ?_
 refine bf (vs := [_]) ([(l.getD i bO).e.host] : List (bg)) bB Try.underlying25 bF rfl rfl rfl rfl rfl rfl (fun As6 => ?_)
 refine ae ?_
 refine cQ (aL 1) ?_
 refine cK (i := 7) rfl (by kernel_rfl) rfl ?_
 refine dh (enc := ed) (sz := 1) [(l.getD i bO).e.host] Try.underlying25 bF rfl rfl rfl (fun A c => (.s (.s (.s (.z))))) (fj 0 Try.underlying25 rfl) (by simp only [List.length_cons, List.length_nil, Nat.zero_add]; omega) (by simp only [List.length_cons, List.length_nil, Nat.zero_add]; omega) rfl (fun A6 c6 => ?_)
 refine ae ?_
 refine cG rfl ?_
 refine cK (i := 8) rfl (by kernel_rfl) rfl ?_
 refine ap (aF ef rfl) rfl rfl ?_
 refine ae ?_
 refine cG rfl ?_
 refine cK (i := 9) rfl (by kernel_rfl) rfl ?_
 refine aS fO rfl rfl rfl (.s (.s (.s (.s (.s (.z)))))) rfl rfl rfl rfl ?_
 refine ae ?_
 refine cG rfl ?_
 refine ew (by kernel_rfl) ?_
 refine bV ?_
 refine bV ?_
 refine eO (((pu, Ax, cx), da ++ [(l.getD i bO).e.host], A6, c6)) ?_ (aL 1)
 exact ⟨(by rw [ix (o := none) rfl, ← hI.1]; exact (List.append_nil _).symm), (by rw [gx (o := some (l.getD i bO).e.host) rfl, ← hI.2]; rfl)⟩
 refine dF (i := 6) rfl rfl ?_ ?_
 refine bf (vs := [_]) ([(l.getD i bO).e.host] : List (bg)) bB Try.underlying25 bF rfl rfl rfl rfl rfl rfl (fun As8 => ?_)
 refine ae ?_
 refine cQ (aL 1) ?_
 refine cK (i := 1) rfl (by kernel_rfl) rfl ?_
 refine ap (aG 5 fO rfl rfl rfl) rfl rfl ?_
 refine ae ?_
 refine cQ (aL 1) ?_
 refine cK (i := 7) rfl (by kernel_rfl) rfl ?_
 refine dh (enc := ed) (sz := 1) [(l.getD i bO).e.host] Try.underlying25 bF rfl rfl rfl (fun A c => (.s (.s (.s (.z))))) (fj 0 Try.underlying25 rfl) (by simp only [List.length_cons, List.length_nil, Nat.zero_add]; omega) (by simp only [List.length_cons, List.length_nil, Nat.zero_add]; omega) rfl (fun A8 c8 => ?_)
 refine ae ?_
 refine cG rfl ?_
 refine cK (i := 8) rfl (by kernel_rfl) rfl ?_
 refine ap (aF ef rfl) rfl rfl ?_
 refine ae ?_
 refine cG rfl ?_
 refine cK (i := 9) rfl (by kernel_rfl) rfl ?_
 refine aS fO rfl rfl rfl (.s (.s (.s (.s (.s (.z)))))) rfl rfl rfl rfl ?_
 refine ae ?_
 refine cG rfl ?_
 refine ew (by kernel_rfl) ?_
 refine bV ?_
 refine bV ?_
 refine eO (((pu, Ax, cx), da ++ [(l.getD i bO).e.host], A8, c8)) ?_ (aL 1)
 exact ⟨(by rw [ix (o := none) rfl, ← hI.1]; exact (List.append_nil _).symm), (by rw [gx (o := some (l.getD i bO).e.host) rfl, ← hI.2]; rfl)⟩
 exact fR
 obtain ⟨oi, j, hj, rfl, hoi⟩ := pr_new hem h7_1
 refine ap (ai rfl) rfl rfl ?_
 refine ae ?_
 refine ao ?_
 refine aN rfl ?_
 refine ar ?_
 refine gm 13 mixed ?_
 refine cA (i := 0) rfl aa (am rfl) aD aD rfl (aj (aA (aA cP))) (by kernel_rfl) rfl ?_
 refine cA (i := 1) rfl aa (y_eqp Try.underlying99 rfl rfl) aD aD rfl (aj (aA (aA cP))) (by kernel_rfl) rfl ?_
 refine wv_splitb (t := 43) rfl (fun h9_1 => ?_) (fun h9_1 => ?_)
 obtain rfl : oi = none := by
   cases oi with
   | none => rfl
   | some i => cases h9_1
 refine cA (i := 2) rfl aa (am rfl) aD aD rfl (aj (aA (aA cP))) (by kernel_rfl) rfl ?_
 refine gQ (i := 3) rfl (eI rfl rfl rfl) aD rfl (aj (aA (aA cP))) (by kernel_rfl) rfl ?_
 refine gQ (i := 4) rfl (eI rfl rfl rfl) aD rfl (aj (aA (aA cP))) (by kernel_rfl) rfl ?_
 refine gQ (i := 5) rfl (eI rfl rfl rfl) aD rfl (aj (aA (aA cP))) (by kernel_rfl) rfl ?_
 refine gQ (i := 6) rfl (eI rfl rfl rfl) aD rfl (aj (aA (aA cP))) (by kernel_rfl) rfl ?_
 refine gQ (i := 7) rfl (eI rfl rfl rfl) aD rfl (aj (aA (aA cP))) (by kernel_rfl) rfl ?_
 refine gQ (i := 8) rfl (eI rfl rfl rfl) aD rfl (aj (aA (aA cP))) (by kernel_rfl) rfl ?_
 refine gQ (i := 9) rfl (eI rfl rfl rfl) aD rfl (aj (aA (aA cP))) (by kernel_rfl) rfl ?_
 refine gQ (i := 10) rfl (eI rfl rfl rfl) aD rfl (aj (aA (aA cP))) (by kernel_rfl) rfl ?_
 refine cA (i := 11) rfl aa (aM rfl rfl) aD aD rfl (aj (aA (aA cP))) (by kernel_rfl) rfl ?_
 refine cA (i := 12) rfl aa (ai rfl) aD aD rfl (aj (aA (aA cP))) (by kernel_rfl) rfl ?_
 refine ew (by kernel_rfl) ?_
 refine ao ?_
 refine aI rfl ?_
 refine gm 6 mixed ?_
 refine cA (i := 0) rfl aa (aF dz rfl) aD aD rfl (aA (aA cP)) (by kernel_rfl) rfl ?_
 refine cA (i := 2) rfl aa (am rfl) aD aD rfl (aA (aA cP)) (by kernel_rfl) rfl ?_
 refine cA (i := 3) rfl aa (cH rfl) aD aD rfl (aA (aA cP)) (by kernel_rfl) rfl ?_
 refine cA (i := 4) rfl aa (cS bl bO a7 rfl (cD 2 rfl) hj rfl rfl rfl) aD aD rfl (aA (aA cP)) (by kernel_rfl) rfl ?_
 refine gP (js := [1, 5]) (by kernel_rfl) rfl ?_
 refine dF (i := 1) rfl rfl ?_ ?_
 refine ap (aG 4 bU rfl rfl rfl) rfl rfl ?_
 refine ae ?_
 refine cQ aD ?_
 refine cK (i := 5) rfl (by kernel_rfl) rfl ?_
 refine bf (vs := [_]) ([l2.getD j bO] : List (Le)) bl Try.underlying22 a7 rfl rfl rfl rfl rfl rfl (fun As10 => ?_)
 refine ae ?_
 refine cQ (aL 1) ?_
 refine cK (i := 6) rfl (by kernel_rfl) rfl ?_
 refine dh (enc := d4) (sz := 7) [l2.getD j bO] Try.underlying22 a7 rfl rfl rfl (fun A c => (.s (.s (.s (.s (.z)))))) (fj 0 Try.underlying22 rfl) (by simp only [List.length_cons, List.length_nil, Nat.zero_add]; omega) (by simp only [List.length_cons, List.length_nil, Nat.zero_add]; omega) rfl (fun A10 c10 => ?_)
 refine ae ?_
 refine cG rfl ?_
 refine cK (i := 7) rfl (by kernel_rfl) rfl ?_
 refine ap (aF dz rfl) rfl rfl ?_
 refine ae ?_
 refine cG rfl ?_
 refine cK (i := 8) rfl (by kernel_rfl) rfl ?_
 refine aS bU rfl rfl rfl (.s (.s (.s (.s (.s (.z)))))) rfl rfl rfl rfl ?_
 refine ae ?_
 refine cG rfl ?_
 refine ew (by kernel_rfl) ?_
 refine bV ?_
 refine bV ?_
 refine eO (((pu ++ [l2.getD j bO], A10, c10), da, Ay, cy)) ?_ (aL 1)
 exact ⟨(by rw [ix (l := l) (l2 := l2) (e := (none, some j)) (o := some (l2.getD j bO)) rfl, ← hI.1]; rfl), (by rw [gx (o := none) rfl, ← hI.2]; exact (List.append_nil _).symm)⟩
 refine dF (i := 5) rfl rfl ?_ ?_
 refine bf (vs := [_]) ([l2.getD j bO] : List (Le)) bl Try.underlying22 a7 rfl rfl rfl rfl rfl rfl (fun As12 => ?_)
 refine ae ?_
 refine cQ (aL 1) ?_
 refine cK (i := 1) rfl (by kernel_rfl) rfl ?_
 refine ap (aG 5 bU rfl rfl rfl) rfl rfl ?_
 refine ae ?_
 refine cQ (aL 1) ?_
 refine cK (i := 6) rfl (by kernel_rfl) rfl ?_
 refine dh (enc := d4) (sz := 7) [l2.getD j bO] Try.underlying22 a7 rfl rfl rfl (fun A c => (.s (.s (.s (.s (.z)))))) (fj 0 Try.underlying22 rfl) (by simp only [List.length_cons, List.length_nil, Nat.zero_add]; omega) (by simp only [List.length_cons, List.length_nil, Nat.zero_add]; omega) rfl (fun A12 c12 => ?_)
 refine ae ?_
 refine cG rfl ?_
 refine cK (i := 7) rfl (by kernel_rfl) rfl ?_
 refine ap (aF dz rfl) rfl rfl ?_
 refine ae ?_
 refine cG rfl ?_
 refine cK (i := 8) rfl (by kernel_rfl) rfl ?_
 refine aS bU rfl rfl rfl (.s (.s (.s (.s (.s (.z)))))) rfl rfl rfl rfl ?_
 refine ae ?_
 refine cG rfl ?_
 refine ew (by kernel_rfl) ?_
 refine bV ?_
 refine bV ?_
 refine eO (((pu ++ [l2.getD j bO], A12, c12), da, Ay, cy)) ?_ (aL 1)
 exact ⟨(by rw [ix (l := l) (l2 := l2) (e := (none, some j)) (o := some (l2.getD j bO)) rfl, ← hI.1]; rfl), (by rw [gx (o := none) rfl, ← hI.2]; exact (List.append_nil _).symm)⟩
 exact fR
 obtain ⟨i, rfl⟩ : ∃ i, oi = some i := by
   cases oi with
   | none => cases h9_1
   | some i => exact ⟨i, rfl⟩
 have hi := hoi i rfl
 have hbx := hok.mem17 (bE (d := bO) hi)
 refine cA (i := 2) rfl aa (am rfl) aD aD rfl (aj (aA (aA cP))) (by kernel_rfl) rfl ?_
 refine cA (i := 3) rfl (bG rfl rfl) (am rfl) aD aD rfl (aj (aA (aA cP))) (by kernel_rfl) rfl ?_
 refine cA (i := 4) rfl (bG rfl rfl) (cH rfl) aD aD rfl (aj (aA (aA cP))) (by kernel_rfl) rfl ?_
 refine cA (i := 5) rfl (bG rfl rfl) (cS bl bO a7 rfl (cD 0 rfl) hi rfl rfl rfl) aD aD rfl (aj (aA (aA cP))) (by kernel_rfl) rfl ?_
 refine cA (i := 6) rfl (bG rfl rfl) (am rfl) aD aD rfl (aj (aA (aA cP))) (by kernel_rfl) rfl ?_
 refine cA (i := 7) rfl (bG rfl rfl) (cH rfl) aD aD rfl (aj (aA (aA cP))) (by kernel_rfl) rfl ?_
 refine cA (i := 8) rfl (bG rfl rfl) (cS bl bO a7 rfl (cD 2 rfl) hj rfl rfl rfl) aD aD rfl (aj (aA (aA cP))) (by kernel_rfl) rfl ?_
 refine cK (i := 9) rfl (by kernel_rfl) rfl ?_
 refine aw rfl rfl ?_
 refine bi rfl ent_51 rfl (iH (l.getD i bO).e (l.getD i bO).A (l.getD i bO).B (l.getD i bO).c (l.getD i bO).d (l2.getD j bO).e (l2.getD j bO).A (l2.getD j bO).B (l2.getD j bO).c (l2.getD j bO).d (by have := hbx.la; omega) (by have := hbx.lp; omega)) (fun w hw => (ak (c9 (bW 1 rfl hw) (cg (bE hi) _ (il _))) (ak (c9 (bW 1 rfl hw) (cg (bE hi) _ (iv _))) (ak (c9 (bW 3 rfl hw) (cg (bE hj) _ (il _))) (ak (c9 (bW 3 rfl hw) (cg (bE hj) _ (iv _))) aO))))) ?_
 refine ae ?_
 refine cQ aD ?_
 refine wv_splitb (t := 51) rfl (fun h9_9 => ?_) (fun h9_9 => ?_)
 refine cA (i := 10) rfl (bG rfl rfl) (ct rfl) aD aD rfl (aj (aA (aA cP))) (by kernel_rfl) rfl ?_
 refine cA (i := 11) rfl aa (aQ rfl rfl) aD aD rfl (aj (aA (aA cP))) (by kernel_rfl) rfl ?_
 refine cA (i := 12) rfl aa (ai rfl) aD aD rfl (aj (aA (aA cP))) (by kernel_rfl) rfl ?_
 refine ew (by kernel_rfl) ?_
 refine ao ?_
 refine aN rfl ?_
 refine bd ?_
 refine bV ?_
 refine bV ?_
 refine eO (((pu, Ax, cx), da, Ay, cy)) ?_ aD
 exact ⟨(by rw [ix (l := l) (l2 := l2) (e := (some i, some j)) (o := none) (putV_eq h9_9), ← hI.1]; exact (List.append_nil _).symm), (by rw [gx (o := none) rfl, ← hI.2]; exact (List.append_nil _).symm)⟩
 refine cA (i := 10) rfl (bG rfl rfl) (ct rfl) aD aD rfl (aj (aA (aA cP))) (by kernel_rfl) rfl ?_
 refine cA (i := 11) rfl aa (aQ rfl rfl) aD aD rfl (aj (aA (aA cP))) (by kernel_rfl) rfl ?_
 refine cA (i := 12) rfl aa (ai rfl) aD aD rfl (aj (aA (aA cP))) (by kernel_rfl) rfl ?_
 refine ew (by kernel_rfl) ?_
 refine ao ?_
 refine aI rfl ?_
 refine gm 6 mixed ?_
 refine cA (i := 0) rfl aa (aF dz rfl) aD aD rfl (aA (aA cP)) (by kernel_rfl) rfl ?_
 refine cA (i := 2) rfl aa (am rfl) aD aD rfl (aA (aA cP)) (by kernel_rfl) rfl ?_
 refine cA (i := 3) rfl aa (cH rfl) aD aD rfl (aA (aA cP)) (by kernel_rfl) rfl ?_
 refine cA (i := 4) rfl aa (cS bl bO a7 rfl (cD 2 rfl) hj rfl rfl rfl) aD aD rfl (aA (aA cP)) (by kernel_rfl) rfl ?_
 refine gP (js := [1, 5]) (by kernel_rfl) rfl ?_
 refine dF (i := 1) rfl rfl ?_ ?_
 refine ap (aG 4 bU rfl rfl rfl) rfl rfl ?_
 refine ae ?_
 refine cQ aD ?_
 refine cK (i := 5) rfl (by kernel_rfl) rfl ?_
 refine bf (vs := [_]) ([l2.getD j bO] : List (Le)) bl Try.underlying22 a7 rfl rfl rfl rfl rfl rfl (fun As14 => ?_)
 refine ae ?_
 refine cQ (aL 1) ?_
 refine cK (i := 6) rfl (by kernel_rfl) rfl ?_
 refine dh (enc := d4) (sz := 7) [l2.getD j bO] Try.underlying22 a7 rfl rfl rfl (fun A c => (.s (.s (.s (.s (.z)))))) (fj 0 Try.underlying22 rfl) (by simp only [List.length_cons, List.length_nil, Nat.zero_add]; omega) (by simp only [List.length_cons, List.length_nil, Nat.zero_add]; omega) rfl (fun A14 c14 => ?_)
 refine ae ?_
 refine cG rfl ?_
 refine cK (i := 7) rfl (by kernel_rfl) rfl ?_
 refine ap (aF dz rfl) rfl rfl ?_
 refine ae ?_
 refine cG rfl ?_
 refine cK (i := 8) rfl (by kernel_rfl) rfl ?_
 refine aS bU rfl rfl rfl (.s (.s (.s (.s (.s (.z)))))) rfl rfl rfl rfl ?_
 refine ae ?_
 refine cG rfl ?_
 refine ew (by kernel_rfl) ?_
 refine bV ?_
 refine bV ?_
 refine eO (((pu ++ [l2.getD j bO], A14, c14), da, Ay, cy)) ?_ (aL 1)
 exact ⟨(by rw [ix (l := l) (l2 := l2) (e := (some i, some j)) (o := some (l2.getD j bO)) (putV_ne h9_9), ← hI.1]; rfl), (by rw [gx (o := none) rfl, ← hI.2]; exact (List.append_nil _).symm)⟩
 refine dF (i := 5) rfl rfl ?_ ?_
 refine bf (vs := [_]) ([l2.getD j bO] : List (Le)) bl Try.underlying22 a7 rfl rfl rfl rfl rfl rfl (fun As16 => ?_)
 refine ae ?_
 refine cQ (aL 1) ?_
 refine cK (i := 1) rfl (by kernel_rfl) rfl ?_
 refine ap (aG 5 bU rfl rfl rfl) rfl rfl ?_
 refine ae ?_
 refine cQ (aL 1) ?_
 refine cK (i := 6) rfl (by kernel_rfl) rfl ?_
 refine dh (enc := d4) (sz := 7) [l2.getD j bO] Try.underlying22 a7 rfl rfl rfl (fun A c => (.s (.s (.s (.s (.z)))))) (fj 0 Try.underlying22 rfl) (by simp only [List.length_cons, List.length_nil, Nat.zero_add]; omega) (by simp only [List.length_cons, List.length_nil, Nat.zero_add]; omega) rfl (fun A16 c16 => ?_)
 refine ae ?_
 refine cG rfl ?_
 refine cK (i := 7) rfl (by kernel_rfl) rfl ?_
 refine ap (aF dz rfl) rfl rfl ?_
 refine ae ?_
 refine cG rfl ?_
 refine cK (i := 8) rfl (by kernel_rfl) rfl ?_
 refine aS bU rfl rfl rfl (.s (.s (.s (.s (.s (.z)))))) rfl rfl rfl rfl ?_
 refine ae ?_
 refine cG rfl ?_
 refine ew (by kernel_rfl) ?_
 refine bV ?_
 refine bV ?_
 refine eO (((pu ++ [l2.getD j bO], A16, c16), da, Ay, cy)) ?_ (aL 1)
 exact ⟨(by rw [ix (l := l) (l2 := l2) (e := (some i, some j)) (o := some (l2.getD j bO)) (putV_ne h9_9), ← hI.1]; rfl), (by rw [gx (o := none) rfl, ← hI.2]; exact (List.append_nil _).symm)⟩
 exact fR
 obtain ⟨⟨pu, Ax, cx⟩, da, Ay, cy⟩ := g
 obtain ⟨xs, hfx, hI⟩ := hI
 dsimp only at hI ⊢
 subst hfx
 obtain ⟨hm1, hm2⟩ := merge_diff (fq hT1) (fq hT2)
 obtain rfl : pu = dfP v l v2 l2 := by rw [hI.1, dfP, if_pos ⟨hT1, hT2⟩]; exact hm2
 obtain rfl : da = dfD v l v2 l2 := by rw [hI.2, dfD, if_pos ⟨hT1, hT2⟩]; exact hm1
 have hv9 : ∀ x, dfV v l v2 l2 x = x := fun x => if_pos ⟨hT1, hT2⟩
 refine bV ?_
 refine ao ?_
 refine ar ?_
 refine ah ?_
 refine ap (bp 3 er rfl rfl rfl rfl) rfl rfl ?_
 refine aS er rfl rfl rfl (.s (.s (.s (.s (.z))))) rfl rfl rfl rfl ?_
 refine ae ?_
 refine ao ?_
 refine aV ?_
 refine e_lvr ?_
 refine lv_take .z ?_
 refine gX (rs := [.cell 4 27]) rfl (dn 4 er rfl rfl rfl rfl d6) (fun w hw => ?_)
 rw [hv9, hv9]
 exact ⟨((Ax, cx), Ay, cy), rfl, hw.base, (hw.weak (.cons _ (.cons_cons _ (.cons_cons _ (.cons _ (.cons _ (.cons _ (.cons _ .slnil))))))) (fun s hs => hs)).toNews⟩
 exact hI.elim
end Go.Proofs.Ytnpdgmoeoidppaa
